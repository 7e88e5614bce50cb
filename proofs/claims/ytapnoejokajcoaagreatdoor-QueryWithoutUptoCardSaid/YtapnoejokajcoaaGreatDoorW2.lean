/- 15 texts, one behind the other. -/
import Derived.Test.YtapnoejokajcoaaGreatDoorW1
set_option linter.defProp false
set_option linter.unusedVariables false
set_option linter.unusedSimpArgs false
set_option maxRecDepth 100000
noncomputable section
def d5A:=@Prod.mk.injEq
def d5e:=@decide_eq_true
def d5g:=@Option.map_eq_some_iff
def d5j:=@Option.bind_eq_some_iff
def d5k:=@List.mem_cons
def d5q:=@decide_eq_false
def d5t:=@List.mem_append
def d6M:=@Nat.add_sub_cancel_left
def d6S:=@List.all_cons
def d6Z:=@List.cons.injEq
def d6e:=@decide_eq_true_eq
def d6w:=@Bool.not_eq_true'
def d7B:=@List.set_append_left
def d7C:=@Option.getD_some
def d7L:=@Option.isNone_iff_eq_none
def d7P:=@Int.lt_or_le
def d7k:=@List.getElem_take
def d7l:=@List.flatMap_cons
def d7p:=@List.getElem?_eq_some_iff
def d8L:=@List.set_set
def d8W:=@Int.tmod_nonneg
def d8b:=@List.eraseIdx_append_of_lt_length
def d8c:=@Nat.one_mul
def d8m:=@Int.mul_le_mul_of_nonneg_right
def d8z:=@List.mem_replicate
section
universe u
namespace Go.Rx
open Go Go.Wk Go.Wl
def fV{N:B8}{α:Sort u}(v:SV N)(k:SV N->α):α:=match v with
 |.un=>k .un
 |.undef=>k .undef
 |.int a b=>k (.int a b)
 |.byte a=>k (.byte a)
 |.tt=>k .tt
 |.ff=>k .ff
 |.bl p d=>k (.bl p d)
 |.str a=>k (.str a)
 |.M5 a=>k (.M5 a)
 |.M9=>k .M9
 |.sl a b=>k (.sl a b)
 |.ref a b=>k (.ref a b)
 |.acc a=>k (.acc a)
 |.el a b c d=>k (.el a b c d)
 |.fel a b c d=>k (.fel a b c d)
 |.sub a b c d=>k (.sub a b c d)
 |.agg a=>k (.agg a)
 |.F5 a=>k (.F5 a)
 |.err a=>k (.err a)
 |.ifc a b=>k (.ifc a b)
 |.fn a=>k (.fn a)
 |.clo a b=>k (.clo a b)
 |.yld a=>k (.yld a)
 |.mp a=>k (.mp a)
def b3d{N:B8}{α:Sort u}(v:SV N)(k:SV N->α):fV v k=k v:=by cases v <;> rfl
def fVs{N:B8}{α:Sort u}:List (SV N)->(List (SV N)->α)->α
 |[],k=>k []
 |v::r,k=>fV v fun v=>fVs r fun r=>k (v::r)
def b90{N:B8}{α:Sort u}:∀(l:List (SV N)) (k:List (SV N)->α),fVs l k=k l
 |[],_=>rfl
 |v::r,k=>by unfold fVs;rw[b3d,b90 r]
def fN{α:Sort u}(n:Nat)(k:Nat->α):α:=match n with|0=>k 0|m+1=>k (m+1)
def b3c{α:Sort u}(n:Nat)(k:Nat->α):fN n k=k n:=by cases n <;> rfl
def fI{N:B8}{α:Sort u}(i:Item N)(k:Item N->α):α:=match i with
 |.own T c=>fVs c fun c=>k (.own T c)
 |.ac t l=>k (.ac t l)
 |.fz t l=>k (.fz t l)
 |.ob a b c=>k (.ob a b c)
 |.rw t n c=>fVs c fun c=>k (.rw t n c)
def d1S{N:B8}{α:Sort u}(i:Item N)(k:Item N->α):fI i k=k i:=by cases i <;> simp only[fI,b90]
def fIs{N:B8}{α:Sort u}:c7 N->(c7 N->α)->α
 |[],k=>k []
 |p::r,k=>match p with|(a,i)=>fN a fun a=>fI i fun i=>fIs r fun r=>k ((a,i)::r)
def b3N{N:B8}{α:Sort u}:∀(l:c7 N)(k:c7 N->α),fIs l k=k l
 |[],_=>rfl
 |p::r,k=>by unfold fIs;simp only[b3c,d1S];rw[b3N r]
def fS1{N:B8}{α:Sort u}(l:n5 N)(k:n5 N->α):α:=match l with
 |[]=>k []
 |p::r=>match p with|(a,v)=>fV v fun v=>k ((a,v)::r)
def c7O{N:B8}{α:Sort u}(l:n5 N)(k:n5 N->α):fS1 l k=k l:=by
 cases l with
 |nil=>rfl
 |cons p r=>unfold fS1;simp only[b3d]
def fG1{N:B8}{α:Sort u}(l:List (Nat×Nat×Bool×SV N))(k:List (Nat×Nat×Bool×SV N)->α):α:=match l with
 |[]=>k []
 |p::r=>match p with|(a,b,c,v)=>fV v fun v=>k ((a,b,c,v)::r)
def c6T{N:B8}{α:Sort u}(l:List (Nat×Nat×Bool×SV N))(k:List (Nat×Nat×Bool×SV N)->α):fG1 l k=k l:=by
 cases l with
 |nil=>rfl
 |cons p r=>unfold fG1;simp only[b3d]
def fSt{E:Env}{α:Sort u}(st:E.St)(k:E.St->α):α:=match st with
 |⟨a,b,c,d⟩=>fS1 a fun a=>fG1 b fun b=>fIs c fun c=>fN d fun d=>k ⟨a,b,c,d⟩
def c1i{E:Env}{α:Sort u}(st:E.St)(k:E.St->α):fSt st k=k st:=by unfold fSt;simp only[c7O,c6T,b3N,b3c]
def nn{α:Type}(_:Nat):Option α:=none
structure c8W where
 keep:List Nat
 vars:List LV
structure D3 where
 n:Nat
 loop:Nat->Option c8W
 join:Nat->Option c8W
variable{E:Env}
def VK.den(N:B8):VK->Type
 |.int _=>Int
 |.byte=>UInt8
 |.bool=>Bool
 |.str=>z6
 |.err=>o6
 |.sl t=>List (N.U t)
 |.acc t=>List (N.U t)
 |.val t=>N.U t
 |.a0n=>Unit
def I9(N:B8)(α:Type):List VK->Type
 |[]=>α
 |k::r=>k.den N->I9 N α r
def chD(N:B8)(α:Type)(ks:List VK):Nat->Type
 |0=>α
 |n+1=>I9 N (chD N α ks n) ks
def tcD(N:B8)(α:Type):List TK->Type
 |[]=>α
 |.v k::r=>k.den N->tcD N α r
 |.to _::r=>tcD N α r
 |.a0n::r=>tcD N α r
 |.any::r=>tcD N α r
def tpD(N:B8)(α:Type):List TP->Type
 |[]=>α
 |.own _ _ ks::r=>tcD N (tpD N α r) ks
 |.ob _ k::r=>N.O k->tpD N α r
def Cur(N:B8)(α:Type):List LV->Type
 |[]=>α
 |.slot _ k::r=>k.den N->Cur N α r
 |.own _ ks::r=>I9 N (Cur N α r) ks
 |.ob _ k::r=>N.O k->Cur N α r
 |.cont _ t::r=>List (N.U t)->Cur N α r
 |.tree _ ps::r=>tpD N (Cur N α r) ps
 |.unr _::r=>Cur N α r
def b1x{N:B8}:SV N->Option Nat
 |.acc id=>some id
 |.sub id _ _ _=>some id
 |_=>none
def obN{N:B8}:SV N->Option Nat
 |.ref id _=>some id
 |.yld id=>some id
 |.mp id=>some id
 |_=>none
def rb1(E:Env)(its:c7 E.N):(k:VK)->E.SV->Option (k.den E.N)
 |.int k,v=>match v with|.int k' x=>if k'=k then some x else none|_=>none
 |.byte,v=>match v with|.byte x=>some x|_=>none
 |.bool,v=>match v with|.tt=>some true|.ff=>some false|.bl p d=>some (@decide p d)|_=>none
 |.str,v=>match v with|.str x=>some x|_=>none
 |.err,v=>match v with|.err x=>some x|_=>none
 |.sl t,v=>asL E t (nrm its v)
 |.acc t,v=>match v with
  |.M9=>some []
  |.acc id=>match lk its id with|some (.ac t' l)=>if h:t'=t then some (U9 h l)else none|_=>none
  |.sub id t2 lo n=>(match lo with
   |.ofNat 0=>(match lk its id with|some (.ac t' l)=>if h:t'=t then(bif Nat.beq t2 t && a8H E t then some ((U9 h l).take n.toNat)else none)else none|_=>none)
   |_=>none)
  |_=>none
 |.val t,v=>match v with|.agg vs=>(match E.ty t with|some y=>y.bk (.agg vs)|none=>none)|_=>none
 |.a0n,v=>match v with|.M5 u=>(match u with|.pointer a=>(match a with|none=>some ()|_=>none)|_=>none)|_=>none
def I4{N:B8}(x:Bool):SV N:=.bl (x=true) inferInstance
def fl1(E:Env)(nx:Nat):(k:VK)->k.den E.N->E.SV×c7 E.N×Nat
 |.int k,x=>(.int k x,[],nx)
 |.byte,x=>(.byte x,[],nx)
 |.bool,x=>(I4 x,[],nx)
 |.str,x=>(.str x,[],nx)
 |.err,x=>(.err x,[],nx)
 |.sl t,x=>(.sl t x,[],nx)
 |.acc t,x=>(.acc nx,[(nx,.ac t x)],nx+1)
 |.val t,x=>(match E.ty t with|some y=>(match y.sv x with|.agg ls=>.agg ls|_=>.un)|none=>.un,[],nx)
 |.a0n,_=>(.M5 (.pointer none),[],nx)
def G7(E:Env)(its:c7 E.N){α:Type}:(ks:List VK)->List E.SV->I9 E.N α ks->Option α
 |[],[],f=>some f
 |k::r,v::vs,f=>match rb1 E its k v with|some x=>G7 E its r vs (f x)|none=>none
 |_,_,_=>none
def a9o{N:B8}:List (SV N)->SV N
 |[]=>.un
 |[v]=>v
 |_::r=>a9o r
def c2V(E:Env)(its:c7 E.N)(T:Nat)(ks:List VK){α:Type}:(n:Nat)->E.SV->chD E.N α ks n->Option α
 |0,v,f=>match v with|.M5 u=>(match u with|.pointer a=>(match a with|none=>some f|_=>none)|_=>none)|_=>none
 |n+1,v,f=>match v with
  |.ref id off=>bif Nat.beq off 0 then(match lk its id with
   |some (.own T' cells)=>bif Nat.beq T' T && Nat.beq cells.length (ks.length+1)then(match G7 E its ks (cells.take ks.length) f with
    |some g=>c2V E its T ks n (a9o cells) g
    |none=>none)else none
   |_=>none)else none
  |_=>none
def w8(fx:n5 E.N)(st:E.St)(s:Nat):E.SV:=match lk st.slots s with|some v=>v|none=>(match lk fx s with|some v=>v|none=>.un)
def c2o{N:B8}:SV N->Option Nat
 |.ref id _=>some id
 |_=>none
def a8l(fx:n5 E.N)(st:E.St)(s:Nat):Option Nat:=bif Nat.blt s 1000000 then c2o (w8 fx st s)else(match w8 fx st (s%1000000)with
 |.clo _ vs=>(match vs[s / 1000000-1]? with|some v=>c2o v|none=>none)
 |_=>none)
def a38(ids:List Nat)(j id:Nat):Bool:=match ids[j]? with|some i=>Nat.beq i id|none=>false
def b8X{N:B8}:SV N->Bool
 |.M5 u=>(match u with|.pointer a=>a.isNone|_=>false)
 |_=>false
def d1a(a:List (Option Nat))(j id:Nat):List (Option Nat):=match a[j]? with|some none=>a.set j (some id)|_=>a
def c5d{N:B8}:List TK->List (SV N)->List (Option Nat)->List (Option Nat)
 |k::r,v::vs,a=>c5d r vs (match k,v with|.to j,.ref id _=>d1a a j id|_,_=>a)
 |_,_,a=>a
def c5X{N:B8}(its:c7 N):List TP->Nat->List (Option Nat)->List (Option Nat)
 |[],_,a=>a
 |p::r,i,a=>c5X its r (i+1) (match p,a[i]? with
  |.own _ _ ks,some (some id)=>(match lk its id with|some (.own _ cells)=>c5d ks cells a|_=>a)
  |_,_=>a)
def c5s(fx:n5 E.N)(st:E.St):List (Nat×Nat)->List (Option Nat)->List (Option Nat)
 |[],a=>a
 |p::r,a=>c5s fx st r (match w8 fx st p.1 with|.ref id _=>d1a a p.2 id|_=>a)
def a8s:List TP->Nat->List (Nat×Nat)
 |[],_=>[]
 |p::r,i=>match p.kept with|some s=>(s,i)::a8s r (i+1)|none=>a8s r (i+1)
def a1g(fx:n5 E.N)(st:E.St)(ss:List (Nat×Nat))(ps:List TP):List Nat:=(c5X st.items ps 0 (c5s fx st (a8s ps 0++ss) (List.replicate ps.length none))).filterMap id
def a8D(E:Env)(its:c7 E.N)(ids:List Nat){α:Type}:(ks:List TK)->List E.SV->tcD E.N α ks->Option α
 |[],[],f=>some f
 |.v k::r,v::vs,f=>match rb1 E its k v with|some x=>a8D E its ids r vs (f x)|none=>none
 |.to j::r,v::vs,f=>match v with
  |.ref id off=>bif Nat.beq off 0 && a38 ids j id then a8D E its ids r vs f else none
  |_=>none
 |.a0n::r,v::vs,f=>bif b8X v then a8D E its ids r vs f else none
 |.any::r,_::vs,f=>a8D E its ids r vs f
 |_,_,_=>none
def a5P(E:Env)(its:c7 E.N)(ids:List Nat){α:Type}:(ps:List TP)->List Nat->tpD E.N α ps->Option α
 |[],[],f=>some f
 |.own _ T ks::r,id::rest,f=>match lk its id with
  |some (.own T' cells)=>bif Nat.beq T' T then(match a8D E its ids ks cells f with|some g=>a5P E its ids r rest g|none=>none)else none
  |_=>none
 |.ob _ k::r,id::rest,f=>match lk its id with
  |some (.ob k' _ x)=>if h:k'=k then a5P E its ids r rest (f (h ▸ x))else none
  |_=>none
 |_,_,_=>none
def a0C(fx:n5 E.N)(st:E.St)(ids:List Nat):List (Nat×Nat)->Bool
 |[]=>true
 |p::r=>(match w8 fx st p.1 with|.ref id off=>Nat.beq off 0 && a38 ids p.2 id|_=>false) && a0C fx st ids r
def a0s(E:Env)(fx:n5 E.N)(st:E.St){α:Type}:(vs:List LV)->Cur E.N α vs->Option α
 |[],f=>some f
 |.slot s k::r,f=>match rb1 E st.items k (w8 fx st s)with|some x=>a0s E fx st r (f x)|none=>none
 |.own s ks::r,f=>match a8l fx st s with
  |some id=>(match lk st.items id with
   |some (.own _ cells)=>(match G7 E st.items ks cells f with|some g=>a0s E fx st r g|none=>none)
   |_=>none)
  |none=>none
 |.ob s k::r,f=>match obN (w8 fx st s)with
  |some id=>(match lk st.items id with
   |some (.ob k' _ x)=>if h:k'=k then a0s E fx st r (f (h ▸ x))else none
   |_=>none)
  |none=>none
 |.cont s t::r,f=>match b1x (w8 fx st s)with
  |some id=>(match lk st.items id with
   |some (.ac t' l)=>if h:t'=t then a0s E fx st r (f (U9 h l))else none
   |_=>none)
  |none=>none
 |.tree ss ps::r,f=>bif a0C fx st (a1g fx st ss ps) (a8s ps 0++ss)then(match a5P E st.items (a1g fx st ss ps) ps (a1g fx st ss ps) f with|some g=>a0s E fx st r g|none=>none)else none
 |.unr _::_,_=>none
def a4u(E:Env){α:Type}:(ks:List VK)->Nat->c7 E.N->List E.SV->I9 E.N α ks->(α->Nat->c7 E.N->List E.SV->Prop)->Prop
 |[],nx,its,acc,f,K=>K f nx its acc
 |k::r,nx,its,acc,f,K=>∀x:k.den E.N,a4u E r (fl1 E nx k x).2.2 ((fl1 E nx k x).2.1++its) (acc++[(fl1 E nx k x).1]) (f x) K
def c4Z(E:Env)(T:Nat)(ks:List VK){α:Type}:(n:Nat)->Nat->c7 E.N->chD E.N α ks n->(α->Nat->c7 E.N->E.SV->Prop)->Prop
 |0,nx,its,f,K=>K f nx its (.M5 (.pointer none))
 |n+1,nx,its,f,K=>a4u E ks (nx+1) its [] f (fun g nx1 its1 cs=>c4Z E T ks n nx1 its1 g (fun a nx2 its2 link=>K a nx2 ((nx,.own T (cs++[link]))::its2) (.ref nx 0)))
def b1J(fx:n5 E.N)(st:E.St)(p:TP):Nat:=match p.kept with
 |none=>0
 |some s=>(match w8 fx st s with|.ref id _=>id+1|_=>0)
def a0V(fx:n5 E.N)(st:E.St)(ps:List TP):List Nat:=ps.map (b1J fx st)
def tnm(b:Nat):Nat->List Nat->List Nat
 |_,[]=>[]
 |i,r::l=>(bif Nat.beq r 0 then b+i else r-1)::tnm b (i+1) l
def a4h(E:Env)(nm:List Nat){α:Type}:(ks:List TK)->Nat->c7 E.N->List E.SV->tcD E.N α ks->(α->Nat->c7 E.N->List E.SV->Prop)->Prop
 |[],nx,its,acc,f,K=>K f nx its acc
 |.v k::r,nx,its,acc,f,K=>∀x:k.den E.N,a4h E nm r (fl1 E nx k x).2.2 ((fl1 E nx k x).2.1++its) (acc++[(fl1 E nx k x).1]) (f x) K
 |.to j::r,nx,its,acc,f,K=>a4h E nm r nx its (acc++[.ref (nm.getD j 0) 0]) f K
 |.a0n::r,nx,its,acc,f,K=>a4h E nm r nx its (acc++[.M5 (.pointer none)]) f K
 |.any::r,nx,its,acc,f,K=>a4h E nm r nx its (acc++[.un]) f K
def a7r(E:Env)(nm:List Nat){α:Type}:(ps:List TP)->Nat->Nat->c7 E.N->tpD E.N α ps->(α->Nat->c7 E.N->Prop)->Prop
 |[],_,nx,its,f,K=>K f nx its
 |.own _ T ks::r,i,nx,its,f,K=>a4h E nm ks nx its [] f (fun g nx1 its1 cs=>a7r E nm r (i+1) nx1 ((nm.getD i 0,.own T cs)::its1) g K)
 |.ob _ k::r,i,nx,its,f,K=>∀x:E.N.O k,a7r E nm r (i+1) (nx+1) ((nm.getD i 0,.ob k nx x)::its) (f x) K
def Q2(E:Env)(fx:n5 E.N)(st:E.St){α:Type}:(vs:List LV)->Cur E.N α vs->E.St->(α->E.St->Prop)->Prop
 |[],f,new,K=>K f new
 |.slot s k::r,f,new,K=>∀x:k.den E.N,Q2 E fx st r (f x) ⟨(s,(fl1 E new.nx k x).1)::new.slots,[],(fl1 E new.nx k x).2.1++new.items,(fl1 E new.nx k x).2.2⟩ K
 |.own s ks::r,f,new,K=>match a8l fx st s with
  |some id=>(match lk st.items id with
   |some (.own T _)=>a4u E ks new.nx new.items [] f (fun g nx its cs=>Q2 E fx st r g ⟨new.slots,[],(id,.own T cs)::its,nx⟩ K)
   |_=>False)
  |none=>False
 |.ob s k::r,f,new,K=>match obN (w8 fx st s)with
  |some id=>∀x:E.N.O k,Q2 E fx st r (f x) ⟨new.slots,[],(id,.ob k new.nx x)::new.items,new.nx+1⟩ K
  |none=>False
 |.cont s t::r,f,new,K=>match b1x (w8 fx st s)with
  |some id=>∀x:List (E.N.U t),Q2 E fx st r (f x) ⟨new.slots,[],(id,.ac t x)::new.items,new.nx⟩ K
  |none=>False
 |.tree ss ps::r,f,new,K=>a7r E (tnm new.nx 0 (a0V fx st ps)) ps 0 (new.nx+ps.length) new.items f (fun g nx its=>Q2 E fx st r g ⟨(ss.map fun p=>(p.1,.ref ((tnm new.nx 0 (a0V fx st ps)).getD p.2 0) 0))++new.slots,[],its,nx⟩ K)
 |.unr _::_,_,_,_=>False
def X5{N:B8}(k:VK)(v:SV N):List Nat:=match k,v with
 |.acc _,.acc id=>[id]
 |.acc _,.sub id _ _ _=>[id]
 |_,_=>[]
def c7F{N:B8}:VK×SV N->Option Nat
 |(.acc _,.acc id)=>some id
 |(.acc _,.sub id _ _ _)=>some id
 |_=>none
def b2W{N:B8}(its:c7 N)(ks:List VK):Nat->SV N->List Nat
 |0,_=>[]
 |n+1,v=>match v with
  |.ref id _=>id::(match lk its id with
   |some (.own _ cells)=>(ks.zip (cells.take ks.length)).filterMap c7F++b2W its ks n (a9o cells)
   |_=>[])
  |_=>[]
def a4c{N:B8}:List TK->List (SV N)->List Nat
 |.v k::r,v::vs=>X5 k v++a4c r vs
 |.to _::r,_::vs=>a4c r vs
 |.a0n::r,_::vs=>a4c r vs
 |.any::r,_::vs=>a4c r vs
 |_,_=>[]
def a5o{N:B8}(its:c7 N):List TP->List Nat->List Nat
 |.own _ _ ks::r,id::rest=>(id::(match lk its id with|some (.own _ cells)=>a4c ks cells|_=>[]))++a5o its r rest
 |.ob _ _::r,id::rest=>id::a5o its r rest
 |_,_=>[]
def a5Q(E:Env)(fx:n5 E.N)(st:E.St):LV->List Nat
 |.slot s k=>X5 k (w8 fx st s)
 |.own s ks=>match a8l fx st s with
  |some id=>id::(match lk st.items id with
   |some (.own _ cells)=>(ks.zip cells).filterMap c7F
   |_=>[])
  |none=>[]
 |.ob s _=>match obN (w8 fx st s)with|some id=>[id]|none=>[]
 |.cont s _=>match b1x (w8 fx st s)with|some id=>[id]|none=>[]
 |.tree ss ps=>a5o st.items ps (a1g fx st ss ps)
 |.unr _=>[]
def B4(E:Env)(fx:n5 E.N)(st:E.St)(vs:List LV):List Nat:=vs.flatMap (a5Q E fx st)
def U8(E:Env)(fx:n5 E.N)(st:E.St):LV->List Nat
 |.slot _ _=>[]
 |.own s _=>match a8l fx st s with
  |some id=>(match lk st.items id with|some (.own T _)=>[id,T]|_=>[id])
  |none=>[]
 |.ob s _=>match obN (w8 fx st s)with|some id=>[id]|none=>[]
 |.cont s _=>match b1x (w8 fx st s)with|some id=>[id]|none=>[]
 |.tree _ ps=>a0V fx st ps
 |.unr _=>[]
def F4(E:Env)(fx:n5 E.N)(st:E.St)(vs:List LV):List Nat:=vs.flatMap (U8 E fx st)
def eqL:List Nat->List Nat->Bool
 |[],[]=>true
 |a::r,b::s=>Nat.beq a b && eqL r s
 |_,_=>false
def b37{N:B8}{α β γ:Type}(g:α->β->γ):(ks:List VK)->I9 N α ks->I9 N β ks->I9 N γ ks
 |[],a,b=>g a b
 |_::r,a,b=>fun x=>b37 g r (a x) (b x)
def a9c{N:B8}{α β γ:Type}(g:α->β->γ):(ks:List TK)->tcD N α ks->tcD N β ks->tcD N γ ks
 |[],a,b=>g a b
 |.v _::r,a,b=>fun x=>a9c g r (a x) (b x)
 |.to _::r,a,b=>a9c g r a b
 |.a0n::r,a,b=>a9c g r a b
 |.any::r,a,b=>a9c g r a b
def b3n{N:B8}{α β γ:Type}(g:α->β->γ):(ps:List TP)->tpD N α ps->tpD N β ps->tpD N γ ps
 |[],a,b=>g a b
 |.own _ _ ks::r,a,b=>a9c (b3n g r) ks a b
 |.ob _ _::r,a,b=>fun x=>b3n g r (a x) (b x)
def a1m{N:B8}{α β:Type}:(vs:List LV)->Cur N α vs->Cur N β vs->Cur N (α×β) vs
 |[],a,b=>(a,b)
 |.slot _ _::r,a,b=>fun x=>a1m r (a x) (b x)
 |.own _ ks::r,a,b=>b37 (a1m r) ks a b
 |.ob _ _::r,a,b=>fun x=>a1m r (a x) (b x)
 |.cont _ _::r,a,b=>fun x=>a1m r (a x) (b x)
 |.tree _ ps::r,a,b=>b3n (a1m r) ps a b
 |.unr _::r,a,b=>a1m r a b
def distinct:List Nat->Bool
 |[]=>true
 |i::r=>!r.elem i && distinct r
structure Ks(E:Env) where
 n:E.St->Prop
 r:E.St->Prop
 e:List (Nat×(E.St->Prop))
def s5(fx:n5 E.N)(st:E.St)(ks:List Nat):n5 E.N:=ks.map fun s=>(s,w8 fx st s)
def back(ks:n5 E.N)(is:c7 E.N)(k:E.St->Prop):E.St->Prop:=fun st=>k ⟨st.slots++ks,[],st.items++is,st.nx⟩
def a4A(ks:n5 E.N)(is:c7 E.N)(K:Ks E)(n:E.St->Prop):Ks E:=⟨n,back ks is K.r,K.e.map fun p=>(p.1,back ks is p.2)⟩
def without(its:c7 E.N)(ids:List Nat):c7 E.N:=its.filter fun p=>!ids.elem p.1
def within(its:c7 E.N)(ids:List Nat):c7 E.N:=its.filter fun p=>ids.elem p.1
def chain(gs:List (Nat×Nat×Bool×E.SV)):Nat->Nat->Bool->List (Nat×Bool)
 |0,_,_=>[]
 |n+1,j,w=>(j,w)::(match lk gs j with|some (j',w',_)=>chain gs n j' w'|none=>[])
def c0D(ch:List (Nat×Bool))(j:Nat)(w:Bool):Bool:=ch.any fun p=>Nat.beq p.1 j && (p.2 == w)
def evS(fx:n5 E.N)(lkd:c7 E.N)(st:E.St)(ch:List (Nat×Bool)):Operand->E.SV
 |.tmp t=>match lk st.gs t with
  |some (j,w,v)=>bif c0D ch j w then nrm (st.items++lkd) v else .un
  |none=>nrm (st.items++lkd) (w8 fx st t)
 |.const v=>cst v
 |.global g=>.M5 (.pointer (some ⟨g,0,none⟩))
 |.func K=>.fn K
def b2E(fx:n5 E.N)(st:E.St):Nat->Nat->Bool->Option ((p:Prop) ×' Decidable p)
 |0,_,_=>none
 |n+1,j,w=>match lk st.gs j with
  |some (j',w',v)=>(match prop v,b2E fx st n j' w' with
   |some ⟨p,d⟩,some ⟨q,e⟩=>bif w then some ⟨q/\p,inferInstance⟩else some ⟨q/\¬p,inferInstance⟩
   |_,_=>none)
  |none=>(match prop (w8 fx st j)with
   |some ⟨p,d⟩=>bif w then some ⟨p,d⟩else some ⟨¬p,inferInstance⟩
   |none=>none)
def put(st:E.St)(d:Option Nat)(v:E.SV):E.St:=match d with|some d=>⟨(d,v)::st.slots,st.gs,st.items,st.nx⟩|none=>st
def free(n:Nat)(fx:n5 E.N)(st:E.St):Option Nat->Bool
 |none=>true
 |some d=>Nat.blt d n && (lk fx d).isNone && (lk st.gs d).isNone && st.gs.all fun p=>!Nat.beq p.2.1 d
def X6(fx:n5 E.N)(lkd:c7 E.N)(st:E.St)(ch:List (Nat×Bool))(c a b:Operand):Option E.SV:=
 match c with
 |.tmp j=>match prop (evS fx lkd st ch c)with
  |some ⟨p,d⟩=>(match a,b with
   |.tmp t,.const (.bool false)=>(match lk st.gs t with
    |some (j',w,v)=>bif Nat.beq j j' && w then(match prop v with|some ⟨q,e⟩=>some (.bl (p/\q) inferInstance)|none=>none)else none
    |none=>none)
   |.const (.bool true),.tmp t=>(match lk st.gs t with
    |some (j',w,v)=>bif Nat.beq j j' && !w then(match prop v with|some ⟨q,e⟩=>some (.bl (p∨q) inferInstance)|none=>none)else none
    |none=>none)
   |_,_=>none)
  |none=>none
 |_=>none
def d3b(fx:n5 E.N)(lkd:c7 E.N)(st:E.St)(ch:List (Nat×Bool)):Op->Option E.SV
 |.pick c a b=>X6 fx lkd st ch c a b
 |_=>none
def stepG(fx:n5 E.N)(lkd:c7 E.N)(st:E.St)(ch:List (Nat×Bool))(op:Op):Option (Q1 E.N):=
 match d3b fx lkd st ch op with
 |some v=>q0 v
 |none=>b9f E (st.items++lkd) (evS fx lkd st ch) op
def callee(e:Operand->E.SV)(c:Call):Option (Nat×List E.SV):=
 match c.callee with
 |.value f=>(match e f with
  |.fn K=>some (K,c.args.toList.map e)
  |.clo K cs=>some (K,c.args.toList.map e++cs)
  |_=>none)
 |_=>none
def b0r(e:Operand->E.SV)(c:Call):Option (Nat×List E.SV):=
 match c.callee with
 |.value f=>(match e f with
  |.yld id=>some (id,c.args.toList.map e)
  |_=>none)
 |_=>none
def a90(its:c7 E.N):E.SV->E.SV
 |.acc id=>match lk its id with|some (.ac t l)=>.sl t l|some (.fz t l)=>.sl t l|_=>.acc id
 |.sub id t lo n=>match lk its id with|some (.ac t' l)=>bif Nat.beq t t' then .sl t' ((l.take (lo.toNat+n.toNat)).drop lo.toNat)else .sub id t lo n|_=>.sub id t lo n
 |v=>v
def a1x(its:c7 E.N):E.SV->E.SV
 |.agg vs=>.agg (vs.map (a90 its))
 |v=>a90 its v
def F7{N:B8}:SV N->Bool
 |.int _ _=>true
 |.byte _=>true
 |.tt=>true
 |.ff=>true
 |.bl _ _=>true
 |.str _=>true
 |.M5 _=>true
 |.M9=>true
 |.sl _ _=>true
 |.err _=>true
 |.fn _=>true
 |.fel _ _ _ _=>true
 |.agg vs=>vs.all fun v=>match v with
  |.int _ _=>true
  |.byte _=>true
  |.tt=>true
  |.ff=>true
  |.bl _ _=>true
  |.str _=>true
  |.M5 _=>true
  |.M9=>true
  |.sl _ _=>true
  |.err _=>true
  |_=>false
 |_=>false
def inn(st:E.St)(ids:List Nat):E.St:=⟨st.slots,[],within st.items ids,st.nx⟩
def b3t(E:Env)(fx:n5 E.N)(st:E.St)(fx':n5 E.N)(st':E.St)(vs:List LV):Bool:=distinct (B4 E fx' st' vs) && eqL (F4 E fx' st' vs) (F4 E fx st vs)
def a8e{N:B8}{α:Type}(a:α):(ks:List VK)->I9 N α ks
 |[]=>a
 |_::r=>fun _=>a8e a r
def a4a{N:B8}{α:Type}(a:α):(ks:List TK)->tcD N α ks
 |[]=>a
 |.v _::r=>fun _=>a4a a r
 |.to _::r=>a4a a r
 |.a0n::r=>a4a a r
 |.any::r=>a4a a r
def a9W{N:B8}{α:Type}(a:α):(ps:List TP)->tpD N α ps
 |[]=>a
 |.own _ _ ks::r=>a4a (a9W a r) ks
 |.ob _ _::r=>fun _=>a9W a r
def a0x{N:B8}{α:Type}(a:α):(vs:List LV)->Cur N α vs
 |[]=>a
 |.slot _ _::r=>fun _=>a0x a r
 |.own _ ks::r=>a8e (a0x a r) ks
 |.ob _ _::r=>fun _=>a0x a r
 |.cont _ _::r=>fun _=>a0x a r
 |.tree _ ps::r=>a9W (a0x a r) ps
 |.unr _::r=>a0x a r
def a9q(E:Env)(nm:List Nat){α:Type}:(ks:List TK)->Nat->c7 E.N->List E.SV->(Nat->c7 E.N->List E.SV->α)->tcD E.N α ks
 |[],nx,its,acc,K=>K nx its acc
 |.v k::r,nx,its,acc,K=>fun x=>a9q E nm r (fl1 E nx k x).2.2 ((fl1 E nx k x).2.1++its) (acc++[(fl1 E nx k x).1]) K
 |.to j::r,nx,its,acc,K=>a9q E nm r nx its (acc++[.ref (nm.getD j 0) 0]) K
 |.a0n::r,nx,its,acc,K=>a9q E nm r nx its (acc++[.M5 (.pointer none)]) K
 |.any::r,nx,its,acc,K=>a9q E nm r nx its (acc++[.un]) K
def b5L(E:Env)(nm:List Nat){α:Type}:(ps:List TP)->Nat->Nat->c7 E.N->(Nat->c7 E.N->α)->tpD E.N α ps
 |[],_,nx,its,K=>K nx its
 |.own _ T ks::r,i,nx,its,K=>a9q E nm ks nx its [] (fun nx1 its1 cs=>b5L E nm r (i+1) nx1 ((nm.getD i 0,.own T cs)::its1) K)
 |.ob _ k::r,i,nx,its,K=>fun x=>b5L E nm r (i+1) (nx+1) ((nm.getD i 0,.ob k nx x)::its) K
def b9A(E:Env)(fx:n5 E.N)(st:E.St){α:Type}:(vs:List LV)->E.St->(E.St->α)->Cur E.N α vs
 |[],new,K=>K new
 |.slot s k::r,new,K=>fun x=>b9A E fx st r ⟨(s,(fl1 E new.nx k x).1)::new.slots,[],(fl1 E new.nx k x).2.1++new.items,(fl1 E new.nx k x).2.2⟩ K
 |.tree ss ps::r,new,K=>b5L E (tnm new.nx 0 (a0V fx st ps)) ps 0 (new.nx+ps.length) new.items (fun nx its=>b9A E fx st r ⟨(ss.map fun p=>(p.1,.ref ((tnm new.nx 0 (a0V fx st ps)).getD p.2 0) 0))++new.slots,[],its,nx⟩ K)
 |v::r,new,K=>a0x (K new) (v::r)
def a3R:List LV->Bool
 |[]=>true
 |.slot _ _::r=>a3R r
 |.tree _ _::r=>a3R r
 |_=>false
def U6(E:Env)(st:E.St):Nat->Nat->List E.SV
 |0,_=>[]
 |n+1,i=>w8 [] st i::U6 E st n (i+1)
def b2g(E:Env)(st:E.St):List (List LV)->Option E.St
 |[]=>none
 |vs::r=>bif a3R vs && b3t E [] st [] (inn st (B4 E [] st vs)) vs then(match a0s E [] (inn st (B4 E [] st vs)) vs (b9A E [] st vs ⟨[],[],[],st.nx⟩ id)with
  |some new=>some ⟨new.slots,[],new.items++without st.items (B4 E [] st vs),new.nx⟩
  |none=>b2g E st r)else b2g E st r
def b2h(its:c7 E.N):List Nat->List E.SV->Option (List E.SV×c7 E.N)
 |[],args=>some (args,its)
 |i::r,args=>match args[i]? with
  |some v=>(match b4V its v with|some (v',its')=>b2h its' r (args.set i v')|none=>none)
  |none=>none
def b0Z(o:FC E.N)(args:List E.SV)(its:c7 E.N)(nx:Nat):Option (List E.SV×c7 E.N×Nat):=match b2h its o.fz args with
 |some (a,i)=>bif o.ss.isEmpty then some (a,i,nx)else(match b2g E ⟨number 0 a,[],i,nx⟩ o.ss with|some new=>some (U6 E new a.length 0,new.items,new.nx)|none=>none)
 |none=>none
def c5G(C:List E.SV->c7 E.N->Option (FR E.N))(args:List E.SV)(its:c7 E.N)(nx:Nat)(ids:List Nat):Option (S1 E.N):=bif distinct ids then
  (match a81 (a1u (G0 its ids) 0) args,b7R its (a1u (G0 its ids) 0) 0 ids with
  |some a',some i'=>(match C a' i' with
   |some r=>(match c1o (a5A (G0 its ids) nx) r.v,a9n (a5A (G0 its ids) nx) r.its with
    |some v,some it=>some ⟨r.ob,r.hy,v,it++without its ids,nx+(r.n-(G0 its ids).length)⟩
    |_,_=>none)
   |none=>none)
  |_,_=>none)else none
def b5V(o:FC E.N)(args:List E.SV)(its:c7 E.N)(nx:Nat):Option (S1 E.N):=match b0Z o args its nx with
 |some (a,i,m)=>c5G o.C a i m (reach i 60 (a.flatMap a6U) [])
 |none=>none
abbrev Inl(E:Env):=Nat->List E.SV->c7 E.N->c7 E.N->Nat->(E.SV->c7 E.N->Nat->Prop)->Prop
def b9X(K:Nat)(st:E.St)(args:List E.SV)(its:c7 E.N)(d:Option Nat)(k:E.St->Prop):Prop:=
 match E.M5 K with
 |some C=>(match C args st.nx with
  |some r=>bif args.all F7 then cj r.ob (im r.hy (k (put ⟨st.slots,st.gs,number st.nx r.its++its,st.nx+r.its.length⟩ d r.r)))else False
  |none=>False)
 |none=>False
def b8Z(K:Nat)(st:E.St)(args:List E.SV)(d:Option Nat)(k:E.St->Prop):Prop:=
 match E.M5 K with
 |some C=>(match C args st.nx with
  |some r=>bif r.its.isEmpty && args.all F7 then cj r.ob (im r.hy (k (put st d r.r)))else False
  |none=>False)
 |none=>False
def b9i(o:OC E.N)(its:c7 E.N)(st:E.St)(d:Option Nat)(k:E.St->Prop):List E.SV->Prop
 |v::args=>(match v with
  |.ref id off=>bif Nat.beq off 0 && (args.map (a1x its)).all F7 then(match lk st.items id with
   |some (.ob k' _ x)=>if h:k'=o.k then(match o.C (h ▸ x) (args.map (a1x its))with
    |some r=>cj r.ob (im r.hy (k (put ⟨st.slots,st.gs,a3I st.items id (.ob o.k st.nx r.x),st.nx+1⟩ d r.r)))
    |none=>False)else False
   |_=>False)else False
  |_=>False)
 |[]=>False
def c4G(o:WC E.N)(its:c7 E.N)(st:E.St)(d:Option Nat)(k:E.St->Prop):List E.SV->Prop
 |[v0,.ifc T (.ref id off)]=>bif Nat.beq off 0 && Nat.beq T o.T && F7 (a1x its v0)then(match lk st.items id with
  |some (.own S [.int .i64 x])=>bif Nat.beq S o.S then(match o.C (a1x its v0) x with
   |some r=>cj r.ob (im r.hy (k (put ⟨st.slots,st.gs,a3I st.items id (.own S [.int .i64 r.x]),st.nx⟩ d r.r)))
   |none=>False)else False
  |_=>False)else False
 |_=>False
def c4I(o:OC E.N)(its:c7 E.N)(st:E.St)(d:Option Nat)(k:E.St->Prop)(id:Nat)(args:List E.SV):Prop:=
 bif d.isSome && (args.map (a1x its)).all F7 then(match lk st.items id with
   |some (.ob k' _ x)=>if h:k'=o.k then(match o.C (h ▸ x) (args.map (a1x its))with
    |some r=>cj r.ob (im r.hy (k (put ⟨st.slots,st.gs,a3I st.items id (.ob o.k st.nx r.x),st.nx+1⟩ d r.r)))
    |none=>False)else False
   |_=>False)else False
def c5H(fx:n5 E.N)(lkd:c7 E.N)(st:E.St)(ch:List (Nat×Bool))(d:Option Nat)(c:Call)(k:E.St->Prop):Prop:=match d2o c with
 |some (x,T)=>(match b4k E st.items st.nx T (evS fx lkd st ch x)with
  |some s=>bif d.isNone then k (put ⟨st.slots,st.gs,s.items,s.nx⟩ d s.v)else False
  |none=>False)
 |none=>False
def a6F(inl:Inl E)(fx:n5 E.N)(lkd:c7 E.N)(st:E.St)(ch:List (Nat×Bool))(d:Option Nat)(c:Call)(k:E.St->Prop):Prop:=
 match callee (evS fx lkd st ch) c with
 |none=>(match b0r (evS fx lkd st ch) c,E.yl with
  |some (id,args),some o=>c4I o (st.items++lkd) st d k id args
  |_,_=>c5H fx lkd st ch d c k)
 |some (K,args)=>match E.M5 K with
  |some _=>bif E.U0 K then b8Z K st (args.map (a1x (st.items++lkd))) d k
     else(match frz st.items args with|some (args',its)=>b9X K st args' its d k|none=>False)
  |none=>(match E.obc K with
   |some o=>b9i o (st.items++lkd) st d k args
   |none=>(match E.wrc K with
   |some o=>c4G o (st.items++lkd) st d k args
   |none=>(match(E.fnc K).bind (fun o=>b5V o args st.items st.nx)with
   |some s=>cj s.ob (im s.hy (k (put ⟨st.slots,st.gs,s.items,s.nx⟩ d s.v)))
   |none=>inl K args st.items lkd st.nx (fun v its nx=>k (put ⟨st.slots,st.gs,its,nx⟩ d v)))))
def a3J:Op->Option Call
 |.call c=>some c
 |_=>none
def okD:Op->Option Nat->Bool
 |.store _ _ _,d=>d.isNone
 |.mapUpdate _ _ _ _,d=>d.isNone
 |_,d=>d.isSome
def c09(lkd:c7 E.N)(st:E.St)(K:Nat)(args:List E.SV):Option (Q1 E.N):=
 bif E.U0 K then(match E.M5 K with
  |some C=>(match C (args.map (a1x (st.items++lkd))) st.nx with
   |some r=>bif r.its.isEmpty && (args.map (a1x (st.items++lkd))).all F7 then some ⟨r.ob,r.hy,r.r⟩else none
   |none=>none)
  |none=>none)else none
def b4L(lkd:c7 E.N)(st:E.St)(K:Nat)(args:List E.SV):Option (Q1 E.N):=
 match c09 lkd st K args with
 |some a=>some a
 |none=>(match E.roc K with
  |some C=>C args (st.items++lkd)
  |none=>none)
def a9a(fx:n5 E.N)(lkd:c7 E.N)(st:E.St)(ch:List (Nat×Bool))(c:Call):Option (Q1 E.N):=
 match callee (evS fx lkd st ch) c with
 |some (K,args)=>b4L lkd st K args
 |none=>none
def c0n(q:Bool)(inl:Inl E)(fx:n5 E.N)(lkd:c7 E.N)(st:E.St)(d:Option Nat)(op:Op)(ty:Nat)(k:E.St->Prop):Prop:=
 match stepG fx lkd st [] op with
 |some a=>bif d.isSome then cj a.ob (im a.hy (k (put st d a.v)))else False
 |none=>bif q then False else(match b62 E st.items st.nx (evS fx lkd st []) op ty with
  |some s=>bif okD op d then cj s.ob (im s.hy (k (put ⟨st.slots,st.gs,s.items,s.nx⟩ d s.v)))else False
  |none=>(match a3J op with
   |some c=>(match(bif d.isSome then a9a fx lkd st [] c else none)with
    |some a=>cj a.ob (im a.hy (k (put st d a.v)))
    |none=>a6F inl fx lkd st [] d c k)
   |none=>False))
def c2T(E:Env)(T:Nat)(b:Bool)(x y:E.SV):Option (Prop×Bool):=match x with
 |.sl _ l=>(match y with|.M9=>bif (E.G1 T).isSome then some (l=[],b)else none|_=>none)
 |_=>none
def d0t(fx:n5 E.N)(lkd:c7 E.N)(st:E.St):Op->Option (Prop×Bool)
 |.binOp b T x y _=>(match b with
  |.eql=>c2T E T true (evS fx lkd st [] x) (evS fx lkd st [] y)
  |.neq=>c2T E T false (evS fx lkd st [] x) (evS fx lkd st [] y)
  |_=>none)
 |_=>none
def b5i(q:Bool)(inl:Inl E)(fx:n5 E.N)(lkd:c7 E.N)(st:E.St)(d:Option Nat)(op:Op)(ty:Nat)(k:E.St->Prop):Prop:=match d0t fx lkd st op with
 |some (p,b)=>bif d.isSome then(p->k (put st d (bif b then .tt else .ff)))/\k (put st d (bif b then .ff else .tt))else False
 |none=>c0n q inl fx lkd st d op ty k
def gOp(q:Bool)(fx:n5 E.N)(lkd:c7 E.N)(st:E.St)(ch:List (Nat×Bool))(op:Op):Option (Q1 E.N):=
 match stepG fx lkd st ch op with
 |some a=>some a
 |none=>bif q then none else(match a3J op with|some c=>a9a fx lkd st ch c|none=>none)
def imp(p:Prop)(l:List Prop):List Prop:=l.map fun x=>p->x
def b2L(q:Bool)(fx:n5 E.N)(lkd:c7 E.N)(st:E.St)(dj:Nat)(w:Bool)(d:Option Nat)(op:Op):Option (Prop×Q1 E.N×Nat):=
 match b2E fx st 8 dj w,gOp q fx lkd st (chain st.gs 8 dj w) op,d with
 |some ⟨p,_⟩,some a,some d=>bif Nat.beq d dj then none else some (p,a,d)
 |_,_,_=>none
def settle(st:E.St)(dj:Nat)(b:Bool):E.St:=
 ⟨(st.gs.filterMap fun p=>match lk st.gs p.1 with|some (j,w,v)=>bif Nat.beq j dj then some (p.1,bif w == b then v else .undef)else none|none=>none)++st.slots,
  st.gs.filter (fun p=>match lk st.gs p.1 with|some (j,_,_)=>!Nat.beq j dj|none=>false),st.items,st.nx⟩
def d4s(E:Env)(o:Oper):Bool:=match o.op with
 |.call c=>(match c.callee with|.value (.func K)=>!E.U0 K|_=>false)
 |_=>false
def leads(ops:List Oper)(j:Nat):Nat->Nat->Bool
 |0,_=>false
 |n+1,j'=>Nat.beq j' j || (match ops[j']? with|some o=>(match o.guard with|some (j2,_)=>leads ops j n j2|none=>false)|none=>false)
def early(E:Env)(ops:List Oper)(j:Nat)(l:List Oper):Bool:=l.any fun o=>(match o.guard with|some (j',_)=>leads ops j 8 j'|none=>false) && d4s E o
def b0W(n:Nat)(e:Bool)(q:Bool)(inl:Inl E)(fx:n5 E.N)(lkd:c7 E.N)(st:E.St)(dj:Nat)(w:Bool)(d:Option Nat)(op:Op)(ty:Nat)(k:E.St->Prop):Prop:=
 match(bif e then none else b2L q fx lkd st dj w d op)with
 |some (p,a,d)=>cj (imp p a.ob) (im (imp p a.hy) (k ⟨(d,.un)::st.slots,(d,dj,w,a.v)::st.gs,st.items,st.nx⟩))
 |none=>bif (lk st.gs dj).isNone && !q then(match prop (w8 fx st dj)with
  |some ⟨p,_⟩ => 
     (p->bif w then b5i q inl fx lkd (put (settle st dj true) (some dj) .tt) d op ty k else k (put (put (settle st dj true) (some dj) .tt) d .undef)) /\
     (¬p->bif w then k (put (put (settle st dj false) (some dj) .ff) d .undef)else b5i q inl fx lkd (put (settle st dj false) (some dj) .ff) d op ty k)
  |none=>False)else False
def a1F(n:Nat)(q:Bool)(inl:Inl E)(fx:n5 E.N)(lkd:c7 E.N)(ops:List Oper):List Oper->E.St->(E.St->Prop)->Prop
 |[],st,K=>K ⟨st.slots,[],st.items,st.nx⟩
 |o::rest,st,K=>fSt st fun st=>bif free n fx st o.dst && (!q || o.dst.isSome)then(match o.guard with
  |none=>b5i q inl fx lkd st o.dst o.op o.type (fun st=>a1F n q inl fx lkd ops rest st K)
  |some (j,w)=>(match q8 ops j with
   |none=>False
   |some dj=>bif Nat.blt dj n then(match(bif (lk st.gs dj).isNone then w8 fx st dj else .un)with
    |.tt=>bif w then b5i q inl fx lkd st o.dst o.op o.type (fun st=>a1F n q inl fx lkd ops rest st K)else a1F n q inl fx lkd ops rest (put st o.dst .undef) K
    |.ff=>bif w then a1F n q inl fx lkd ops rest (put st o.dst .undef) K else b5i q inl fx lkd st o.dst o.op o.type (fun st=>a1F n q inl fx lkd ops rest st K)
    |.undef=>a1F n q inl fx lkd ops rest (put st o.dst .undef) K
    |_=>b0W n (early E ops j (o::rest)) q inl fx lkd st dj w o.dst o.op o.type (fun st=>a1F n q inl fx lkd ops rest st K))else False))else False
def d2J(K:Nat)(st:E.St)(args:List E.SV)(its:c7 E.N):Option (S1 E.N):=
 match E.M5 K with
 |some C=>(match C args st.nx with
  |some r=>bif args.all F7 then some ⟨r.ob,r.hy,r.r,number st.nx r.its++its,st.nx+r.its.length⟩else none
  |none=>none)
 |none=>none
def c9s(o:OC E.N)(its:c7 E.N)(st:E.St):List E.SV->Option (S1 E.N)
 |v::args=>(match v with
  |.ref id off=>bif Nat.beq off 0 && (args.map (a1x its)).all F7 then(match lk st.items id with
   |some (.ob k' _ x)=>if h:k'=o.k then(match o.C (h ▸ x) (args.map (a1x its))with
    |some r=>some ⟨r.ob,r.hy,r.r,a3I st.items id (.ob o.k st.nx r.x),st.nx+1⟩
    |none=>none)else none
   |_=>none)else none
  |_=>none)
 |[]=>none
def c1t(fx:n5 E.N)(lkd:c7 E.N)(st:E.St)(ch:List (Nat×Bool))(c:Call):Option (S1 E.N):=
 match callee (evS fx lkd st ch) c with
 |none=>none
 |some (K,args)=>match E.M5 K with
  |some _=>bif E.U0 K then none
     else(match frz st.items args with|some (args',its)=>d2J K st args' its|none=>none)
  |none=>(match E.obc K with
   |some o=>c9s o (st.items++lkd) st args
   |none=>(match E.wrc K with
   |some _=>none
   |none=>(E.fnc K).bind (fun o=>b5V o args st.items st.nx)))
def b56(fx:n5 E.N)(lkd:c7 E.N)(st:E.St)(ch:List (Nat×Bool))(d:Option Nat)(op:Op)(ty:Nat):Option (S1 E.N):=
 match b62 E st.items st.nx (evS fx lkd st ch) op ty with
 |some s=>bif okD op d then some s else none
 |none=>(match a3J op with|some c=>c1t fx lkd st ch c|none=>none)
abbrev Hints:=List (Nat×List Nat)
def a3k{N:B8}:SV N->List Nat
 |.ref id _=>[id]
 |.acc id=>[id]
 |.el id _ _ _=>[id]
 |.sub id _ _ _=>[id]
 |.mp id=>[id]
 |.clo _ vs=>vs.flatMap fun v=>match v with|.ref id _=>[id]|_=>[]
 |.agg vs=>vs.flatMap fun v=>match v with|.acc id=>[id]|.ref id _=>[id]|.el id _ _ _=>[id]|_=>[]
 |_=>[]
def c14{N:B8}(e:Operand->SV N):Op->List Nat
 |.store _ a x=>a3k (e a)++a3k (e x)
 |.makeInterface _ x=>a3k (e x)
 |.mapUpdate _ m k v=>a3k (e m)++a3k (e k)++a3k (e v)
 |.buildSlice _ _ ps=>ps.toList.flatMap fun p=>a3k (e p.2)
 |.call c=>(match c.callee with|.value f=>a3k (e f)|_=>[])++c.args.toList.flatMap fun x=>a3k (e x)
 |_=>[]
def c0d{N:B8}(its:c7 N)(l:List Nat):List Nat:=l++l.flatMap fun id=>match lk its id with|some (.rw _ _ cells)=>cells.flatMap a3k|_=>[]
def b5Y{N:B8}(its:c7 N)(e:Operand->SV N)(op:Op):List Nat:=match op with
 |.call c=>(match c.callee with|.value _=>reach its 60 (c14 e op) []|_=>c0d its (c14 e op))
 |_=>c0d its (c14 e op)
def b6s{N:B8}(v:SV N)(b:Bool):Bool:=match v with
 |.tt=>!b
 |.ff=>b
 |_=>false
def c5O(fx:n5 E.N)(st:E.St)(dj:Nat)(b:Bool):Bool:=match lk st.gs dj with
 |some (_,_,v)=>b6s v b
 |none=>(match w8 fx st dj with|.undef=>true|v=>b6s v b)
def c7K(H:Hints)(i:Nat):Option Bool:=bif (lk H (1000000+2*i+1)).isSome then some true else(bif (lk H (1000000+2*i)).isSome then some false else none)
def frc(b:Option Bool)(q:Option (Q1 E.N)):Option (Q1 E.N):=match b with
 |none=>q
 |some b=>(match q with
  |some q=>(match prop q.v with
   |some ⟨p,_⟩=>some ⟨q.ob++[bif b then p else ¬p],q.hy,bif b then .tt else .ff⟩
   |none=>none)
  |none=>none)
def a34(fx:n5 E.N)(lkd:c7 E.N)(l:List Oper):Nat->List Oper->E.St->Hints->Hints
 |_,[],_,H=>H
 |i,o::r,st,H=>fSt st fun st=>match o.guard with
  |none=>(match frc (c7K H i) (gOp false fx lkd st [] o.op)with
   |some a=>a34 fx lkd l (i+1) r (put st o.dst a.v) H
   |none=>(match b56 fx lkd st [] o.dst o.op o.type with
    |some s=>a34 fx lkd l (i+1) r (put ⟨st.slots,st.gs,s.items,s.nx⟩ o.dst s.v) (H++[(i,b5Y st.items (evS fx lkd st []) o.op)])
    |none=>[]))
  |some (j,b)=>(match q8 l j with
   |some dj=>bif c5O fx st dj b then a34 fx lkd l (i+1) r (put st o.dst .undef) H else(match b2L false fx lkd st dj b o.dst o.op with
    |some (_,a,d)=>a34 fx lkd l (i+1) r ⟨(d,.un)::st.slots,(d,dj,b,a.v)::st.gs,st.items,st.nx⟩ H
    |none=>(match b56 fx lkd st (chain st.gs 8 dj b) o.dst o.op o.type with
     |some s=>a34 fx lkd l (i+1) r (put ⟨st.slots,st.gs,s.items,s.nx⟩ o.dst s.v) (H++[(i,b5Y st.items (evS fx lkd st (chain st.gs 8 dj b)) o.op)])
     |none=>[]))
   |none=>[])
structure Ent(N:B8) where
 dst:Option Nat
 g:Option (Nat×Nat×Bool)
 sv:SV N
 hy:List Prop
structure DA(N:B8) where
 E3:List (Ent N)
 A6:List Nat
 O6:List (c7 N×Nat)
def fEs{N:B8}{α:Sort u}:List (Ent N)->(List (Ent N)->α)->α
 |[],k=>k []
 |e::r,k=>match e with|⟨a,b,c,d⟩=>fV c fun c=>fEs r fun r=>k (⟨a,b,c,d⟩::r)
def c00{N:B8}{α:Sort u}:∀(l:List (Ent N)) (k:List (Ent N)->α),fEs l k=k l
 |[],_=>rfl
 |e::r,k=>by unfold fEs;simp only[b3d];rw[c00 r]
def fNs{α:Sort u}:List Nat->(List Nat->α)->α
 |[],k=>k []
 |n::r,k=>fN n fun n=>fNs r fun r=>k (n::r)
def b0t{α:Sort u}:∀(l:List Nat)(k:List Nat->α),fNs l k=k l
 |[],_=>rfl
 |n::r,k=>by unfold fNs;rw[b3c,b0t r]
def fMs{N:B8}{α:Sort u}:List (c7 N×Nat)->(List (c7 N×Nat)->α)->α
 |[],k=>k []
 |p::r,k=>match p with|(a,b)=>fIs a fun a=>fN b fun b=>fMs r fun r=>k ((a,b)::r)
def b9O{N:B8}{α:Sort u}:∀(l:List (c7 N×Nat)) (k:List (c7 N×Nat)->α),fMs l k=k l
 |[],_=>rfl
 |p::r,k=>by unfold fMs;simp only[b3N,b3c];rw[b9O r]
def fDA{N:B8}{α:Sort u}(a:DA N)(k:DA N->α):α:=match a with
 |⟨x,y,z⟩=>fEs x fun x=>fNs y fun y=>fMs z fun z=>k ⟨x,y,z⟩
def c6s{N:B8}{α:Sort u}(a:DA N)(k:DA N->α):fDA a k=k a:=by unfold fDA;simp only[c00,b0t,b9O]
def fHs{α:Sort u}:Hints->(Hints->α)->α
 |[],k=>k []
 |p::r,k=>match p with|(a,b)=>fN a fun a=>fNs b fun b=>fHs r fun r=>k ((a,b)::r)
def b9D{α:Sort u}:∀(l:Hints)(k:Hints->α),fHs l k=k l
 |[],_=>rfl
 |p::r,k=>by unfold fHs;simp only[b3c,b0t];rw[b9D r]
def bit(ms:List Nat)(i j:Nat):Bool:=(ms.getD i 0).testBit j
def Ent.now{N:B8}(e:Ent N):SV N:=match e.g with|none=>e.sv|some _=>.un
def a0E{N:B8}(p:Nat->Bool):Nat->List (Ent N)->n5 N
 |_,[]=>[]
 |j,e::r=>bif p j then(match e.dst with|some d=>(d,e.now)::a0E p (j+1) r|none=>a0E p (j+1) r)else a0E p (j+1) r
def dGs{N:B8}(p:Nat->Bool):Nat->List (Ent N)->List (Nat×Nat×Bool×SV N)
 |_,[]=>[]
 |j,e::r=>bif p j then(match e.dst,e.g with|some d,some (jj,dj,b)=>(bif p jj then(d,dj,b,e.sv)::dGs p (j+1) r else dGs p (j+1) r)|_,_=>dGs p (j+1) r)else dGs p (j+1) r
def dHy{N:B8}(p:Nat->Bool):Nat->List (Ent N)->List Prop
 |_,[]=>[]
 |j,e::r=>bif p j then e.hy++dHy p (j+1) r else dHy p (j+1) r
def shut(ms:List Nat)(H:Hints)(i:Nat)(pre:List Nat):List Nat:=H.flatMap fun p=>bif pre.elem p.1 || bit ms p.1 i then []else p.2
def a0l(ms:List Nat)(i:Nat):List Nat->Nat
 |[]=>0
 |e::r=>bif bit ms i e then a0l ms i r+1 else 0
def NX:Nat:=1000000
def cjl:List Prop->Prop
 |[]=>True
 |[p]=>p
 |p::q::r=>p/\cjl (q::r)
section
variable(n:Nat)(fx:n5 E.N)(lkd:c7 E.N)(l:List Oper)(ms:List Nat)(H:Hints)(N9:E.St)
def dSt(i:Nat)(a:DA E.N)(its:c7 E.N)(nx:Nat):E.St:=⟨a0E (bit ms i) 0 a.E3++N9.slots.filter (fun p=>a09 ms i p.1 l 0),dGs (bit ms i) 0 a.E3,its,nx⟩
def a6V(i:Nat)(o:Oper)(a:DA E.N):Option (List Prop×Ent E.N):=
 match a.O6[a0l ms i a.A6]? with
 |none=>none
 |some m=>bif free n fx (dSt l ms N9 i a (without m.1 (shut ms H i (a.A6.take (a0l ms i a.A6)))) NX) o.dst then(match o.guard with
  |none=>(match frc (c7K H i) (gOp false fx lkd (dSt l ms N9 i a (without m.1 (shut ms H i (a.A6.take (a0l ms i a.A6)))) NX) [] o.op),o.dst with
   |some q,some d=>some (q.ob,⟨some d,none,q.v,q.hy⟩)
   |_,_=>none)
  |some (j,b)=>(match q8 l j with
   |some dj=>bif bit ms i j && Nat.blt dj n then(match b2L false fx lkd (dSt l ms N9 i a (without m.1 (shut ms H i (a.A6.take (a0l ms i a.A6)))) NX) dj b o.dst o.op with
    |some (p,q,d)=>some (imp p q.ob,⟨some d,some (j,dj,b),q.v,imp p q.hy⟩)
    |none=>none)else none
   |none=>none))else none
def dG(i:Nat)(o:Oper)(st:E.St):Option (List Prop×List (Nat×Bool)):=match o.guard with
 |none=>some ([],[])
 |some (j,b)=>(match q8 l j with
  |some dj=>bif bit ms i j && Nat.blt dj n && o.dst.isSome then(match b2E fx st 8 dj b with|some ⟨p,_⟩=>some ([p],chain st.gs 8 dj b)|none=>none)else none
  |none=>none)
def c1q(i:Nat)(o:Oper)(a:DA E.N)(T:List Nat):Option (List Prop×Ent E.N×(c7 E.N×Nat)):=
 match a.O6[a.A6.length]? with
 |some m=>bif free n fx (dSt l ms N9 i a (within m.1 T) m.2) o.dst && a.A6.all (bit ms i)then
  (match dG n fx l ms i o (dSt l ms N9 i a (within m.1 T) m.2)with
  |some (g,ch)=>(match b56 fx (without m.1 T++lkd) (dSt l ms N9 i a (within m.1 T) m.2) ch o.dst o.op o.type with
   |some s=>bif Nat.ble s.nx NX then some (g++s.ob,⟨o.dst,none,bif o.dst.isSome then s.v else .un,s.hy⟩,(s.items++without m.1 T,s.nx))else none
   |none=>none)
  |none=>none)else none
 |none=>none
def d1U{N:B8}(e:Ent N)(b:Bool):Bool:=match e.sv with
 |.undef=>e.g.isNone
 |v=>b6s v b
def b1h(n:Nat)(l:List Oper)(ms:List Nat)(i:Nat)(o:Oper)(a:DA E.N):Option (Ent E.N):=match o.guard,o.dst with
 |some (j,b),some d=>(match q8 l j,a.E3[j]? with
  |some dj,some e=>bif bit ms i j && Nat.blt dj n && Nat.blt d n && d1U e b then some ⟨some d,none,.undef,[]⟩else none
  |_,_=>none)
 |_,_=>none
def d2x(i:Nat)(o:Oper)(a:DA E.N):Option (List Prop×DA E.N):=
 match lk H i with
 |none=>(match b1h n l ms i o a with
  |some e=>some ([],⟨a.E3++[e],a.A6,a.O6⟩)
  |none=>(match a6V n fx lkd l ms H N9 i o a with|some (ob,e)=>some (ob,⟨a.E3++[e],a.A6,a.O6⟩)|none=>none))
 |some T=>(match c1q n fx lkd l ms N9 i o a T with|some (ob,e,m)=>some (ob,⟨a.E3++[e],a.A6++[i],a.O6++[m]⟩)|none=>none)
def dGo(K:DA E.N->Prop):Nat->List Oper->DA E.N->Prop
 |_,[],a=>K a
 |i,o::r,a=>fDA a fun a=>match d2x n fx lkd l ms H N9 i o a with
  |some (ob,a')=>bif ob.isEmpty then dGo K (i+1) r a' else im (dHy (bit ms i) 0 a.E3) (cjl ob)/\dGo K (i+1) r a'
  |none=>False
end
def b0o(l:List Oper):List Nat:=l.filterMap fun o=>o.dst
def c9i(l:List Oper)(N9:E.St)(a:DA E.N):Option E.St:=
 match a.O6[a.A6.length]? with
 |some m=>some ⟨a0E (fun _=>true) 0 a.E3++N9.slots.filter (fun p=>!(b0o l).elem p.1),[],m.1,m.2⟩
 |none=>none
def a1h(fx:n5 E.N)(l:List Oper):Bool:=l.all fun o=>match o.dst with|some d=>(lk fx d).isNone|none=>true
def a4Y(fx:n5 E.N)(lkd:c7 E.N)(l:List Oper)(t:Nat)(H:Hints):Nat->List Oper->E.St->Option Prop
 |_,[],_=>none
 |i,o::r,st=>fSt st fun st=>match o.guard with
  |none=>(match frc (c7K H i) (gOp false fx lkd st [] o.op)with
   |some a=>bif Nat.beq i t then(match a.v with|.bl p _=>some p|_=>none)else a4Y fx lkd l t H (i+1) r (put st o.dst a.v)
   |none=>(match b56 fx lkd st [] o.dst o.op o.type with
    |some s=>a4Y fx lkd l t H (i+1) r (put ⟨st.slots,st.gs,s.items,s.nx⟩ o.dst s.v)
    |none=>none))
  |some (j,b)=>(match q8 l j with
   |some dj=>bif c5O fx st dj b then a4Y fx lkd l t H (i+1) r (put st o.dst .undef)else(match b2L false fx lkd st dj b o.dst o.op with
    |some (_,a,d)=>a4Y fx lkd l t H (i+1) r ⟨(d,.un)::st.slots,(d,dj,b,a.v)::st.gs,st.items,st.nx⟩
    |none=>(match b56 fx lkd st (chain st.gs 8 dj b) o.dst o.op o.type with
     |some s=>a4Y fx lkd l t H (i+1) r (put ⟨st.slots,st.gs,s.items,s.nx⟩ o.dst s.v)
     |none=>none))
   |none=>none)
def b4m(n:Nat)(fx:n5 E.N)(lkd:c7 E.N)(l:List Oper)(N9:E.St)(H0:Hints)(K:E.St->Prop):Prop:=
 bif R2 l && a8g l [] && a99 (b0o l) n l && a1h fx l && Nat.ble N9.nx NX then
  fSt N9 fun N9=>fNs (a9I l) fun ms=>fHs (a34 fx lkd l 0 l N9 H0) fun H=>dGo n fx lkd l ms H N9 (fun a=>match c9i l N9 a with|some st=>im (dHy (fun _=>true) 0 a.E3) (K st)|none=>False) 0 l ⟨[],[],[(N9.items,N9.nx)]⟩
 else False
def a30(n:Nat)(fx:n5 E.N)(lkd:c7 E.N)(l:List Oper)(N9:E.St)(K:E.St->Prop):List Nat->Hints->Prop
 |[],H=>b4m n fx lkd l N9 H K
 |i::r,H=>match a4Y fx lkd l i H 0 l N9 with
  |some p=>(p->a30 n fx lkd l N9 K r (H++[(1000000+2*i+1,[])]))/\(¬p->a30 n fx lkd l N9 K r (H++[(1000000+2*i,[])]))
  |none=>a30 n fx lkd l N9 K r H
def c6q:Op->Bool
 |.alloc _=>false
 |.box _ _=>false
 |.store _ _ _=>false
 |.buildSlice _ _ _=>false
 |.makeSlice _ _ _=>false
 |.makeInterface _ _=>false
 |.call c=>(match c.callee with|.builtin .append=>false|.builtin .copy=>false|.builtin _=>true|_=>false)
 |_=>true
def b4w(l:List Oper):Bool:=a9Z l && l.all fun o=>c6q o.op
def first:Code->Option Nat
 |.region id _ _=>some id
 |.seq a b=>(match first a with|some i=>some i|none=>first b)
 |.block _ c=>first c
 |.loop c=>first c
 |.scope c=>first c
 |.cond _ a b=>(match first a with|some i=>some i|none=>first b)
 |_=>none
def rbP(E:Env)(fx:n5 E.N)(st:E.St)(fx':n5 E.N)(st':E.St)(vs:List LV){α:Type}(f:Cur E.N α vs)(K:α->Prop):Prop:=
 bif b3t E fx st fx' st' vs then(match a0s E fx' st' vs f with|some a=>K a|none=>False)else False
def ShP(N:B8):List (List LV)->Type
 |[]=>Unit
 |vs::r=>(Cur N Prop vs×Cur N Nat vs)×ShP N r
def fits(E:Env)(fx:n5 E.N)(st:E.St)(fx':n5 E.N)(st':E.St)(vs:List LV):Bool:=b3t E fx st fx' st' vs && (a0s E fx' st' vs (a0x () vs)).isSome
def rbS(E:Env)(fx:n5 E.N)(st:E.St)(fx':n5 E.N)(st':E.St):(ss:List (List LV))->ShP E.N ss->(Prop×Nat->Prop)->Prop
 |[],_,_=>False
 |vs::r,p,K=>bif fits E fx st fx' st' vs then rbP E fx st fx' st' vs (a1m vs p.1.1 p.1.2) K else rbS E fx st fx' st' r p.2 K
def c44(E:Env)(fx:n5 E.N)(st:E.St):(ss:List (List LV))->ShP E.N ss->(Prop×Nat->E.St->Prop)->Prop
 |[],_,_=>True
 |vs::r,p,G=>Q2 E fx st vs (a1m vs p.1.1 p.1.2) ⟨[],[],[],st.nx⟩ G/\c44 E fx st r p.2 G
def vcU{S:Type}(b:S->(S->Prop)->Prop):Nat->S->Prop
 |0,_=>False
 |n+1,st=>b st (vcU b n)
inductive LK
 |one
 |unr (n:Nat)
def c9B(vs:List LV):LK:=match vs with
 |[.unr n]=>.unr n
 |_=>.one
def b5B{α:Sort u}(fx:n5 E.N)(st:E.St):List Nat->(n5 E.N->α)->α
 |[],k=>k []
 |s::r,k=>fV (w8 fx st s) fun v=>b5B fx st r fun l=>k ((s,v)::l)
def b2k{α:Sort u}{fx:n5 E.N}{st:E.St}:∀(ks:List Nat)(k:n5 E.N->α),b5B fx st ks k=k (s5 fx st ks)
 |[],_=>rfl
 |s::r,k=>by unfold b5B;rw[b3d,b2k r];rfl
def b9V(ks:List Nat)(fx:n5 E.N)(st:E.St)(k:E.St->Prop):Prop:=bif ks.isEmpty then k st else b5B fx st ks fun l=>k ⟨l,[],st.items,st.nx⟩
def c4X{N:B8}:SV N->SV N
 |.bl p d=>bif @decide p d then .tt else .ff
 |v=>v
def b6h:List Nat->E.St->E.St
 |[],st=>st
 |s::r,st=>b6h r (match lk st.slots s with
  |some (.acc id)=>(match b4V st.items (.acc id)with|some (v,its)=>⟨(s,v)::st.slots,st.gs,its,st.nx⟩|none=>st)
  |some v=>⟨(s,c4X v)::st.slots,st.gs,st.items,st.nx⟩
  |none=>st)
def behind(an:D3)(id:Nat)(k:E.St->Prop):E.St->Prop:=match an.join (2000000+id)with|some a=>fun st=>k (b6h a.keep st)|none=>k
def idxs:List Oper->Nat->List Nat
 |[],_=>[]
 |_::r,i=>i::idxs r (i+1)
def b7N(l:List Oper)(done:List Nat):Bool:=(idxs l 0).all fun i=>done.elem i
def rdy(l:List Oper)(done:List Nat)(i:Nat):Bool:=match l[i]? with
 |some o=>!done.elem i && o.after.toList.all fun e=>!Region.binds .any e || done.elem e.on
 |none=>false
def cjF(f:Nat->Prop):List Nat->Prop
 |[]=>True
 |[i]=>f i
 |i::j::r=>f i/\cjF f (j::r)
def a6v(n:Nat)(inl:Inl E)(fx:n5 E.N)(lkd:c7 E.N)(l:List Oper)(K:E.St->Prop):Nat->List Nat->E.St->Prop
 |0,done,st=>bif b7N l done then K st else False
 |k+1,done,st=>bif b7N l done then K st else cjF (fun i=>match l[i]? with
  |some o=>a1F n false inl fx lkd l [o] st (fun st=>a6v n inl fx lkd l K k (i::done) st)
  |none=>False) ((idxs l 0).filter (rdy l done))
def vc(inl:Inl E)(an:D3):Code->n5 E.N->c7 E.N->E.St->Ks E->Prop
 |.skip,_,_,st,K=>K.n st
 |.ret,_,_,st,K=>K.r st
 |.exit i,_,_,st,K=>(match lk K.e i with|some k=>k st|none=>False)
 |.seq a b,fx,lkd,st,K=>(match(first b).bind an.join with
  |none=>vc inl an a fx lkd st ⟨fun st=>vc inl an b fx lkd st K,K.r,K.e⟩
  |some j=>∃J:Cur E.N Prop j.vars,
    vc inl an a (s5 fx st j.keep++fx) (without st.items (B4 E fx st j.vars)++lkd) (inn st (B4 E fx st j.vars))
     (a4A (s5 fx st j.keep) (without st.items (B4 E fx st j.vars)) K (fun st'=>rbP E fx st (s5 fx st j.keep++fx) st' j.vars J id)) /\
    Q2 E fx st j.vars J ⟨[],[],[],st.nx⟩ (fun x new=>x->vc inl an b fx lkd ⟨new.slots++s5 fx st j.keep,[],new.items++without st.items (B4 E fx st j.vars),new.nx⟩ K))
 |.block i c,fx,lkd,st,K=>vc inl an c fx lkd st ⟨K.n,K.r,(i,K.n)::K.e⟩
 |.cond o a b,fx,lkd,st,K=>(match evS fx lkd st [] o with
  |.tt=>vc inl an a fx lkd st K
  |.ff=>vc inl an b fx lkd st K
  |.bl p _=>(p->vc inl an a fx lkd st K)/\(¬p->vc inl an b fx lkd st K)
  |_=>False)
 |.region id ops dr,fx,lkd,st,K=>bif !dr || b4w ops.toList then a1F an.n dr inl fx lkd ops.toList ops.toList ⟨st.slots,[],st.items,st.nx⟩ (behind an id K.n)else(match an.join (3000000+id)with
   |some _=>bif R2 ops.toList then a6v an.n inl fx lkd ops.toList (behind an id K.n) ops.toList.length [] ⟨st.slots,[],st.items,st.nx⟩else False
   |none=>a30 an.n fx lkd ops.toList ⟨st.slots,[],st.items,st.nx⟩ (behind an id K.n) (match an.join (1000000+id)with|some a=>a.keep|none=>[]) [])
 |.loop c,fx,lkd,st,K=>(match(first c).bind an.loop with
  |none=>False
  |some a=>match c9B a.vars with
   |.unr n=>vcU (fun st n'=>b9V a.keep fx st fun st=>vc inl an c fx lkd st ⟨n',K.r,K.e⟩) n ⟨st.slots,[],st.items,st.nx⟩
   |.one=>∃(I:Cur E.N Prop a.vars)(m:Cur E.N Nat a.vars),
    rbP E fx st (s5 fx st a.keep++fx) (inn st (B4 E fx st a.vars)) a.vars (a1m a.vars I m) (fun im=>im.1) /\
    Q2 E fx st a.vars (a1m a.vars I m) ⟨[],[],[],st.nx⟩ (fun im new=>im.1 ->
     vc inl an c (s5 fx st a.keep++fx) (without st.items (B4 E fx st a.vars)++lkd) new
      (a4A (s5 fx st a.keep) (without st.items (B4 E fx st a.vars)) K (fun st'=>rbP E fx st (s5 fx st a.keep++fx) st' a.vars (a1m a.vars I m) (fun im'=>im'.1/\im'.2<im.2)))))
 |_,_,_,_,_=>False
end Go.Rx
end
namespace Go.Rx
open Go Go.Wk Go.Wl
section
variable{N:B8}{T:N6}{ρ:p4}{Z:Nat->Prop}{w:World}{cs:List Value}{s:SV N}
def a6Q:SV N->Option Int
 |.int k x=>match k with|.i64=>some x|_=>none
 |_=>none
def asY:SV N->Option UInt8
 |.byte x=>some x
 |_=>none
def asB:SV N->Option Bool
 |.tt=>some true
 |.ff=>some false
 |.bl p d=>some (@decide p d)
 |_=>none
def asS:SV N->Option z6
 |.str x=>some x
 |_=>none
def e8.one{v:Value}(h:e7 N T ρ Z w v s)(hp:D7 v=true):e8 N T ρ Z w [v] [s]:=e7.R8 h hp e7.a1P
def e8.cons{v:Value}{ss:List (SV N)}(h:e7 N T ρ Z w v s)(hp:D7 v=true)(r:e8 N T ρ Z w cs ss):e8 N T ρ Z w (v::cs) (s::ss):=e7.R8 h hp r
def d3e{x:Int}(h:InI x):e7 N T ρ Z w (.int .i64 x) (.int .i64 x):=.int (fun _=>h)
def b99{x:Int}(h:E8.rd Z w cs x):e8 N T ρ Z w cs [.int .i64 x]:=by obtain⟨rfl,h⟩:=h;exact e8.one (d3e h) rfl
def c3s{x:UInt8}(h:U7.rd Z w cs x):e8 N T ρ Z w cs [.byte x]:=by obtain rfl:cs=_:=h;exact e8.one .byte rfl
def b6r{x:Bool}(h:a2B.rd Z w cs x):e8 N T ρ Z w cs [I4 x]:=by
 obtain rfl:cs=_:=h;have e:Value.bool x=.bool (@decide (x=true) inferInstance):=by cases x <;> rfl
 rw[e];exact e8.one .bl rfl
def c1u{x:z6}(h:a0b.rd Z w cs x):e8 N T ρ Z w cs [.str x]:=by obtain⟨rfl,h⟩:=h;exact e8.one (.str h) rfl
def e8.a68(h:e8 N T ρ Z w cs [s]):∃v,cs=[v]/\e7 N T ρ Z w v s/\D7 v=true:=by obtain⟨v,r,rfl,h1,hp,h2⟩:=e8.cons_inv h;obtain rfl:=e8.A1 h2;simp_all
def b1C{v:Value}{x:Int}(h:e7 N T ρ Z w v s)(e:a6Q s=some x):v=.int .i64 x/\InI x:=by
 cases h with
 | @int k y h=>cases k <;> simp[a6Q]at e;simp_all
 |_=>simp[a6Q]at e
def c84{v:Value}{x:UInt8}(h:e7 N T ρ Z w v s)(e:asY s=some x):v=bv x:=by
 cases h with
 |byte=>simp[asY]at e;subst e;rfl
 |_=>simp[asY]at e
def c0H{v:Value}{x:Bool}(h:e7 N T ρ Z w v s)(e:asB s=some x):v=.bool x:=by
 cases h with
 |tt=>simp[asB]at e;subst e;rfl
 |ff=>simp[asB]at e;subst e;rfl
 |bl=>simp[asB]at e;subst e;rfl
 |_=>simp[asB]at e
def b8J{v:Value}{x:z6}(h:e7 N T ρ Z w v s)(e:asS s=some x):v=sv x/\x.length<=9223372036854775807:=by
 cases h with
 |str h=>simp[asS]at e;simp_all
 |_=>simp[asS]at e
def b0i{α:Type}{f:SV N->Option α}{r:Rd α}{x:α}(hf:∀vs,f (.agg vs)=none)(hr:∀v,e7 N T ρ Z w v s->f s=some x->r.rd Z w [v] x)(h:e8 N T ρ Z w cs (leaves s))(e:f s=some x):r.rd Z w cs x:=by
 cases s with
 |agg vs=>simp_all
 |_=>obtain⟨v,rfl,h1,_⟩:=e8.a68 h;simp_all
def c6X{x:Int}(h:e8 N T ρ Z w cs (leaves s))(e:a6Q s=some x):E8.rd Z w cs x:=b0i (fun _=>rfl) (fun v h e=>by have⟨a,b⟩:=b1C h e;rw[a];exact⟨rfl,b⟩) h e
def c3F{x:UInt8}(h:e8 N T ρ Z w cs (leaves s))(e:asY s=some x):U7.rd Z w cs x:=b0i (r:=U7) (fun _=>rfl) (fun v h e=>by obtain rfl:=c84 h e;rfl) h e
def c4u{x:Bool}(h:e8 N T ρ Z w cs (leaves s))(e:asB s=some x):a2B.rd Z w cs x:=b0i (r:=a2B) (fun _=>rfl) (fun v h e=>by obtain rfl:=c0H h e;rfl) h e
def c6P{x:z6}(h:e8 N T ρ Z w cs (leaves s))(e:asS s=some x):a0b.rd Z w cs x:=b0i (r:=a0b) (fun _=>rfl) (fun v h e=>by have⟨a,b⟩:=b8J h e;rw[a];exact⟨rfl,b⟩) h e
end
section
variable{E:Env}{ρ:p4}{Z:Nat->Prop}{w:World}{v:Value}{s:E.SV}{t:Nat}
def c06{l:List (E.N.U t)}(h:e7 E.N E.T ρ Z w v s)(e:asL E t s=some l):(p7 (E.N.tb t).r).rd Z w [v] l:=by
 cases h with
 |M9=>simp[asL]at e;subst e;exact a1w
 |sl h =>
  simp only[asL]at e;split at e
  . rename_i ht;subst ht;simp[U9]at e;simp_all
  . cases e
 |_=>simp[asL]at e
end
end Go.Rx
section
namespace Go.Rx
open Go Go.Wk Go.Wl
variable{E:Env}
def a4V(st:E.St):ResultVar->Option E.SV
 |.tmp t=>lk st.slots t
 |.cell a T=>(match lk st.slots a with
  |some (.ref id off)=>(match lk st.items id with
   |some (.own _ cells)=>(match E.a7v T,E.size T with
    |some true,some n=>bif Nat.beq off 0 && Nat.beq n cells.length then some (.agg cells)else none
    |_,_=>none)
   |_=>none)
  |_=>none)
def c30(fn:Func)(st:E.St):Option E.SV:=match fn.results.toList with
 |[]=>some (.F5 [])
 |[r]=>a4V st r
 |[r,s]=>(match a4V st r,a4V st s with|some a,some b=>some (.F5 [a,b])|_,_=>none)
 |[r,s,t]=>(match a4V st r,a4V st s,a4V st t with|some a,some b,some c=>some (.F5 [a,b,c])|_,_,_=>none)
 |[r,s,t,u]=>(match a4V st r,a4V st s,a4V st t,a4V st u with|some a,some b,some c,some d=>some (.F5 [a,b,c,d])|_,_,_,_=>none)
 |_=>none
def j4(inl:Inl E)(an:D3)(fn:Func)(args:List E.SV)(its lkd:c7 E.N)(nx:Nat)(k:E.SV->c7 E.N->Nat->Prop):Prop:=match fn.body with
 |some c=>bif Nat.ble args.length fn.ntmps then vc inl ⟨fn.ntmps,an.loop,an.join⟩ c [] lkd ⟨number 0 args,[],its,nx⟩ ⟨fun st=>(match c30 fn st with|some v=>k v st.items st.nx|none=>False),fun st=>(match c30 fn st with|some v=>k v st.items st.nx|none=>False),[]⟩else False
 |none=>False
def parts(ks:List VK)(v:E.SV):List E.SV:=match ks with
 |[_]=>[v]
 |_=>(match v with|.F5 vs=>vs|v=>[v])
def a1R(E:Env)(ks:List VK)(Q:I9 E.N Prop ks):E.SV->c7 E.N->Nat->Prop:=fun v its _ =>
 match G7 E its ks (parts ks v) Q with
 |some p=>p
 |none=>False
end Go.Rx
end
namespace Go.Rx
open Go Go.Wk Go.Wl
structure Ctx where
 ρ0:p4
 Z0:Nat->Prop
 w0:World
 B0:List Nat
 w1:World
structure Mem(E:Env)(C:Ctx)(ρ:p4)(Z:Nat->Prop)(w:World)(its:c7 E.N)(nx:Nat):Prop where
 sep:Sep C.B0 C.w0 Z w (u7 E.N E.T ρ C.B0 its)
 fr:∀i,nx<=i->ρ i=none
 ge:∀i L,C.ρ0 i=some L->ρ i=some L
 zge:∀b,C.Z0 b->Z b
 zle:∀b,Z b->C.Z0 b∨b∈C.B0∨C.w0.heap.size<=b
section
variable{P:Program}{T:TypeId}{d:TypeDesc}{w:World}
def K6(h:P.underlying T=some d)(w:World):(underlying T).run P w=.ok d w:=by
 show(match P.underlying T with|some d=>pure d|none=>stuck "no such type" : Sem TypeDesc).run P w=_
 rw[h];rfl
def a8f{i:TypeInfo}(h:P.info? T=some i)(w:World):(typeInfo T).run P w=.ok i w:=by
 show(match P.info? T with|some i=>pure i|none=>stuck "no such type" : Sem TypeInfo).run P w=_
 rw[h];rfl
def M8{n:Nat}(h:(P.info? T).map (·.size)=some n)(w:World):(sizeOf T).run P w=.ok n w:=by
 cases hi:P.info? T with
 |none=>simp_all
 |some i=>rw[hi]at h;simp at h;subst h;unfold sizeOf;rw[d4X,a8f hi];rfl
def a2D{v:Value}(h:(P.info? T).bind (·.zero)=some v)(w:World):(zeroValue T).run P w=.ok v w:=by
 cases hi:P.info? T with
 |none=>simp_all
 |some i=>rw[hi]at h;simp at h;unfold zeroValue;rw[d4X,a8f hi,d4V,h];rfl
def a4w{b:Bool}(h:(match P.underlying T with|some (.struct _)=>some true|some (.array _ _)=>some true|some _=>some false|none=>none)=some b)(w:World):(isAgg T).run P w=.ok b w:=by
 cases hu:P.underlying T with
 |none=>simp_all
 |some d =>
  rw[hu]at h;have:=K6 hu w;unfold isAgg;rw[d4X,this,d4V];cases d <;> simp_all
end
section
variable{E:Env}{m:Bool}{n:Nat}{ops:List Oper}{Q:Exit->Fr->World->Prop}{rest:List Oper}{f:Fr}{w:World}{d:Nat}
variable{ty T T':TypeId}{pos:String}{after:Array Edge}{x y z:Operand}{k k':IntKind}{a b:Int}{ρ:p4}{Z:Nat->Prop}
def wrap64{a:Int}(h:c6 a):IntKind.i64.wrap a=a:=a0S h
def wrap64_in(a:Int):InI (IntKind.i64.wrap a):=by unfold IntKind.wrap InI;simp only[IntKind.bits,IntKind.signed,Bool.true_and];grind
def a3s{k:IntKind}(a:Int):k=.i64->InI (k.wrap a):=fun e=>by subst e;exact wrap64_in a
def c3G{a b:Int}(h:InI a):InI (a.tmod b):=by
 unfold InI at *;rcases Int.le_total 0 a with h0|h0
 . have h1:=d8W b h0;have h2:a.tmod b<=a:=by
    have:=Int.natAbs_tmod a b;have:=Nat.mod_le a.natAbs b.natAbs;omega
   omega
 . have h1:(-a).tmod b=-(a.tmod b):=Int.neg_tmod a b;have h3:=d8W b (a:=-a) (by omega);have h2:(-a).tmod b<=-a:=by
    have:=Int.natAbs_tmod (-a) b;have:=Nat.mod_le (-a).natAbs b.natAbs;omega
   omega
def c2t{a:Int}{p:Nat}(h:InI a):InI (a.fdiv (2 ^ p)):=by
 unfold InI at *;have hp:(0:Int)<2 ^ p:=Int.pow_pos (by omega);rw[Int.fdiv_eq_ediv_of_nonneg _ (by omega)];constructor
 . rw[Int.le_ediv_iff_mul_le hp];omega
 . rcases d7P a 0 with h0|h0
   . have:=Int.ediv_neg_of_neg_of_pos h0 hp;omega
   . have:=Int.ediv_le_self (2 ^ p) h0;omega
abbrev KQ(E:Env)(m:Bool)(n:Nat)(ops:List Oper)(Q:Exit->Fr->World->Prop)(rest:List Oper)(f:Fr)(w:World)(d:Nat)(ρ:p4)(Z:Nat->Prop)(q:Q1 E.N):Prop:=
 ∀v,e7 E.N E.T ρ Z w v q.v->q9 q.hy->WL E.P m n ops Q rest (D5 f d v) w
def KQ.W7{p:Prop}[dc:Decidable p]{q:Q1 E.N}(K:KQ E m n ops Q rest f w d ρ Z q)(h:W7 p=some q):WL E.P m n ops Q rest (D5 f d (.bool (decide p))) w:=by cases h;exact K _ .bl trivial
def KQ.q0{s:E.SV}{q:Q1 E.N}(K:KQ E m n ops Q rest f w d ρ Z q)(h:q0 s=some q){v:Value}(hv:e7 E.N E.T ρ Z w v s):WL E.P m n ops Q rest (D5 f d v) w:=by cases h;exact K _ hv trivial
def binInt_ok{op:BinOp}{q:Q1 E.N}(hx:ev f x=.int k a)(hy:ev f y=.int k' b)(ha:k=.i64->InI a)(hk:a9Y op=false->k=k')(h:H7 op k a b=some q)(ho:q9 q.ob)(hn:Nat.blt d n=true)(K:KQ E m n ops Q rest f w d ρ Z q) :
  WL E.P m n ops Q (⟨some d,.binOp op T x y T',ty,pos,after,none⟩::rest) f w:=by
 cases op with
 |add =>
  obtain rfl:=hk rfl;cases k <;> first|(simp only[H7]at h;exact c0Y hx hy hn (K.q0 h (.int (a3s _))))|(simp only[H7,d4T]at h;subst h;exact c9W hx hy ho.1 hn (K _ (.int fun _=>ho.1) trivial))
 |sub =>
  obtain rfl:=hk rfl;cases k <;> first|(simp only[H7]at h;exact c0T hx hy hn (K.q0 h (.int (a3s _))))|(simp only[H7,d4T]at h;subst h;exact d0U hx hy ho.1 hn (K _ (.int fun _=>ho.1) trivial))
 |mul =>
  obtain rfl:=hk rfl;cases k <;> first|(simp only[H7]at h;exact c71 hx hy hn (K.q0 h (.int (a3s _))))|(simp only[H7,d4T]at h;subst h;exact d0g hx hy ho.1 hn (K _ (.int fun _=>ho.1) trivial))
 |quo =>
  obtain rfl:=hk rfl;cases k <;> first|(simp only[H7,d4T]at h;subst h;exact c5c hx hy ho.1 hn (K _ (.int (a3s _)) trivial))|(simp only[H7,d4T]at h;subst h;refine c5c hx hy ho.1 hn ?_;rw[wrap64 ho.2.1];exact K _ (.int fun _=>ho.2.1) trivial)
 |rem=>obtain rfl:=hk rfl;simp only[H7,d4T]at h;subst h;exact d1G hx hy ho.1 hn (K _ (.int fun e=>c3G (ha e)) trivial)
 |shr=>simp only[H7,d4T]at h;subst h;exact c8V hx hy ho.1 hn (K _ (.int fun e=>c2t (ha e)) trivial)
 |shl=>simp only[H7,d4T]at h;subst h;exact c9g hx hy ho.1 hn (K _ (.int (a3s _)) trivial)
 |and=>obtain rfl:=hk rfl;simp only[H7]at h;exact c5r hx hy hn (K.q0 h (.int (a3s _)))
 |or=>obtain rfl:=hk rfl;simp only[H7]at h;exact d3B hx hy hn (K.q0 h (.int (a3s _)))
 |xor=>obtain rfl:=hk rfl;simp only[H7]at h;exact d2C hx hy hn (K.q0 h (.int (a3s _)))
 |eql=>obtain rfl:=hk rfl;simp only[H7]at h;exact c4J hx hy hn (K.W7 h)
 |neq=>obtain rfl:=hk rfl;simp only[H7]at h;exact c4O hx hy hn (K.W7 h)
 |lss=>obtain rfl:=hk rfl;simp only[H7]at h;exact c5I hx hy hn (K.W7 h)
 |leq=>obtain rfl:=hk rfl;simp only[H7]at h;exact c54 hx hy hn (K.W7 h)
 |gtr=>obtain rfl:=hk rfl;simp only[H7]at h;exact c5u hx hy hn (K.W7 h)
 |geq=>obtain rfl:=hk rfl;simp only[H7]at h;exact c5f hx hy hn (K.W7 h)
 |andNot=>simp[H7]at h
def binNum_ok{op:BinOp}{q:Q1 E.N}(hx:ev f x=.int k a)(hy:ev f y=.int k' b)(ha:k=.i64->InI a)(h:b5a op k k' a b=some q)(ho:q9 q.ob)(hn:Nat.blt d n=true)(K:KQ E m n ops Q rest f w d ρ Z q) :
  WL E.P m n ops Q (⟨some d,.binOp op T x y T',ty,pos,after,none⟩::rest) f w:=by
 unfold b5a at h;cases hs:a9Y op with
 |true=>rw[hs,d5r]at h;exact binInt_ok hx hy ha (fun e=>by simp_all) h ho hn K
 |false =>
  rw[hs,d5y]at h;split at h
  . rename_i e;exact binInt_ok hx hy ha (fun _=>e) h ho hn K
  . cases h
def c7B(a b:UInt8):Value.int .u8 (IntKind.u8.wrap ((a.toNat:Int)-(b.toNat:Int)))=bv (a-b):=by unfold bv;congr 1;rw[UInt8.toNat_sub];have ha:=a.toNat_lt;have hb:=b.toNat_lt;simp only[IntKind.wrap,IntKind.bits,IntKind.signed,Bool.false_and,d5Y,if_false];omega
def u8_and(a b:UInt8):Value.int .u8 (IntKind.u8.wrap (BitVec.ofInt IntKind.u8.bits (a.toNat:Int) &&& BitVec.ofInt IntKind.u8.bits (b.toNat:Int)).toNat)=bv (a &&& b):=by
 have ha:=a.toNat_lt;have hb:=b.toNat_lt;have e1:BitVec.ofInt IntKind.u8.bits (a.toNat:Int)=a.toBitVec:=by apply BitVec.eq_of_toNat_eq;simp[IntKind.bits]
 have e2:BitVec.ofInt IntKind.u8.bits (b.toNat:Int)=b.toBitVec:=by apply BitVec.eq_of_toNat_eq;simp[IntKind.bits]
 rw[e1,e2];have e3:((a.toBitVec &&& b.toBitVec).toNat)=(a &&& b).toNat:=rfl;have h3:=(a &&& b).toNat_lt;unfold bv;congr 1;show IntKind.u8.wrap (((a.toBitVec &&& b.toBitVec).toNat:Nat):Int)=_
 rw[e3];simp only[IntKind.wrap,IntKind.bits,IntKind.signed,Bool.false_and,d5Y,if_false];omega
def a0t{p q:Prop}[Decidable p][Decidable q](h:p↔q):decide p=decide q:=by simp[h]
def binByte_ok{op:BinOp}{a b:UInt8}{q:Q1 E.N}(hx:ev f x=bv a)(hy:ev f y=bv b)(h:O7 op a b=some q)(ho:q9 q.ob)(hn:Nat.blt d n=true)(K:KQ E m n ops Q rest f w d ρ Z q) :
  WL E.P m n ops Q (⟨some d,.binOp op T x y T',ty,pos,after,none⟩::rest) f w:=by
 have hx':ev f x=.int .u8 a.toNat:=hx;have hy':ev f y=.int .u8 b.toNat:=hy;cases op with
 |add=>simp only[O7]at h;exact c7l hx hy hn (K.q0 h .byte)
 |sub=>simp only[O7]at h;refine c0T hx' hy' hn ?_;rw[c7B];exact K.q0 h .byte
 |and=>simp only[O7]at h;refine c5r hx' hy' hn ?_;rw[u8_and];exact K.q0 h .byte
 |eql=>simp only[O7]at h;refine c4J hx' hy' hn ?_;rw[a0t (show((a.toNat:Int)=b.toNat)↔a=b by rw[Int.ofNat_inj];exact d8V)];exact K.W7 h
 |neq=>simp only[O7]at h;refine c4O hx' hy' hn ?_;rw[a0t (show((a.toNat:Int)≠b.toNat)↔a≠b by rw[Ne,Ne,Int.ofNat_inj,d8V])];exact K.W7 h
 |lss=>simp only[O7]at h;refine c5I hx' hy' hn ?_;rw[a0t (show((a.toNat:Int)<b.toNat)↔a<b by rw[Int.ofNat_lt,UInt8.lt_iff_toNat_lt])];exact K.W7 h
 |leq=>simp only[O7]at h;refine c54 hx' hy' hn ?_;rw[a0t (show((a.toNat:Int)<=b.toNat)↔a<=b by rw[Int.ofNat_le,UInt8.le_iff_toNat_le])];exact K.W7 h
 |gtr=>simp only[O7]at h;refine c5u hx' hy' hn ?_;rw[a0t (show((b.toNat:Int)<a.toNat)↔b<a by rw[Int.ofNat_lt,UInt8.lt_iff_toNat_lt])];exact K.W7 h
 |geq=>simp only[O7]at h;refine c5f hx' hy' hn ?_;rw[a0t (show((b.toNat:Int)<=a.toNat)↔b<=a by rw[Int.ofNat_le,UInt8.le_iff_toNat_le])];exact K.W7 h
 |_=>simp[O7]at h
def binStr_ok{op:BinOp}{a b:z6}{q:Q1 E.N}(hx:ev f x=sv a)(hy:ev f y=sv b)(h:a2x op a b=some q)(ho:q9 q.ob)(hn:Nat.blt d n=true)(K:KQ E m n ops Q rest f w d ρ Z q) :
  WL E.P m n ops Q (⟨some d,.binOp op T x y T',ty,pos,after,none⟩::rest) f w:=by
 cases op with
 |add=>simp only[a2x,d4T]at h;subst h;exact c7Z hx hy ho.1 hn (K _ (.str (by rw[d4Y];exact ho.1)) trivial)
 |eql=>simp only[a2x]at h;exact c6F hx hy hn (K.W7 h)
 |neq=>simp only[a2x]at h;exact c76 hx hy hn (K.W7 h)
 |lss=>simp only[a2x]at h;exact c6D hx hy hn (K.W7 h)
 |gtr=>simp only[a2x]at h;exact c78 hx hy hn (K.W7 h)
 |_=>simp[a2x]at h
end
section
variable{N:B8}{T:N6}{ρ:p4}{Z:Nat->Prop}{w:World}{cs:List Value}{ss:List (SV N)}
def e8.drop(h:e8 N T ρ Z w cs ss):∀o:Nat,e8 N T ρ Z w (cs.drop o) (ss.drop o):=by
 intro o
 induction o generalizing cs ss with
 |zero=>exact h
 |succ o ih =>
  cases ss with
  |nil=>have:=e8.A1 h;simp_all
  |cons s ss=>obtain⟨v,r,rfl,_,_,h⟩:=e8.cons_inv h;exact ih h
def e8.take(h:e8 N T ρ Z w cs ss):∀o:Nat,e8 N T ρ Z w (cs.take o) (ss.take o):=by
 intro o
 induction o generalizing cs ss with
 |zero=>exact e8.nil
 |succ o ih =>
  cases ss with
  |nil=>have:=e8.A1 h;simp_all
  |cons s ss=>obtain⟨v,r,rfl,h1,hp,h⟩:=e8.cons_inv h;exact e7.R8 h1 hp (ih h)
end
def x8{β:Type}{l:List (Nat×β)}{j:Nat}{x:β}(h:lk l j=some x):∃i:Nat,l[i]?=some (j,x)/\(∀y,a3I l j y=l.set i (j,y))/\rmv l j=l.eraseIdx i:=by
 induction l with
 |nil=>cases h
 |cons p r ih =>
  unfold lk at h;cases hb:Nat.beq p.1 j with
  |true =>
   rw[hb,d5r]at h;cases h;have e:=d4W hb;refine⟨0,?_,fun y=>?_,?_⟩
   . simp[<- e]
   . simp[a3I,hb,e]
   . simp[rmv,hb]
  |false =>
   rw[hb,d5y]at h;obtain⟨i,h1,h2,h3⟩:=ih h;exact⟨i+1,by simp_all,fun y=>by simp[a3I,hb,h2],by simp[rmv,hb,h3]⟩
section
variable{E:Env}{C:Ctx}{m:Bool}{n:Nat}{ops:List Oper}{Q:Exit->Fr->World->Prop}{rest:List Oper}{f:Fr}{w:World}{d:Nat}
variable{ty T T':TypeId}{pos:String}{after:Array Edge}{x y z:Operand}{k k':IntKind}{a b:Int}{ρ:p4}{Z:Nat->Prop}{its:c7 E.N}{nx:Nat}{q:Q1 E.N}
def Mem.at(hm:Mem E C ρ Z w its nx){id:Nat}{i:Item E.N}(h:lk its id=some i):holds E.N E.T ρ id Z w i:=by obtain⟨j,hj,_⟩:=x8 h;exact hm.sep.at j (t:=C9 E.N E.T ρ C.B0 id i) (by simp[u7,hj])
def e7.a2o{v:Value}{s:E.SV}{p:Prop}{dc:Decidable p}(h:e7 E.N E.T ρ Z w v s)(e:prop s=some ⟨p,dc⟩):v=.bool (@decide p dc):=by
 cases h with
 |tt=>cases e;rfl
 |ff=>cases e;rfl
 |bl=>cases e;rfl
 |_=>cases e
def c25{ms:Array (String×TypeId)}{e:o6}(hT:∀w,(underlying T).run E.P w=.ok (.interface ms) w)(hx:a5d E.T Z w (ev f x) e)(hn:Nat.blt d n=true) (K:WL E.P m n ops Q rest (D5 f d (.bool (decide (e=.nil)))) w) :
  WL E.P m n ops Q (⟨some d,.binOp .eql T x (.const .nilIface) T',ty,pos,after,none⟩::rest) f w:=by
 have hy:ev f (.const .nilIface)=Value.nilIface:=rfl;generalize hv:ev f x=v at hx;cases hx with
 |nil =>
  rw[d5e rfl]at K;exact o9 rfl rfl hn (v:=.bool true) (fun w1 _=>by simp[execOp,hv,hy,eqGuard,Go.binOp,go_sem,b1P hT]) K
 |no h =>
  rw[d5q (by simp)]at K;exact o9 rfl rfl hn (v:=.bool false) (fun w1 _=>by simp[execOp,hv,hy,eqGuard,Go.binOp,go_sem,V1 hT]) K
 |fault h1 h2 h3 h4 h5 =>
  rw[d5q (by simp)]at K;exact o9 rfl rfl hn (v:=.bool false) (fun w1 _=>by simp[execOp,hv,hy,eqGuard,Go.binOp,go_sem,V1 hT]) K
 |w h1 h2 h3 =>
  rw[d5q (by simp)]at K;exact o9 rfl rfl hn (v:=.bool false) (fun w1 _=>by simp[execOp,hv,hy,eqGuard,Go.binOp,go_sem,V1 hT]) K
 |p h1 h2 h3 h4 =>
  rw[d5q (by simp)]at K;exact o9 rfl rfl hn (v:=.bool false) (fun w1 _=>by simp[execOp,hv,hy,eqGuard,Go.binOp,go_sem,V1 hT]) K
def c0P{ms:Array (String×TypeId)}{e:o6}(hT:∀w,(underlying T).run E.P w=.ok (.interface ms) w)(hx:a5d E.T Z w (ev f x) e)(hn:Nat.blt d n=true) (K:WL E.P m n ops Q rest (D5 f d (.bool (decide (e≠.nil)))) w) :
  WL E.P m n ops Q (⟨some d,.binOp .neq T x (.const .nilIface) T',ty,pos,after,none⟩::rest) f w:=by
 have hy:ev f (.const .nilIface)=Value.nilIface:=rfl;generalize hv:ev f x=v at hx;cases hx with
 |nil =>
  rw[d5q (by simp)]at K;exact o9 rfl rfl hn (v:=.bool false) (fun w1 _=>by simp[execOp,hv,hy,eqGuard,Go.binOp,go_sem,b1P hT]) K
 |no h =>
  rw[d5e (by simp)]at K;exact o9 rfl rfl hn (v:=.bool true) (fun w1 _=>by simp[execOp,hv,hy,eqGuard,Go.binOp,go_sem,V1 hT]) K
 |fault h1 h2 h3 h4 h5 =>
  rw[d5e (by simp)]at K;exact o9 rfl rfl hn (v:=.bool true) (fun w1 _=>by simp[execOp,hv,hy,eqGuard,Go.binOp,go_sem,V1 hT]) K
 |w h1 h2 h3 =>
  rw[d5e (by simp)]at K;exact o9 rfl rfl hn (v:=.bool true) (fun w1 _=>by simp[execOp,hv,hy,eqGuard,Go.binOp,go_sem,V1 hT]) K
 |p h1 h2 h3 h4 =>
  rw[d5e (by simp)]at K;exact o9 rfl rfl hn (v:=.bool true) (fun w1 _=>by simp[execOp,hv,hy,eqGuard,Go.binOp,go_sem,V1 hT]) K
def c3N{e:TypeId}{a:Addr}(hT:∀w,(underlying T).run E.P w=.ok (.pointer e) w)(hx:ev f x=.pointer (some a))(hy:ev f y=.pointer none)(hn:Nat.blt d n=true)(K:WL E.P m n ops Q rest (D5 f d (.bool false)) w) :
  WL E.P m n ops Q (⟨some d,.binOp .eql T x y T',ty,pos,after,none⟩::rest) f w:=
 o9 rfl rfl hn (v:=.bool false) (fun w1 _=>by simp[execOp,hx,hy,eqGuard,Go.binOp,go_sem,b27 hT]) K
def c4z{e:TypeId}{a:Addr}(hT:∀w,(underlying T).run E.P w=.ok (.pointer e) w)(hx:ev f x=.pointer (some a))(hy:ev f y=.pointer none)(hn:Nat.blt d n=true)(K:WL E.P m n ops Q rest (D5 f d (.bool true)) w) :
  WL E.P m n ops Q (⟨some d,.binOp .neq T x y T',ty,pos,after,none⟩::rest) f w:=
 o9 rfl rfl hn (v:=.bool true) (fun w1 _=>by simp[execOp,hx,hy,eqGuard,Go.binOp,go_sem,b27 hT]) K
def c3y{e:TypeId}(hT:∀w,(underlying T).run E.P w=.ok (.pointer e) w)(hx:ev f x=.pointer none)(hy:ev f y=.pointer none)(hn:Nat.blt d n=true)(K:WL E.P m n ops Q rest (D5 f d (.bool true)) w) :
  WL E.P m n ops Q (⟨some d,.binOp .eql T x y T',ty,pos,after,none⟩::rest) f w:=
 o9 rfl rfl hn (v:=.bool true) (fun w1 _=>by simp[execOp,hx,hy,eqGuard,Go.binOp,go_sem,b1q hT]) K
def c33{e:TypeId}(hT:∀w,(underlying T).run E.P w=.ok (.pointer e) w)(hx:ev f x=.pointer none)(hy:ev f y=.pointer none)(hn:Nat.blt d n=true)(K:WL E.P m n ops Q rest (D5 f d (.bool false)) w) :
  WL E.P m n ops Q (⟨some d,.binOp .neq T x y T',ty,pos,after,none⟩::rest) f w:=
 o9 rfl rfl hn (v:=.bool false) (fun w1 _=>by simp[execOp,hx,hy,eqGuard,Go.binOp,go_sem,b1q hT]) K
def b1H{e:TypeId}(hT:∀w,(underlying T).run E.P w=.ok (.slice e) w){n c n' c':Nat}(w1:World):(Op.equal T (.slice none n c) (.slice none n' c')).run E.P w1=.ok true w1:=by
 have h:∀d,(Op.equalIn (d+1) T (.slice none n c) (.slice none n' c')).run E.P w1=.ok true w1:=fun d=>by unfold Op.equalIn;rw[d4X,hT,d4V];rfl
 exact h 9999
def b2U{e:TypeId}(hT:∀w,(underlying T).run E.P w=.ok (.slice e) w){a:Addr}{n c n' c':Nat}(w1:World):(Op.equal T (.slice (some a) n c) (.slice none n' c')).run E.P w1=.ok false w1:=by
 have h:∀d,(Op.equalIn (d+1) T (.slice (some a) n c) (.slice none n' c')).run E.P w1=.ok false w1:=fun d=>by unfold Op.equalIn;rw[d4X,hT,d4V];rfl
 exact h 9999
def b6a{e:TypeId}{n' c n1 c1:Nat}(hT:∀w,(underlying T).run E.P w=.ok (.slice e) w)(hx:ev f x=.slice none n' c)(hy:ev f y=.slice none n1 c1)(hn:Nat.blt d n=true)(K:WL E.P m n ops Q rest (D5 f d (.bool true)) w) :
  WL E.P m n ops Q (⟨some d,.binOp .eql T x y T',ty,pos,after,none⟩::rest) f w:=
 o9 rfl rfl hn (v:=.bool true) (fun w1 _=>by simp[execOp,hx,hy,eqGuard,Go.binOp,go_sem,b1H hT]) K
def b5F{e:TypeId}{n' c n1 c1:Nat}(hT:∀w,(underlying T).run E.P w=.ok (.slice e) w)(hx:ev f x=.slice none n' c)(hy:ev f y=.slice none n1 c1)(hn:Nat.blt d n=true)(K:WL E.P m n ops Q rest (D5 f d (.bool false)) w) :
  WL E.P m n ops Q (⟨some d,.binOp .neq T x y T',ty,pos,after,none⟩::rest) f w:=
 o9 rfl rfl hn (v:=.bool false) (fun w1 _=>by simp[execOp,hx,hy,eqGuard,Go.binOp,go_sem,b1H hT]) K
def b5X{e:TypeId}{a:Addr}{n' c n1 c1:Nat}(hT:∀w,(underlying T).run E.P w=.ok (.slice e) w)(hx:ev f x=.slice (some a) n' c)(hy:ev f y=.slice none n1 c1)(hn:Nat.blt d n=true)(K:WL E.P m n ops Q rest (D5 f d (.bool false)) w) :
  WL E.P m n ops Q (⟨some d,.binOp .eql T x y T',ty,pos,after,none⟩::rest) f w:=
 o9 rfl rfl hn (v:=.bool false) (fun w1 _=>by simp[execOp,hx,hy,eqGuard,Go.binOp,go_sem,b2U hT]) K
def b6m{e:TypeId}{a:Addr}{n' c n1 c1:Nat}(hT:∀w,(underlying T).run E.P w=.ok (.slice e) w)(hx:ev f x=.slice (some a) n' c)(hy:ev f y=.slice none n1 c1)(hn:Nat.blt d n=true)(K:WL E.P m n ops Q rest (D5 f d (.bool true)) w) :
  WL E.P m n ops Q (⟨some d,.binOp .neq T x y T',ty,pos,after,none⟩::rest) f w:=
 o9 rfl rfl hn (v:=.bool true) (fun w1 _=>by simp[execOp,hx,hy,eqGuard,Go.binOp,go_sem,b2U hT]) K
def a1Z(h:(E.G1 T).isSome=true):∃e,∀w,(underlying T).run E.P w=.ok (.slice e) w:=by
 unfold Env.G1 at h;split at h
 . rename_i e he;exact⟨e,K6 he⟩
 . cases h
def a0T(h:E.a89 T=true):∃e,∀w,(underlying T).run E.P w=.ok (.pointer e) w:=by
 unfold Env.a89 at h;split at h
 . rename_i e hu;exact⟨e,K6 hu⟩
 . cases h
def b32(h:E.isIface T=true):∃ms,∀w,(underlying T).run E.P w=.ok (.interface ms) w:=by
 unfold Env.isIface at h;split at h
 . rename_i e hu;exact⟨e,K6 hu⟩
 . cases h
def a8j(h:E.isBool T=true):∀w,(underlying T).run E.P w=.ok .bool w:=by
 unfold Env.isBool at h;split at h
 . rename_i hu;exact K6 hu
 . cases h
def Z4(h:E.isStr T=true):∀w,(underlying T).run E.P w=.ok .string w:=by
 unfold Env.isStr at h;split at h
 . rename_i hu;exact K6 hu
 . cases h
def C4{e:Nat}(h:E.G1 T=some e):∀w,(underlying T).run E.P w=.ok (.slice e) w:=by
 unfold Env.G1 at h;split at h
 . rename_i e' hu;cases h;exact K6 hu
 . cases h
def L3{k:IntKind}(h:E.intOf T=some k):∀w,(underlying T).run E.P w=.ok (.int k) w:=by
 unfold Env.intOf at h;split at h
 . rename_i e' hu;cases h;exact K6 hu
 . cases h
def a0i{e t:Nat}(h:E.a8I e t=true):∀w,(sizeOf e).run E.P w=.ok (E.N.tb t).r.sz w:=by
 unfold Env.a8I at h;split at h
 . rename_i s hs;have:=d4W h;subst this;exact M8 hs
 . cases h
def j3{α:Type}{b:Bool}{o:Option α}{r:α}(h:(bif b then o else none)=some r):b=true/\o=some r:=by grind
def b43{P:Program}{d:Nat}{t:TypeId}{f0 f1:Field}{xs ys:Array Value}{a0 b0 a1 b1:Value}{r0 r1:Bool}{w:World}(hu:∀w,(underlying t).run P w=.ok (.struct #[f0,f1]) w) (n0:f0.name ≠ "_") (n1:f1.name ≠ "_") (hh:P.stoodInHeld t=false)
  (p0:(Go.part f0.type xs f0.offset).run P w=.ok a0 w) (q0:(Go.part f0.type ys f0.offset).run P w=.ok b0 w) (p1:(Go.part f1.type xs f1.offset).run P w=.ok a1 w) (q1:(Go.part f1.type ys f1.offset).run P w=.ok b1 w)
  (e0:(Op.equalIn d f0.type a0 b0).run P w=.ok r0 w) (e1:(Op.equalIn d f1.type a1 b1).run P w=.ok r1 w):(Op.equalIn (d+1) t (.agg xs) (.agg ys)).run P w=.ok (r0 && r1) w:=by
 unfold Op.equalIn;rw[d4X,hu,d4V];simp only[];cases r0 <;> cases r1 <;> simp[d4X,hh,n0,n1,p0,q0,p1,q1,e0,e1,d5O,d4V]
def b6V(P:Program)(d:Nat)(xs ys:Array Value)(w:World):List Field->Bool->Prop
 |[],r=>r=true
 |f::l,r=>∃r0 r1,r=(r0 && r1)/\f.name ≠ "_" /\ ∃a b,(Go.part f.type xs f.offset).run P w=.ok a w/\(Go.part f.type ys f.offset).run P w=.ok b w/\(Op.equalIn d f.type a b).run P w=.ok r0 w/\b6V P d xs ys w l r1
def b6z{P:Program}{d:Nat}{xs ys:Array Value}{w:World}:∀(l:List Field)(r:Bool),b6V P d xs ys w l r ->
  (forIn l ((none,()):Option Bool×Unit) fun f __s=>(if f.name ≠ "_" then do
    let a <- Go.part f.type xs f.offset
    let b <- Go.part f.type ys f.offset
    let e <- Op.equalIn d f.type a b
    if(!e)=true then pure (ForInStep.done (some false,()))else pure (ForInStep.yield (none,()))
   else pure (ForInStep.yield (none,())):Sem (ForInStep (Option Bool×Unit)))).run P w=.ok (if r then(none,())else(some false,())) w
 |[],r,h=>by have h:r=true:=h;simp_all
 |f::l,r,h=>by
  obtain⟨r0,r1,rfl,hn,a,b,ha,hb,he,hl⟩:=h;have ih:=b6z l r1 hl;rw[List.forIn_cons,d4X,if_pos hn,d4X,ha,d4V,d4X,hb,d4V,d4X,he,d4V];cases r0 with
  |true=>simp_all
  |false=>simp_all
def b5f{P:Program}{d:Nat}{t:TypeId}{fs:Array Field}{xs ys:Array Value}{r:Bool}{w:World}(hu:∀w,(underlying t).run P w=.ok (.struct fs) w)(hh:P.stoodInHeld t=false)(h:b6V P d xs ys w fs.toList r):(Op.equalIn (d+1) t (.agg xs) (.agg ys)).run P w=.ok r w:=by have hl:=b6z fs.toList r h;unfold Op.equalIn;rw[d4X,hu,d4V];have hp:(program:Sem Program).run P w=.ok P w:=rfl;dsimp only;rw[d4X,hp,d4V,hh,if_neg (by decide),<- Array.forIn_toList,d4X,hl,d4V];cases r <;> rfl
def bytes_beq(s t:z6):(ByteArray.mk s.toArray == ByteArray.mk t.toArray)=decide (s=t):=by
 show(s.toArray == t.toArray)=decide (s=t)
 grind
def eqLeaf_ok{t:Nat}{a b:E.SV}{p:Prop}{dp:Decidable p}{u v:Value}{w:World}(h:a7w E t a b=some ⟨p,dp⟩)(hu:e7 E.N E.T ρ Z w u a)(hv:e7 E.N E.T ρ Z w v b)(d:Nat)(w1:World):(isAgg t).run E.P w1=.ok false w1/\(Op.equalIn (d+1) t u v).run E.P w1=.ok (@decide p dp) w1:=by
 unfold a7w at h;cases a with
 |int k x =>
  cases b with
  |int k' y =>
   simp only at h;split at h
   . rename_i kk hi;split at h
     . rename_i hk;cases h;subst hk;have hr:=L3 hi w1;cases hu with|int _=>cases hv with|int _ =>
       refine⟨by simp[isAgg,d4X,hr,d4V],?_⟩;unfold Op.equalIn;rw[d4X,hr,d4V];simp only[if_true,d5O];congr 1
     . cases h
   . cases h
  |_=>cases h
 |str s =>
  cases b with
  |str s' =>
   obtain⟨hs,h⟩:=j3 h;cases h;have hr:=Z4 hs w1;cases hu with|str _=>cases hv with|str _ =>
   refine⟨by simp[isAgg,d4X,hr,d4V],?_⟩;unfold Op.equalIn;rw[d4X,hr,d4V];exact congrArg (Result.ok · w1) (bytes_beq s s')
  |_=>cases h
 |_=>cases h
def a2X{P:Program}{t:TypeId}{cs:Array Value}{o:Nat}{v:Value}{w:World}(ha:(isAgg t).run P w=.ok false w)(hc:cs[o]?=some v):(Go.part t cs o).run P w=.ok v w:=by simp[Go.part,d4X,ha,d4V,hc]
def eqAtom_ok{t:Nat}{a b:E.SV}{p:Prop}{dp:Decidable p}{u v:Value}{w:World}(h:b3G E t a b=some ⟨p,dp⟩)(hu:e7 E.N E.T ρ Z w u a)(hv:e7 E.N E.T ρ Z w v b)(d:Nat)(w1:World):(Op.equalIn (d+1) t u v).run E.P w1=.ok (@decide p dp) w1:=by
 unfold b3G at h;split at h
 . rename_i r hr;cases h;exact(eqLeaf_ok hr hu hv d w1).2
 . obtain⟨hb,h⟩:=j3 h;split at h
   . rename_i p' dp' q' dq' hp hq;cases h;rw[hu.a2o hp,hv.a2o hq];unfold Op.equalIn;rw[d4X,a8j hb w1,d4V];simp_all
   . cases h
def b1K{ls:List E.SV}{cs:List Value}{off t:Nat}{s:E.SV}(hr:e8 E.N E.T ρ Z w cs ls)(h:part E ls off t=some s):∃v,e7 E.N E.T ρ Z w v s/\∀w1,(Go.part t cs.toArray off).run E.P w1=.ok v w1:=by
 unfold part at h;split at h
 . rename_i ha;split at h
   . rename_i nn hs;obtain⟨hle,h⟩:=j3 h;simp only[d4T]at h;subst h;refine⟨.agg ((cs.drop off).take nn).toArray,(hr.drop off).take nn,fun w1=>?_⟩;have e:cs.toArray.extract off (off+nn)=((cs.drop off).take nn).toArray:=by
      apply d7t;simp[List.drop_take,d6M]
     have ha1:=a4w ha w1;have hs1:=M8 hs w1;unfold Go.part;simp_all
   . cases h
 . rename_i ha;obtain⟨v,hv2,hrep,_⟩:=hr.get off s h;exact⟨v,hrep,fun w1=>a2X (a4w ha w1) (by simp_all)⟩
 . cases h
def eqFs_ok{rec:Nat->E.SV->E.SV->Option PD}{d:Nat}{ls ms:List E.SV}{cs ds:List Value}{w1:World}(hrec:∀T a b p dp u v,rec T a b=some ⟨p,dp⟩->e7 E.N E.T ρ Z w u a->e7 E.N E.T ρ Z w v b->(Op.equalIn d T u v).run E.P w1=.ok (@decide p dp) w1)(hl:e8 E.N E.T ρ Z w cs ls)(hm:e8 E.N E.T ρ Z w ds ms):∀(l:List Field)(p:Prop)(dp:Decidable p),c2I E rec ls ms l=some ⟨p,dp⟩->b6V E.P d cs.toArray ds.toArray w1 l (@decide p dp)
 |[],p,dp,h=>by cases h;exact d5e trivial
 |f::r,p,dp,h=>by
  unfold c2I at h;obtain⟨hn,h⟩:=j3 h;split at h
  . rename_i a b ha hb;split at h
    . rename_i p1 dp1 q1 dq1 h1 h2;cases h;obtain⟨u,hu,ru⟩:=b1K hl ha;obtain⟨v,hv,rv⟩:=b1K hm hb;refine⟨@decide p1 dp1,@decide q1 dq1,?_,by simp_all,u,v,ru w1,rv w1,hrec _ _ _ _ _ _ _ h1 hu hv,eqFs_ok hrec hl hm r q1 dq1 h2⟩;simp_all
    . cases h
  . cases h
def eqVal_ok:∀(n T:Nat)(a b:E.SV)(p:Prop)(dp:Decidable p)(u v:Value),b2D E n T a b=some ⟨p,dp⟩->e7 E.N E.T ρ Z w u a->e7 E.N E.T ρ Z w v b->∀(d:Nat)(w1:World),(Op.equalIn (d+n) T u v).run E.P w1=.ok (@decide p dp) w1
 |0,_,_,_,_,_,_,_,h,_,_,_,_=>by cases h
 |n+1,T,a,b,p,dp,u,v,h,hu,hv,d,w1=>by
  unfold b2D at h;split at h
  . rename_i ls ms;split at h
    . rename_i fs hT;cases hh:E.P.stoodInHeld T with
      |true=>simp_all
      |false =>
       rw[hh,d5y]at h;obtain⟨cs,rfl,hl⟩:=hu.E5;obtain⟨ds,rfl,hm⟩:=hv.E5;exact b5f (d:=d+n) (run_underlying hT) hh (eqFs_ok (fun T a b p dp u v h hu hv=>eqVal_ok n T a b p dp u v h hu hv d w1) hl hm fs.toList p dp h)
    . cases h
  . exact eqAtom_ok h hu hv (d+n) w1
def c4D{P:Program}{m:Bool}{n:Nat}{ops:List Oper}{Q:Exit->Fr->World->Prop}{rest:List Oper}{f:Fr}{w:World}{d:Nat}{T T' ty:TypeId}{pos:String}{after:Array Edge}{x y:Operand}{xs ys:Array Value}{b:Bool}(hx:ev f x=.agg xs)(hy:ev f y=.agg ys)(hg:P.eqGuardType P.depth T=false)(he:∀w,(Op.equal T (.agg xs) (.agg ys)).run P w=.ok b w)(hn:Nat.blt d n=true)(K:WL P m n ops Q rest (D5 f d (.bool b)) w) :
  WL P m n ops Q (⟨some d,.binOp .eql T x y T',ty,pos,after,none⟩::rest) f w:=
 o9 rfl rfl hn (v:=.bool b) (fun w1 _=>by simp[execOp,hx,hy,eqGuard,binOp,go_sem,he,hg]) K
def c5B{P:Program}{m:Bool}{n:Nat}{ops:List Oper}{Q:Exit->Fr->World->Prop}{rest:List Oper}{f:Fr}{w:World}{d:Nat}{T T' ty:TypeId}{pos:String}{after:Array Edge}{x y:Operand}{xs ys:Array Value}{b:Bool}(hx:ev f x=.agg xs)(hy:ev f y=.agg ys)(hg:P.eqGuardType P.depth T=false)(he:∀w,(Op.equal T (.agg xs) (.agg ys)).run P w=.ok b w)(hn:Nat.blt d n=true)(K:WL P m n ops Q rest (D5 f d (.bool (!b))) w) :
  WL P m n ops Q (⟨some d,.binOp .neq T x y T',ty,pos,after,none⟩::rest) f w:=
 o9 rfl rfl hn (v:=.bool (!b)) (fun w1 _=>by simp[execOp,hx,hy,eqGuard,binOp,go_sem,he,hg]) K
def qEq2_ok{op:BinOp}{ls ms:List E.SV}{cs ds:List Value}(hx:ev f x=.agg cs.toArray)(hy:ev f y=.agg ds.toArray)(hl:e8 E.N E.T ρ Z w cs ls)(hm:e8 E.N E.T ρ Z w ds ms)(h:c6w E op T ls ms=some q)(hn:Nat.blt d n=true)(K:KQ E m n ops Q rest f w d ρ Z q) :
  WL E.P m n ops Q (⟨some d,.binOp op T x y T',ty,pos,after,none⟩::rest) f w:=by
 unfold c6w at h;split at h
 . rename_i fs hT;split at h
   . rename_i f0 f1 a0 a1 b0 b1 hfs;obtain⟨hb,h⟩:=j3 h;simp only[d4U,d6w,bne_iff_ne,ne_eq]at hb;obtain⟨⟨⟨⟨⟨g1,g2⟩,g3⟩,g4⟩,g5⟩,g6⟩:=hb;have g5:=d4W g5;have g6:=d4W g6;obtain⟨v0,r0,rfl,hv0,_,hl⟩:=e8.cons_inv hl;obtain⟨v1,r1,rfl,hv1,_,hl⟩:=e8.cons_inv hl;obtain rfl:=e8.A1 hl;obtain⟨u0,s0,rfl,hu0,_,hm⟩:=e8.cons_inv hm;obtain⟨u1,s1,rfl,hu1,_,hm⟩:=e8.cons_inv hm;obtain rfl:=e8.A1 hm;split at h
     . rename_i p dp q' dq e0 e1;have hfs':fs=#[f0,f1]:=by apply d7t;simpa using hfs
       have hu:∀w,(underlying T).run E.P w=.ok (.struct #[f0,f1]) w:=fun w=>by rw[<- hfs'];exact run_underlying hT w
       have he:∀w1,(Op.equal T (.agg #[v0,v1]) (.agg #[u0,u1])).run E.P w1=.ok (@decide p dp && @decide q' dq) w1:=fun w1=>by obtain⟨i0,k0⟩:=eqLeaf_ok e0 hv0 hu0 9998 w1;obtain⟨i1,k1⟩:=eqLeaf_ok e1 hv1 hu1 9998 w1;exact b43 (d:=9999) hu g3 g4 g1 (a2X i0 (by rw[g5];rfl)) (a2X i0 (by rw[g5];rfl)) (a2X i1 (by rw[g6];rfl)) (a2X i1 (by rw[g6];rfl)) k0 k1
       cases op with
       |eql =>
        simp only at h;refine c4D hx hy g2 he hn ?_;have:(@decide p dp && @decide q' dq)=@decide (p/\q') inferInstance:=by by_cases hp:p <;> by_cases hq:q' <;> simp[hp,hq]
        rw[this];exact K.W7 h
       |neq =>
        simp only at h;refine c5B hx hy g2 he hn ?_;have:(!(@decide p dp && @decide q' dq))=@decide (¬(p/\q')) inferInstance:=by by_cases hp:p <;> by_cases hq:q' <;> simp[hp,hq]
        rw[this];exact K.W7 h
       |_=>cases h
     . cases h
   . cases h
 . cases h
def qEqN_ok{op:BinOp}{ls ms:List E.SV}{cs ds:List Value}(hx:ev f x=.agg cs.toArray)(hy:ev f y=.agg ds.toArray)(hl:e8 E.N E.T ρ Z w cs ls)(hm:e8 E.N E.T ρ Z w ds ms)(h:c7C E op T ls ms=some q)(hn:Nat.blt d n=true)(K:KQ E m n ops Q rest f w d ρ Z q) :
  WL E.P m n ops Q (⟨some d,.binOp op T x y T',ty,pos,after,none⟩::rest) f w:=by
 unfold c7C at h;split at h
 . rename_i q2 h2;cases h;exact qEq2_ok hx hy hl hm h2 hn K
 . cases hg:E.P.eqGuardType E.P.depth T with
   |true=>simp_all
   |false =>
    rw[hg,d5y]at h;split at h
    . rename_i p dp he;have hq:∀w1,(Op.equal T (.agg cs.toArray) (.agg ds.toArray)).run E.P w1=.ok (@decide p dp) w1:=fun w1=>eqVal_ok 4 T (.agg ls) (.agg ms) p dp _ _ he hl hm 9996 w1;cases op with
      |eql =>
       simp only at h;exact c4D hx hy hg hq hn (K.W7 h)
      |neq =>
       simp only at h;refine c5B hx hy hg hq hn ?_;have:(!(@decide p dp))=@decide (¬p) inferInstance:=by by_cases hp:p <;> simp[hp]
       rw[this];exact K.W7 h
      |_=>cases h
    . cases h
def qBin_ok{op:BinOp}{sx sy:E.SV}(hx:e7 E.N E.T ρ Z w (ev f x) sx)(hy:e7 E.N E.T ρ Z w (ev f y) sy)(h:c6r E op T (isC y) sx sy=some q)(ho:q9 q.ob)(hn:Nat.blt d n=true)(K:KQ E m n ops Q rest f w d ρ Z q) :
  WL E.P m n ops Q (⟨some d,.binOp op T x y T',ty,pos,after,none⟩::rest) f w:=by
 have boolc:∀{s:E.SV},e7 E.N E.T ρ Z w (ev f x) s->(bif E.isBool T then(match prop s,prop sy with|some ⟨p,d⟩,some ⟨q,e⟩=>a48 op p q d e|_,_=>none)else none)=some q->WL E.P m n ops Q (⟨some d,.binOp op T x y T',ty,pos,after,none⟩::rest) f w:=fun{s} hs h=>by
  obtain⟨hb,h⟩:=j3 h;have hT:=a8j hb;cases hp:prop s with
  |none=>simp_all
  |some pd =>
   obtain⟨p,dp⟩:=pd;cases hq:prop sy with
   |none=>simp_all
   |some qd =>
    obtain⟨p',dp'⟩:=qd;rw[hp,hq]at h;have e1:=hs.a2o hp;have e2:=hy.a2o hq;cases op with
    |eql =>
     simp only[a48]at h;refine c8k hT e1 e2 hn ?_;rw[a0t (show(@decide p dp=@decide p' dp')↔(p↔p') by simp_all)];exact K.W7 h
    |neq =>
     simp only[a48]at h;refine c8A hT e1 e2 hn ?_;rw[a0t (show(@decide p dp≠@decide p' dp')↔¬(p↔p') by simp_all)];exact K.W7 h
    |_=>simp[a48]at h
 unfold c6r at h;cases sx with
 |int k a =>
  cases sy with
  |int k' b =>
   generalize hvx:ev f x=vx at hx;generalize hvy:ev f y=vy at hy;cases hx with
   |int ha=>cases hy with
    |int hb=>exact binNum_ok hvx hvy ha h ho hn K
  |_=>cases h
 |byte a =>
  cases sy with
  |byte b =>
   generalize hvx:ev f x=vx at hx;generalize hvy:ev f y=vy at hy;cases hx;cases hy;exact binByte_ok hvx hvy h ho hn K
  |_=>cases h
 |str a =>
  cases sy with
  |str b =>
   generalize hvx:ev f x=vx at hx;generalize hvy:ev f y=vy at hy;cases hx;cases hy;exact binStr_ok hvx hvy h ho hn K
  |_=>cases h
 |err a =>
  cases sy with
  |err b =>
   cases b with
   |nil =>
    have⟨hi,h2⟩:=j3 h;clear h;simp only[d4U]at hi;obtain⟨hc,hi⟩:=hi;obtain⟨ms,hT⟩:=b32 hi;cases y with
    |const v =>
     have hx':a5d E.T Z w (ev f x) a:=by
      generalize ev f x=vx at hx;cases hx with
      |err hx=>exact hx
     have hv:v=.nilIface:=by
      change e7 E.N E.T ρ Z w v _ at hy;cases hy with
      |err hy=>cases hy;rfl
     subst hv;cases op with
     |eql=>simp only[b08]at h2;exact c25 hT hx' hn (K.W7 h2)
     |neq=>simp only[b08]at h2;exact c0P hT hx' hn (K.W7 h2)
     |_=>simp[b08]at h2
    |_=>cases hc
   |_=>cases h
  |_=>cases h
 |ref id off =>
  cases sy with
  |M5 v =>
   cases v with
   |pointer a =>
    cases a with
    |none =>
     obtain⟨hi,h⟩:=j3 h;obtain⟨e,hT⟩:=a0T hi;generalize hvx:ev f x=vx at hx;generalize hvy:ev f y=vy at hy;cases hx;cases hy;cases op with
     |eql=>simp only[a1U]at h;exact c3N hT hvx hvy hn (K.q0 h .ff)
     |neq=>simp only[a1U]at h;exact c4z hT hvx hvy hn (K.q0 h .tt)
     |_=>simp[a1U]at h
    |some a=>cases h
   |_=>cases h
  |_=>cases h
 |M5 u =>
  cases sy with
  |M5 v =>
   cases u with
   |pointer a =>
    cases v with
    |pointer b =>
     cases a with
     |none =>
      cases b with
      |none =>
       obtain⟨hi,h⟩:=j3 h;obtain⟨e,hT⟩:=a0T hi;generalize hvx:ev f x=vx at hx;generalize hvy:ev f y=vy at hy;cases hx;cases hy;cases op with
       |eql=>simp only[a1U]at h;exact c3y hT hvx hvy hn (K.q0 h .tt)
       |neq=>simp only[a1U]at h;exact c33 hT hvx hvy hn (K.q0 h .ff)
       |_=>simp[a1U]at h
      |some b=>cases h
     |some a=>cases h
    |_=>cases h
   |_=>cases h
  |_=>cases h
 |tt=>grind
 |ff=>grind
 |bl p dp=>grind
 |agg ls =>
  cases sy with
  |agg ms =>
   generalize hvx:ev f x=vx at hx;generalize hvy:ev f y=vy at hy;obtain⟨cs,rfl,hl⟩:=e7.E5 hx;obtain⟨ds,rfl,hm⟩:=e7.E5 hy;exact qEqN_ok hvx hvy hl hm h hn K
  |_=>cases h
 |M9 =>
  cases sy with
  |M9 =>
   obtain⟨hi,h⟩:=j3 h;obtain⟨e,hT⟩:=a1Z hi;generalize hvx:ev f x=vx at hx;generalize hvy:ev f y=vy at hy;cases hx;cases hy;cases op with
   |eql=>simp only[a0q]at h;cases h;exact b6a hT hvx hvy hn (K.q0 rfl .tt)
   |neq=>simp only[a0q]at h;cases h;exact b5F hT hvx hvy hn (K.q0 rfl .ff)
   |_=>simp[a0q]at h
  |_=>cases h
 |sl t l =>
  cases sy with
  |M9 =>
   obtain⟨hi,h⟩:=j3 h;obtain⟨e,hT⟩:=a1Z hi;generalize hvx:ev f x=vx at hx;generalize hvy:ev f y=vy at hy;cases hy;have hA:l≠[]->∃a n' c,ev f x=.slice (some a) n' c:=fun hne=>by
    rw[hvx];cases hx with|sl hx =>
    obtain⟨_,A,cap,e1,⟨hn0,hcap⟩,_⟩:=hx;simp only[d6Z,and_true]at e1;subst e1;cases A with
    |some a=>exact⟨a,_,_,rfl⟩
    |none =>
     simp_all
   cases op with
   |eql =>
    simp only[a0q]at h;cases h;obtain⟨a,n',c,ha⟩:=hA ho.1;exact b5X hT ha hvy hn (K _ .ff trivial)
   |neq =>
    simp only[a0q]at h;cases h;obtain⟨a,n',c,ha⟩:=hA ho.1;exact b6m hT ha hvy hn (K _ .tt trivial)
   |_=>simp[a0q]at h
  |_=>cases h
 |_=>exact boolc hx h
end
section
variable{N:B8}{T:N6}{ρ:p4}{Z:Nat->Prop}{w:World}{v:Value}{s:SV N}{cs:List Value}{ss:List (SV N)}
def e8.app{c2:List Value}{s2:List (SV N)}(h:e8 N T ρ Z w cs ss)(h2:e8 N T ρ Z w c2 s2):e8 N T ρ Z w (cs++c2) (ss++s2):=by
 induction ss generalizing cs with
 |nil=>have:=e8.A1 h;simp_all
 |cons s ss ih=>obtain⟨v,r,rfl,h1,hp,h⟩:=e8.cons_inv h;exact e7.R8 h1 hp (ih h)
def e8.d3Y(h:e8 N T ρ Z w cs ss)(h1:e7 N T ρ Z w v s)(hp:D7 v=true):∀o:Nat,e8 N T ρ Z w (cs.set o v) (ss.set o s):=by
 intro o
 induction o generalizing cs ss with
 |zero =>
  cases ss with
  |nil=>have:=e8.A1 h;simp_all
  |cons s' ss=>obtain⟨v',r,rfl,_,_,h⟩:=e8.cons_inv h;exact e7.R8 h1 hp h
 |succ o ih =>
  cases ss with
  |nil=>have:=e8.A1 h;simp_all
  |cons s' ss=>obtain⟨v',r,rfl,h2,hp2,h⟩:=e8.cons_inv h;exact e7.R8 h2 hp2 (ih h)
def d1C:SV N->Bool
 |.un=>false
 |.undef=>false
 |.agg _=>false
 |.F5 _=>false
 |_=>true
def e7.b2b(h:e7 N T ρ Z w v s)(hf:d1C s=true):D7 v=true:=by
 cases h with
 |un=>cases hf
 |undef=>cases hf
 |a1P=>cases hf
 |R8 h hp r=>cases hf
 |M0=>cases hf
 |I8 h r=>cases hf
 |M5 h=>exact h
 |sl h=>obtain⟨A,cap,rfl⟩:=a0e h;rfl
 |err h=>cases h <;> rfl
 |_=>rfl
def b20{v:Value}(h:D7 v=true):v.cells=#[v]:=b7u h
end
section
variable{E:Env}{C:Ctx}{m:Bool}{n:Nat}{ops:List Oper}{Q:Exit->Fr->World->Prop}{rest:List Oper}{f:Fr}{w:World}{d:Nat}
variable{ty T T':TypeId}{pos:String}{after:Array Edge}{x y z:Operand}{k k':IntKind}{a b:Int}{ρ:p4}{Z:Nat->Prop}{its:c7 E.N}{nx:Nat}{q:Q1 E.N}
def e7.leaves{v:Value}{s:E.SV}(h:e7 E.N E.T ρ Z w v s)(hf:flat s=true):e8 E.N E.T ρ Z w v.cells.toList (leaves s):=by
 cases s with
 |agg vs=>obtain⟨cs,rfl,h⟩:=e7.E5 h;exact h
 |un=>cases hf
 |undef=>cases hf
 |F5 vs=>cases hf
 |_=>have hp:=h.b2b rfl;rw[b20 hp];exact e7.R8 h hp e7.a1P
def e8.J5{cs c:List Value}{ss vs:List E.SV}{o:Nat}(h:e8 E.N E.T ρ Z w cs ss)(hc:e8 E.N E.T ρ Z w c vs):e8 E.N E.T ρ Z w (E7 cs o c) (J5 E ss o vs):=by
 induction vs generalizing cs ss c o with
 |nil=>have:=e8.A1 hc;subst this;exact h
 |cons s vs ih=>obtain⟨v,r,rfl,h1,hp,h2⟩:=e8.cons_inv hc;exact ih (h.d3Y h1 hp o) h2
def c6J{P:Program}{m:Bool}{d:Nat}(hx:ev f x=.int k a)(hn:Nat.blt d n=true) (K:WL P m n ops Q rest (D5 f d (.int k (k.wrap (BitVec.ofInt k.bits (if k.signed then -1 else k.max) ^^^ BitVec.ofInt k.bits a).toNat))) w):WL P m n ops Q (⟨some d,.unOp .xor T x,ty,pos,after,none⟩::rest) f w:=
 o9 rfl rfl hn (v:=.int k (k.wrap (BitVec.ofInt k.bits (if k.signed then -1 else k.max) ^^^ BitVec.ofInt k.bits a).toNat)) (fun _ _=>by simp[execOp,hx,Op.unary,Op.intBits,go_sem]) K
def qUn_ok{op:UnOp}{sx:E.SV}(hx:e7 E.N E.T ρ Z w (ev f x) sx)(h:qUn op sx=some q)(ho:q9 q.ob)(hn:Nat.blt d n=true)(K:KQ E m n ops Q rest f w d ρ Z q) :
  WL E.P m n ops Q (⟨some d,.unOp op T x,ty,pos,after,none⟩::rest) f w:=by
 generalize hv:ev f x=vx at hx;unfold qUn at h;cases hx with
 |tt=>cases op <;> first|exact c0q hv hn (K.q0 h .ff)|cases h
 |ff=>cases op <;> first|exact c0q hv hn (K.q0 h .tt)|cases h
 | @bl p dp =>
  cases op with
  |not =>
   refine c0q hv hn ?_;rw[show(!@decide p dp)=decide (¬p) by simp];exact K.W7 h
  |_=>cases h
 | @int k a ha =>
  cases op with
  |neg =>
   cases k with
   |i64 =>
    simp only[d4T]at h;subst h;refine d2s hv hn ?_;rw[wrap64 ho.1];exact K _ (.int fun _=>ho.1) trivial
   |_=>cases h
  |xor=>cases k <;> exact c6J hv hn (K.q0 h (.int (a3s _)))
  |_=>cases h
 |_=>cases h
def c3d{cs:List Value}{vs:List E.SV}(h:e7 E.N E.T ρ Z w (.tuple cs.toArray) (.F5 vs)):∀(i:Nat)(s:E.SV),vs[i]?=some s->∃v,cs[i]?=some v/\e7 E.N E.T ρ Z w v s:=by
 induction vs generalizing cs with
 |nil=>simp_all
 |cons s vs ih =>
  obtain⟨v,r,rfl,h1,h2⟩:=e7.w4 h;grind
def qExtract_ok{i:Nat}{sx:E.SV}(hx:e7 E.N E.T ρ Z w (ev f x) sx)(h:a88 i sx=some q)(hn:Nat.blt d n=true)(K:KQ E m n ops Q rest f w d ρ Z q) :
  WL E.P m n ops Q (⟨some d,.extract x i,ty,pos,after,none⟩::rest) f w:=by
 generalize hv:ev f x=vx at hx;cases sx with
 |F5 vs =>
  simp only[a88]at h;obtain⟨cs,rfl⟩:=e7.a2I hx;split at h
  . rename_i s hs;obtain⟨v,h1,h2⟩:=c3d hx i s hs;exact b7P hv (by simp_all) hn (K.q0 h h2)
  . cases h
 |_=>cases h
def qIndexAddr_ok{sx si:E.SV}(hm:Mem E C ρ Z w its nx)(hx:e7 E.N E.T ρ Z w (ev f x) sx)(hy:e7 E.N E.T ρ Z w (ev f y) si)(h:a3V E its T si sx=some q)(ho:q9 q.ob)(hn:Nat.blt d n=true)(K:KQ E m n ops Q rest f w d ρ Z q) :
  WL E.P m n ops Q (⟨some d,.indexAddr T x y,ty,pos,after,none⟩::rest) f w:=by
 unfold a3V at h;split at h
 . rename_i e hs;have hT:=C4 hs;generalize hvx:ev f x=vx at hx;generalize hvy:ev f y=vy at hy;cases sx with
   |sl t l =>
    cases si with
    |int k a =>
     obtain⟨h1,h⟩:=j3 h;simp only[d4T]at h;subst h;cases hx with
     |sl hx =>
      cases hy with
      |int _ =>
       obtain⟨A,cap,rfl⟩:=a0e hx;exact c38 hx hT (a0i h1) rfl hvx hvy ho.1 ho.2.1 hn (K _ (.fel (off:=0) hx ho.1 ho.2.1) trivial)
    |_=>cases h
   |acc id =>
    simp only at h;split at h
    . rename_i k a t l hi;obtain⟨h1,h⟩:=j3 h;simp only[d4T]at h;subst h;cases hx with
      |acc hx =>
       cases hy with
       |int _ =>
        obtain⟨L,hL,hn1,_,hac⟩:=hm.at hi;rw[hx]at hL;cases hL;exact b8i hac hT (a0i h1) hvx hvy ho.1 (by rw[hn1];exact ho.2.1) hn (K _ (.el (off:=0) hx ho.1 (by rw[hn1];exact ho.2.1)) trivial)
    . rename_i k a t nn cells hi;obtain⟨h1,h⟩:=j3 h;simp only[d4T]at h;subst h;have ha0:0<=a:=ho.1;have ha1:a<(nn:Int):=ho.2.1;cases hx with
      |acc hx =>
       cases hy with
       |int _ =>
        obtain⟨L,F,hL,hn1,hb,hA,hrw,_⟩:=hm.at hi;rw[hx]at hL;cases hL;have hA:=hA (by omega);rw[hA,hn1]at hvx;refine b3s hT (a0i h1) hvx hvy ha0 (by omega) hn (K _ ?_ trivial);rw[d6I];exact .ref hx
    . cases h
   |sub id t lo nn =>
    simp only at h;split at h
    . rename_i k a t' l hi;obtain⟨h1,h⟩:=j3 h;simp only[d4T]at h;subst h;have ha0:0<=a:=ho.1;have ha1:a<nn:=ho.2.1;cases hx with
      |a3d hx l0 n0 l1 hc hA =>
       cases hy with
       |int _ =>
        obtain⟨L,hL,hn1,_,hac⟩:=hm.at hi;rw[hx]at hL;cases hL;rcases hac with⟨e1,e2,_⟩|⟨b,cap',C,T',e1,_,_,_,hle,_⟩
        . grind
        . simp only[d6G]at e1;obtain⟨eA1,_,ecap⟩:=e1;rw[if_neg (by omega),eA1]at hA;have hA:_=some (⟨b,0+lo.toNat*(E.N.tb t).r.sz,none⟩:Addr):=hA.trans (by
           show some (Addr.add ⟨b,0,none⟩ _)=_
           unfold Addr.add;simp_all)
          refine b3s hT (a0i h1) (hvx.trans (by rw[hA])) hvy ha0 (by omega) hn (K _ ?_ trivial);have hp:=e7.el (N:=E.N) (T:=E.T) (Z:=Z) (w:=w) (t:=t) (off:=0) (i:=lo+a) hx (by omega) (by omega);rw[eA1]at hp;have ez:0+lo.toNat*(E.N.tb t).r.sz+a.toNat*(E.N.tb t).r.sz=0+((lo+a).toNat*(E.N.tb t).r.sz+0):=by rw[show(lo+a).toNat=lo.toNat+a.toNat by omega,d6k];omega
          have e2:(eA (some ⟨b,0,none⟩) ((lo+a).toNat*(E.N.tb t).r.sz+0))=⟨b,0+lo.toNat*(E.N.tb t).r.sz+a.toNat*(E.N.tb t).r.sz,none⟩:=by rw[ez];rfl
          simp_all
    . cases h
   |_=>cases h
 . cases h
def c2O{fi o nn:Nat}(h:E.fld T fi=some (o,nn)):∃fs fd,(∀w,(underlying T).run E.P w=.ok (.struct fs) w)/\fs[fi]?=some fd/\(∀w,(sizeOf fd.type).run E.P w=.ok nn w)/\fd.offset=o:=by
 unfold Env.fld at h;split at h
 . rename_i fs hu;split at h
   . rename_i fd hf;split at h
     . rename_i sz hs;simp only[d4T,d5A]at h;obtain⟨rfl,rfl⟩:=h;exact⟨fs,fd,K6 hu,hf,M8 hs,rfl⟩
     . cases h
   . cases h
 . cases h
def qFieldAddr_ok{sx:E.SV}{fi o nn:Nat}(hx:e7 E.N E.T ρ Z w (ev f x) sx)(hf:E.fld T fi=some (o,nn))(hp:Nat.blt 0 nn=true)(h:a3T o sx=some q)(hn:Nat.blt d n=true)(K:KQ E m n ops Q rest f w d ρ Z q) :
  WL E.P m n ops Q (⟨some d,.fieldAddr T x fi,ty,pos,after,none⟩::rest) f w:=by
 obtain⟨fs,fd,hT,hfd,hz,rfl⟩:=c2O hf;have hp:=G4 hp;obtain⟨mm,rfl⟩:∃mm,nn=mm+1:=⟨nn-1,by omega⟩;generalize hv:ev f x=vx at hx;unfold a3T at h;cases hx with
 |ref hL=>exact b1w hT hfd hz hv hn (K.q0 h (.ref hL))
 |el hL h0 h1=>refine b5T hT hfd hz hv hn (K.q0 h ?_);rw[d7E];exact .el hL h0 h1
 |fel hL h0 h1=>refine b5T hT hfd hz hv hn (K.q0 h ?_);rw[d7E];exact .fel hL h0 h1
 |_=>cases h
def a36{b:Bool}(h:E.a7v T=some b):∀w,(isAgg T).run E.P w=.ok b w:=a4w h
def Cells.part{b o:Nat}{cs:List Value}(h:Cells w b o cs)(j k:Nat):Cells w b (o+j) ((cs.drop j).take k):=by obtain⟨C,T,z,hh,hc⟩:=h;refine⟨C,T,z,hh,fun i hi=>?_⟩;grind
def Cells.one{b o:Nat}{cs:List Value}{v:Value}(h:Cells w b o cs){j:Nat}(hj:cs[j]?=some v):Cells w b (o+j) [v]:=by
 obtain⟨C,T,z,hh,hc⟩:=h;have hlt:j<cs.length:=by
  rcases d5B j cs.length with h|h
  . exact h
  . simp_all
 refine⟨C,T,z,hh,fun i hi=>?_⟩;simp_all
def part_ok{ls:List E.SV}{cs:List Value}{off:Nat}{s:E.SV}{ad:Addr}(hc:∀j,∃b o,ad=⟨b,o,none⟩/\(∀k,Cells w b (o+j) ((cs.drop j).take k))/\∀v,cs[j]?=some v->Cells w b (o+j) [v])(hr:e8 E.N E.T ρ Z w cs ls)(h:part E ls off T=some s)
  (hx:ev f x=.pointer (some ⟨ad.block,ad.off+off,none⟩)) (hn:Nat.blt d n=true) (K:∀v,e7 E.N E.T ρ Z w v s->WL E.P m n ops Q rest (D5 f d v) w) :
  WL E.P m n ops Q (⟨some d,.load T x,ty,pos,after,none⟩::rest) f w:=by
 obtain⟨b,o,rfl,h1,h2⟩:=hc off;unfold part at h;split at h
 . rename_i ha;split at h
   . rename_i nn hs;obtain⟨hle,h⟩:=j3 h;simp only[d4T]at h;subst h;have hle:=d5X hle;have hlen:=hr.len;exact b88 (a36 ha) (M8 hs) (cs:=(cs.drop off).take nn) (by grind) hx (h1 nn) hn (K _ ((hr.drop off).take nn))
   . cases h
 . rename_i ha;obtain⟨v,hv,hrep,_⟩:=hr.get off s h;exact c4c (a36 ha) hx (h2 v hv) hn (K v hrep)
 . cases h
def b2f{A:Option Addr}{q0:Nat}{cs:List Value}(h:b0K w (eA A q0) cs):∀j,∃b o,eA A q0=⟨b,o,none⟩/\(∀k,Cells w b (o+j) ((cs.drop j).take k))/\∀v,cs[j]?=some v->Cells w b (o+j) [v]:=fun j=>by obtain⟨hs,hc⟩:=h;refine⟨(eA A q0).block,(eA A q0).off,?_,fun k=>Cells.part hc j k,fun v hv=>Cells.one hc hv⟩;generalize eA A q0=a at hs;obtain⟨b,o,s⟩:=a;simp_all
def c36(A:Option Addr)(q0 off:Nat):eA A (q0+off)=⟨(eA A q0).block,(eA A q0).off+off,none⟩:=by
 cases A with
 |none=>rfl
 |some a=>obtain⟨b,o,s⟩:=a;simp[eA,d7E]
def c7Y{ps:List Prop}(h:∀p∈ps,p):q9 ps:=by
 induction ps with
 |nil=>trivial
 |cons p ps ih=>exact⟨h p (by simp),ih fun q hq=>h q (by simp[hq])⟩
def qEl_ok{t off:Nat}{l:List (E.N.U t)}{i:Int}{A:Option Addr}{c:List Value}(hc:b0K w (eA A (i.toNat*(E.N.tb t).r.sz)) c)(hr:(E.N.tb t).r.rd Z w c (ix l i))(h:qEl E t l i off T=some q)
  (hx:ev f x=.pointer (some (eA A (i.toNat*(E.N.tb t).r.sz+off)))) (hn:Nat.blt d n=true) (K:KQ E m n ops Q rest f w d ρ Z q) :
  WL E.P m n ops Q (⟨some d,.load T x,ty,pos,after,none⟩::rest) f w:=by
 unfold qEl at h;split at h
 . rename_i yy hty;split at h
   . rename_i s hs;simp only[d4T]at h;subst h;rw[c36]at hx;exact part_ok (b2f hc) (yy.sv_ok hr) hs hx hn (fun v hv=>K v hv (c7Y (yy.hy_ok hr)))
   . cases h
 . cases h
def qLoad_ok{sx:E.SV}(hm:Mem E C ρ Z w its nx)(hx:e7 E.N E.T ρ Z w (ev f x) sx)(h:b5J its T sx=some q)(hn:Nat.blt d n=true)(K:KQ E m n ops Q rest f w d ρ Z q) :
  WL E.P m n ops Q (⟨some d,.load T x,ty,pos,after,none⟩::rest) f w:=by
 generalize hv:ev f x=vx at hx;cases sx with
 |ref id off =>
  simp only[b5J]at h;split at h
  . rename_i Ty cells hi;split at h
    . rename_i s hs;cases hx with
      |ref hL =>
       obtain⟨L,cs,hL',hbs,ho,hr⟩:=hm.at hi;rw[hL]at hL';cases hL';exact part_ok (ad:=⟨_,0,none⟩) (fun j=>⟨_,0,rfl,fun k=>Cells.part ho.all j k,fun v hv=>Cells.one ho.all hv⟩) hr hs (by simp_all) hn (fun v hv=>K.q0 h hv)
    . cases h
  . rename_i t nn cells hi;have⟨hn0,h2⟩:=j3 h;clear h;have hn0:=G4 hn0;split at h2
    . rename_i s hs;cases hx with
      |ref hL =>
       obtain⟨L,F,hL',hn1,hb,hA,hrw,hr⟩:=hm.at hi;rw[hL]at hL';cases hL';have hA:=hA hn0;obtain⟨b,e1,_,hc⟩:=hrw.cells hn0;rw[hA]at e1;simp only[d4T,Addr.mk.injEq]at e1;rw[<- e1.1]at hc;exact part_ok (ad:=⟨_,0,none⟩) (fun j=>⟨_,0,rfl,fun k=>Cells.part hc j k,fun v hv=>Cells.one hc hv⟩) hr hs (by simp_all) hn (fun v hv=>K.q0 h2 hv)
    . cases h2
  . cases h
 |fel t l i off =>
  cases hx with
  |fel hL h0 h1 =>
   obtain⟨c,hc,hr⟩:=c3X (q:=i.toNat*(E.N.tb t).r.sz) (o:=0) hL (Sub.self _) rfl (d6r _).symm h0 h1;exact qEl_ok hc hr h hv hn K
 |el id t' i off =>
  simp only[b5J]at h;split at h
  . rename_i t l hi;have⟨ht,h2⟩:=j3 h;clear h;have:=d4W ht;subst this;cases hx with
    |el hL h0 h1 =>
     obtain⟨L,hL',hn1,_,hac⟩:=hm.at hi;rw[hL]at hL';cases hL';obtain⟨c,hc,hr⟩:=c3J (q:=i.toNat*(E.N.tb t).r.sz) (o:=0) hac (Sub.self _) rfl (d6r _).symm h0 h1;exact qEl_ok hc hr h2 hv hn K
  . cases h
 |_=>cases h
def qNil_ok{sx:E.SV}(hx:e7 E.N E.T ρ Z w (ev f x) sx)(h:c6O sx=some q)(hn:Nat.blt d n=true)(K:KQ E m n ops Q rest f w d ρ Z q) :
  WL E.P m n ops Q (⟨some d,.nilCheck x,ty,pos,after,none⟩::rest) f w:=by
 generalize hv:ev f x=vx at hx;unfold c6O at h;cases hx with
 |ref hL=>exact a6A hv hn (K.q0 h (.ref hL))
 |fel hr h0 h1=>exact a6A hv hn (K.q0 h (.fel hr h0 h1))
 |_=>cases h
def qIndex_ok{sx si:E.SV}(hx:e7 E.N E.T ρ Z w (ev f x) sx)(hy:e7 E.N E.T ρ Z w (ev f y) si)(h:b3P E T si sx=some q)(ho:q9 q.ob)(hn:Nat.blt d n=true)(K:KQ E m n ops Q rest f w d ρ Z q) :
  WL E.P m n ops Q (⟨some d,.index T x y,ty,pos,after,none⟩::rest) f w:=by
 generalize hvx:ev f x=vx at hx;generalize hvy:ev f y=vy at hy;unfold b3P at h;cases hx with
 |str hl =>
  cases hy with
  |int ha =>
   obtain⟨hs,h⟩:=j3 h;simp only[d4T]at h;subst h;exact b9o (Z4 hs) hvx hvy ho.1 ho.2.1 hn (K _ .byte trivial)
  |_=>cases h
 |_=>cases h
def b6d{fs:Array Field}{fd:Field}{fi:Nat}{cs:Array Value}{v:Value}(hT:∀w,(underlying T).run E.P w=.ok (.struct fs) w)(hf:fs[fi]?=some fd)(hx:ev f x=.agg cs)(hp:∀w,(Go.part fd.type cs fd.offset).run E.P w=.ok v w)(hn:Nat.blt d n=true)(K:WL E.P m n ops Q rest (D5 f d v) w) :
  WL E.P m n ops Q (⟨some d,.field T x fi,ty,pos,after,none⟩::rest) f w:=
 o9 rfl rfl hn (v:=v) (fun w1 _=>by have h:=hp w1;simp[Go.part,go_sem]at h;simp[execOp,hx,Instr.field,hT,hf,asAgg,go_sem,h]) K
def qField_ok{fi:Nat}{sx:E.SV}(hx:e7 E.N E.T ρ Z w (ev f x) sx)(h:b5c E T fi sx=some q)(hn:Nat.blt d n=true)(K:KQ E m n ops Q rest f w d ρ Z q) :
  WL E.P m n ops Q (⟨some d,.field T x fi,ty,pos,after,none⟩::rest) f w:=by
 generalize hv:ev f x=vx at hx;cases sx with
 |agg ls =>
  simp only[b5c]at h;obtain⟨cs,rfl,hr⟩:=hx.E5;split at h
  . rename_i fs hT;split at h
    . rename_i fd hf;split at h
      . rename_i s hp;unfold part at hp;split at hp
        . rename_i ha;split at hp
          . rename_i nn hs;obtain⟨hle,hp⟩:=j3 hp;simp only[d4T]at hp;subst hp;refine b6d (v:=.agg ((cs.drop fd.offset).take nn).toArray) (fun w=>K6 hT w) hf hv (fun w1=>?_) hn (K.q0 h ((hr.drop fd.offset).take nn));have e:cs.toArray.extract fd.offset (fd.offset+nn)=((cs.drop fd.offset).take nn).toArray:=by
             apply d7t;simp[List.drop_take,d6M]
            have ha1:=a36 ha w1;have hs1:=M8 hs w1;unfold Go.part;simp_all
          . cases hp
        . rename_i ha;obtain⟨v,hv2,hrep,_⟩:=hr.get fd.offset s hp;exact b6d (v:=v) (fun w=>K6 hT w) hf hv (fun w1=>a2X (a36 ha w1) (by simp_all)) hn (K.q0 h hrep)
        . cases hp
      . cases h
    . cases h
  . cases h
 |_=>cases h
end
section
variable{E:Env}{C:Ctx}{m:Bool}{n:Nat}{ops:List Oper}{Q:Exit->Fr->World->Prop}{rest:List Oper}{f:Fr}{w:World}{d:Nat}
variable{ty T T':TypeId}{pos:String}{after:Array Edge}{x y z:Operand}{k k':IntKind}{a b:Int}{ρ:p4}{Z:Nat->Prop}{its:c7 E.N}{nx:Nat}{q:Q1 E.N}
def a7W{α:Type}{r:Rd α}{D:Nat->Prop}{A:Option Addr}{l:List α}{cap a b:Nat}(h:(p7 r).rd D w [.slice A l.length cap] l)(h1:a<=b)(h2:b<=l.length) :
  (p7 r).rd D w [.slice (if cap=a then A else A.map (·.add (a*r.sz))) (b-a) (cap-a)] ((l.take b).drop a):=by
 obtain⟨hl,A',cap',e,⟨h0,hc⟩,hr⟩:=h;simp at e;obtain⟨rfl,rfl⟩:=e;have hlen:((l.take b).drop a).length=b-a:=by rw[d6N,d5n];omega
 refine⟨by omega,_,_,by rw[hlen],⟨fun hA=>?_,by omega⟩,fun i hi=>?_⟩
 . split at hA
   all_goals simp_all
 . rw[hlen]at hi;obtain⟨bb,o,c,rfl,hb,hcc,hrr⟩:=hr (a+i) (by omega);have e1:((l.take b).drop a)[i]'(by omega)=l[a+i]'(by omega):=by rw[List.getElem_drop,d7k]
   rw[e1];rw[if_neg (by omega)];refine⟨bb,o+a*r.sz,c,?_,hb,by grind,hrr⟩;simp only[d7u,d4T,Addr.add];simp_all
def b1o{e nn cap sz:Nat}{A:Option Addr}{lo hi:Option Operand}{a b:Int}(hT:∀w,(underlying T).run E.P w=.ok (.slice e) w)(hz:∀w,(sizeOf e).run E.P w=.ok sz w)(hx:ev f x=.slice A nn cap)
  (hlo:match lo with|some o=>ev f o=.int .i64 a|none=>a=0) (hhi:match hi with|some o=>ev f o=.int .i64 b|none=>b=nn) (h0:0<=a/\a<=b/\b<=nn) (hc:nn<=cap) (hn:Nat.blt d n=true)
  (K:WL E.P m n ops Q rest (D5 f d (.slice (if cap=a.toNat then A else A.map (·.add (a.toNat*sz))) (b.toNat-a.toNat) (cap-a.toNat))) w):WL E.P m n ops Q (⟨some d,.slice T x lo hi none,ty,pos,after,none⟩::rest) f w:=
 o9 rfl rfl hn (fun _ _=>by
  have hb0:0<=b:=by omega
  have hb1:b<=(cap:Int):=by omega
  have hbn:b.toNat<=cap:=by omega
  have hab:a<=((b.toNat:Nat):Int):=by omega
  cases lo with
  |none =>
   simp only at hlo;subst hlo;cases hi with
   |none=>simp only at hhi;subst hhi;simp[execOp,hx,Instr.sliceAt,Instr.slice,Instr.sliceBounds,hT,hz,go_sem]
   |some o2=>simp only at hhi;simp[execOp,hx,hhi,Instr.sliceAt,Instr.slice,Instr.sliceBounds,Instr.sliceBound,asIntOf,hT,hz,go_sem,hb0,hb1]
  |some o1 =>
   simp only at hlo;cases hi with
   |none=>simp only at hhi;subst hhi;simp[execOp,hx,hlo,Instr.sliceAt,Instr.slice,Instr.sliceBounds,Instr.sliceBound,asIntOf,hT,hz,go_sem,h0.1,h0.2.1]
   |some o2=>simp only at hhi;simp[execOp,hx,hlo,hhi,Instr.sliceAt,Instr.slice,Instr.sliceBounds,Instr.sliceBound,asIntOf,hT,hz,go_sem,hb0,hb1,h0.1,hab];omega) K
def b4l{s:E.SV}{v:Value}{a:Int}(h:e7 E.N E.T ρ Z w v s)(e:asI s=some a):v=.int .i64 a:=by
 cases h with
 | @int k x _=>cases k <;> simp[asI]at e;subst e;rfl
 |_=>simp[asI]at e
def LoP(f:Fr)(lo:Option Operand)(a z:Int):Prop:=match lo with|some o=>ev f o=.int .i64 a|none=>a=z
def b6G{e:Operand->E.SV}(he:∀o,e7 E.N E.T ρ Z w (ev f o) (e o)){lo:Option Operand}{a:Option Int}(h:b4s e lo=some a)(z:Int) :
  LoP f lo (a.getD z) z:=by
 cases lo with
 |none=>simp[b4s]at h;subst h;rfl
 |some o =>
  simp only[b4s,d5g]at h;obtain⟨b,hb,rfl⟩:=h;exact b4l (he o) hb
def qSlice_ok{e:Operand->E.SV}(he:∀o,e7 E.N E.T ρ Z w (ev f o) (e o)){lo hi:Option Operand}{a b:Option Int}(ha:b4s e lo=some a)(hb:b4s e hi=some b)(hm:Mem E C ρ Z w its nx)(h:b4D E its T a b (e x)=some q)(ho:q9 q.ob)(hn:Nat.blt d n=true)(K:KQ E m n ops Q rest f w d ρ Z q) :
  WL E.P m n ops Q (⟨some d,.slice T x lo hi none,ty,pos,after,none⟩::rest) f w:=by
 have hx:=he x;generalize hv:ev f x=vx at hx;generalize e x=sx at hx h;have key:∀(len:Nat),q9 (c4e len a b)->LoP f lo (a.getD 0) 0/\LoP f hi (b.getD len) len/\0<=a.getD 0/\a.getD 0<=b.getD len/\b.getD len<=len /\
   ∀(α:Type)(l:List α),l.length=len->b4Q l a b=(l.take (b.getD len).toNat).drop (a.getD 0).toNat:=fun len ho=>by
  refine⟨b6G he ha 0,b6G he hb len,?_⟩;cases a with
  |none =>
   cases b with
   |none=>exact⟨by simp,by simp,by simp,fun α l hl=>by simp[b4Q,<- hl]⟩
   |some b=>exact⟨by simp,by simpa using ho.1,ho.2.1,fun α l hl=>by simp[b4Q]⟩
  |some a =>
   cases b with
   |none=>exact⟨ho.1,ho.2.1,by simp,fun α l hl=>by simp[b4Q,<- hl]⟩
   |some b=>exact⟨ho.1,ho.2.1,ho.2.2.1,fun α l hl=>by simp[b4Q]⟩
 unfold b4D at h;cases sx with
 |str s =>
  have⟨hs,h2⟩:=j3 h;simp only[d4T]at h2;subst h2;cases hx with
  |str hl =>
   obtain⟨k1,k2,k3,k4,k5,k6⟩:=key s.length ho;refine b8R (Z4 hs) hv k1 k2 ⟨k3,k4,k5⟩ hn ?_;rw[<- k6 _ s rfl];exact K _ (.str (by rw[k6 _ s rfl,d6N,d5n];omega)) trivial
 |sl t l =>
  simp only at h;split at h
  . rename_i ee hs;have⟨h1,h2⟩:=j3 h;simp only[d4T]at h2;subst h2;cases hx with
    |sl hx =>
     obtain⟨A,cap,rfl⟩:=a0e hx;obtain⟨k1,k2,k3,k4,k5,k6⟩:=key l.length ho;have hcap:l.length<=cap:=by obtain⟨_,A',cap',e',⟨_,hc⟩,_⟩:=hx;simp at e';omega
     refine b1o (C4 hs) (a0i h1) hv k1 k2 ⟨k3,k4,k5⟩ hcap hn ?_;refine K _ (.sl ?_) trivial;rw[k6 _ l rfl];exact a7W hx (by omega) (by omega)
  . cases h
 |acc id =>
  simp only at h;split at h
  . rename_i ee t l hs hi;have⟨h1,h2⟩:=j3 h;simp only[d4T]at h2;subst h2;cases hx with
    |acc hL =>
     rename_i L;obtain⟨L',hL',hn1,hlen,hac⟩:=hm.at hi;rw[hL]at hL';cases hL';obtain⟨k1,k2,k3,k4,k5,k6⟩:=key l.length ho;have hcap:L.n<=L.cap:=by
      rcases hac with⟨e1,e2,_⟩|⟨b,cap',C,T',e1,_,_,_,hc,_⟩
      . simp_all
      . simp_all
     refine b1o (C4 hs) (a0i h1) hv k1 (by rw[hn1];exact k2) ⟨k3,k4,by omega⟩ hcap hn ?_;refine K _ ?_ trivial;have en:(b.getD l.length).toNat-(a.getD 0).toNat=(b.getD l.length-a.getD 0).toNat:=by omega
     rw[en];exact .a3d hL k3 (by omega) (by omega) rfl rfl
  . cases h
 |_=>cases h
def wrapE_ok{vs:List E.SV}{cs:List Value}{e:o6}(hr:e8 E.N E.T ρ Z w cs vs)(h:c0m E T vs=some e):a5d E.T Z w (.iface T (.agg cs.toArray)) e:=by
 unfold c0m at h;split at h
 . cases h
 . rename_i k hk;split at h
   . cases h;obtain⟨v1,r1,rfl,h1,_,hr⟩:=e8.cons_inv hr;obtain⟨v2,r2,rfl,h2,_,hr⟩:=e8.cons_inv hr;obtain rfl:=e8.A1 hr;cases h1 with|str hs =>
     cases h2 with|int hi =>
     exact .w hk (hi rfl) (fun h=>by omega)
   . cases h;obtain⟨v2,r2,rfl,h2,_,hr⟩:=e8.cons_inv hr;obtain rfl:=e8.A1 hr;cases h2 with|int hi =>
     exact .w (s:=[]) hk (hi rfl) (fun h=>by omega)
   . cases h;obtain⟨v2,r2,rfl,h2,_,hr⟩:=e8.cons_inv hr;obtain rfl:=e8.A1 hr;cases h2 with|err h2 =>
     cases h2 with|no hi =>
     exact .w (s:=[]) hk hi (fun h=>by omega)
   . rename_i k';obtain rfl:=e8.A1 hr;split at h
     . rename_i hle;cases h;exact .w (s:=[]) hk ⟨by omega,by omega⟩ (fun _=>by omega)
     . cases h
   . cases h
def c0K:TypeDesc->Bool
 |.interface _=>false
 |_=>true
def b8z(h:E.a7v T=some true):∃X:TypeDesc,(∀w,(underlying T).run E.P w=.ok X w)/\c0K X=true:=by
 unfold Env.a7v at h;split at h
 . rename_i fs hu;exact⟨_,K6 hu,rfl⟩
 . rename_i a b hu;exact⟨_,K6 hu,rfl⟩
 . cases h
 . cases h
def a86{vs:List E.SV}(hx:e7 E.N E.T ρ Z w (ev f x) (.agg vs))(h:a7a E T (.agg vs)=some q)(hn:Nat.blt d n=true)(K:KQ E m n ops Q rest f w d ρ Z q) :
  WL E.P m n ops Q (⟨some d,.makeInterface T x,ty,pos,after,none⟩::rest) f w:=by
 simp only[a7a]at h;split at h
 . rename_i hT;split at h
   . rename_i e he;obtain⟨X,h1,h2⟩:=b8z hT;obtain⟨cs,hv,hr⟩:=e7.E5 hx;exact a2F h1 (by cases X <;> first|rfl|cases h2) hv hn (K.q0 h (.err (wrapE_ok hr he)))
   . cases h
 . cases h
def qMakeI_ok{sx:E.SV}(hx:e7 E.N E.T ρ Z w (ev f x) sx)(h:a7a E T sx=some q)(hn:Nat.blt d n=true)(K:KQ E m n ops Q rest f w d ρ Z q) :
  WL E.P m n ops Q (⟨some d,.makeInterface T x,ty,pos,after,none⟩::rest) f w:=by
 generalize hv:ev f x=vx at hx;unfold a7a at h;cases hx with
 | @int k a ha =>
  cases k with
  |i64 =>
   have⟨h1,h2⟩:=j3 h;simp only[d4U]at h1;obtain⟨e1,e2⟩:=h1;have e1:=d4W e1;cases hi:E.intOf T with
   |none=>simp_all
   |some k =>
    refine a2F (L3 hi) rfl hv hn (K.q0 h2 (.err ?_));rw[e1];exact .no (ha rfl)
  |_=>cases h
 |ref hL =>
  have⟨h1,h2⟩:=j3 h;simp only[d4U]at h1;obtain⟨e,hT⟩:=a0T h1.1;exact a2F hT rfl hv hn (K.q0 h2 (.ifc (.ref hL)))
 |a1P=>exact a86 (vs:=[]) (by rw[hv];exact .a1P) h hn K
 |R8 h1 hp r=>exact a86 (by rw[hv];exact .R8 h1 hp r) h hn K
 |_=>cases h
def b7e{fs:List Field}{fl:List (Nat×Nat)}(h:fs.mapM (fun f=>(E.size f.type).map fun s=>(f.offset,s))=some fl)(w:World):(fs.mapM (fun(fd:Field)=>do pure (fd.offset,<- sizeOf fd.type)):Sem (List (Nat×Nat))).run E.P w=.ok fl w:=by
 induction fs generalizing fl with
 |nil=>simp_all
 |cons f fs ih =>
  rw[List.mapM_cons]at h;simp only[Option.bind_eq_bind,d5j,Option.pure_def,d4T,d5g]at h;obtain⟨p,⟨s,hs,rfl⟩,r,hr,rfl⟩:=h;rw[List.mapM_cons];simp only[d4X,M8 hs,d4V,d5O,ih hr]
def buildP_ok{e:Operand->E.SV}(he:∀o,e7 E.N E.T ρ Z w (ev f o) (e o)){fl:List (Nat×Nat)}:∀{ps:List (Nat×Operand)}{ls ls':List E.SV}{cs:List Value},b0E E fl e ps ls=some ls'->e8 E.N E.T ρ Z w cs ls ->
  a5f fl cs.length (ps.map fun p=>(p.1,ev f p.2))=true/\e8 E.N E.T ρ Z w (a6H fl cs (ps.map fun p=>(p.1,ev f p.2))) ls'
 |[],ls,ls',cs,h,hr=>by cases h;exact⟨rfl,hr⟩
 |p::ps,ls,ls',cs,h,hr=>by
  unfold b0E at h;split at h
  . rename_i o nn hp;have⟨h1,h2⟩:=j3 h;simp only[d4U]at h1;obtain⟨⟨a1,a2⟩,a3⟩:=h1;have a2:=d4W a2;have a3:=d5X a3;have hl:=(he p.2).leaves a1;have hlen:=hl.len;have hcl:=hr.len;have hlt:p.1<fl.length:=by
     rcases d5B p.1 fl.length with h|h
     . exact h
     . simp_all
    have hd:fl.getD p.1 (0,0)=(o,nn):=by simp[d5Z,hp]
    have ih:=buildP_ok he h2 (hr.J5 (o:=o) hl);rw[L5]at ih;refine⟨?_,?_⟩
    . simp only[d6f,a5f,hd,d4U];simp_all
    . simp only[d6f,a6H,hd];exact ih.2
  . cases h
def b1Z{v:Value}(hi:okc v=true):e7 E.N E.T ρ Z w v (c3z v):=by
 cases v with
 |int k x =>
  cases k with
  |u8 =>
   simp only[okc,d4U,d6e]at hi;have e:Value.int .u8 x=bv (UInt8.ofNat x.toNat):=by unfold bv;rw[d8y];congr 1;have:x.toNat%2 ^ 8=x.toNat:=Nat.mod_eq_of_lt (by omega);omega
   show e7 E.N E.T ρ Z w (.int .u8 x) (.byte (UInt8.ofNat x.toNat))
   rw[e];exact .byte
  |i64=>simp only[okc,d4U,d6e]at hi;exact .int fun _=>hi
  |_=>exact .int fun e=>by cases e
 |bool b =>
  cases b
  . exact .ff
  . exact .tt
 |string b =>
  have e:Value.string b=sv b.data.toList:=by cases b;simp[sv]
  show e7 E.N E.T ρ Z w (.string b) (.str b.data.toList)
  rw[e];exact .str (d5X hi)
 |slice a n c =>
  cases a with
  |none =>
   cases n with
   |zero =>
    cases c with
    |zero=>exact .M9
    |succ c=>exact .M5 rfl
   |succ n=>exact .M5 rfl
  |some a=>exact .M5 rfl
 |nilIface=>exact .err .nil
 |agg cs=>cases hi
 |tuple cs=>cases hi
 |_=>exact .M5 rfl
def b79{v:Value}(h:okc v=true):D7 v=true:=by
 cases v with
 |agg cs=>cases h
 |tuple cs=>cases h
 |_=>rfl
def c07{v:Value}:e7 E.N E.T ρ Z w v (c8b v):=by
 unfold c8b;cases h:okc v with
 |true=>exact b1Z h
 |false=>exact .un
def a4C{v:Value}:e7 E.N E.T ρ Z w v (cst v):=by
 unfold cst;split
 . rename_i cs;cases h:cs.toList.all okc with
   |false=>exact .un
   |true =>
    rw[d5r];have key:∀l:List Value,l.all okc=true->e8 E.N E.T ρ Z w l (l.map c3z):=by
     intro l
     induction l with
     |nil=>exact fun _=>e8.nil
     |cons v r ih =>
      intro h;simp only[d6S,d4U]at h;exact e7.R8 (b1Z h.1) (b79 h.1) (ih h.2)
    exact key _ h
 . exact c07
def qBuild_ok{e:Operand->E.SV}(he:∀o,e7 E.N E.T ρ Z w (ev f o) (e o)){ps:Array (Nat×Operand)}(h:b3Q E e T ps.toList=some q)(hn:Nat.blt d n=true)(K:KQ E m n ops Q rest f w d ρ Z q) :
  WL E.P m n ops Q (⟨some d,.build T ps,ty,pos,after,none⟩::rest) f w:=by
 unfold b3Q at h;split at h
 . rename_i ls fl hz hf;split at h
   . rename_i ls' hb;unfold Env.zero at hz;simp only[d5g]at hz;obtain⟨zv,hz,hc⟩:=hz;have hr:e7 E.N E.T ρ Z w zv (.agg ls):=by rw[<- hc];exact a4C
     obtain⟨cs,rfl,hr⟩:=e7.E5 hr;obtain⟨h1,h2⟩:=buildP_ok he hb hr;unfold Env.c97 at hf;split at hf
     . rename_i fs hu;refine c3o (K6 hu) (a2D hz) (pl:=fl.toArray) (fun w=>?_) (by simpa[Value.cells]using h1) rfl hn (K.q0 h (by simpa[Value.cells,e8]using h2));have:=b7e hf w;rw[Array.mapM_eq_mapM_toList];simp_all
     . cases hf
   . cases h
 . cases h
def a9C{t:Nat}(h:E.N.tb t=⟨UInt8,U7,⟨0⟩⟩)(l:List (E.N.U t))(e:List (E.N.U t)=z6){v:Value} :
  ((p7 (E.N.tb t).r).rd Z w [v] l->(p7 U7).rd Z w [v] (cast e l))/\(∀bs,Ac (E.N.tb t).r Z w v l bs->Ac U7 Z w v (cast e l) bs):=by
 grind
def qBytes_ok{t:Nat}{l:List (E.N.U t)}{S D:Nat}(hd:E.isStr D=true)(h:a84 E S t l=some q)(hx:(∃D:Nat->Prop,(p7 (E.N.tb t).r).rd D w [ev f x] l)∨∃bs,Ac (E.N.tb t).r Z w (ev f x) l bs/\l.length<=9223372036854775807)(hn:Nat.blt d n=true)(K:KQ E m n ops Q rest f w d ρ Z q) :
  WL E.P m n ops Q (⟨some d,.convert S D x,ty,pos,after,none⟩::rest) f w:=by
 unfold a84 at h;split at h
 . rename_i e hs;split at h
   . rename_i hi;split at h
     . rename_i s hb;unfold bytesOf at hb;split at hb
       . rename_i yy hy;split at hb
         . rename_i h8 hb8;simp only[d4T]at hb;subst hb;have hc:=a9C (Z:=Z) (w:=w) (v:=ev f x) h8.down l (by grind);have hl:(cast (by grind) l:z6).length=l.length:=by
            have:∀(α β:Type)(e:α=β)(l:List α)(e2:List α=List β),(cast e2 l:List β).length=l.length:=by intro α β e l e2;subst e;rfl
            exact this (E.N.U t) UInt8 (by rw[B8.U,h8.down]) l _
           rcases hx with⟨D,hx⟩|⟨bs,hx,hlen⟩
           . have hc:=a9C (Z:=D) (w:=w) (v:=ev f x) h8.down l (by grind);exact a8c (C4 hs) (Z4 hd) (L3 hi) (Src.data (hc.1 hx)) hn (K.q0 h (.str (a7x (hc.1 hx))))
           . exact a8c (C4 hs) (Z4 hd) (L3 hi) (Src.ac (hc.2 bs hx)) hn (K.q0 h (.str (by omega)))
         . cases hb
       . cases hb
     . cases h
   . cases h
 . cases h
def d1F{c:UInt8}{k:IntKind}(h:k≠.i8):k.wrap (c.toNat:Int)=c.toNat:=by have:=c.toNat_lt;cases k <;> simp[IntKind.wrap,IntKind.bits,IntKind.signed]at * <;> omega
def qConvert_ok{S D:Nat}{sx:E.SV}(hm:Mem E C ρ Z w its nx)(hx:e7 E.N E.T ρ Z w (ev f x) sx)(h:a0f E its S D sx=some q)(hn:Nat.blt d n=true)(K:KQ E m n ops Q rest f w d ρ Z q) :
  WL E.P m n ops Q (⟨some d,.convert S D x,ty,pos,after,none⟩::rest) f w:=by
 generalize hv:ev f x=vx at hx;cases sx with
 |byte c =>
  simp only[a0f]at h;split at h
  . rename_i k0 k hk0 hk;cases hx;have hv':ev f x=.int .u8 c.toNat:=hv;have ci:∀(hk8:k≠.i8),WL E.P m n ops Q rest (D5 f d (.int k c.toNat)) w->WL E.P m n ops Q (⟨some d,.convert S D x,ty,pos,after,none⟩::rest) f w:=fun hk8 K=>b0U (L3 hk0) (L3 hk) hv' hn (by rw[d1F hk8];exact K);cases k with
    |u8=>exact ci (by decide) (K.q0 h .byte)
    |i8=>cases h
    |i64=>refine ci (by decide) (K.q0 h (.int fun _=>?_));have:=c.toNat_lt;unfold InI;omega
    |_=>exact ci (by decide) (K.q0 h (.int fun e=>by cases e))
  . cases h
 |int ks a =>
  simp only[a0f]at h;split at h
  . rename_i k0 k hk0 hk;cases hx;cases k with
    |u8=>exact c3D (L3 hk0) (L3 hk) hv hn (K.q0 h .byte)
    |_=>exact b0U (L3 hk0) (L3 hk) hv hn (K.q0 h (.int (a3s a)))
  . cases h
 |sl t l =>
  simp only[a0f]at h;have⟨h1,h2⟩:=j3 h;cases hx with
  |sl hx=>exact qBytes_ok h1 h2 (.inl ⟨Z,by simp_all⟩) hn K
 |acc id =>
  simp only[a0f]at h;split at h
  . rename_i t l hi;have⟨h1,h2⟩:=j3 h;cases hx with
    |acc hL =>
     obtain⟨L,hL',hn1,hlen,hac⟩:=hm.at hi;rw[hL]at hL';cases hL';exact qBytes_ok h1 h2 (.inr ⟨_,by rw[hv];exact hac,hlen⟩) hn K
  . cases h
 |sub id t2 lo nn =>
  simp only[a0f]at h;split at h
  . rename_i t l hi;have⟨h1,h2⟩:=j3 h;simp only[d4U]at h1;obtain⟨e2,h1⟩:=h1;have e2:=d4W e2;subst e2;obtain⟨L,hL,hn1,hlen,hac⟩:=hm.at hi;cases hx with
    |a3d hL' l0 n0 l1 hc hA' =>
     rw[hL]at hL';cases hL';have hrd:=Ac.rd hac hlen;rw[hn1]at hrd;have hs:=a7W (a:=lo.toNat) (b:=lo.toNat+nn.toNat) hrd (by omega) (by omega);rw[d6M]at hs;refine qBytes_ok h1 h2 (.inl ⟨_,by rw[hv,hc,hA'];exact hs⟩) hn K
  . cases h
 |_=>cases h
def qMM_ok{mx:Bool}{Ts:Array TypeId}{sx sy:E.SV}(hx:e7 E.N E.T ρ Z w (ev f x) sx)(hy:e7 E.N E.T ρ Z w (ev f y) sy)(h:qMM mx sx sy=some q)(hn:Nat.blt d n=true)(K:KQ E m n ops Q rest f w d ρ Z q) :
  WL E.P m n ops Q (⟨some d,.call ⟨.builtin (bif mx then .max else .min),#[x,y],Ts⟩,ty,pos,after,none⟩::rest) f w:=by
 generalize hvx:ev f x=vx at hx;generalize hvy:ev f y=vy at hy;unfold qMM at h;split at h
 . rename_i k a k' b;split at h
   . rename_i e;subst e;cases hx with
     |int ha =>
      cases hy with
      |int hb =>
       have hr:∀c,c=a∨c=b->k=.i64->InI c:=fun c hc e=>by grind
       cases mx with
       |true=>exact d2K hvx hvy hn (K.q0 h (.int (hr _ (by omega))))
       |false=>exact d0O hvx hvy hn (K.q0 h (.int (hr _ (by omega))))
   . cases h
 . cases h
def qLen_ok{sx:E.SV}{n0:Int}(hm:Mem E C ρ Z w its nx)(hx:e7 E.N E.T ρ Z w (ev f x) sx)(h:lenOf its T sx=some n0)(hn:Nat.blt d n=true)(K:∀v,e7 E.N E.T ρ Z w v (.int .i64 n0:E.SV)->WL E.P m n ops Q rest (D5 f d v) w) :
  WL E.P m n ops Q (⟨some d,.call ⟨.builtin .len,#[x],#[T]⟩,ty,pos,after,none⟩::rest) f w:=by
 generalize hvx:ev f x=vx at hx;have inI:∀k:Nat,k<=9223372036854775807->InI (k:Int):=fun k hk=>by unfold InI;omega
 unfold lenOf at h;cases hb:E.isStr T with
 |true =>
  rw[hb,d5r]at h;cases sx with
  |str s =>
   simp only[d4T]at h;subst h;cases hx with
   |str hl=>exact c8z (Z4 hb) hvx hn (K _ (.int fun _=>inI _ hl))
  |_=>cases h
 |false =>
  rw[hb,d5y]at h;cases hs:E.G1 T with
  |none=>simp_all
  |some e =>
   rw[hs]at h
   replace h:b8w its sx=some n0:=h
   cases sx with
   |sl t l =>
    simp only[b8w,d4T]at h;subst h;cases hx with
    |sl hx=>obtain⟨A,cap,rfl⟩:=a0e hx;exact b1u (C4 hs) hvx hn (K _ (.int fun _=>inI _ (a7x hx)))
   |M9 =>
    simp only[b8w,d4T]at h;subst h;cases hx;exact b1u (C4 hs) hvx hn (K _ (.int fun _=>by grind))
   |acc id =>
    simp only[b8w]at h;split at h
    . rename_i t l hi;simp only[d4T]at h;subst h;cases hx with
      |acc hL =>
       obtain⟨L,hL',hn1,hlen,hac⟩:=hm.at hi;rw[hL]at hL';cases hL';refine b1u (C4 hs) hvx hn ?_;rw[hn1];exact K _ (.int fun _=>inI _ hlen)
    . rename_i t nn cells hi;simp only[d4T]at h;subst h;cases hx with
      |acc hL =>
       obtain⟨L,F,hL',hn1,hb,_⟩:=hm.at hi;rw[hL]at hL';cases hL';refine b1u (C4 hs) hvx hn ?_;rw[hn1];exact K _ (.int fun _=>by grind)
    . cases h
   |sub id t lo nn =>
    simp only[b8w]at h;split at h
    . rename_i t' l hi;simp only[d4T]at h;subst h;cases hx with
      |a3d hL l0 h0 l1 hc hA =>
       obtain⟨L,hL',hn1,hlen,hac⟩:=hm.at hi;rw[hL]at hL';cases hL';refine b1u (C4 hs) hvx hn ?_;rw[Int.toNat_of_nonneg h0];exact K _ (.int fun _=>by grind)
    . cases h
   |_=>cases h
def d0k{α:Type}{a:Array α}{x:α}(h:a.toList=[x]):a=#[x]:=by grind
def c3t{α:Type}{a:Array α}{x y:α}(h:a.toList=[x,y]):a=#[x,y]:=by grind
def qCall_ok{e:Operand->E.SV}(hm:Mem E C ρ Z w its nx)(he:∀o,e7 E.N E.T ρ Z w (ev f o) (e o)){c:Call}(h:c1B E its e c=some q)(hn:Nat.blt d n=true)(K:KQ E m n ops Q rest f w d ρ Z q) :
  WL E.P m n ops Q (⟨some d,.call c,ty,pos,after,none⟩::rest) f w:=by
 obtain⟨cal,args,Ts⟩:=c;unfold c1B at h;cases cal with
 |builtin b =>
  simp only[b2y]at h;cases b with
  |len =>
   simp only at h;split at h
   . rename_i xx TT ha hT;obtain rfl:=d0k ha;obtain rfl:=d0k hT;split at h
     . rename_i n0 hl;exact qLen_ok hm (he xx) hl hn (fun v hv=>K.q0 h hv)
     . cases h
   . cases h
  |min =>
   simp only at h;split at h
   . rename_i xx yy ha;obtain rfl:=c3t ha;exact qMM_ok (mx:=false) (he xx) (he yy) h hn K
   . cases h
  |max =>
   simp only at h;split at h
   . rename_i xx yy ha;obtain rfl:=c3t ha;exact qMM_ok (mx:=true) (he xx) (he yy) h hn K
   . cases h
  |_=>cases h
 |_=>cases h
def qLook_ok{T:Nat}{sx key:E.SV}(hm:Mem E C ρ Z w its nx)(hx:e7 E.N E.T ρ Z w (ev f x) sx)(hk:e7 E.N E.T ρ Z w (ev f y) key)(h:c1C E its T key sx=some q)(hn:Nat.blt d n=true)(K:KQ E m n ops Q rest f w d ρ Z q) :
  WL E.P m n ops Q (⟨some d,.lookup T x y false,ty,pos,after,none⟩::rest) f w:=by
 generalize hv:ev f x=vx at hx;cases hx with
 |mp hL =>
  simp only[c1C]at h;split at h
  . rename_i k fid xx o hi ho;split at h
    . rename_i e;subst e;split at h
      . rename_i v' hg;obtain⟨L,Lf,hL',_,his⟩:=hm.at hi;rw[hL]at hL';cases hL';obtain⟨v,hr,run⟩:=o.look his hk hg;exact o9 rfl rfl hn (v:=v) (fun w1 hs=>by simp only[execOp,hv,d4X,run w1 hs];rfl) (K.q0 h hr)
      . cases h
    . cases h
  . cases h
 |_=>cases h
def stepQ_ok{e:Operand->E.SV}(hm:Mem E C ρ Z w its nx)(he:∀o,e7 E.N E.T ρ Z w (ev f o) (e o)){op:Op}(h:b9f E its e op=some q)(ho:q9 q.ob)(hn:Nat.blt d n=true)(K:KQ E m n ops Q rest f w d ρ Z q) :
  WL E.P m n ops Q (⟨some d,op,ty,pos,after,none⟩::rest) f w:=by
 unfold b9f at h;cases op with
 |move x=>exact c6A hn (K.q0 h (he x))
 |assign x=>exact b9j hn (K.q0 h (he x))
 |pick c a b =>
  simp only at h;have hc:=he c;generalize e c=sc at h hc;generalize hv:ev f c=vc at hc;unfold c5w at h;cases hc with
  |tt=>exact b9G hv hn (K.q0 h (he a))
  |ff=>exact b8V hv hn (K.q0 h (he b))
  |_=>cases h
 |binOp op T x y T'=>exact qBin_ok (he x) (he y) h ho hn K
 |unOp op T x=>exact qUn_ok (he x) h ho hn K
 |extract x i=>exact qExtract_ok (he x) h hn K
 |indexAddr T x i=>exact qIndexAddr_ok hm (he x) (he i) h ho hn K
 |fieldAddr T x fi =>
  simp only at h;split at h
  . rename_i o nn hf;have⟨h1,h2⟩:=j3 h;exact qFieldAddr_ok (he x) hf h1 h2 hn K
  . cases h
 |load T x=>exact qLoad_ok hm (he x) h hn K
 |field T x fi=>exact qField_ok (he x) h hn K
 |nilCheck x=>exact qNil_ok (he x) h hn K
 |index T x i=>exact qIndex_ok (he x) (he i) h ho hn K
 |slice T x lo hi mx =>
  simp only at h;split at h
  . rename_i a b ha hb;exact qSlice_ok he ha hb hm h ho hn K
  . cases h
 |makeInterface T x=>exact qMakeI_ok (he x) h hn K
 |build T ps=>exact qBuild_ok he h hn K
 |convert S D x=>exact qConvert_ok hm (he x) h hn K
 |makeFunc fn first caps =>
  simp only at h;cases fn with
  |func K' =>
   have⟨h1,h2⟩:=j3 h;simp only[d4U]at h1;obtain⟨h1,h3⟩:=h1;have h1:=d4W h1;obtain rfl:first=#[]:=Array.eq_empty_of_size_eq_zero h1;have ec:caps=caps.toList.toArray:=by simp
   rw[ec];refine b4z (xs:=[]) (ys:=caps.toList) hn (K.q0 h2 (.clo ?_));have key:∀l:List Operand,(l.map e).all isRef=true->e8 E.N E.T ρ Z w (l.map (ev f)) (l.map e):=by
    intro l
    induction l with
    |nil=>exact fun _=>e8.nil
    |cons o l ih =>
     intro h;simp only[d6f,d6S,d4U]at h;refine e7.R8 (he o) ((he o).b2b ?_) (ih h.2);have h':=h.1;generalize e o=so at h';cases so <;> first|rfl|cases h'
   exact key _ h3
  |_=>cases h
 |call c=>exact qCall_ok hm he h hn K
 |lookup T x i c =>
  cases c with
  |true=>cases h
  |false=>exact qLook_ok hm (he x) (he i) h hn K
 |_=>cases h
end
section
variable{B0:List Nat}{w0 w w':World}{Z Z':Nat->Prop}{l l':List It}
structure b3U(B0:List Nat)(Z:Nat->Prop)(w:World)(t t':It):Prop where
 P:t'.P Z w
 I3:t'.W9
 F:∀b∈t'.F,b∈t.F
 O:t'.O=B0
def Sep.sel(hs:Sep B0 w0 Z w l)(φ:Nat->Nat)(inj:∀i j,i<l'.length->j<l'.length->φ i=φ j->i=j)(h:∀(i:Nat)(t':It),l'[i]?=some t'->∃t,l[φ i]?=some t/\b3U B0 Z w t t'):Sep B0 w0 Z w l':=by
 have lt:∀{i:Nat}{t:It},l'[i]?=some t->i<l'.length:=fun{i t} h=>by grind
 refine⟨hs.ext,hs.zlt,fun i t' hi=>?_,fun i j s t hi hj hne b hb hb'=>?_⟩
 . obtain⟨t,ht,lk⟩:=h i t' hi;have ok:=hs.ok _ t ht;exact⟨lk.P,lk.I3,fun b hb=>ok.lt b (lk.F b hb),fun b hb=>ok.O2 b (lk.F b hb),fun b hb=>by
    rw[lk.O];rcases ok.org b (lk.F b hb)with h|h
    . exact .inl (ok.a5L b h)
    omega,fun b hb=>by rw[lk.O]at hb;exact hb⟩
 . obtain⟨s1,hs1,lk1⟩:=h i s hi;obtain⟨t1,ht1,lk2⟩:=h j t hj;exact hs.apart _ _ s1 t1 hs1 ht1 (fun e=>hne (inj i j (lt hi) (lt hj) e)) b (lk1.F b hb) (lk2.F b hb')
def Sep.conv(hs:Sep B0 w0 Z w l)(hl:l'.length=l.length)(h:∀(i:Nat)(t t':It),l[i]?=some t->l'[i]?=some t'->b3U B0 Z w t t'):Sep B0 w0 Z w l':=
 Sep.sel hs (fun i=>i) (fun _ _ _ _ e=>e) fun i t' hi=>by grind
end
section
variable{N:B8}{T:N6}{ρ ρ':p4}{B0:List Nat}{Z Z':Nat->Prop}{w w':World}{id:Nat}{i:Item N}
def u6{L:Loc}{Ty:Nat}{cells:List (SV N)}(h:ρ id=some L):u4 N ρ id (.own Ty cells)=L.bs:=by simp[u4,h]
def x7{L:Loc}{t:Nat}{l:List (N.U t)}(h:ρ id=some L):u4 N ρ id (.ac t l)=L.bs:=by simp[u4,h]
def F1{L:Loc}{k fid:Nat}{x:N.O k}(h:ρ fid=some L):u4 N ρ id (.ob k fid x)=L.bs:=by simp[u4,h]
def O8{L:Loc}{t n:Nat}{cells:List (SV N)}(h:ρ id=some L):u4 N ρ id (.rw t n cells)=L.bs:=by simp[u4,h]
def u5:(C9 N T ρ B0 id i).W9:=fun Z Z' B w w' h x hB hZ=>by
 have hZ':∀b,Z b->b<w.heap.size->Z' b:=fun b h _=>hZ b h;cases i with
 |own Ty cells =>
  obtain⟨L,cs,hL,hbs,ho,hr⟩:=h;have hF:∀b∈B,b∈[L.b]∨Z b->w.heap.size<=b:=fun b hb h=>hB b hb (by
   rcases h with h|h
   . left;show b∈u4 N ρ id (.own Ty cells);rw[u6 hL];simp_all
   simp_all)
  exact⟨L,cs,hL,hbs,ho.ext x (fun hm=>by have:=hF _ hm (.inl (by simp));have:=ho.lt;omega),hr.I3 x (fun b hb hz=>hF b hb (.inr hz)) hZ' (fun _ _ h=>h)⟩
 |ac t l =>
  obtain⟨L,hL,hn,hl,hac⟩:=h;exact⟨L,hL,hn,hl,hac.I3 x (fun b hb h=>hB b hb (by
   rcases h with h|h
   . left;show b∈u4 N ρ id (.ac t l);rw[x7 hL];exact h
   simp_all)) hZ⟩
 |fz t l =>
  obtain⟨L,hL,hn,hr⟩:=h;exact⟨L,hL,hn,Rd.mono _ hr x (fun b hb hz=>hB b hb (.inr hz)) hZ'⟩
 |ob k fid x' =>
  obtain⟨L,Lf,hL,hf,ho⟩:=h;exact⟨L,Lf,hL,hf,((N.oj k).ob L.b).I3 Z Z' B w w' ho x (fun b hb h=>hB b hb (by
   rcases h with h|h
   . left;show b∈u4 N ρ id (.ob k fid x');rw[F1 hf];exact h
   simp_all)) hZ⟩
 |rw t n cells =>
  obtain⟨L,F,hL,hn,hb,hA,hr,hrep⟩:=h;exact⟨L,F,hL,hn,hb,hA,hr.ext x (fun b hb h=>hB b hb (.inl (by show b∈u4 N ρ id (.rw t n cells);rw[O8 hL];exact h))),hrep.I3 x (fun b hb hz=>hB b hb (.inr hz)) hZ' (fun _ _ h=>h)⟩
def P7(hρ:∀i L,ρ i=some L->ρ' i=some L)(h:holds N T ρ id Z w i):holds N T ρ' id Z w i/\u4 N ρ' id i=u4 N ρ id i:=by
 cases i with
 |own Ty cells=>obtain⟨L,cs,hL,hbs,ho,hr⟩:=h;exact⟨⟨L,cs,hρ _ _ hL,hbs,ho,e7.sub hr hρ⟩,by rw[u6 hL,u6 (hρ _ _ hL)]⟩
 |ac t l=>obtain⟨L,hL,r⟩:=h;exact⟨⟨L,hρ _ _ hL,r⟩,by rw[x7 hL,x7 (hρ _ _ hL)]⟩
 |fz t l=>obtain⟨L,hL,r⟩:=h;exact⟨⟨L,hρ _ _ hL,r⟩,rfl⟩
 |ob k fid x=>obtain⟨L,Lf,hL,hf,r⟩:=h;exact⟨⟨L,Lf,hρ _ _ hL,hρ _ _ hf,r⟩,by rw[F1 hf,F1 (hρ _ _ hf)]⟩
 |rw t n cells=>obtain⟨L,F,hL,hn,hb,hA,hr,hrep⟩:=h;exact⟨⟨L,F,hρ _ _ hL,hn,hb,hA,hr,e7.sub hrep hρ⟩,by rw[O8 hL,O8 (hρ _ _ hL)]⟩
def a4t(hρ:∀i L,ρ i=some L->ρ' i=some L)(h:holds N T ρ id Z w i):b3U B0 Z w (C9 N T ρ B0 id i) (C9 N T ρ' B0 id i):=
 ⟨(P7 hρ h).1,u5,fun b hb=>by show b∈u4 N ρ id i;rw[<- (P7 (T:=T) hρ h).2];exact hb,rfl⟩
def a52(h:holds N T ρ id Z w i):b3U B0 Z w (C9 N T ρ B0 id i) (C9 N T ρ B0 id i):=⟨h,u5,fun _ h=>h,rfl⟩
def o8{its:c7 N}{k:Nat}{t:It}(h:(u7 N T ρ B0 its)[k]?=some t):∃p,its[k]?=some p/\t=C9 N T ρ B0 p.1 p.2:=by simp only[u7,d6F,d5g]at h;grind
end
structure Tn(ρ:p4)(Z:Nat->Prop)(w:World)(ρ':p4)(Z':Nat->Prop)(w':World):Prop where
 rho:∀i L,ρ i=some L->ρ' i=some L
 z:∀b,Z b->b<w.heap.size->Z' b
 ext:∃B,Ext B w w'/\∀b∈B,Z b->w.heap.size<=b
def Tn.refl(ρ:p4)(Z:Nat->Prop)(w:World):Tn ρ Z w ρ Z w:=⟨fun _ _ h=>h,fun _ h _=>h,[],Ext.refl _ _,fun _ h=>by cases h⟩
def Tn.rep{N:B8}{T:N6}{ρ ρ':p4}{Z Z':Nat->Prop}{w w':World}(h:Tn ρ Z w ρ' Z' w'){v:Value}{s:SV N}(r:e7 N T ρ Z w v s):e7 N T ρ' Z' w' v s:=by obtain⟨B,x,hB⟩:=h.ext;exact r.I3 x hB h.z h.rho
def Tn.trans{ρ ρ1 ρ2:p4}{Z Z1 Z2:Nat->Prop}{w w1 w2:World}(h:Tn ρ Z w ρ1 Z1 w1)(k:Tn ρ1 Z1 w1 ρ2 Z2 w2):Tn ρ Z w ρ2 Z2 w2:=by
 obtain⟨B,x,hB⟩:=h.ext;obtain⟨B',x',hB'⟩:=k.ext;refine⟨fun i L e=>k.rho _ _ (h.rho _ _ e),fun b hz hb=>k.z b (h.z b hz hb) (by have:=x.size;omega),B++B'.filter (fun b=>decide (b<w.heap.size)),x.trans x' (fun b hb=>.inl (by simp[hb])) (fun b hb=>?_),fun b hb hz=>?_⟩
 . grind
 . rcases d5t.1 hb with hb|hb
   . simp_all
   . simp only[d5u,d6e]at hb;have:=hB' b hb.1 (h.z b hz hb.2);have:=x.size;omega
section
variable{E:Env}{C:Ctx}{ρ ρ':p4}{Z Z':Nat->Prop}{w w':World}{its:c7 E.N}{nx:Nat}
def I6(ρ:p4)(id:Nat)(L:Loc):p4:=fun i=>if i=id then some L else ρ i
def j8{id:Nat}{L:Loc}:I6 ρ id L id=some L:=by simp[I6]
def F6{id:Nat}{L:Loc}(h:ρ id=none):∀i L',ρ i=some L'->I6 ρ id L i=some L':=fun i L' e=>by unfold I6;grind
def Mem.holds(hm:Mem E C ρ Z w its nx){k:Nat}{p:Nat×Item E.N}(h:its[k]?=some p):holds E.N E.T ρ p.1 Z w p.2:=
 hm.sep.at k (t:=C9 E.N E.T ρ C.B0 p.1 p.2) (by simp[u7,h])
def Mem.sel{its':c7 E.N}{nx':Nat}(hm:Mem E C ρ Z w its nx)(hρ:∀i L,ρ i=some L->ρ' i=some L)(hfr:∀i,nx'<=i->ρ' i=none)(φ:Nat->Nat)(inj:∀i j,i<its'.length->j<its'.length->φ i=φ j->i=j)(h:∀(i:Nat)(p:Nat×Item E.N),its'[i]?=some p->its[φ i]?=some p):Mem E C ρ' Z w its' nx':=
 ⟨Sep.sel hm.sep φ (fun i j hi hj=>inj i j (by simpa[u7]using hi) (by simpa[u7]using hj)) fun i t' hi=>by obtain⟨p,hp,rfl⟩:=o8 hi;have hq:=h i p hp;exact⟨_,by simp[u7,hq],a4t hρ (hm.holds hq)⟩,hfr,fun i L e=>hρ _ _ (hm.ge i L e),hm.zge,hm.zle⟩
def Mem.laid{t:It}{i:Item E.N}{L:Loc}(hm:Mem E C ρ Z w its nx)(hs:Sep C.B0 C.w0 Z w' (t::u7 E.N E.T ρ C.B0 its))(hh:Go.Rx.holds E.N E.T (I6 ρ nx L) nx Z w' i)(hF:∀b∈u4 E.N (I6 ρ nx L) nx i,b∈t.F):Mem E C (I6 ρ nx L) Z w' ((nx,i)::its) (nx+1):=by
 have hρ:=F6 (L:=L) (hm.fr nx (d5m _));refine⟨Sep.conv hs (by simp[u7]) fun k s s' hk hk'=>?_,fun j hj=>?_,fun j L' e=>hρ _ _ (hm.ge j L' e),hm.zge,hm.zle⟩
 . cases k with
   |zero =>
    simp[u7]at hk hk';subst hk;subst hk';exact⟨hh,u5,hF,rfl⟩
   |succ k =>
    have hk:(u7 E.N E.T ρ C.B0 its)[k]?=some s:=hk;have hk':(u7 E.N E.T (I6 ρ nx L) C.B0 its)[k]?=some s':=hk';obtain⟨p,hp,rfl⟩:=o8 hk;obtain⟨p',hp',rfl⟩:=o8 hk';rw[hp]at hp';cases hp';exact a4t hρ (hs.at (k+1) (t:=C9 E.N E.T ρ C.B0 p.1 p.2) (by omega))
 . unfold I6;rw[if_neg (by omega)];exact hm.fr j (by omega)
end
def A4(E:Env)(K:Nat)(args:List E.SV)(c:CR E.N):Prop:=
 ∀(D:Nat->Prop)(w:World)(vs:List Value),(∀b,D b->b<w.heap.size)->E.G.is D w->e7 E.N E.T (fun _=>none) D w (.tuple vs.toArray) (.F5 args)->G2 E.P K vs w (fun v w'=>Ext [] w w'/\e7 E.N E.T (fun _=>none) (fun _=>False) w' v c.r/\q9 c.hy)
def d0y(E:Env)(K:Nat)(o:OC E.N)(x:E.N.O o.k)(args:List E.SV)(r:OR E.N o.k):Prop:=
 ∀(Z D:Nat->Prop)(w:World)(vs:List Value)(b:Nat)(F:List Nat),(∀b,Z b->b<w.heap.size)->(∀b,D b->b<w.heap.size)->(∀b∈F,¬Z b/\¬D b)->((E.N.oj o.k).ob b).is Z w x F->E.G.is D w->e7 E.N E.T (fun _=>none) D w (.tuple vs.toArray) (.F5 args) ->
  G2 E.P K (.pointer (some ⟨b,0,none⟩)::vs) w (fun v w'=>∃F',((E.N.oj o.k).ob b).is Z w' r.x F'/\b4j w w' F F'/\e7 E.N E.T (fun _=>none) (fun _=>False) w' v r.r/\q9 r.hy)
def d2y(E:Env)(o:OC E.N)(x:E.N.O o.k)(args:List E.SV)(r:OR E.N o.k):Prop:=
 ∀(Z D:Nat->Prop)(w:World)(vs:List Value)(b:Nat)(F:List Nat),(∀b,Z b->b<w.heap.size)->(∀b,D b->b<w.heap.size)->(∀b∈F,¬Z b/\¬D b)->((E.N.oj o.k).ob b).is Z w x F->E.G.is D w->e7 E.N E.T (fun _=>none) D w (.tuple vs.toArray) (.F5 args) ->
  a0w E.P b vs w (fun v w'=>∃F',((E.N.oj o.k).ob b).is Z w' r.x F'/\b4j w w' F F'/\e7 E.N E.T (fun _=>none) (fun _=>False) w' v r.r/\q9 r.hy)
def c28(E:Env)(K:Nat)(o:WC E.N)(a:E.SV)(x:Int)(r:WR E.N):Prop:=
 ∀(D:Nat->Prop)(w:World)(v:Value)(b:Nat),(∀b,D b->b<w.heap.size)->¬D b->E.G.is D w->e7 E.N E.T (fun _=>none) D w v a->Q5 w b o.S [.int .i64 x]->InI x ->
  G2 E.P K [v,.iface o.T (.pointer (some ⟨b,0,none⟩))] w (fun v' w'=>Ext [b] w w'/\Q5 w' b o.S [.int .i64 r.x]/\InI r.x/\e7 E.N E.T (fun _=>none) (fun _=>False) w' v' r.r/\q9 r.hy)
def M6(P:Program)(N:B8)(T:N6)(G:a1s)(K:Nat)(args:List (SV N))(its:c7 N)(nx:Nat)(S:PT N):Prop:=
 ∀(k:SV N->c7 N->Nat->Prop),S k->∀(ρ:p4)(Z:Nat->Prop)(w:World)(vs:List Value)(B:List Nat),(∀i,nx<=i->ρ i=none)->Sep B w Z w (u7 N T ρ B its)->G.is Z w->e7 N T ρ Z w (.tuple vs.toArray) (.F5 args) ->
  G2 P K vs w (fun v w'=>∃(ρ':p4)(Z':Nat->Prop)(s:SV N)(its':c7 N)(nx':Nat),Sep B w Z' w' (u7 N T ρ' B its')/\(∀i,nx'<=i->ρ' i=none)/\(∀i L,ρ i=some L->ρ' i=some L)/\(∀b,Z b->Z' b)/\(∀b,Z' b->Z b∨b∈B∨w.heap.size<=b)/\e7 N T ρ' Z' w' v s/\k s its' nx')
def b9h(P:Program)(N:B8)(T:N6)(G:a1s)(K:Nat)(args:List (SV N))(its:c7 N)(q:Q1 N):Prop:=
 ∀(ρ:p4)(Z:Nat->Prop)(w:World)(vs:List Value),G.is Z w->(∀i x,lk its i=some x->holds N T ρ i Z w x)->e7 N T ρ Z w (.tuple vs.toArray) (.F5 args) ->
  G2 P K vs w (fun v w'=>Ext [] w w'/\e7 N T (fun _=>none) (fun _=>False) w' v q.v/\q9 q.hy)
structure c8(E:Env):Prop where
 mixed:E.P.follows .mixedOrders=true
 zob:∀T k x,E.zob T=some ⟨k,x⟩->∃zv,E.zeroV T=some zv/\∀Z w b,Q5 w b T zv.cells.toList->((E.N.oj k).ob b).is Z w x [b]
 call:∀K,((E.M5 K).isSome || (E.obc K).isSome || (E.inl K).isSome || (E.wrc K).isSome)=true->∀ars w,(callFunc K ars).run E.P w=.ok (.enter K ars) w
 inl:∀K fn,E.inl K=some fn->E.P.funcs[K]?=some fn
 M5:∀K f args nx c,E.M5 K=some f->f args nx=some c->args.all F7=true->q9 c.ob->P8 E.P E.N E.T E.G K args nx c
 U0:∀K f args nx c,E.M5 K=some f->E.U0 K=true->f args nx=some c->c.its=[]->q9 c.ob->A4 E K args c
 obc:∀K o x args r,E.obc K=some o->o.C x args=some r->q9 r.ob->d0y E K o x args r
 wrc:∀K o a x r,E.wrc K=some o->o.C a x=some r->q9 r.ob->c28 E K o a x r
 a5n:∀K,(E.fnc K).isSome=true->∀ars w,(callFunc K ars).run E.P w=.ok (.enter K ars) w
 fnc:∀K o args its r,E.fnc K=some o->o.C args its=some r->q9 r.ob->M6 E.P E.N E.T E.G K args its (2*its.length) (fun k=>q9 r.hy->k r.v r.its r.n)
 a5m:∀K,(E.roc K).isSome=true->∀ars w,(callFunc K ars).run E.P w=.ok (.enter K ars) w
 roc:∀K C args its q,E.roc K=some C->C args its=some q->q9 q.ob->b9h E.P E.N E.T E.G K args its q
 yl:∀o x args r,E.yl=some o->o.C x args=some r->q9 r.ob->d2y E o x args r
def tnI(Z:Nat->Prop)(w:World):It:=⟨[],[],fun Z' w'=>(∀b,Z b->b<w.heap.size->Z' b)/\∃B,Ext B w w'/\∀b∈B,Z b->w.heap.size<=b⟩
def c0F{Z:Nat->Prop}{w:World}:(tnI Z w).W9:=fun Z1 Z2 B w1 w2 h x hB hZ=>by obtain⟨h1,B',x',hB'⟩:=h;have t1:Tn (fun _=>none) Z w (fun _=>none) Z1 w1:=⟨fun _ _ h=>h,h1,B',x',hB'⟩;have t2:Tn (fun _=>none) Z1 w1 (fun _=>none) Z2 w2:=⟨fun _ _ h=>h,fun b hz _=>hZ b hz,B,x,fun b hb hz=>hB b hb (.inr hz)⟩;have t:=t1.trans t2;exact⟨t.z,t.ext⟩
section
variable{E:Env}{C:Ctx}{n:Nat}{ops:List Oper}{Q:Exit->Fr->World->Prop}{rest:List Oper}{f:Fr}{w w':World}{d:Nat}
variable{ty T T':TypeId}{pos:String}{after:Array Edge}{x y z:Operand}{a b:Int}{ρ ρ':p4}{Z Z':Nat->Prop}{its lkd:c7 E.N}{nx:Nat}{s:S1 E.N}
def Mem.tn(hm:Mem E C ρ Z w its nx):Sep C.B0 C.w0 Z w (tnI Z w::u7 E.N E.T ρ C.B0 its):=Wl.Sep.fact hm.sep (t:=tnI Z w) ⟨fun _ h _=>h,[],Ext.refl _ _,fun _ h=>by cases h⟩ c0F rfl rfl
def a4x{k:Nat}{l:List It}{B0:List Nat}{w0:World}(hs:Sep B0 w0 Z' w' l)(hk:l[k]?=some (tnI Z w))(hρ:∀i L,ρ i=some L->ρ' i=some L):Tn ρ Z w ρ' Z' w':=by have h:=hs.at k hk;exact⟨hρ,h.1,h.2⟩
abbrev KE(E:Env)(C:Ctx)(n:Nat)(ops:List Oper)(Q:Exit->Fr->World->Prop)(rest:List Oper)(f:Fr)(w:World)(d:Option Nat)(ρ:p4)(Z:Nat->Prop)(lkd:c7 E.N)(s:S1 E.N):Prop:=
 ∀v ρ' Z' w',Mem E C ρ' Z' w' (s.items++lkd) s.nx->Tn ρ Z w ρ' Z' w'->e7 E.N E.T ρ' Z' w' v s.v->q9 s.hy->WL E.P false n ops Q rest (R7 f d v) w'
def c1v{B0:List Nat}{w0:World}{t u:It}{l:List It}(hs:Sep B0 w0 Z w (t::u::l)):Sep B0 w0 Z w (t::l):=
 ⟨hs.ext,hs.zlt,fun k s hk=>by
  cases k with
  |zero=>exact hs.ok 0 s hk
  |succ k=>exact hs.ok (k+2) s hk,fun j k s v hj hk hne=>by
  cases j with
  |zero =>
   cases k with
   |zero=>omega
   |succ k=>exact hs.apart 0 (k+2) s v hj hk (by omega)
  |succ j =>
   cases k with
   |zero=>exact hs.apart (j+2) 0 s v hj hk (by omega)
   |succ k=>exact hs.apart (j+2) (k+2) s v hj hk (by omega)⟩
def Mem.lay{t:It}{i:Item E.N}{L:Loc}(hm:Mem E C ρ Z w its nx)(hs:Sep C.B0 C.w0 Z w' (t::tnI Z w::u7 E.N E.T ρ C.B0 its))(hh:Go.Rx.holds E.N E.T (I6 ρ nx L) nx Z w' i)(hF:∀b∈u4 E.N (I6 ρ nx L) nx i,b∈t.F):Mem E C (I6 ρ nx L) Z w' ((nx,i)::its) (nx+1)/\Tn ρ Z w (I6 ρ nx L) Z w':=
 ⟨hm.laid (c1v hs) hh hF,a4x (k:=1) hs rfl (F6 (hm.fr nx (d5m _)))⟩
def sAlloc_ok(hE:c8 E)(hm:Mem E C ρ Z w (its++lkd) nx)(h:b4c its nx T=some s)(hn:Nat.blt d n=true)(K:KE E C n ops Q rest f w (some d) ρ Z lkd s) :
  WL E.P false n ops Q (⟨some d,.alloc T,ty,pos,after,none⟩::rest) f w:=by
 unfold b4c at h;split at h
 . rename_i k x hz;simp only[d4T]at h;subst h;obtain⟨zv,hzv,hob⟩:=hE.zob T k x hz;refine b5u hm.tn (a2D hzv) hn fun b w' hs=>?_;have ho:=hs.at 0 rfl;have⟨m1,t1⟩:=hm.lay (i:=.ob k nx x) (L:=⟨b,none,0,0,[b]⟩) hs ⟨_,_,j8,j8,hob Z w' b ho⟩ (fun y hy=>by rw[F1 j8]at hy;exact hy);exact K _ _ _ _ m1 t1 (.ref j8) trivial
 . split at h
   . rename_i z hz;have⟨hf,h⟩:=j3 h;simp only[d4T]at h;subst h;unfold Env.zero at hz;simp only[d5g]at hz;obtain⟨zv,hzv,hc⟩:=hz;refine b5u hm.tn (a2D hzv) hn fun b w' hs=>?_;have ho:=hs.at 0 rfl;have hr:e7 E.N E.T (I6 ρ nx ⟨b,none,0,0,[b]⟩) Z w' zv z:=by rw[<- hc];exact a4C
     have⟨m1,t1⟩:=hm.lay (i:=.own T (leaves z)) (L:=⟨b,none,0,0,[b]⟩) hs ⟨_,_,j8,rfl,ho,hr.leaves hf⟩ (fun y hy=>by rw[u6 j8]at hy;exact hy);exact K _ _ _ _ m1 t1 (.ref j8) trivial
   . cases h
def sBox_ok{sx:E.SV}(hm:Mem E C ρ Z w (its++lkd) nx)(hx:e7 E.N E.T ρ Z w (ev f x) sx)(hf:flat sx=true)(hn:Nat.blt d n=true)(K:KE E C n ops Q rest f w (some d) ρ Z lkd ⟨[],[],.ref nx 0,(nx,.own T (leaves sx))::its,nx+1⟩) :
  WL E.P false n ops Q (⟨some d,.box T x,ty,pos,after,none⟩::rest) f w:=by
 refine c9t hm.tn hn fun b w' hs=>?_;have ho:=hs.at 0 rfl;have t0:=a4x (ρ:=ρ) (ρ':=ρ) (k:=1) hs rfl (fun _ _ h=>h);have hr:=e7.sub (t0.rep hx) (F6 (L:=⟨b,none,0,0,[b]⟩) (hm.fr nx (d5m _)));have⟨m1,t1⟩:=hm.lay (i:=.own T (leaves sx)) (L:=⟨b,none,0,0,[b]⟩) hs ⟨_,_,j8,rfl,ho,hr.leaves hf⟩ (fun y hy=>by rw[u6 j8]at hy;exact hy);exact K _ _ _ _ m1 t1 (.ref j8) trivial
def p5{l l2:c7 E.N}{j:Nat}{p:Nat×Item E.N}(h:l[j]?=some p):(l++l2)[j]?=some p:=by grind
def A5{α:Type}{l:List α}{j:Nat}{p:α}(h:l[j]?=some p):j<l.length:=by grind
def j6{l:c7 E.N}{B0:List Nat}{j:Nat}{p:Nat×Item E.N}(h:l[j]?=some p):(u7 E.N E.T ρ B0 l)[j]?=some (C9 E.N E.T ρ B0 p.1 p.2):=by simp[u7,h]
def Mem.turn{j id:Nat}{i i':Item E.N}{t':It}(hm:Mem E C ρ Z w its nx)(hj:its[j]?=some (id,i))(hs:Sep C.B0 C.w0 Z w' ((u7 E.N E.T ρ C.B0 its).set j t'))(hh:Go.Rx.holds E.N E.T ρ id Z w' i')(hF:∀b∈u4 E.N ρ id i',b∈t'.F):Mem E C ρ Z w' (its.set j (id,i')) nx:=by
 refine⟨Sep.conv hs (by simp[u7]) fun k s s' hk hk'=>?_,hm.fr,hm.ge,hm.zge,hm.zle⟩;obtain⟨p',hp',rfl⟩:=o8 hk';have hlt:=A5 hj;by_cases e:k=j
 . subst e;rw[d5J (by grind)]at hk;rw[d5J hlt]at hp';cases hk;cases hp';exact⟨hh,u5,hF,rfl⟩
 . rw[d5W (d6l e)]at hk hp';obtain⟨p,hp,rfl⟩:=o8 hk;rw[hp]at hp';cases hp';exact a52 (hs.at k (t:=C9 E.N E.T ρ C.B0 p'.1 p'.2) (by grind))
def a9e{B0:List Nat}{w0:World}{u:It}{l:List It}(hs:Sep B0 w0 Z w (u::l)):Sep B0 w0 Z w l:=hs.drop
def b4h{sx:E.SV}{id off:Nat}{S:Nat}{cells:List E.SV}(hm:Mem E C ρ Z w (its++lkd) nx)(ha:e7 E.N E.T ρ Z w (ev f x) (.ref id off))(hx:e7 E.N E.T ρ Z w (ev f y) sx)(hi:lk its id=some (.own S cells)){mm:Nat}(hz:E.size T=some mm)(hle:off+mm<=cells.length)(hf:flat sx=true)(hl:(leaves sx).length=mm)
  (K:KE E C n ops Q rest f w none ρ Z lkd ⟨[],[],.un,a3I its id (.own S (J5 E cells off (leaves sx))),nx⟩) :
  WL E.P false n ops Q (⟨none,.store T x y,ty,pos,after,none⟩::rest) f w:=by
 obtain⟨j,hj,hu,_⟩:=x8 hi;have hj':(its++lkd)[j]?=some (id,.own S cells):=p5 hj;obtain⟨L,cs,hL,hbs,ho,hr⟩:=hm.holds hj';generalize hv:ev f x=vx at ha;cases ha with
 |ref hL' =>
  rw[hL]at hL';cases hL';have hlv:=hx.leaves hf;have hcl:=hr.len
  -- the part ars a block
  have hs1:=Wl.Sep.D5 hm.tn (j+1) (t:=C9 E.N E.T ρ C.B0 id (.own S cells)) (t':=a7K L.b S cs C.B0) (w':=w) (by rw[d5F];exact j6 hj') (Ext.refl _ _) ho b9b (fun b hb=>⟨.inl (by show b∈u4 E.N ρ id (.own S cells);rw[u6 hL,hbs];exact hb),by have:=ho.lt;simp_all⟩) rfl;have hjt:j<(u7 E.N E.T ρ C.B0 (its++lkd)).length:=by simpa[u7]using A5 hj'
  refine c2R hs1 (j+1) (E:=S) (O:=C.B0) (by rw[d5J (by simp_all)]) (M8 hz) hv (c:=(ev f y).cells.toList) rfl (by rw[hlv.len,hl]) (by omega) hlv.plain fun w' hs=>?_;rw[d8L]at hs;have t1:=a4x (Z:=Z) (w:=w) (ρ:=ρ) (ρ':=ρ) (k:=0) hs (by simp) (fun _ _ h=>h);have hs2:Sep C.B0 C.w0 Z w' ((u7 E.N E.T ρ C.B0 (its++lkd)).set j (a7K L.b S (E7 cs off (ev f y).cells.toList) C.B0)):=a9e (u:=tnI Z w) (by simp_all);have m1:=hm.turn (i':=.own S (J5 E cells off (leaves sx))) hj' hs2 ⟨L,_,hL,hbs,hs2.at j (t:=a7K L.b S (E7 cs off (ev f y).cells.toList) C.B0) (by simp_all),e8.J5 (show e8 E.N E.T ρ Z w' cs cells from t1.rep hr) (show e8 E.N E.T ρ Z w' _ _ from t1.rep hlv)⟩ (fun b hb=>by rw[u6 hL,hbs]at hb;exact hb);refine K .nilIface ρ Z w' ?_ t1 .un trivial;grind
def Mem.freeze{j id:Nat}{i i':Item E.N}(hm:Mem E C ρ Z w its nx)(hj:its[j]?=some (id,i))(hh:Go.Rx.holds E.N E.T ρ id (fun b=>Z b∨b∈u4 E.N ρ id i) w i')(hF:u4 E.N ρ id i'=[]):Mem E C ρ (fun b=>Z b∨b∈u4 E.N ρ id i) w (its.set j (id,i')) nx/\Tn ρ Z w ρ (fun b=>Z b∨b∈u4 E.N ρ id i) w:=by
 have hs:=Wl.Sep.freeze hm.sep j (t:=C9 E.N E.T ρ C.B0 id i) (t':=⟨[],[],fun _ _=>True⟩) (j6 hj) trivial (fun _ _ _ _ _ _ _ _ _=>trivial) rfl rfl;have hlt:=A5 hj;refine⟨⟨Sep.conv hs (by simp[u7]) fun k s s' hk hk'=>?_,hm.fr,hm.ge,fun b hb=>.inl (hm.zge b hb),fun b hb=>?_⟩,⟨fun _ _ h=>h,fun b h _=>.inl h,[],Ext.refl _ _,fun _ h=>by cases h⟩⟩
 . obtain⟨p',hp',rfl⟩:=o8 hk';by_cases e:k=j
   . subst e;rw[d5J hlt]at hp';cases hp';exact⟨hh,u5,fun b hb=>(by rw[show(C9 E.N E.T ρ C.B0 id i').F=u4 E.N ρ id i' from rfl,hF]at hb;cases hb),rfl⟩
   . rw[d5W (d6l e)]at hk hp';obtain⟨p,hp,rfl⟩:=o8 hk;rw[hp]at hp';cases hp';exact a52 (hs.at k (t:=C9 E.N E.T ρ C.B0 p'.1 p'.2) (by grind))
 . rcases hb with h|h
   . exact hm.zle b h
   . have:=(hm.sep.ok j _ (j6 hj)).org b h;rcases this with h|h
     . exact .inr (.inl h)
     omega
end
section
variable{E:Env}{C:Ctx}{n:Nat}{ops:List Oper}{Q:Exit->Fr->World->Prop}{rest:List Oper}{f:Fr}{w w':World}{d:Nat}
variable{ty T T':TypeId}{pos:String}{after:Array Edge}{x y z:Operand}{a b:Int}{ρ ρ':p4}{Z Z':Nat->Prop}{its its' lkd:c7 E.N}{nx:Nat}{s:S1 E.N}
def Each(E:Env)(ρ:p4)(Z Z':Nat->Prop)(w:World)(vs vs':List E.SV):Prop:=vs'.length=vs.length/\∀(i:Nat)(s s':E.SV),vs[i]?=some s->vs'[i]?=some s'->∀v,e7 E.N E.T ρ Z w v s->e7 E.N E.T ρ Z' w v s'
def Each.nil:Each E ρ Z Z' w [] []:=⟨rfl,fun i s s' h=>by simp at h⟩
def Each.cons{s s':E.SV}{vs vs':List E.SV}(h:∀v,e7 E.N E.T ρ Z w v s->e7 E.N E.T ρ Z' w v s')(r:Each E ρ Z Z' w vs vs'):Each E ρ Z Z' w (s::vs) (s'::vs'):=
 ⟨by simp[r.1],fun i u u' hu hu'=>by
  cases i with
  |zero=>simp_all
  |succ i=>exact r.2 i u u' (by simp_all) (by simp_all)⟩
def Each.d3L{vs vs':List E.SV}(h:Each E ρ Z Z' w vs vs'){cs:List Value}(r:e8 E.N E.T ρ Z w cs vs):e8 E.N E.T ρ Z' w cs vs':=by
 induction vs generalizing vs' cs with
 |nil =>
  have:=h.1;obtain rfl:=e8.A1 r
  match vs',this with
  |[],_=>exact e8.nil
 |cons s vs ih =>
  obtain⟨v,rr,rfl,h1,hp,h2⟩:=e8.cons_inv r
  match vs',h.1 with
  |s'::vs',_=>exact e7.R8 (h.2 0 s s' rfl rfl v h1) hp (ih (vs':=vs') ⟨by simp_all,fun i u u' hu hu'=>h.2 (i+1) u u' hu hu'⟩ h2)
def Each.F5{vs vs':List E.SV}(h:Each E ρ Z Z' w vs vs'){cs:List Value}(r:e7 E.N E.T ρ Z w (.tuple cs.toArray) (.F5 vs)):e7 E.N E.T ρ Z' w (.tuple cs.toArray) (.F5 vs'):=by
 induction vs generalizing vs' cs with
 |nil =>
  have:=h.1;generalize e:Value.tuple cs.toArray=u at r
  match vs',this with
  |[],_=>cases r with|M0=>exact .M0
 |cons s vs ih =>
  obtain⟨v,rr,rfl,h1,h2⟩:=e7.w4 r
  match vs',h.1 with
  |s'::vs',_=>exact e7.I8 (h.2 0 s s' rfl rfl v h1) (ih (vs':=vs') ⟨by simp_all,fun i u u' hu hu'=>h.2 (i+1) u u' hu hu'⟩ h2)
def frz0_ok:∀{vs vs':List E.SV}{its its':c7 E.N}{Z:Nat->Prop},Mem E C ρ Z w (its++lkd) nx->a4O its vs=some (vs',its')->∃Z',Mem E C ρ Z' w (its'++lkd) nx/\Tn ρ Z w ρ Z' w/\Each E ρ Z Z' w vs vs'
 |[],vs',its,its',Z,hm,h=>by simp[a4O]at h;obtain⟨rfl,rfl⟩:=h;exact⟨Z,hm,Tn.refl _ _ _,Each.nil⟩
 |v::r,vs',its,its',Z,hm,h=>by
  have other:(match a4O its r with|some (r',its')=>some (v::r',its')|none=>none)=some (vs',its')->∃Z',Mem E C ρ Z' w (its'++lkd) nx/\Tn ρ Z w ρ Z' w/\Each E ρ Z Z' w (v::r) vs':=fun h=>by
   split at h
   . rename_i r' its1 hr;simp only[d4T,d5A]at h;obtain⟨rfl,rfl⟩:=h;obtain⟨Z',hm',ht,he⟩:=frz0_ok hm hr;exact⟨Z',hm',ht,Each.cons (fun u hu=>ht.rep hu) he⟩
   . cases h
  cases v with
  |acc id =>
   simp only[a4O]at h;split at h
   . rename_i t l hi;split at h
     . rename_i r' its1 hr;simp only[d4T,d5A]at h;obtain⟨rfl,rfl⟩:=h;obtain⟨j,hj,hu,_⟩:=x8 hi;obtain⟨L,hL,hn1,hl,hac⟩:=hm.holds (p5 hj);have hrd:=Ac.rd hac hl;have⟨m1,t1⟩:=hm.freeze (i':=.fz t l) (p5 hj) ⟨L,hL,hn1,by rw[x7 hL];exact hrd⟩ rfl;rw[d7B _ _ (A5 hj),<- hu]at m1;obtain⟨Z',hm',ht,he⟩:=frz0_ok m1 hr;refine⟨Z',hm',t1.trans ht,?_⟩;have he':Each E ρ Z Z' w r r':=⟨he.1,fun i s s' hs hs' u hu=>he.2 i s s' hs hs' u (t1.rep hu)⟩;refine Each.cons (fun u hu'=>?_) he';cases hu' with
       |acc hL' =>
        have hL:ρ id=some L:=hL;rw[hL]at hL';cases hL';have:e7 E.N E.T ρ (fun b=>Z b∨b∈u4 E.N ρ id (.ac t l)) w (.slice L.A L.n L.cap) (.sl t l:E.SV):=.sl (by rw[x7 hL];exact hrd);exact ht.rep this
     . cases h
   . rename_i t l hi;split at h
     . rename_i r' its1 hr;simp only[d4T,d5A]at h;obtain⟨rfl,rfl⟩:=h;obtain⟨j,hj,_⟩:=x8 hi;obtain⟨L,hL,hn1,hrd⟩:=hm.holds (p5 hj);obtain⟨Z',hm',ht,he⟩:=frz0_ok hm hr;refine⟨Z',hm',ht,Each.cons (fun u hu'=>?_) he⟩;cases hu' with
       |acc hL' =>
        have hL:ρ id=some L:=hL;rw[hL]at hL';cases hL';exact ht.rep (.sl hrd)
     . cases h
   . cases h
  |ref=>cases h
  |el=>cases h
  |sub=>cases h
  |clo=>cases h
  |yld=>cases h
  |mp=>cases h
  |agg=>cases h
  |F5=>cases h
  |_=>exact other h
def frz1_ok{v v':E.SV}(hm:Mem E C ρ Z w (its++lkd) nx)(h:b4V its v=some (v',its')):∃Z',Mem E C ρ Z' w (its'++lkd) nx/\Tn ρ Z w ρ Z' w/\∀u,e7 E.N E.T ρ Z w u v->e7 E.N E.T ρ Z' w u v':=by
 have other:(match a4O its [v]with|some ([v'],its')=>some (v',its')|_=>none)=some (v',its')->∃Z',Mem E C ρ Z' w (its'++lkd) nx/\Tn ρ Z w ρ Z' w/\∀u,e7 E.N E.T ρ Z w u v->e7 E.N E.T ρ Z' w u v':=fun h=>by
  split at h
  . rename_i u its1 hf;simp only[d4T,d5A]at h;obtain⟨rfl,rfl⟩:=h;obtain⟨Z',hm',ht,he⟩:=frz0_ok hm hf;exact⟨Z',hm',ht,he.2 0 _ _ rfl rfl⟩
  . cases h
 cases v with
 |agg vs =>
  simp only[b4V]at h;split at h
  . rename_i vs' its1 hf;simp only[d4T,d5A]at h;obtain⟨rfl,rfl⟩:=h;obtain⟨Z',hm',ht,he⟩:=frz0_ok hm hf;refine⟨Z',hm',ht,fun u hu=>?_⟩;obtain⟨cs,rfl,hr⟩:=e7.E5 hu;exact he.d3L hr
  . cases h
 |_=>exact other h
def frz_ok:∀{vs vs':List E.SV}{its its':c7 E.N}{Z:Nat->Prop},Mem E C ρ Z w (its++lkd) nx->frz its vs=some (vs',its')->∃Z',Mem E C ρ Z' w (its'++lkd) nx/\Tn ρ Z w ρ Z' w/\Each E ρ Z Z' w vs vs'
 |[],vs',its,its',Z,hm,h=>by simp[frz]at h;obtain⟨rfl,rfl⟩:=h;exact⟨Z,hm,Tn.refl _ _ _,Each.nil⟩
 |v::r,vs',its,its',Z,hm,h=>by
  unfold frz at h;split at h
  . rename_i v' its1 h1;split at h
    . rename_i r' its2 h2;simp only[d4T,d5A]at h;obtain⟨rfl,rfl⟩:=h;obtain⟨Z1,m1,t1,e1⟩:=frz1_ok hm h1;obtain⟨Z2,m2,t2,e2⟩:=frz_ok m1 h2;exact⟨Z2,m2,t1.trans t2,Each.cons (fun u hu=>t2.rep (e1 u hu)) ⟨e2.1,fun i s s' hs hs' u hu=>e2.2 i s s' hs hs' u (t1.rep hu)⟩⟩
    . cases h
  . cases h
def Mem.gone{id S:Nat}{cells:List E.SV}{L:Loc}{j:Nat}(hm:Mem E C ρ Z w (its++lkd) nx)(hj:its[j]?=some (id,.own S cells))(hr:rmv its id=its.eraseIdx j)(hL:ρ id=some L)(hbs:L.bs=[L.b]) :
  Mem E C ρ (fun b=>Z b∨b∈[L.b]) w (rmv its id++lkd) nx/\Tn ρ Z w ρ (fun b=>Z b∨b∈[L.b]) w:=by
 have hs:=Wl.Sep.freeze hm.sep j (t:=C9 E.N E.T ρ C.B0 id (.own S cells)) (t':=⟨[],[],fun _ _=>True⟩) (j6 (p5 hj)) trivial (fun _ _ _ _ _ _ _ _ _=>trivial) rfl rfl;have hF:(C9 E.N E.T ρ C.B0 id (.own S cells)).F=[L.b]:=by show u4 E.N ρ id (.own S cells)=[L.b];rw[u6 hL];exact hbs
 rw[hF]at hs;refine⟨?_,⟨fun _ _ h=>h,fun b h _=>.inl h,[],Ext.refl _ _,fun _ h=>by cases h⟩⟩;have hjl:=A5 hj;rw[hr];refine⟨Sep.sel hs (fun i=>if i<j then i else i+1) (fun i k _ _ e=>by grind) fun i t' hi'=>?_,hm.fr,hm.ge,fun b hb=>.inl (hm.zge b hb),fun b hb=>?_⟩
 . obtain⟨p,hp,rfl⟩:=o8 hi';have hpe:its.eraseIdx j++lkd=(its++lkd).eraseIdx j:=by rw[d8b hjl]
   rw[hpe,List.getElem?_eraseIdx]at hp;have key:∀k,k≠j->(its++lkd)[k]?=some p->∃t,((u7 E.N E.T ρ C.B0 (its++lkd)).set j ⟨[],[],fun _ _=>True⟩)[k]?=some t/\b3U C.B0 (fun b=>Z b∨b∈[L.b]) w t (C9 E.N E.T ρ C.B0 p.1 p.2):=fun k hk hp=>by
    have e:((u7 E.N E.T ρ C.B0 (its++lkd)).set j ⟨[],[],fun _ _=>True⟩)[k]?=some (C9 E.N E.T ρ C.B0 p.1 p.2):=by rw[d5W (d6l hk)];exact j6 hp
    exact⟨_,e,a52 (hs.at k e)⟩
   grind
 . rcases hb with h|h
   . exact hm.zle b h
   . have:=(hm.sep.ok j _ (j6 (p5 hj))).org b (by simp_all);rcases this with h|h
     . exact .inr (.inl h)
     omega
def sMakeI_ok{sx:E.SV}(hm:Mem E C ρ Z w (its++lkd) nx)(hx:e7 E.N E.T ρ Z w (ev f x) sx)(h:b5k its nx T sx=some s)(ho':q9 s.ob)(hn:Nat.blt d n=true)(K:KE E C n ops Q rest f w (some d) ρ Z lkd s) :
  WL E.P false n ops Q (⟨some d,.makeInterface T x,ty,pos,after,none⟩::rest) f w:=by
 generalize hv:ev f x=vx at hx;cases sx with
 |ref id off =>
  simp only[b5k]at h;split at h
  . rename_i S cells hi;obtain⟨j,hj,_,hr⟩:=x8 hi;obtain⟨L,cs,hL,hbs,ho,hrep⟩:=hm.holds (p5 hj);obtain⟨m1,t1⟩:=Mem.gone hm hj hr hL hbs;split at h
    . rename_i S' hwp;have⟨h1,h2⟩:=j3 h;simp only[d4U]at h1;obtain⟨⟨e1,e2⟩,e4⟩:=h1;have e1:=d4W e1;have e2:=d4W e2;subst e1;subst e2;obtain⟨e,hT⟩:=a0T e4;cases hk:E.T.wk S with
      |true =>
       rw[hk,d5r]at h2;split at h2
       . simp only[d4T]at h2;subst h2;cases hx with
         |ref hL' =>
          rw[hL]at hL';cases hL';obtain⟨v1,r1,rfl,ha,_,hrep⟩:=e8.cons_inv hrep;obtain⟨v2,r2,rfl,hb,_,hrep⟩:=e8.cons_inv hrep;obtain rfl:=e8.A1 hrep;cases ha with
          |str hl =>
           cases hb with
           |int hb=>exact a2F hT rfl hv hn (K _ ρ _ w m1 t1 (.err (.p hwp (.inr (by simp)) (by unfold pc;rw[hk];exact ho) (hb rfl))) trivial)
       . cases h2
      |false =>
       rw[hk,d5y]at h2;split at h2
       . rename_i s0 e0;simp only[d4T]at h2;subst h2;have ho0:e0=.no e0.n0:=ho'.1;cases hx with
         |ref hL' =>
          rw[hL]at hL';cases hL';obtain⟨v1,r1,rfl,ha,_,hrep⟩:=e8.cons_inv hrep;obtain⟨v2,r2,rfl,hb,_,hrep⟩:=e8.cons_inv hrep;obtain rfl:=e8.A1 hrep;cases ha with
          |str hl =>
           cases hb with
           |err hb =>
            rw[ho0]at hb;cases hb with
            |no hn0=>exact a2F hT rfl hv hn (K _ ρ _ w m1 t1 (.err (.p hwp (.inr (by simp)) (by unfold pc;rw[hk];exact ho) hn0)) trivial)
       . cases h2
    . have⟨h1,h2⟩:=j3 h;simp only[d4U]at h1;obtain⟨⟨⟨e1,e2⟩,e3⟩,e4,e5⟩:=h1;have e6:E.T.fp≠0:=fun h=>by simp_all
      have e1:=d4W e1;have e2:=d4W e2;have e3:=d4W e3;subst e1;subst e2;subst e3;split at h2
      . rename_i a nn;simp only[d4T]at h2;subst h2;cases hx with
        |ref hL' =>
         rw[hL]at hL';cases hL';obtain⟨v1,r1,rfl,ha,_,hrep⟩:=e8.cons_inv hrep;obtain⟨v2,r2,rfl,hb,_,hrep⟩:=e8.cons_inv hrep;obtain rfl:=e8.A1 hrep;cases ha with
         |int ha =>
          cases hb with
          |int hb =>
           obtain⟨e,hT⟩:=a0T e4;exact a2F hT rfl hv hn (K _ ρ _ w m1 t1 (.err (.fault (.inr (by simp)) ho (ha rfl) (hb rfl) e6)) trivial)
      . cases h2
  . cases h
 |_=>cases h
def b7x{ls:List E.SV}{cs:List Value}(h:e8 E.N E.T ρ Z w cs ls):e8 E.N E.T ρ Z w cs (leaves (c4R ls)):=by
 match ls,h with
 |[],h=>exact h
 |[s],h =>
  obtain⟨v,rfl,h1,hp⟩:=e8.a68 h;show e8 E.N E.T ρ Z w [v] (leaves s)
  cases s with
  |agg vs=>obtain⟨cs,rfl,_⟩:=e7.E5 h1;cases hp
  |_=>exact h
 |s::u::r,h=>exact h
def sStoreEl_ok{sx:E.SV}{id t off:Nat}{i:Int}(hm:Mem E C ρ Z w (its++lkd) nx)(ha:e7 E.N E.T ρ Z w (ev f x) (.el id t i off))(hx:e7 E.N E.T ρ Z w (ev f y) sx)(h:a7s its nx T id t i off sx=some s)(K:KE E C n ops Q rest f w none ρ Z lkd s) :
  WL E.P false n ops Q (⟨none,.store T x y,ty,pos,after,none⟩::rest) f w:=by
 unfold a7s at h;split at h
 . rename_i v its1 hf;obtain⟨Z1,hm1,t1,hr1⟩:=frz1_ok hm hf;have hv:=hr1 _ hx;split at h
   . rename_i t' l hi;split at h
     . rename_i ht;subst ht;split at h
       . rename_i yy hty;have⟨h1,h2⟩:=j3 h;clear h;simp only[d4U]at h1;obtain⟨⟨⟨⟨e1,e2⟩,e3⟩,e4⟩,e5⟩:=h1;have e1:=d5X e1;have e4:=d4W e4;split at h2
         . rename_i x' hb;simp only[d4T]at h2;subst h2;obtain⟨j,hj,hu,_⟩:=x8 hi;obtain⟨L,hL,hn1,hlen,hac⟩:=hm1.holds (p5 hj);cases hsz:E.size T with
           |none=>simp_all
           |some mm =>
            rw[hsz]at e1 e4;simp only[d7C]at e1 e4;generalize hvx:ev f x=vx at ha;cases ha with
            |el hL' h0 h1 =>
             have hL:ρ id=some L:=hL;rw[hL]at hL';cases hL';have hlv:=hv.leaves e2;have hjt:j<(u7 E.N E.T ρ C.B0 (its1++lkd)).length:=by simpa[u7]using A5 (p5 (l2:=lkd) hj)
             have hs1:=Wl.Sep.D5 hm1.tn (j+1) (t:=C9 E.N E.T ρ C.B0 id (.ac t' l)) (t':=iAc (E.N.tb t').r (.slice L.A L.n L.cap) l L.bs C.B0) (w':=w) (by rw[d5F];exact j6 (p5 hj)) (Ext.refl _ _) hac sAc (fun b hb=>⟨.inl (by show b∈u4 E.N ρ id (.ac t' l);rw[x7 hL];exact hb),hac.lt b hb⟩) rfl;have hget:∀e:E.N.U t',l.getD i.toNat e=ix l i:=fun e=>by rw[s8 (by omega),d5Z,d5i (by omega)];rfl
             have hcs:∀c0,(E.N.tb t').r.rd Z1 w c0 (l.getD i.toNat x')->c0.length=(E.N.tb t').r.sz->off+(ev f y).cells.toList.length<=(E.N.tb t').r.sz/\(E.N.tb t').r.rd Z1 w (E7 c0 off (ev f y).cells.toList) x':=fun c0 hr hc=>by rw[hget]at hr;have hsv:e8 E.N E.T ρ Z1 w c0 (leaves (yy.sv (ix (U9 rfl l) i))):=yy.sv_ok hr;have hl1:=hsv.len;have hl2:=hlv.len;refine⟨by omega,yy.bk_ok (b7x (hsv.J5 (o:=off) hlv)) hb⟩
             refine b8p hs1 (j+1) (O:=C.B0) (by rw[d5J (by simp_all)]) (M8 hsz) hvx rfl rfl rfl (by rw[hlv.len,e4]) h0 h1 hcs hlv.plain fun w' hs=>?_;rw[d8L]at hs;have t2:=a4x (Z:=Z1) (w:=w) (ρ:=ρ) (ρ':=ρ) (k:=0) hs (by simp) (fun _ _ h=>h);have hs2:Sep C.B0 C.w0 Z1 w' ((u7 E.N E.T ρ C.B0 (its1++lkd)).set j (iAc (E.N.tb t').r (.slice L.A L.n L.cap) (l.set i.toNat x') L.bs C.B0)):=a9e (u:=tnI Z1 w) (by simp_all);have m1:=hm1.turn (i':=.ac t' (l.set i.toNat x')) (p5 hj) hs2 ⟨L,hL,by simp_all,by simp_all,hs2.at j (t:=iAc (E.N.tb t').r (.slice L.A L.n L.cap) (l.set i.toNat x') L.bs C.B0) (by simp_all)⟩ (fun b hb=>by rw[x7 hL]at hb;exact hb);refine K .nilIface ρ Z1 w' ?_ (t1.trans t2) .un trivial;rw[hu,<- d7B _ _ (A5 hj)];exact m1
         . cases h2
       . cases h
     . cases h
   . cases h
 . cases h
def a0h{t:Nat}(h:a8H E t=true):(∀w,(sizeOf t).run E.P w=.ok (E.N.tb t).r.sz w)/\0<(E.N.tb t).r.sz/\∃info zv,(∀w,(typeInfo t).run E.P w=.ok info w)/\(E.bytes t).getD 0=info.bytes/\1<=info.bytes/\(∀w,(zeroValue t).run E.P w=.ok zv w)/\zv.cells.size=(E.N.tb t).r.sz/\E.zeroV t=some zv:=by
 unfold a8H at h;simp only[d4U]at h;obtain⟨⟨⟨h1,h2⟩,h3⟩,h4⟩:=h;refine⟨a0i h1,G4 h2,?_⟩;cases hb:E.bytes t with
 |none=>simp_all
 |some b =>
  rw[hb]at h3;cases hz:E.zeroV t with
  |none=>simp_all
  |some zv =>
   rw[hz]at h4;have h3:=G4 h3;unfold Env.bytes at hb;simp only[d5g]at hb;obtain⟨info,hi,rfl⟩:=hb;exact⟨info,zv,a8f hi,rfl,h3,a2D hz,d4W h4,rfl⟩
def srcL_ok{t:Nat}{sx:E.SV}{xs:List (E.N.U t)}{v:Value}(hm:Mem E C ρ Z w (its++lkd) nx)(hx:e7 E.N E.T ρ Z w v sx)(h:c7r E its t sx=some xs):Src (E.N.tb t).r Z w v xs:=by
 cases sx with
 |acc id =>
  simp only[c7r]at h;split at h
  . rename_i t' l hi;split at h
    . rename_i ht;subst ht;simp only[d4T]at h;subst h;obtain⟨j,hj,_⟩:=x8 hi;obtain⟨L,hL,hn1,hlen,hac⟩:=hm.holds (p5 hj);cases hx with
      |acc hL' =>
       have hL:ρ id=some L:=hL;rw[hL]at hL';cases hL';exact Src.ac hac
    . cases h
  . cases h
 |_=>exact Src.data (c06 hx h)
def b5l{k fid id:Nat}{xx x':E.N.O k}{L Lf:Loc}{F':List Nat}{w':World}(hm:Mem E C ρ Z w (its++lkd) nx)(hi:lk its id=some (.ob k fid xx))(hL:ρ id=some L)(hLf:ρ fid=some Lf)
  (hob':((E.N.oj k).ob L.b).is Z w' x' F') (x:Ext Lf.bs w w') (hF':∀b∈F',b∈Lf.bs∨w.heap.size<=b) :
  ∃ρ',Mem E C ρ' Z w' (a3I its id (.ob k nx x')++lkd) (nx+1)/\Tn ρ Z w ρ' Z w':=by
 obtain⟨j,hj,hu,_⟩:=x8 hi;have hjg:=p5 (l2:=lkd) hj;have hF:(C9 E.N E.T ρ C.B0 id (.ob k fid xx)).F=Lf.bs:=by show u4 E.N ρ id (.ob k fid xx)=_;exact F1 hLf
 have lt':=((E.N.oj k).ob L.b).lt hob';have hs1:=Wl.Sep.D5 hm.tn (j+1) (t:=C9 E.N E.T ρ C.B0 id (.ob k fid xx)) (t':=⟨F',C.B0,fun Z w=>((E.N.oj k).ob L.b).is Z w x' F'⟩) (by rw[d5F];exact j6 hjg) (by simp_all) hob' (fun Z1 Z2 B w1 w2 h1 x1 hB hz1=>((E.N.oj k).ob L.b).I3 Z1 Z2 B w1 w2 h1 x1 hB hz1) (fun b hb=>⟨by simp_all,lt' b hb⟩) rfl;have hjt:j<(u7 E.N E.T ρ C.B0 (its++lkd)).length:=by simpa[u7]using A5 hjg
 have hρ:=F6 (L:=⟨0,none,0,0,F'⟩) (hm.fr nx (d5m _));have t2:=a4x (Z:=Z) (w:=w) (ρ:=ρ) (ρ':=I6 ρ nx ⟨0,none,0,0,F'⟩) (k:=0) hs1 (by simp) hρ;have hs2:Sep C.B0 C.w0 Z w' ((u7 E.N E.T ρ C.B0 (its++lkd)).set j ⟨F',C.B0,fun Z w=>((E.N.oj k).ob L.b).is Z w x' F'⟩):=a9e (u:=tnI Z w) (by simp_all);have m1:Mem E C (I6 ρ nx ⟨0,none,0,0,F'⟩) Z w' ((its++lkd).set j (id,.ob k nx x')) (nx+1):=by
  refine⟨Sep.conv hs2 (by simp[u7]) fun k' s s' hk hk'=>?_,fun i hi=>by unfold I6;rw[if_neg (by omega)];exact hm.fr i (by omega),fun i L' e=>hρ _ _ (hm.ge i L' e),hm.zge,hm.zle⟩;obtain⟨p',hp',rfl⟩:=o8 hk';by_cases e:k'=j
  . subst e;rw[d5J hjt]at hk;rw[d5J (A5 hjg)]at hp';cases hk;cases hp';exact⟨⟨L,_,hρ _ _ hL,j8,hob'⟩,u5,fun b hb=>by have hb:b∈u4 E.N (I6 ρ nx ⟨0,none,0,0,F'⟩) id (.ob k nx x'):=hb;rw[F1 j8]at hb;exact hb,rfl⟩
  . rw[d5W (d6l e)]at hk hp';obtain⟨p,hp,rfl⟩:=o8 hk;rw[hp]at hp';cases hp';exact a4t hρ (hs2.at k' (t:=C9 E.N E.T ρ C.B0 p'.1 p'.2) (by grind))
 grind
def b4Y(hn:Nat.blt d n=true)(K:∀w',Ext [] w w'->w'.heap[w.heap.size]?=some (.map #[] 0)->WL E.P false n ops Q rest (D5 f d (.map (some w.heap.size))) w') :
  WL E.P false n ops Q (⟨some d,.makeMap T none,ty,pos,after,none⟩::rest) f w:=
 a6g rfl rfl hn fun w1 hs=>by obtain⟨kk,rfl⟩:=hs;refine⟨.map (some w.heap.size),_,{ w with heap:=w.heap.push (.map #[] 0) },?_,⟨kk,rfl⟩,K _ (Ext.push w _) (by simp)⟩;simp[execOp,Instr.makeMap,newObj,Sem.run,go_sem]
def sMap_ok(hm:Mem E C ρ Z w (its++lkd) nx)(h:c88 E its nx T=some s)(hn:Nat.blt d n=true)(K:KE E C n ops Q rest f w (some d) ρ Z lkd s) :
  WL E.P false n ops Q (⟨some d,.makeMap T none,ty,pos,after,none⟩::rest) f w:=by
 unfold c88 at h;split at h
 . rename_i o _;cases h;refine b4Y hn fun w' e hb=>?_;have hi:=o.new Z w' _ hb;have⟨m1,t1⟩:=hm.lay (i:=.ob o.k nx o.emp) (L:=⟨w.heap.size,none,0,0,[w.heap.size]⟩) (Wl.Sep.made hm.tn e hi (by simp)) ⟨_,_,j8,j8,hi⟩ (fun y hy=>by rw[F1 j8]at hy;exact hy);exact K _ _ _ _ m1 t1 (.mp j8) trivial
 . cases h
def sMapU_ok{sx key sv:E.SV}(hm:Mem E C ρ Z w (its++lkd) nx)(hx:e7 E.N E.T ρ Z w (ev f x) sx)(hk:e7 E.N E.T ρ Z w (ev f y) key)(hz:e7 E.N E.T ρ Z w (ev f z) sv)(h:b91 E its nx T key sv sx=some s)(K:KE E C n ops Q rest f w none ρ Z lkd s) :
  WL E.P false n ops Q (⟨none,.mapUpdate T x y z,ty,pos,after,none⟩::rest) f w:=by
 generalize hv:ev f x=vx at hx;cases hx with
 |mp hL =>
  simp only[b91]at h;split at h
  . rename_i k fid xx o hi ho;split at h
    . rename_i e;subst e;split at h
      . rename_i x' hg;cases h;obtain⟨j,hj,_⟩:=x8 hi;obtain⟨L,Lf,hL',hLf,his⟩:=hm.holds (p5 (l2:=lkd) hj);rw[hL]at hL';cases hL';obtain⟨w',F',ht,hi',run⟩:=o.D5 his hk hz hg;obtain⟨ρ',m1,t1⟩:=b5l hm hi hL hLf hi' ht.1 ht.2;exact b06 rfl rfl fun w1 hs=>by obtain⟨w2,hr,hs2⟩:=run w1 hs;exact⟨w2,w',by simp only[execOp,hv,d4X,hr,d4V,d5O],hs2,K (.bool true) _ _ _ m1 t1 .un trivial⟩
      . cases h
    . cases h
  . cases h
 |_=>cases h
end
end Go.Rx
namespace Go.Wl
open Go Go.Wk
section
variable{P:Program}{n:Nat}{ops:List Oper}{Q:Exit->Fr->World->Prop}{rest:List Oper}{f:Fr}{w w0:World}{d:Nat}{T T2 T3 E:TypeId}{pos:String}{after:Array Edge}{x y:Operand}{B0 O bs:List Nat}{Z:Nat->Prop}{L:List It}{zv:Value}{s al:z6}{info:TypeInfo}
def c4A{α:Type}{L:List α}{j:Nat}{t:α}(h:L[j]?=some t):L.set j t=L:=by
 apply d8a;intro k;by_cases e:j=k
 . subst e;obtain⟨hl,_⟩:=d7p.1 h;rw[d5J hl,h]
 . rw[d5W e]
def b8c{zv:Value}{zc:List Value}{sz:Nat}(m:Nat)(hzc:zv.cells=zc.toArray)(hzl:zc.length=sz)(hpos:0<sz):(Builtin.zeroCells zv.cells m).toList=(List.replicate m zc).flatten:=by unfold Builtin.zeroCells;rw[hzc,b2d hzl hpos];simp only[Array.toList_map,Array.toList_range,d7Y,hzl];apply List.map_congr_left;intro i _;simp[d5Z]
def c35{α:Type}{r:Rd α}{A A':Option Addr}{nn cap lo m c':Nat}{al:List α}{bs O:List Nat}{zv:Value}{zc:List Value}{zx:α}(hs:Sep B0 w0 Z w L)(j:Nat)(hj:L[j]?=some (iAc r (.slice A nn cap) al bs O))
  (hT:∀w,(underlying T).run P w=.ok (.slice E) w) (hz:∀w,(zeroValue E).run P w=.ok zv w) (hzc:zv.cells=zc.toArray) (hpos:0<r.sz) (hzr:∀Z w,r.rd Z w zc zx) (hp:zc.all D7=true)
  (hx:ev f x=.slice A' m c') (h0:lo+m<=nn) (hA:0<m->A'=A.map (·.add (lo*r.sz)))
  (K:∀w',Sep B0 w0 Z w' (L.set j (iAc r (.slice A nn cap) (al.take lo++List.replicate m zx++al.drop (lo+m)) bs O))->WL P false n ops Q rest f w') :
  WL P false n ops Q (⟨none,.call ⟨.builtin .clear,#[x],#[T]⟩,T3,pos,after,none⟩::rest) f w:=by
 have hzl:zc.length=r.sz:=r.len (hzr Z w);refine c2X rfl rfl fun w1 hw=>?_;obtain⟨kk,rfl⟩:=hw;have hargs:(#[x]:Array Operand).map (ev f)=#[.slice A' m c']:=by simp[hx]
 have ha:=hs.at j hj;by_cases hm:m=0
 . subst hm;refine⟨.tuple #[],{ w with drawn:=kk },w,?_,⟨kk,rfl⟩,K w (by
    rw[List.replicate_zero,d5C,d6r,d7j,c4A hj];exact hs)⟩
   cases A' <;> simp[execOp,resolve,invoke,builtin,hargs,Builtin.clear_,hT,go_sem]
 . have hA:=hA (by omega);rcases ha with⟨h1,rfl,rfl⟩|⟨b,cap',C,T',hv,rfl,ho,hC,hle,hc⟩
   . simp only[d6G]at h1;omega
   . simp only[d6G]at hv;obtain⟨rfl,rfl,rfl⟩:=hv;have hA2:A'=some ⟨b,lo*r.sz,none⟩:=by rw[hA];simp only[d7u,Addr.add,d4T];split <;> simp_all
     have hl:(List.replicate m zc).flatten.length=m*r.sz:=by rw[K9 (sz:=r.sz) (fun c h=>by rw[(d8z.1 h).2,hzl]),d6c]
     have hroom:lo*r.sz+0+(List.replicate m zc).flatten.length<=C.length:=by rw[hl,hC,d6r,<- d6k];exact d5s _ (by omega)
     obtain⟨w',hr,ho',he',hsz',hk'⟩:=X1 (P:=P) (List.replicate m zc).flatten (lo*r.sz) 0 C w ho hroom (fun v hv=>by obtain⟨c,h1,h2⟩:=List.mem_flatten.1 hv;rw[(d8z.1 h1).2]at h2;exact d5D.1 hp v h2)
     have hlen:(al.take lo++List.replicate m zx++al.drop (lo+m)).length=al.length:=by simp only[d4Y,d5n,d6N,d6c];omega
     refine⟨.tuple #[],{ w' with drawn:=kk },w',?_,⟨kk,rfl⟩,K _ (hs.D5 j hj he' ?_ sAc (fun x hx=>⟨.inl hx,by have:=hs.lt j hj x hx;have:=he'.size;omega⟩) rfl)⟩
     . obtain⟨m',rfl⟩:∃m',m=m'+1:=⟨m-1,by omega⟩;have hst:=hk' kk;rw[<- b8c (m'+1) hzc hzl hpos]at hst;simp only[execOp,resolve,invoke,builtin,d4X,d5O,d4V,hargs,Builtin.clear_,d6m,d7e,hT,hA2,hz];rw[hst];simp only[d4V,d5O]
     . refine .inr ⟨b,cap,E7 C (lo*r.sz) (List.replicate m zc).flatten,T',by rw[hlen],rfl,by simpa using ho',by rw[L5,hC],by rw[hlen];exact hle,fun i hi=>?_⟩;have hi':i<al.length:=by rw[hlen]at hi;exact hi
       obtain⟨c,h1,h2,h3⟩:=hc i hi';have hget:=fun k=>a1y (List.replicate m zc).flatten C (lo*r.sz) k (by omega);by_cases his:lo<=i/\i<lo+m
       . have e:(al.take lo++List.replicate m zx++al.drop (lo+m))[i]'hi=zx:=by
           rw[d7c (by simp only[d4Y,d5n,d6c];omega),d7o (by rw[d5n];omega),List.getElem_replicate]
         refine⟨zc,hzl,fun q hq=>?_,by rw[e];exact hzr _ _⟩;have e1:i*r.sz+q-lo*r.sz=(i-lo)*r.sz+q:=by rw[Nat.sub_mul];have:=d5s r.sz his.1;omega
         have e2:(i+1)*r.sz<=(lo+m)*r.sz:=d5s _ (by omega);rw[d6k,d6k,d8c]at e2;rw[hget,if_pos ⟨by have:=d5s r.sz his.1;omega,by rw[hl];omega⟩,e1,O4 (sz:=r.sz) (fun c h=>by rw[(d8z.1 h).2,hzl]) _ _ hq];rw[List.getElem?_replicate,if_pos (by omega)];rfl
       . have e:(al.take lo++List.replicate m zx++al.drop (lo+m))[i]'hi=al[i]:=by
           rcases d5B i lo with hlt|hge
           . rw[d7c (by simp only[d4Y,d5n,d6c];omega),d7c (by rw[d5n];omega),d7k]
           . rw[d7o (by simp only[d4Y,d5n,d6c];omega),List.getElem_drop];congr 1;simp only[d4Y,d5n,d6c];omega
         refine⟨c,h1,fun q hq=>?_,by rw[e];exact r.mono h3 he' (fun x hx hz=>absurd hz (hs.nz j hj x hx)) (fun x hx _=>hx)⟩;rw[hget,if_neg]
         . exact h2 q hq
         . rintro⟨a1,a2⟩;rw[hl]at a2;rcases d5B i lo with hlt|hge
           . have:(i+1)*r.sz<=lo*r.sz:=d5s _ hlt;rw[d6k,d8c]at this;omega
           . have:(lo+m)*r.sz<=i*r.sz:=d5s _ (by omega);rw[d6k]at this;omega
end
end Go.Wl
namespace Go.Rx
open Go Go.Wk Go.Wl
section
variable{E:Env}{C:Ctx}{n:Nat}{ops:List Oper}{Q:Exit->Fr->World->Prop}{rest:List Oper}{f:Fr}{w w':World}{d:Nat}
variable{ty T T':TypeId}{pos:String}{after:Array Edge}{x y z:Operand}{a b:Int}{ρ ρ':p4}{Z Z':Nat->Prop}{its its' lkd:c7 E.N}{nx:Nat}{s:S1 E.N}
def Mem.move{j id:Nat}{i i':Item E.N}{L:Loc}{t':It}(hm:Mem E C ρ Z w its nx)(hj:its[j]?=some (id,i))(hs:Sep C.B0 C.w0 Z w' ((u7 E.N E.T ρ C.B0 its).set j t'))(hh:Go.Rx.holds E.N E.T (I6 ρ nx L) nx Z w' i')(hF:∀b∈u4 E.N (I6 ρ nx L) nx i',b∈t'.F):Mem E C (I6 ρ nx L) Z w' ((nx,i')::its.eraseIdx j) (nx+1):=by
 have hρ:=F6 (L:=L) (hm.fr nx (d5m _));have hjl:=A5 hj;have hjt:j<(u7 E.N E.T ρ C.B0 its).length:=by simpa[u7]using hjl
 refine⟨Sep.sel hs (fun k=>match k with|0=>j|k+1=>if k<j then k else k+1) (fun k1 k2 _ _ e=>?_) fun k t hk=>?_,fun k hk=>?_,fun k L' e=>hρ _ _ (hm.ge k L' e),hm.zge,hm.zle⟩
 . grind
 . cases k with
   |zero =>
    simp[u7]at hk;subst hk;refine⟨t',?_,hh,u5,hF,rfl⟩;simp_all
   |succ k =>
    have hk:(u7 E.N E.T (I6 ρ nx L) C.B0 (its.eraseIdx j))[k]?=some t:=hk;obtain⟨p,hp,rfl⟩:=o8 hk;rw[List.getElem?_eraseIdx]at hp;have key:∀m,m≠j->its[m]?=some p->∃t,((u7 E.N E.T ρ C.B0 its).set j t')[m]?=some t/\b3U C.B0 Z w' t (C9 E.N E.T (I6 ρ nx L) C.B0 p.1 p.2):=fun m hmj hp=>by
     have e:((u7 E.N E.T ρ C.B0 its).set j t')[m]?=some (C9 E.N E.T ρ C.B0 p.1 p.2):=by rw[d5W (d6l hmj)];exact j6 hp
     exact⟨_,e,a4t hρ (hs.at m e)⟩
    grind
 . unfold I6;rw[if_neg (by omega)];exact hm.fr k (by omega)
def b9x{k b:Nat}(h1:1<=b)(h:k*b<=140737488355328):k<=9223372036854775807:=by have:=d8q k h1;omega
def sAppendR_ok{t:Nat}{xs:List (E.N.U t)}{sx:E.SV}{cl:Call}(hm:Mem E C ρ Z w (its++lkd) nx)(hx:e7 E.N E.T ρ Z w (ev f x) sx)
  (rule:a8H E t=true->∀{al:List (E.N.U t)}{bs O:List Nat}{L:List It},Sep C.B0 C.w0 Z w L->∀j:Nat,L[j]?=some (iAc (E.N.tb t).r (ev f x) al bs O)->(al.length+xs.length)*(E.bytes t).getD 0<=140737488355328->(∀A cap bs' w',Sep C.B0 C.w0 Z w' (L.set j (iAc (E.N.tb t).r (.slice A (al++xs).length cap) (al++xs) bs' O))->WL E.P false n ops Q rest (D5 f d (.slice A (al++xs).length cap)) w')->WL E.P false n ops Q (⟨some d,.call cl,ty,pos,after,none⟩::rest) f w)
  (h:a4G E its nx t xs sx=some s) (ho:q9 s.ob) (hn:Nat.blt d n=true) (K:KE E C n ops Q rest f w (some d) ρ Z lkd s) :
  WL E.P false n ops Q (⟨some d,.call cl,ty,pos,after,none⟩::rest) f w:=by
 generalize hvx:ev f x=vx at hx;unfold a4G at h;cases sx with
 |M9 =>
  have⟨h1,h2⟩:=j3 h;simp only[d4T]at h2;subst h2;obtain⟨hE,_,info,zv,hI,hb,hb1,hz,hzs,_⟩:=a0h h1;have ho1:xs.length*(E.bytes t).getD 0<=140737488355328:=ho.1;rw[hb]at ho1;cases hx;have hs1:=Wl.Sep.fact hm.tn (t:=iAc (E.N.tb t).r (.slice none 0 0) [] [] []) Ac.nil sAc rfl rfl;refine rule h1 (al:=[]) (bs:=[]) (O:=[]) hs1 0 (by rw[hvx];rfl) (by simp_all) fun A cap bs' w' hs=>?_;have hs':Sep C.B0 C.w0 Z w' (iAc (E.N.tb t).r (.slice A xs.length cap) xs bs' []::tnI Z w::u7 E.N E.T ρ C.B0 (its++lkd)):=hs;have hac:Ac (E.N.tb t).r Z w' (.slice A xs.length cap) xs bs':=hs'.at 0 rfl;have⟨m1,t1⟩:=hm.lay (i:=.ac t xs) (L:=⟨0,A,xs.length,cap,bs'⟩) hs' ⟨_,j8,rfl,b9x hb1 ho1,hac⟩ (fun y hy=>by rw[x7 j8]at hy;exact hy);exact K _ _ _ _ m1 t1 (.acc j8) trivial
 |acc id =>
  simp only at h;split at h
  . rename_i t' l hi;split at h
    . rename_i ht;subst ht;have⟨h1,h2⟩:=j3 h;simp only[d4T]at h2;subst h2;obtain⟨hE,_,info,zv,hI,hb,hb1,hz,hzs,_⟩:=a0h h1;have ho1:(l.length+xs.length)*(E.bytes t').getD 0<=140737488355328:=ho.1;rw[hb]at ho1;obtain⟨j,hj,_,hr⟩:=x8 hi;obtain⟨L,hL,hn1,hlen,hac⟩:=hm.holds (p5 hj);cases hx with
      |acc hL' =>
       have hL:ρ id=some L:=hL;rw[hL]at hL';cases hL';have hjt:j<(u7 E.N E.T ρ C.B0 (its++lkd)).length:=by simpa[u7]using A5 (p5 (l2:=lkd) hj)
       have hs1:=Wl.Sep.D5 hm.tn (j+1) (t:=C9 E.N E.T ρ C.B0 id (.ac t' l)) (t':=iAc (E.N.tb t').r (.slice L.A L.n L.cap) l L.bs C.B0) (w':=w) (by rw[d5F];exact j6 (p5 hj)) (Ext.refl _ _) hac sAc (fun b hb=>⟨.inl (by show b∈u4 E.N ρ id (.ac t' l);rw[x7 hL];exact hb),hac.lt b hb⟩) rfl;refine rule h1 (al:=l) (bs:=L.bs) (O:=C.B0) hs1 (j+1) (by rw[hvx,d5J (by simpa using hjt)]) (by simp_all) fun A cap bs' w' hs=>?_;rw[d8L]at hs;have t2:=a4x (Z:=Z) (w:=w) (ρ:=ρ) (ρ':=I6 ρ nx ⟨0,A,(l++xs).length,cap,bs'⟩) (k:=0) hs (by simp) (F6 (hm.fr nx (d5m _)));have hs2:Sep C.B0 C.w0 Z w' ((u7 E.N E.T ρ C.B0 (its++lkd)).set j (iAc (E.N.tb t').r (.slice A (l++xs).length cap) (l++xs) bs' C.B0)):=a9e (u:=tnI Z w) (by simpa using hs);have m1:=hm.move (i':=.ac t' (l++xs)) (L:=⟨0,A,(l++xs).length,cap,bs'⟩) (p5 hj) hs2 ⟨_,j8,rfl,by rw[d4Y];exact b9x hb1 ho1,hs2.at j (t:=iAc (E.N.tb t').r (.slice A (l++xs).length cap) (l++xs) bs' C.B0) (by rw[d5J hjt])⟩ (fun b hb=>by rw[x7 j8]at hb;exact hb);refine K _ _ _ _ ?_ t2 (.acc j8) trivial;have e:(nx,Item.ac t' (l++xs))::(its++lkd).eraseIdx j=((nx,Item.ac t' (U9 rfl l++xs))::rmv its id)++lkd:=by rw[hr,d8b (A5 hj)];rfl
       grind
    . cases h
  . cases h
 |_=>cases h
def sAppend_ok{t:Nat}{xs:List (E.N.U t)}{sx:E.SV}(hm:Mem E C ρ Z w (its++lkd) nx)(hT:E.G1 T=some t)(hx:e7 E.N E.T ρ Z w (ev f x) sx)(hy:Src (E.N.tb t).r Z w (ev f y) xs)(h:a4G E its nx t xs sx=some s)(ho:q9 s.ob)(hn:Nat.blt d n=true)(K:KE E C n ops Q rest f w (some d) ρ Z lkd s) :
  WL E.P false n ops Q (⟨some d,.call ⟨.builtin .append,#[x,y],#[T,T]⟩,T,pos,after,none⟩::rest) f w:=
 sAppendR_ok hm hx (fun h1 {al bs O L} hs j hj hb K=>by obtain⟨hE,_,info,zv,hI,hb0,hb1,hz,hzs,_⟩:=a0h h1;rw[hb0]at hb;exact b9g hs j hj hy (C4 hT) hI hE hz hzs hb hb1 hn K) h ho hn K
def sClear_ok{T3:Nat}{sx:E.SV}(hm:Mem E C ρ Z w (its++lkd) nx)(hx:e7 E.N E.T ρ Z w (ev f x) sx)(h:b4k E its nx T sx=some s)(K:KE E C n ops Q rest f w none ρ Z lkd s) :
  WL E.P false n ops Q (⟨none,.call ⟨.builtin .clear,#[x],#[T]⟩,T3,pos,after,none⟩::rest) f w:=by
 unfold b4k at h;split at h
 . rename_i id t lo m;split at h
   . rename_i t' l hi;split at h
     . rename_i ht;subst ht;have⟨h1,h2⟩:=j3 h;clear h;split at h2
       . rename_i e yy z hT hty hz0;have⟨h3,h4⟩:=j3 h2;clear h2;simp only[d4U]at h3;have et:=d4W h3.1;subst et;split at h4
         . rename_i zx hb;simp only[d4T]at h4;subst h4;obtain⟨hE,hp,info,zv,hI,hbb,hb1,hz,hzs,hzv⟩:=a0h h1;unfold Env.zero at hz0;rw[hzv]at hz0;simp only[d7u,d4T]at hz0;have hzr0:∀(Z:Nat->Prop)(w:World),e8 E.N E.T ρ Z w zv.cells.toList (leaves z):=fun Z w=>by
            refine e7.leaves ?_ h3.2;rw[<- hz0];exact a4C
           have hzr:∀(Z:Nat->Prop)(w:World),(E.N.tb e).r.rd Z w zv.cells.toList zx:=fun Z w=>yy.bk_ok (ρ:=ρ) (hzr0 Z w) hb;generalize hvx:ev f x=vx at hx;obtain⟨j,hj,hu,_⟩:=x8 hi;obtain⟨L,hL,hn1,hlen,hac⟩:=hm.holds (p5 hj);cases hx with
           |a3d hL' g0 g1 g2 gc gA =>
            have hL:ρ id=some L:=hL;rw[hL]at hL';cases hL';have hle:L.n<=L.cap:=by
             rcases hac with⟨q,_,_⟩|⟨b,cap,C1,T1,q,_,_,_,hq,_⟩
             . simp only[d6G]at q;omega
             . simp only[d6G]at q;omega
            have hjt:j<(u7 E.N E.T ρ C.B0 (its++lkd)).length:=by simpa[u7]using A5 (p5 (l2:=lkd) hj)
            have hs1:=Wl.Sep.D5 hm.tn (j+1) (t:=C9 E.N E.T ρ C.B0 id (.ac e l)) (t':=iAc (E.N.tb e).r (.slice L.A L.n L.cap) l L.bs C.B0) (w':=w) (by rw[d5F];exact j6 (p5 hj)) (Ext.refl _ _) hac sAc (fun b hb=>⟨.inl (by show b∈u4 E.N ρ id (.ac e l);rw[x7 hL];exact hb),(hac.lt b hb)⟩) rfl;refine c35 (lo:=lo.toNat) (m:=m.toNat) (zc:=zv.cells.toList) (zx:=zx) hs1 (j+1) (O:=C.B0) (by rw[d5J (by simp_all)]) (C4 hT) hz (by simp) hp hzr (hzr0 Z w).plain hvx (by omega) (fun hm0=>by rw[gA,if_neg (by omega)]) fun w' hs=>?_;rw[d8L]at hs;have hll:(l.take lo.toNat++List.replicate m.toNat zx++l.drop (lo.toNat+m.toNat)).length=l.length:=by simp only[d4Y,d5n,d6N,d6c];omega
            have t2:=a4x (Z:=Z) (w:=w) (ρ:=ρ) (ρ':=ρ) (k:=0) hs (by simp) (fun _ _ h=>h);have hs2:Sep C.B0 C.w0 Z w' ((u7 E.N E.T ρ C.B0 (its++lkd)).set j (iAc (E.N.tb e).r (.slice L.A L.n L.cap) (l.take lo.toNat++List.replicate m.toNat zx++l.drop (lo.toNat+m.toNat)) L.bs C.B0)):=a9e (u:=tnI Z w) (by simp_all);have m1:=hm.turn (i':=.ac e (l.take lo.toNat++List.replicate m.toNat zx++l.drop (lo.toNat+m.toNat))) (p5 hj) hs2 ⟨L,hL,by omega,by omega,hs2.at j (t:=iAc (E.N.tb e).r (.slice L.A L.n L.cap) (l.take lo.toNat++List.replicate m.toNat zx++l.drop (lo.toNat+m.toNat)) L.bs C.B0) (by simp_all)⟩ (fun b hb=>by rw[x7 hL]at hb;exact hb);rw[d7B _ _ (A5 hj),<- hu]at m1;exact K .nilIface ρ Z w' m1 t2 .un trivial
         . cases h4
       . cases h2
     . cases h
   . cases h
 . cases h
def O0.mono{α:Type}{r:Rd α}{Z Z':Nat->Prop}{w:World}(hZ:∀b,Z b->b<w.heap.size->Z' b):∀{cs:List (List Value)}{xs:List α},O0 r Z w cs xs->O0 r Z' w cs xs
 |[],[],_=>trivial
 |[],_::_,h=>h.elim
 |_::_,[],h=>h.elim
 |c::cs,x::xs,⟨h1,h2⟩=>⟨r.a3O h1 hZ,O0.mono hZ h2⟩
def litL_ok{t:Nat}{yy:TyI E.N E.T t}{e:Operand->E.SV}:∀{ps:List (Nat×Operand)}{its its':c7 E.N}{Z:Nat->Prop}{xs:List (E.N.U t)},Mem E C ρ Z w (its++lkd) nx->(∀o,e7 E.N E.T ρ Z w (ev f o) (e o))->c1V E yy e its ps=some (xs,its') ->
  ∃Z',Mem E C ρ Z' w (its'++lkd) nx/\Tn ρ Z w ρ Z' w/\O0 (E.N.tb t).r Z' w (ps.map fun p=>(ev f p.2).cells.toList) xs/\xs.length=ps.length
 |[],its,its',Z,xs,hm,he,h=>by simp[c1V]at h;obtain⟨rfl,rfl⟩:=h;exact⟨Z,hm,Tn.refl _ _ _,trivial,rfl⟩
 |p::r,its,its',Z,xs,hm,he,h=>by
  unfold c1V at h;split at h
  . rename_i v its1 hf;obtain⟨Z1,hm1,t1,hr1⟩:=frz1_ok hm hf;have⟨h1,h2⟩:=j3 h;split at h2
    . rename_i x xs' its2 hb hl;simp only[d4T,d5A]at h2;obtain⟨rfl,rfl⟩:=h2;obtain⟨Z',hm',t',ha,hlen⟩:=litL_ok hm1 (fun o=>t1.rep (he o)) hl;exact⟨Z',hm',t1.trans t',⟨(E.N.tb t).r.a3O (yy.bk_ok ((hr1 _ (he p.2)).leaves h1) hb) t'.z,ha⟩,by simp[hlen]⟩
    . cases h2
  . cases h
def a5c{e:Operand->Value}:∀{ps:List (Nat×Operand)}{i:Nat},b1D i ps=true->a0o i (ps.map fun p=>(p.1,e p.2))=true
 |[],_,_=>rfl
 |p::r,i,h=>by simp only[b1D,d4U]at h;simp only[d6f,a0o,d4U];exact⟨h.1,a5c h.2⟩
def O0.sizes{α:Type}{r:Rd α}{Z:Nat->Prop}{w:World}{e:Operand->Value}:∀{ps:List (Nat×Operand)}{xs:List α},O0 r Z w (ps.map fun p=>(e p.2).cells.toList) xs->(ps.map fun p=>(p.1,e p.2)).all (fun p=>Nat.beq p.2.cells.size r.sz)=true
 |[],_,_=>rfl
 |_::_,[],h=>h.elim
 |p::ps,x::xs,⟨h1,h2⟩=>by simp only[d6f,d6S,d4U];refine⟨?_,O0.sizes h2⟩;have:=r.len h1;simp_all
def sLit_ok{e:Operand->E.SV}{len:Nat}{ps:Array (Nat×Operand)}(hm:Mem E C ρ Z w (its++lkd) nx)(he:∀o,e7 E.N E.T ρ Z w (ev f o) (e o))(h:c2K E its nx e T len ps.toList=some s)(hn:Nat.blt d n=true)(K:KE E C n ops Q rest f w (some d) ρ Z lkd s) :
  WL E.P false n ops Q (⟨some d,.buildSlice T len ps,ty,pos,after,none⟩::rest) f w:=by
 unfold c2K at h;split at h
 . rename_i t hT;split at h
   . rename_i yy hty;have⟨h1,h2⟩:=j3 h;clear h;simp only[d4U]at h1;obtain⟨⟨⟨h1,ho⟩,hl⟩,hsm⟩:=h1;have hl:=d4W hl;split at h2
     . rename_i xs its' hlit;simp only[d4T]at h2;subst h2;obtain⟨Z1,hm1,t1,ha,hlen⟩:=litL_ok hm he hlit;obtain⟨hE,hp,info,zv,hI,hb,hb1,hz,hzs,_⟩:=a0h h1;have hsm':=d5X hsm;refine b14 (css:=ps.toList.map fun p=>(ev f p.2).cells.toList) (al:=xs) hm1.tn (C4 hT) hE hz rfl (by simp_all) (a5c ho) (O0.sizes ha) (by simp[List.flatMap_def,List.map_map];rfl) hsm (by rw[hlen,hl]) ha hn fun b w' hs=>?_;have hac:=hs.at 0 rfl;have hxl:xs.length=len:=by rw[hlen,hl]
       have⟨m1,t2⟩:=hm1.lay (i:=.ac t xs) (L:=⟨0,some ⟨b,0,none⟩,len,len,[b]⟩) hs ⟨_,j8,hxl.symm,by have:=d8q len hp;omega,hac⟩ (fun y hy=>by rw[x7 j8]at hy;exact hy);exact K _ _ _ _ m1 (t1.trans t2) (.acc j8) trivial
     . cases h2
   . cases h
 . cases h
def sMake_ok{sx sy:E.SV}(hm:Mem E C ρ Z w (its++lkd) nx)(hx:e7 E.N E.T ρ Z w (ev f x) sx)(hy:e7 E.N E.T ρ Z w (ev f y) sy)(h:c0y E its nx T sx sy=some s)(ho:q9 s.ob)(hn:Nat.blt d n=true)(K:KE E C n ops Q rest f w (some d) ρ Z lkd s) :
  WL E.P false n ops Q (⟨some d,.makeSlice T x y,ty,pos,after,none⟩::rest) f w:=by
 unfold c0y at h;split at h
 . rename_i t a b hT ha hb;split at h
   . rename_i yy hty;have⟨h1,h2⟩:=j3 h;clear h;split at h2
     . rename_i zx hz0;simp only[d4T]at h2;subst h2;obtain⟨hE,hp,info,zv,hI,hbb,hb1,hz,hzs,hzv⟩:=a0h h1;simp only[d5j]at hz0;obtain⟨sz,hsz,hbk⟩:=hz0;have⟨hf,hbk⟩:=j3 hbk;unfold Env.zero at hsz;rw[hzv]at hsz;simp only[d7u,d4T]at hsz;have ho1:0<=a:=ho.1;have ho2:a=b:=ho.2.1;have ho3:(((E.bytes t).getD 0:Nat):Int)*a<=140737488355328:=ho.2.2.1;rw[hbb]at ho3;have ha2:a<=140737488355328:=by
        have:1*a<=(info.bytes:Int)*a:=d8m (by omega) ho1;omega
       have hx':=b4l hx ha;have hy':=b4l hy hb;rw[<- ho2]at hy';have hzr:∀(Z:Nat->Prop)(w:World),(E.N.tb t).r.rd Z w zv.cells.toList zx:=fun Z w=>by refine yy.bk_ok (ρ:=ρ) (e7.leaves ?_ hf) hbk;rw[<- hsz];exact a4C
       refine b1O (zc:=zv.cells.toList) (zx:=zx) hm.tn (C4 hT) hI hE hz (by simp) rfl hp hzr hx' hy' ho1 ho3 (by omega) hn fun b w' hs=>?_;have hac:=hs.at 0 rfl;have⟨m1,t2⟩:=hm.lay (i:=.ac t (List.replicate a.toNat zx)) (L:=⟨0,some ⟨b,0,none⟩,a.toNat,a.toNat,[b]⟩) hs ⟨_,j8,by simp,by grind,hac⟩ (fun y hy=>by rw[x7 j8]at hy;exact hy);exact K _ _ _ _ m1 t2 (.acc j8) trivial
     . cases h2
   . cases h
 . cases h
def b4d{t:Nat}(h:E.N.tb t=⟨UInt8,U7,⟨0⟩⟩)(l:z6)(e:z6=List (E.N.U t)){v:Value}{Z:Nat->Prop}{w:World} :
  (cast e l:List (E.N.U t)).length=l.length/\∀bs,Ac U7 Z w v l bs->Ac (E.N.tb t).r Z w v (cast e l) bs:=by
 grind
def sBytes_ok{S D:Nat}{sx:E.SV}(hm:Mem E C ρ Z w (its++lkd) nx)(hx:e7 E.N E.T ρ Z w (ev f x) sx)(h:b52 E its nx S D sx=some s)(hn:Nat.blt d n=true)(K:KE E C n ops Q rest f w (some d) ρ Z lkd s) :
  WL E.P false n ops Q (⟨some d,.convert S D x,ty,pos,after,none⟩::rest) f w:=by
 unfold b52 at h;split at h
 . rename_i t;split at h
   . rename_i e hD;have⟨h1,h2⟩:=j3 h;clear h;split at h2
     . rename_i hi;split at h2
       . rename_i l hl;simp only[d4T]at h2;subst h2;generalize hv:ev f x=vx at hx;cases hx with|str hlen =>
         have hS:E.P.underlying S=some .string:=by
          unfold Env.isStr at h1;split at h1
          . assumption
          . cases h1
         have hT:E.P.underlying D=some (.slice e):=by
          unfold Env.G1 at hD;split at hD
          . simp_all
          . cases hD
         have hE:E.P.underlying e=some (.int .u8):=by
          unfold Env.intOf at hi;split at hi
          . simp_all
          . cases hi
         unfold ofBytes at hl;split at hl
         . rename_i yy hy;split at hl
           . rename_i h8 hb8;simp only[d4T]at hl;refine c3u hm.tn hS hT hE hv hn fun b cap w' hs=>?_;have hac:=hs.at 0 rfl;have hc:=b4d (Z:=Z) (w:=w') (v:=.slice (some ⟨b,0,none⟩) t.length cap) h8.down t (by grind);rw[hl]at hc;have hac2:=hc.2 [b] hac;have hs2:=hs.D5 0 rfl (Ext.refl _ _) (t':=iAc (E.N.tb e).r (.slice (some ⟨b,0,none⟩) t.length cap) l [b] []) hac2 sAc (fun x hx=>⟨.inl hx,hs.lt 0 rfl x hx⟩) rfl;have⟨m1,t2⟩:=hm.lay (i:=.ac e l) (L:=⟨0,some ⟨b,0,none⟩,t.length,cap,[b]⟩) hs2 ⟨_,j8,hc.1.symm,by omega,hac2⟩ (fun y hy=>by rw[x7 j8]at hy;exact hy);exact K _ _ _ _ m1 t2 (.acc j8) trivial
           . cases hl
         . cases hl
       . cases h2
     . cases h2
   . cases h
 . cases h
def litR_ok{e:Operand->E.SV}{sz:Nat}(he:∀o,e7 E.N E.T ρ Z w (ev f o) (e o)):∀{ps:List (Nat×Operand)}{ls:List E.SV},c3h e sz ps=some ls ->
  e8 E.N E.T ρ Z w (ps.flatMap fun p=>(ev f p.2).cells.toList) ls/\(ps.map fun p=>(p.1,ev f p.2)).all (fun p=>Nat.beq p.2.cells.size sz)=true/\(ps.flatMap fun p=>(ev f p.2).cells.toList).length=ps.length*sz
 |[],ls,h=>by cases h;exact⟨e8.nil,rfl,by simp⟩
 |p::r,ls,h=>by
  unfold c3h at h;have⟨h1,h2⟩:=j3 h;simp only[d4U]at h1;obtain⟨hf,hl⟩:=h1;have hl:=d4W hl;split at h2
  . rename_i ls' hr;cases h2;obtain⟨g1,g2,g3⟩:=litR_ok he hr;have hlv:=(he p.2).leaves hf;have hsz:(ev f p.2).cells.toList.length=sz:=by rw[hlv.len,hl]
    refine⟨by rw[d7l];exact e8.app hlv g1,?_,?_⟩
    all_goals grind
  . cases h2
def sLitR_ok{e:Operand->E.SV}{len:Nat}{ps:Array (Nat×Operand)}(hm:Mem E C ρ Z w (its++lkd) nx)(he:∀o,e7 E.N E.T ρ Z w (ev f o) (e o))(h:b3f E its nx e T len ps.toList=some s)(hn:Nat.blt d n=true)(K:KE E C n ops Q rest f w (some d) ρ Z lkd s) :
  WL E.P false n ops Q (⟨some d,.buildSlice T len ps,ty,pos,after,none⟩::rest) f w:=by
 unfold b3f at h;split at h
 . rename_i t hT;have⟨h1,h2⟩:=j3 h;clear h;simp only[d4U]at h1;obtain⟨⟨⟨⟨⟨⟨_,h1⟩,ho⟩,hl⟩,hsm⟩,hbig⟩,hpos⟩:=h1;have hl:=d4W hl;have hbig:=d5X hbig;split at h2
   . rename_i ls hlit;simp only[d4T]at h2;subst h2;obtain⟨hE,hp,info,zv,hI,hb,hb1,hz,hzs,_⟩:=a0h h1;obtain⟨g1,g2,g3⟩:=litR_ok he hlit;refine b74 (cs:=ps.toList.flatMap fun p=>(ev f p.2).cells.toList) hm.tn (C4 hT) hE hz rfl (by simp_all) (a5c ho) g2 (by simp[List.flatMap_map]) (by rw[g3,hl]) hsm hn fun b w' hs=>?_;have hrw:=hs.at 0 rfl;have t0:=a4x (ρ:=ρ) (ρ':=ρ) (k:=1) hs rfl (fun _ _ h=>h);have hr:=e7.sub (t0.rep g1) (F6 (L:=⟨b,some ⟨b,0,none⟩,len,len,[b]⟩) (hm.fr nx (d5m _)));have⟨m1,t1⟩:=hm.lay (i:=.rw t len ls) (L:=⟨b,some ⟨b,0,none⟩,len,len,[b]⟩) hs ⟨_,_,j8,rfl,hbig,fun _=>rfl,hrw,hr⟩ (fun y hy=>by rw[O8 j8]at hy;exact hy);exact K _ _ _ _ m1 t1 (.acc j8) trivial
   . cases h2
 . cases h
def sCall_ok{e:Operand->E.SV}(hm:Mem E C ρ Z w (its++lkd) nx)(he:∀o,e7 E.N E.T ρ Z w (ev f o) (e o)){c:Call}(h:b9n E its nx e c ty=some s)(ho:q9 s.ob)(hn:Nat.blt d n=true)(K:KE E C n ops Q rest f w (some d) ρ Z lkd s) :
  WL E.P false n ops Q (⟨some d,.call c,ty,pos,after,none⟩::rest) f w:=by
 obtain⟨cal,args,Ts⟩:=c;simp only[b9n]at h;cases cal with
 |builtin b =>
  cases b with
  |append =>
   simp only at h;split at h
   . rename_i x y S S' ha hT;obtain rfl:=c3t ha;obtain rfl:=c3t hT;cases hb:(Nat.beq S S' && Nat.beq S ty)with
     |true =>
      rw[hb,d5r]at h;simp only[d4U]at hb;obtain⟨e1,e2⟩:=hb;have e1:=d4W e1;have e2:=d4W e2;subst e1;subst e2;split at h
      . rename_i t hs;split at h
        . rename_i xs hxs;exact sAppend_ok hm hs (he x) (srcL_ok hm (he y) hxs) h ho hn K
        . cases h
      . cases h
     |false=>rw[hb,d5y]at h;cases h
   . cases h
  |_=>cases h
 |_=>cases h
def stepE_ok{e:Operand->E.SV}(hE:c8 E)(hm:Mem E C ρ Z w (its++lkd) nx)(he:∀o,e7 E.N E.T ρ Z w (ev f o) (e o)){op:Op}{d:Option Nat}(h:b62 E its nx e op ty=some s)(ho:q9 s.ob)(hn:match op with|.store _ _ _=>d=none|.mapUpdate _ _ _ _=>d=none|_=>∃d',d=some d'/\Nat.blt d' n=true)(K:KE E C n ops Q rest f w d ρ Z lkd s) :
  WL E.P false n ops Q (⟨d,op,ty,pos,after,none⟩::rest) f w:=by
 unfold b62 at h;cases op with
 |alloc T=>obtain⟨d',rfl,hn⟩:=hn;exact sAlloc_ok hE hm h hn K
 |box T x =>
  obtain⟨d',rfl,hn⟩:=hn;have⟨h1,h2⟩:=j3 h;simp only[d4T]at h2;subst h2;exact sBox_ok hm (he x) h1 hn K
 |makeInterface T x=>obtain⟨d',rfl,hn⟩:=hn;exact sMakeI_ok hm (he x) h ho hn K
 |store T a x =>
  simp only at hn;subst hn;simp only at h;have ha:=he a;generalize e a=sa at h ha;cases sa with
  |ref id off =>
   simp only[c0C]at h;split at h
   . rename_i S cells hi;have⟨h1,h2⟩:=j3 h;simp only[d4T]at h2;subst h2;simp only[d4U]at h1;obtain⟨⟨⟨e1,e2⟩,e3⟩,e4⟩:=h1;cases hs:E.size T with
     |none=>simp_all
     |some mm =>
      rw[hs]at e1 e4;exact b4h hm ha (he x) hi hs (d5X e1) e2 (d4W e4) K
   . cases h
  |el id t i off=>exact sStoreEl_ok hm ha (he x) h K
  |_=>cases h
 |buildSlice T len ps =>
  obtain⟨d',rfl,hn⟩:=hn;have h:(match b3f E its nx e T len ps.toList with|some s=>some s|none=>c2K E its nx e T len ps.toList)=some s:=h;cases h2:b3f E its nx e T len ps.toList with
  |some s2=>rw[h2]at h;cases h;exact sLitR_ok hm he h2 hn K
  |none=>rw[h2]at h;exact sLit_ok hm he h hn K
 |makeSlice T x y=>obtain⟨d',rfl,hn⟩:=hn;exact sMake_ok hm (he x) (he y) h ho hn K
 |convert S D x=>obtain⟨d',rfl,hn⟩:=hn;exact sBytes_ok hm (he x) h hn K
 |call c=>obtain⟨d',rfl,hn⟩:=hn;exact sCall_ok hm he h ho hn K
 |makeMap T r =>
  cases r with
  |none=>obtain⟨d',rfl,hn⟩:=hn;exact sMap_ok hm h hn K
  |some _=>cases h
 |mapUpdate T mm k v =>
  simp only at hn;subst hn;exact sMapU_ok hm (he mm) (he k) (he v) h K
 |_=>cases h
end
section
variable{E:Env}{C:Ctx}{n:Nat}{ops:List Oper}{Q:Exit->Fr->World->Prop}{rest:List Oper}{f:Fr}{w w':World}{d:Nat}
variable{ty T T':TypeId}{pos:String}{after:Array Edge}{x y z:Operand}{a b:Int}{ρ ρ':p4}{Z Z':Nat->Prop}{its its' lkd:c7 E.N}{nx:Nat}{s:S1 E.N}
variable{fx:n5 E.N}{st:E.St}
structure Rel(E:Env)(C:Ctx)(fx:n5 E.N)(lkd:c7 E.N)(st:E.St)(ρ:p4)(Z:Nat->Prop)(f:Fr)(w:World):Prop where
 sl:∀k s,lk st.slots k=some s->e7 E.N E.T ρ Z w (f k) s
 fx:∀p∈fx,e7 E.N E.T ρ Z w (f p.1) p.2
 gs:∀k j b s,lk st.gs k=some (j,b,s)->(f j=.bool b->e7 E.N E.T ρ Z w (f k) s)/\(f j≠.bool b->f k=undef)
 mem:Mem E C ρ Z w (st.items++lkd) st.nx
 tn:Tn C.ρ0 C.Z0 C.w1 ρ Z w
 g:E.G.is C.Z0 C.w1
def a1s.turn{G:a1s}(h:G.is Z w)(t:Tn ρ Z w ρ' Z' w'):G.is Z' w':=by obtain⟨B,x,hB⟩:=t.ext;exact G.I3 h x hB t.z
def Rel.a4g(h:Rel E C fx lkd st ρ Z f w):E.G.is Z w:=a1s.turn h.g h.tn
def nrm_ok{v:Value}{s:E.SV}(hm:Mem E C ρ Z w its nx)(h:e7 E.N E.T ρ Z w v s):e7 E.N E.T ρ Z w v (nrm its s):=by
 cases s with
 |acc id =>
  simp only[nrm];split
  . rename_i t l hi;obtain⟨L,hL,hn,hr⟩:=hm.at hi;cases h with
    |acc hL'=>rw[hL]at hL';cases hL';exact .sl hr
  . exact h
 |_=>exact h
def a6l{β:Type}{l:List (Nat×β)}{d:Nat}(h:lk l d=none):∀p∈l,d≠p.1:=by
 induction l with
 |nil=>simp_all
 |cons q r ih =>
  unfold lk at h;cases hb:Nat.beq q.1 d with
  |true=>simp_all
  |false =>
   rw[hb,d5y]at h;intro p hp;rcases d5k.1 hp with rfl|hp
   . intro e;simp_all
   grind
def Rel.slot(h:Rel E C fx lkd st ρ Z f w)(k:Nat):e7 E.N E.T ρ Z w (f k) (w8 fx st k):=by
 unfold w8;split
 . rename_i v hv;exact h.sl k v hv
 . split
   . rename_i v hv;obtain⟨i,hi,_⟩:=x8 hv;exact h.fx (k,v) (d5c hi)
   . exact .un
def Z5(f:Fr)(ch:List (Nat×Bool)):Prop:=∀j w,c0D ch j w=true->f j=.bool w
def Z5.nil:Z5 f []:=fun j w h=>by simp[c0D]at h
def Rel.ev(h:Rel E C fx lkd st ρ Z f w){ch:List (Nat×Bool)}(hc:Z5 f ch)(o:Operand):e7 E.N E.T ρ Z w (ev f o) (evS fx lkd st ch o):=by
 cases o with
 |tmp t =>
  show e7 E.N E.T ρ Z w (f t) _
  simp only[evS];split
  . rename_i j b v hv;cases hg:c0D ch j b with
    |true=>exact nrm_ok h.mem ((h.gs t j b v hv).1 (hc j b hg))
    |false=>exact .un
  . exact nrm_ok h.mem (h.slot t)
 |const v=>exact a4C
 |global g=>exact .M5 rfl
 |func K=>exact .fn
def K7{β:Type}{l:List (Nat×β)}{d k:Nat}{v:β}:lk ((d,v)::l) k=if d=k then some v else lk l k:=by
 show(bif Nat.beq d k then some v else lk l k)=_
 simp_all
def a0F{d k:Nat}{v:Value}(h:d≠k):D5 f d v k=f k:=by rw[W8,if_neg (d6l h)]
def a4N{d:Nat}{v:Value}:D5 f d v d=v:=by rw[W8,if_pos rfl]
def b5K{gs:List (Nat×Nat×Bool×E.SV)}{d:Nat}(h:(gs.all fun p=>!Nat.beq p.2.1 d)=true){k j:Nat}{b:Bool}{s:E.SV}(hk:lk gs k=some (j,b,s)):j≠d:=by obtain⟨i,hi,_⟩:=x8 hk;rw[d5D]at h;have:=h _ (d5c hi);intro e;simp_all
def H9{d:Nat}(h:free n fx st (some d)=true):Nat.blt d n=true/\lk fx d=none/\lk st.gs d=none/\(st.gs.all fun p=>!Nat.beq p.2.1 d)=true:=by simp only[free,d4U,d7L]at h;grind
def Rel.put{d:Option Nat}{v:Value}{s:E.SV}{items:c7 E.N}{nx:Nat}(h:Rel E C fx lkd st ρ Z f w)(hf:free n fx st d=true)(t:Tn ρ Z w ρ' Z' w')(hm:Mem E C ρ' Z' w' (items++lkd) nx)(hv:e7 E.N E.T ρ' Z' w' v s) :
  Rel E C fx lkd (put ⟨st.slots,st.gs,items,nx⟩ d s) ρ' Z' (R7 f d v) w':=by
 cases d with
 |none=>exact⟨fun k s hk=>t.rep (h.sl k s hk),fun p hp=>t.rep (h.fx p hp),fun k j b s hk=>⟨fun e=>t.rep ((h.gs k j b s hk).1 e),(h.gs k j b s hk).2⟩,hm,h.tn.trans t,h.g⟩
 |some d =>
  obtain⟨_,h2,h3,h4⟩:=H9 hf;refine⟨fun k s' hk=>?_,fun p hp=>?_,fun k j b s' hk=>?_,hm,h.tn.trans t,h.g⟩
  . show e7 E.N E.T ρ' Z' w' (D5 f d v k) s'
    have hk:lk ((d,s)::st.slots) k=some s':=hk;rw[K7]at hk;by_cases e:d=k
    . rw[if_pos e]at hk;cases hk;subst e;rw[a4N];exact hv
    . rw[if_neg e]at hk;rw[a0F e];exact t.rep (h.sl k s' hk)
  . show e7 E.N E.T ρ' Z' w' (D5 f d v p.1) p.2
    rw[a0F (a6l h2 p hp)];exact t.rep (h.fx p hp)
  . have hk:lk st.gs k=some (j,b,s'):=hk;have e:d≠k:=fun e=>by simp_all
    have e2:d≠j:=d6l (b5K h4 hk);show(D5 f d v j=_->e7 E.N E.T ρ' Z' w' (D5 f d v k) s')/\(D5 f d v j≠_->D5 f d v k=_)
    rw[a0F e,a0F e2];exact⟨fun e=>t.rep ((h.gs k j b s' hk).1 e),(h.gs k j b s' hk).2⟩
def Rel.b8v{d:Option Nat}{v:Value}{s:E.SV}(h:Rel E C fx lkd st ρ Z f w)(hf:free n fx st d=true)(hv:e7 E.N E.T ρ Z w v s):Rel E C fx lkd (Rx.put st d s) ρ Z (R7 f d v) w:=by have:=h.put hf (Tn.refl ρ Z w) h.mem hv;exact this
def a3m{ps:List Prop}{r:Prop}(h:cj ps r):q9 ps/\r:=by
 induction ps with
 |nil=>exact⟨trivial,h⟩
 |cons p ps ih=>exact⟨⟨h.1,(ih h.2).1⟩,(ih h.2).2⟩
def X4{ps:List Prop}{r:Prop}(h:im ps r)(hp:q9 ps):r:=by
 induction ps with
 |nil=>exact h
 |cons p ps ih=>exact ih (h hp.1) hp.2
def pickG_ok{m:Bool}{ch:List (Nat×Bool)}{c:Operand}{s:E.SV}(h:Rel E C fx lkd st ρ Z f w)(hc:Z5 f ch){ya yb:Operand}(hp:X6 fx lkd st ch c ya yb=some s)(hn:Nat.blt d n=true)(K:∀v,e7 E.N E.T ρ Z w v s->WL E.P m n ops Q rest (D5 f d v) w) :
  WL E.P m n ops Q (⟨some d,.pick c ya yb,ty,pos,after,none⟩::rest) f w:=by
 cases c with
 |tmp j =>
  simp only[X6]at hp;have he:=h.ev hc (.tmp j);split at hp
  . rename_i p dp hpp;have hv:=he.a2o hpp;refine b5e hv hn ?_;split at hp
    . rename_i t;split at hp
      . rename_i j' b v hg;have⟨h1,h2⟩:=j3 hp;simp only[d4U]at h1;obtain⟨e1,e2⟩:=h1;have e1:=d4W e1;subst e1;subst e2;split at h2
        . rename_i q dq hq;simp only[d4T]at h2;subst h2;have hgs:=h.gs t j true v hg;have hv':f j=.bool (@decide p dp):=hv;have e:(if @decide p dp=true then Wk.ev f (.tmp t)else Wk.ev f (.const (.bool false)))=.bool (decide (p/\q)):=by
           by_cases hpp:p
           . rw[if_pos (by simp[hpp])];have hr:=hgs.1 (by simp_all);show f t=_
             rw[hr.a2o hq];simp[hpp]
           . rw[if_neg (by simp[hpp])];show Value.bool false=_
             simp[hpp]
          rw[e];exact K _ .bl
        . cases h2
      . cases hp
    . rename_i t;split at hp
      . rename_i j' b v hg;have⟨h1,h2⟩:=j3 hp;simp only[d4U,d6w]at h1;obtain⟨e1,e2⟩:=h1;have e1:=d4W e1;subst e1;subst e2;split at h2
        . rename_i q dq hq;simp only[d4T]at h2;subst h2;have hgs:=h.gs t j false v hg;have hv':f j=.bool (@decide p dp):=hv;have e:(if @decide p dp=true then Wk.ev f (.const (.bool true))else Wk.ev f (.tmp t))=.bool (decide (p∨q)):=by
           by_cases hpp:p
           . rw[if_pos (by simp[hpp])];show Value.bool true=_
             simp[hpp]
           . rw[if_neg (by simp[hpp])];have hr:=hgs.1 (by simp_all);show f t=_
             rw[hr.a2o hq];simp[hpp]
          rw[e];exact K _ .bl
        . cases h2
      . cases hp
    . cases hp
  . cases hp
 |_=>cases hp
def stepG_ok{m:Bool}{ch:List (Nat×Bool)}{op:Op}{q:Q1 E.N}(h:Rel E C fx lkd st ρ Z f w)(hc:Z5 f ch)(hs:stepG fx lkd st ch op=some q)(ho:q9 q.ob)(hn:Nat.blt d n=true)(K:KQ E m n ops Q rest f w d ρ Z q) :
  WL E.P m n ops Q (⟨some d,op,ty,pos,after,none⟩::rest) f w:=by
 unfold stepG at hs;split at hs
 . rename_i v hp;cases op with
   |pick c a b=>exact pickG_ok h hc hp hn (fun v hv=>K.q0 hs hv)
   |_=>cases hp
 . exact stepQ_ok h.mem (fun o=>h.ev hc o) hs ho hn K
def Mem.join{new:c7 E.N}{nx':Nat}(hm:Mem E C ρ Z w its nx)(hρ:∀i L,ρ i=some L->ρ' i=some L)(hfr:∀i,nx'<=i->ρ' i=none)(hz:∀b,Z b->Z' b)(hz':∀b,Z' b->Z b∨w.heap.size<=b)(hs:Sep [] w Z' w' (u7 E.N E.T ρ' [] new)):Mem E C ρ' Z' w' (new++its) nx'/\Tn ρ Z w ρ' Z' w':=by
 have x:=hs.ext;have hold:∀{k:Nat}{p:Nat×Item E.N},its[k]?=some p->Go.Rx.holds E.N E.T ρ' p.1 Z' w' p.2/\(∀b∈u4 E.N ρ' p.1 p.2,b∈u4 E.N ρ p.1 p.2):=fun{k p} hp=>by have h1:Go.Rx.holds E.N E.T ρ p.1 Z' w' p.2:=u5 (B0:=C.B0) Z Z' [] w w' (hm.holds hp) x (fun _ h=>by cases h) hz;have h2:=P7 hρ h1;simp_all
 have oldF:∀{k:Nat}{p:Nat×Item E.N},its[k]?=some p->∀b∈u4 E.N ρ p.1 p.2,b<w.heap.size/\¬Z b/\(b∈C.B0∨C.w0.heap.size<=b):=fun{k p} hp b hb=>by have ok:=hm.sep.ok k _ (j6 hp);exact⟨ok.lt b hb,ok.O2 b hb,ok.org b hb⟩
 have newF:∀{k:Nat}{p:Nat×Item E.N},new[k]?=some p->Go.Rx.holds E.N E.T ρ' p.1 Z' w' p.2/\∀b∈u4 E.N ρ' p.1 p.2,b<w'.heap.size/\¬Z' b/\w.heap.size<=b:=fun{k p} hp=>by
  have ok:=hs.ok k _ (j6 hp);exact⟨ok.holds,fun b hb=>⟨ok.lt b hb,ok.O2 b hb,by
   rcases ok.org b hb with h|h
   . cases h
   . exact h⟩⟩
 have w0le:=hm.sep.ext.size;refine⟨⟨⟨hm.sep.ext.trans x (fun b hb=>.inl hb) (fun b hb=>by cases hb),hs.zlt,fun k t hk=>?_,fun j k s t hj hk hne b hb hb'=>?_⟩,hfr,fun i L e=>hρ _ _ (hm.ge i L e),fun b h=>hz b (hm.zge b h),fun b h=>?_⟩,⟨hρ,fun b h _=>hz b h,[],x,fun _ h=>by cases h⟩⟩
 . obtain⟨p,hp,rfl⟩:=o8 hk;by_cases hlt:k<new.length
   . rw[d5l hlt]at hp;obtain⟨h1,h2⟩:=newF hp;exact⟨h1,u5,fun b hb=>(h2 b hb).1,fun b hb=>(h2 b hb).2.1,fun b hb=>.inr (by have:=(h2 b hb).2.2;omega),fun b hb=>hb⟩
   . rw[d5d (by omega)]at hp;obtain⟨h1,h2⟩:=hold hp;exact⟨h1,u5,fun b hb=>by have:=(oldF hp b (h2 b hb)).1;have:=x.size;omega,fun b hb hZ=>by have o:=oldF hp b (h2 b hb);grind,fun b hb=>(oldF hp b (h2 b hb)).2.2,fun b hb=>hb⟩
 . obtain⟨p,hp,rfl⟩:=o8 hj;obtain⟨q,hq,rfl⟩:=o8 hk;have hb:b∈u4 E.N ρ' p.1 p.2:=hb;have hb':b∈u4 E.N ρ' q.1 q.2:=hb';by_cases h1:j<new.length
   . rw[d5l h1]at hp;by_cases h2:k<new.length
     . rw[d5l h2]at hq;exact hs.apart j k _ _ (j6 hp) (j6 hq) hne b hb hb'
     grind
   . rw[d5d (by omega)]at hp;by_cases h2:k<new.length
     . grind
     . rw[d5d (by omega)]at hq;exact hm.sep.apart _ _ _ _ (j6 hp) (j6 hq) (by omega) b ((hold hp).2 b hb) ((hold hq).2 b hb')
 . rcases hz' b h with h|h
   . exact hm.zle b h
   omega
def b0a{e:Operand->E.SV}(he:∀o,e7 E.N E.T ρ Z w (Wk.ev f o) (e o)):∀(l:List Operand),e7 E.N E.T ρ Z w (.tuple (l.map (Wk.ev f)).toArray) (.F5 (l.map e))
 |[]=>.M0
 |o::l=>.I8 (he o) (b0a he l)
def c6C{cs c2:List Value}{ss s2:List E.SV}(h:e7 E.N E.T ρ Z w (.tuple cs.toArray) (.F5 ss))(h2:e8 E.N E.T ρ Z w c2 s2):e7 E.N E.T ρ Z w (.tuple (cs++c2).toArray) (.F5 (ss++s2)):=by
 induction ss generalizing cs with
 |nil =>
  have:cs=[]:=by
   generalize e:Value.tuple cs.toArray=u at h;cases h with
   |M0=>simpa using e
  subst this;show e7 E.N E.T ρ Z w (.tuple c2.toArray) (.F5 s2)
  clear h
  induction s2 generalizing c2 with
  |nil=>have:=e8.A1 h2;subst this;exact .M0
  |cons s r ih=>obtain⟨v,rr,rfl,h1,_,h3⟩:=e8.cons_inv h2;exact .I8 h1 (ih h3)
 |cons s ss ih=>obtain⟨v,r,rfl,h1,h3⟩:=e7.w4 h;exact .I8 h1 (ih h3)
def callee_ok{e:Operand->E.SV}(he:∀o,e7 E.N E.T ρ Z w (Wk.ev f o) (e o)){c:Call}{K:Nat}{args:List E.SV}(h:callee e c=some (K,args)):∃z xs Ts cap,c=⟨.value z,xs,Ts⟩/\Wk.ev f z=.func (.func K) #[] cap/\e7 E.N E.T ρ Z w (.tuple (xs.toList.map (Wk.ev f)++cap.toList).toArray) (.F5 args):=by
 obtain⟨cal,xs,Ts⟩:=c;unfold callee at h;cases cal with
 |value z =>
  simp only at h;have hz:=he z;generalize hv:Wk.ev f z=vz at hz;split at h
  . rename_i K' hk;simp only[d4T,d5A]at h;obtain⟨rfl,rfl⟩:=h;rw[hk]at hz;cases hz with
    |fn=>exact⟨z,xs,Ts,#[],rfl,hv,by simpa using b0a he xs.toList⟩
  . rename_i K' cs hk;simp only[d4T,d5A]at h;obtain⟨rfl,rfl⟩:=h;rw[hk]at hz;cases hz with
    |clo hr=>exact⟨z,xs,Ts,_,rfl,hv,c6C (b0a he xs.toList) hr⟩
  . cases h
 |_=>cases h
def Y4{z:Operand}{xs:Array Operand}{Ts:Array TypeId}{cap:Array Value}{K0:Nat}{d:Option Nat}{R:Value->World->Prop}(hv:Wk.ev f z=.func (.func K0) #[] cap)(hK:∀ars w,(callFunc K0 ars).run E.P w=.ok (.enter K0 ars) w)
  (hc:G2 E.P K0 (xs.toList.map (Wk.ev f)++cap.toList) w R) (hn:∀d',d=some d'->Nat.blt d' n=true) (K:∀v w',R v w'->WL E.P false n ops Q rest (R7 f d v) w'):WL E.P false n ops Q (⟨d,.call ⟨.value z,xs,Ts⟩,ty,pos,after,none⟩::rest) f w:=by
 have key:∀w1,F8 w w1->(execOp (Wk.ev f) ⟨d,.call ⟨.value z,xs,Ts⟩,ty,pos,after,none⟩).run E.P w1=.ok (.enter K0 (xs.toList.map (Wk.ev f)++cap.toList).toArray) w1:=fun w1 _=>by
  have:xs.map (Wk.ev f)++cap=(xs.toList.map (Wk.ev f)++cap.toList).toArray:=by apply d7t;simp
  simp[execOp,resolve,Deferred.ofValue,invoke,hv,go_sem,hK,<- this]
 cases d with
 |none=>exact b89 rfl rfl key hc K
 |some d=>exact c1d rfl rfl (hn d rfl) key hc K
def calleeY_ok{e:Operand->E.SV}(he:∀o,e7 E.N E.T ρ Z w (Wk.ev f o) (e o)){c:Call}{id:Nat}{args:List E.SV}(h:b0r e c=some (id,args)):∃z xs Ts L,c=⟨.value z,xs,Ts⟩/\Wk.ev f z=.func (.yield L.b) #[] #[]/\ρ id=some L/\e7 E.N E.T ρ Z w (.tuple (xs.toList.map (Wk.ev f)).toArray) (.F5 args):=by
 obtain⟨cal,xs,Ts⟩:=c;unfold b0r at h;cases cal with
 |value z =>
  simp only at h;have hz:=he z;generalize hv:Wk.ev f z=vz at hz;split at h
  . rename_i id' hk;simp only[d4T,d5A]at h;obtain⟨rfl,rfl⟩:=h;rw[hk]at hz;cases hz with
    |yld hL=>exact⟨z,xs,Ts,_,rfl,hv,hL,b0a he xs.toList⟩
  . cases h
 |_=>cases h
def c4w{z:Operand}{xs:Array Operand}{Ts:Array TypeId}{b:Nat}{d:Nat}{R:Value->World->Prop}(hv:Wk.ev f z=.func (.yield b) #[] #[])
  (hc:a0w E.P b (xs.toList.map (Wk.ev f)) w R) (hn:Nat.blt d n=true) (K:∀v w',R v w'->WL E.P false n ops Q rest (D5 f d v) w'):WL E.P false n ops Q (⟨some d,.call ⟨.value z,xs,Ts⟩,ty,pos,after,none⟩::rest) f w:=by
 refine b9T rfl rfl hn (fun w1=>?_) hc K;have:xs.map (Wk.ev f)=(xs.toList.map (Wk.ev f)).toArray:=by apply d7t;simp
 simp[execOp,resolve,Deferred.ofValue,invoke,hv,go_sem,<- this]
def a9k{v:Value}{s:E.SV}(hp:F7 s=true)(h:e7 E.N E.T ρ Z w v s)(ρ':p4):e7 E.N E.T ρ' Z w v s:=by
 have one:∀{v:Value}{s:E.SV},(match s with|.int _ _=>true|.byte _=>true|.tt=>true|.ff=>true|.bl _ _=>true|.str _=>true|.M5 _=>true|.M9=>true|.sl _ _=>true|.err _=>true|.fn _=>true|_=>false)=true->e7 E.N E.T ρ Z w v s->e7 E.N E.T ρ' Z w v s:=fun{v s} hp h=>by
  cases h with
  |int h=>exact .int h
  |byte=>exact .byte
  |tt=>exact .tt
  |ff=>exact .ff
  |bl=>exact .bl
  |str h=>exact .str h
  |M5 h=>exact .M5 h
  |M9=>exact .M9
  |sl h=>exact .sl h
  |err h=>exact .err h
  |fn=>exact .fn
  |_=>cases hp
 cases s with
 |agg vs =>
  have⟨cs,e,h2⟩:=e7.E5 h;subst e;clear h
  rename e8 E.N E.T ρ Z w cs vs=>h
  simp only[F7]at hp;show e8 E.N E.T ρ' Z w cs vs
  induction vs generalizing cs with
  |nil=>have:=e8.A1 h;subst this;exact e8.nil
  |cons s r ih =>
   obtain⟨u,rr,rfl,h1,hpl,h2⟩:=e8.cons_inv h;simp only[d6S,d4U]at hp;refine e7.R8 (one ?_ h1) hpl (ih hp.2 rr h2);grind
 |un=>cases hp
 |undef=>cases hp
 |ref=>cases hp
 |acc=>cases hp
 |el=>cases hp
 |fel t l i off=>cases h with|fel h a b=>exact .fel h a b
 |sub=>cases hp
 |F5=>cases hp
 |ifc=>cases hp
 |clo=>cases hp
 |yld=>cases hp
 |mp=>cases hp
 |_=>exact one rfl h
def L0{cs:List Value}{ss:List E.SV}(hp:ss.all F7=true)(h:e7 E.N E.T ρ Z w (.tuple cs.toArray) (.F5 ss))(ρ':p4):e7 E.N E.T ρ' Z w (.tuple cs.toArray) (.F5 ss):=by
 induction ss generalizing cs with
 |nil =>
  generalize e:Value.tuple cs.toArray=u at h ⊢;cases h with|M0=>exact .M0
 |cons s ss ih =>
  obtain⟨v,r,rfl,h1,h2⟩:=e7.w4 h;simp only[d6S,d4U]at hp;exact .I8 (a9k hp.1 h1 ρ') (ih hp.2 h2)
def seen(Z:Nat->Prop)(w:World)(F:List Nat):Nat->Prop:=fun b=>b<w.heap.size/\b ∉ F
def lent_ok{F:List Nat}{cs:List Value}{ss:List E.SV}(hm:Mem E C ρ Z w its nx)(hF:∀b∈F,¬Z b)(hA:∀id t l,lk its id=some (.ac t l)->∀b∈u4 E.N ρ id (.ac t l),b ∉ F)(h:e7 E.N E.T ρ Z w (.tuple cs.toArray) (.F5 ss)):e7 E.N E.T ρ (seen Z w F) w (.tuple cs.toArray) (.F5 (ss.map (a1x its))):=by
 have hZ:∀b,Z b->b<w.heap.size->seen Z w F b:=fun b hz hb=>⟨hb,fun hm=>hF b hm hz⟩;have up:∀{v:Value}{s:E.SV},e7 E.N E.T ρ Z w v s->e7 E.N E.T ρ (seen Z w F) w v s:=fun h=>h.I3 (Ext.refl [] w) (fun _ h=>by cases h) hZ (fun _ _ h=>h);have one:∀{v:Value}{s:E.SV},e7 E.N E.T ρ Z w v s->e7 E.N E.T ρ (seen Z w F) w v (a90 its s):=fun{v s} h1=>by
  cases s with
  |acc id =>
   simp only[a90];split
   . rename_i t l hi;obtain⟨L,hL,hn,hl,hac⟩:=hm.at hi;cases h1 with
     |acc hL' =>
      rw[hL]at hL';cases hL';have hrd:=Ac.rd hac hl;refine .sl (Rd.a3O _ hrd fun b hb hlt=>?_);rcases hb with h|h
      . simp_all
      . exact⟨hlt,hA id t l hi b (by rw[x7 hL];exact h)⟩
   . rename_i t l hi;obtain⟨L,hL,hn,hrd⟩:=hm.at hi;cases h1 with
     |acc hL'=>rw[hL]at hL';cases hL';exact up (.sl hrd)
   simp_all
  |sub id t lo n =>
   simp only[a90];split
   . rename_i t' l hi;cases hb:Nat.beq t t' with
     |false=>simp_all
     |true =>
      rw[d5r];have e:=d4W hb;subst e;obtain⟨L,hL,hn,hl,hac⟩:=hm.at hi;cases h1 with
      |a3d hL' l0 n0 l1 hc hA' =>
       rw[hL]at hL';cases hL';have hrd:=Ac.rd hac hl;rw[hn]at hrd;have hs:=a7W (a:=lo.toNat) (b:=lo.toNat+n.toNat) hrd (by omega) (by omega);rw[d6M]at hs;rw[hc,hA'];refine .sl (Rd.a3O _ hs fun b hb hlt=>?_);rcases hb with h|h
       . simp_all
       . exact⟨hlt,hA id t l hi b (by rw[x7 hL];exact h)⟩
   simp_all
  |_=>exact up h1
 have many:∀{vs:List E.SV}{us:List Value},e8 E.N E.T ρ Z w us vs->e8 E.N E.T ρ (seen Z w F) w us (vs.map (a90 its)):=fun{vs}=>by
  induction vs with
  |nil=>intro us h;obtain rfl:=e8.A1 h;exact e8.nil
  |cons s vs ih=>intro us h;obtain⟨v,r,rfl,h1,hp,h2⟩:=e8.cons_inv h;exact e8.cons (one h1) hp (ih h2)
 induction ss generalizing cs with
 |nil =>
  simp_all
 |cons s ss ih =>
  obtain⟨v,r,rfl,h1,h2⟩:=e7.w4 h;refine .I8 ?_ (ih h2);cases s with
  |agg vs =>
   obtain⟨us,rfl,hr⟩:=e7.E5 h1;exact many hr
  |_=>exact one h1
end
def Sep.d4M{B0:List Nat}{w0 w:World}{Z:Nat->Prop}{l l':List It}(hs:Sep B0 w0 Z w l)(φ:Nat->Option Nat)(inj:∀i j a,i<l'.length->j<l'.length->φ i=some a->φ j=some a->i=j)
  (h:∀(i:Nat)(t':It),l'[i]?=some t'->(∃k t,φ i=some k/\l[k]?=some t/\b3U B0 Z w t t')∨(t'.P Z w/\t'.W9/\t'.F=[]/\t'.O=B0)):Sep B0 w0 Z w l':=by
 refine⟨hs.ext,hs.zlt,fun i t' hi=>?_,fun i j s t hi hj hne b hb hb'=>?_⟩
 . rcases h i t' hi with⟨k,t,_,ht,lk⟩|⟨h1,h2,h3,h4⟩
   . have ok:=hs.ok _ t ht;exact⟨lk.P,lk.I3,fun b hb=>ok.lt b (lk.F b hb),fun b hb=>ok.O2 b (lk.F b hb),fun b hb=>by
      rw[lk.O];rcases ok.org b (lk.F b hb)with h|h
      . exact .inl (ok.a5L b h)
      omega,fun b hb=>by rw[lk.O]at hb;exact hb⟩
   . exact⟨h1,h2,fun b hb=>(by simp_all),fun b hb=>(by simp_all),fun b hb=>(by simp_all),fun b hb=>by simp_all⟩
 . rcases h i s hi with⟨k,s1,e1,hs1,lk1⟩|⟨_,_,h3,_⟩
   . rcases h j t hj with⟨k2,t1,e2,ht1,lk2⟩|⟨_,_,h3,_⟩
     . exact hs.apart k k2 s1 t1 hs1 ht1 (fun e=>hne (inj i j k (A5 hi) (A5 hj) e1 (by simp_all))) b (lk1.F b hb) (lk2.F b hb')
     simp_all
   simp_all
def b44{β:Type}:List (Nat×β)->Nat->Nat
 |[],_=>0
 |p::r,j=>bif Nat.beq p.1 j then 0 else b44 r j+1
def a4k{β:Type}{l:List (Nat×β)}{j:Nat}{x:β}(h:lk l j=some x):l[b44 l j]?=some (j,x):=by
 induction l with
 |nil=>cases h
 |cons p r ih =>
  unfold lk at h;unfold b44;cases hb:Nat.beq p.1 j with
  |true=>rw[hb,d5r]at h;cases h;have:=d4W hb;grind
  |false=>simp_all
section
variable{E:Env}{C:Ctx}{f:Fr}{w:World}
variable{ρb ρ ρ2 ρ3:p4}{Z Zb:Nat->Prop}{wb:World}{its lkd:c7 E.N}{nx:Nat}
def a5r{id:Nat}{i:Item E.N}(h:holds E.N E.T ρ id Z w i)(hb:holds E.N E.T ρb id Zb wb i)(hρ:∀i L,ρb i=some L->ρ i=some L):holds E.N E.T ρb id Z w i/\u4 E.N ρb id i=u4 E.N ρ id i:=by
 cases i with
 |own Ty cells =>
  obtain⟨L,cs,hL,hbs,ho,hr⟩:=h;obtain⟨L',cs',hL',_,_,hr'⟩:=hb;have:=hρ _ _ hL';rw[hL]at this;cases this;exact⟨⟨L,cs,hL',hbs,ho,e7.lower hr hr' hρ⟩,by rw[u6 hL,u6 hL']⟩
 |ac t l =>
  obtain⟨L,hL,r⟩:=h;obtain⟨L',hL',_⟩:=hb;have:=hρ _ _ hL';rw[hL]at this;cases this;exact⟨⟨L,hL',r⟩,by rw[x7 hL,x7 hL']⟩
 |fz t l =>
  obtain⟨L,hL,r⟩:=h;obtain⟨L',hL',_⟩:=hb;have:=hρ _ _ hL';rw[hL]at this;cases this;exact⟨⟨L,hL',r⟩,rfl⟩
 |ob k fid x =>
  obtain⟨L,Lf,hL,hf,r⟩:=h;obtain⟨L',Lf',hL',hf',_⟩:=hb;have:=hρ _ _ hL';rw[hL]at this;cases this;have:=hρ _ _ hf';rw[hf]at this;cases this;exact⟨⟨L,Lf,hL',hf',r⟩,by rw[F1 hf,F1 hf']⟩
 |rw t n cells =>
  obtain⟨L,F,hL,hn,hb',hA,hr,hrep⟩:=h;obtain⟨L',F',hL',_,_,_,_,hrep'⟩:=hb;have:=hρ _ _ hL';rw[hL]at this;cases this;exact⟨⟨L,F,hL',hn,hb',hA,hr,e7.lower hrep hrep' hρ⟩,by rw[O8 hL,O8 hL']⟩
def Ac.takeN{α:Type}{r:Rd α}{Z:Nat->Prop}{w:World}{A:Option Addr}{nn cap k:Nat}{l:List α}{bs:List Nat}(h:Ac r Z w (.slice A nn cap) l bs)(hk:k<=nn):Ac r Z w (.slice A k cap) (l.take k) bs:=by
 have hl:l.length=nn:=Ac.n h;rcases h with⟨e,rfl,rfl⟩|⟨b,cap',C,T,hv,rfl,ho,hC,hle,hc⟩
 . simp only[d6G]at e;obtain⟨rfl,rfl,rfl⟩:=e;have:k=0:=by omega
   subst this;exact .inl ⟨rfl,rfl,rfl⟩
 . simp only[d6G]at hv;obtain⟨rfl,_,rfl⟩:=hv;refine .inr ⟨b,cap,C,T,by grind,rfl,ho,hC,by grind,fun i hi=>?_⟩;have hi':i<l.length:=by rw[d5n]at hi;omega
   grind
def Tgt(E:Env)(B0:List Nat)(ρ:p4)(Z:Nat->Prop)(w:World)(its:c7 E.N)(ρ2:p4)(o:Option Nat)(p:Nat×Item E.N):Prop:=match o with
 |some sid=>∃it,lk its sid=some it/\holds E.N E.T ρ2 p.1 Z w p.2/\∀b∈u4 E.N ρ2 p.1 p.2,b∈u4 E.N ρ sid it
 |none=>holds E.N E.T ρ2 p.1 Z w p.2/\u4 E.N ρ2 p.1 p.2=[]
inductive V4(E:Env)(B0:List Nat)(ρ:p4)(Z:Nat->Prop)(w:World)(its:c7 E.N)(ρ2:p4):List (Option Nat)->c7 E.N->Prop
 |nil:V4 E B0 ρ Z w its ρ2 [] []
 |cons {o:Option Nat} {p:Nat×Item E.N} {os:List (Option Nat)} {ps:c7 E.N}:Tgt E B0 ρ Z w its ρ2 o p->V4 E B0 ρ Z w its ρ2 os ps->V4 E B0 ρ Z w its ρ2 (o::os) (p::ps)
def Tgt.mono{B0:List Nat}{o:Option Nat}{p:Nat×Item E.N}(hρ:∀i L,ρ2 i=some L->ρ3 i=some L)(h:Tgt E B0 ρ Z w its ρ2 o p):Tgt E B0 ρ Z w its ρ3 o p:=by
 cases o with
 |some sid=>obtain⟨it,h1,h2,h3⟩:=h;have:=P7 hρ h2;exact⟨it,h1,this.1,fun b hb=>h3 b (by simp_all)⟩
 |none=>obtain⟨h1,h2⟩:=h;have:=P7 hρ h1;exact⟨this.1,by simp_all⟩
def V4.mono{B0:List Nat}{os:List (Option Nat)}{ps:c7 E.N}(hρ:∀i L,ρ2 i=some L->ρ3 i=some L)(h:V4 E B0 ρ Z w its ρ2 os ps):V4 E B0 ρ Z w its ρ3 os ps:=by
 induction h with
 |nil=>exact .nil
 |cons h _ ih=>exact .cons (h.mono hρ) ih
def V4.get{B0:List Nat}{os:List (Option Nat)}{ps:c7 E.N}(h:V4 E B0 ρ Z w its ρ2 os ps):os.length=ps.length/\∀(i:Nat)(p:Nat×Item E.N),ps[i]?=some p->∃o,os[i]?=some o/\Tgt E B0 ρ Z w its ρ2 o p:=by
 induction h with
 |nil=>simp_all
 |cons h _ ih =>
  grind
def b3J{os:List (Option Nat)}(h:(os.filterMap id).Nodup):∀(i j sid:Nat),os[i]?=some (some sid)->os[j]?=some (some sid)->i=j:=by
 induction os with
 |nil=>simp_all
 |cons o r ih =>
  grind
def Mem.b02{os:List (Option Nat)}{new:c7 E.N}{n2:Nat}(hm:Mem E C ρ Z w (its++lkd) nx)(hl:∀p∈lkd,Go.Rx.holds E.N E.T ρ2 p.1 Z w p.2/\u4 E.N ρ2 p.1 p.2=u4 E.N ρ p.1 p.2)(ht:V4 E C.B0 ρ Z w its ρ2 os new)(hd:(os.filterMap id).Nodup)(hfr:∀i,n2<=i->ρ2 i=none)(hge:∀i L,C.ρ0 i=some L->ρ2 i=some L):Mem E C ρ2 Z w (new++lkd) n2:=by
 obtain⟨hlen,hget⟩:=ht.get;refine⟨Sep.d4M hm.sep (fun i=>if i<new.length then(match os[i]? with|some (some sid)=>some (b44 its sid)|_=>none)else some (its.length+(i-new.length))) (fun i j a hi hj e1 e2=>?_) fun i t' hi=>?_,hfr,hge,hm.zge,hm.zle⟩
 . have small:∀i,i<new.length->(match os[i]? with|some (some sid)=>some (b44 its sid)|_=>none)=some a->∃sid,os[i]?=some (some sid)/\b44 its sid=a/\a<its.length/\∃it,its[a]?=some (sid,it):=fun i hi e=>by
     split at e
     . rename_i sid hs;cases e;obtain⟨o,ho,htg⟩:=hget i _ (d5i hi);rw[hs]at ho;cases ho;obtain⟨it,h1,_⟩:=htg;exact⟨sid,hs,rfl,A5 (a4k h1),it,a4k h1⟩
     . cases e
   by_cases h1:i<new.length
   . rw[if_pos h1]at e1;obtain⟨s1,a1,b1,c1,it1,d1⟩:=small i h1 e1;by_cases h2:j<new.length
     . rw[if_pos h2]at e2;obtain⟨s2,a2,b2,c2,it2,d2⟩:=small j h2 e2;rw[d1]at d2;cases d2;exact b3J hd i j s1 a1 a2
     grind
   grind
 . obtain⟨p,hp,rfl⟩:=o8 hi;by_cases h1:i<new.length
   . rw[d5l h1]at hp;obtain⟨o,ho,htg⟩:=hget i p hp;simp only[if_pos h1,ho];cases o with
     |some sid =>
      obtain⟨it,a1,a2,a3⟩:=htg;exact .inl ⟨_,_,rfl,j6 (p5 (a4k a1)),a2,u5,a3,rfl⟩
     |none=>exact .inr ⟨htg.1,u5,htg.2,rfl⟩
   . rw[d5d (by omega)]at hp;simp only[if_neg h1];have hq:(its++lkd)[its.length+(i-new.length)]?=some p:=by rw[d5d (by omega)];simpa using hp
     obtain⟨a1,a2⟩:=hl p (d5c hp);exact .inl ⟨_,_,rfl,j6 hq,a1,u5,fun b hb=>by have hb:b∈u4 E.N ρ2 p.1 p.2:=hb;rw[a2]at hb;exact hb,rfl⟩
def G5{ρ1 ρ2 ρ3:p4}(h:∀i L,ρ1 i=some L->ρ2 i=some L)(k:∀i L,ρ2 i=some L->ρ3 i=some L):∀i L,ρ1 i=some L->ρ3 i=some L:=fun i L e=>k _ _ (h _ _ e)
def rb1_ok{k:VK}{v:E.SV}{u:Value}{x:k.den E.N}{n2:Nat}{os:List (Option Nat)}{new:c7 E.N}(hm:Mem E C ρ Z w (its++lkd) nx)(hu:e7 E.N E.T ρ Z w u v)(h:rb1 E its k v=some x)(hfr:∀i,n2<=i->ρ2 i=none)(ht:V4 E C.B0 ρ Z w its ρ2 os new) :
  ∃ρ3 os',V4 E C.B0 ρ Z w its ρ3 os' ((fl1 E n2 k x).2.1++new)/\(∀i,(fl1 E n2 k x).2.2<=i->ρ3 i=none)/\(∀i L,ρ2 i=some L->ρ3 i=some L)/\e7 E.N E.T ρ3 Z w u (fl1 E n2 k x).1/\os'.filterMap id=X5 k v++os.filterMap id:=by
 have same:X5 k v=[]->(fl1 E n2 k x).2.1=[]->(fl1 E n2 k x).2.2=n2->e7 E.N E.T ρ2 Z w u (fl1 E n2 k x).1->∃ρ3 os',V4 E C.B0 ρ Z w its ρ3 os' ((fl1 E n2 k x).2.1++new)/\(∀i,(fl1 E n2 k x).2.2<=i->ρ3 i=none)/\(∀i L,ρ2 i=some L->ρ3 i=some L)/\e7 E.N E.T ρ3 Z w u (fl1 E n2 k x).1/\os'.filterMap id=X5 k v++os.filterMap id:=fun e0 e1 e2 hr=>⟨ρ2,os,by simp_all,by simp_all,fun _ _ h=>h,hr,by rw[e0];rfl⟩;cases k with
 |int k =>
  cases v with
  |int k' y =>
   simp only[rb1]at h;split at h
   . rename_i e;subst e;cases h;cases hu with
     |int hi=>exact same rfl rfl rfl (.int hi)
   . cases h
  |_=>cases h
 |byte =>
  cases v with
  |byte y=>cases h;cases hu;exact same rfl rfl rfl .byte
  |_=>cases h
 |bool =>
  have hb:∀y:Bool,Value.bool y=.bool (@decide (y=true) inferInstance):=fun y=>by simp_all
  cases v with
  |tt=>cases h;cases hu;refine same rfl rfl rfl ?_;rw[hb true];exact .bl
  |ff=>cases h;cases hu;refine same rfl rfl rfl ?_;rw[hb false];exact .bl
  |bl p d =>
   cases h;have he:u=.bool (@decide p d):=by cases hu;rfl
   refine same rfl rfl rfl ?_;rw[he,hb (@decide p d)];exact .bl
  |_=>cases h
 |str =>
  cases v with
  |str y=>cases h;cases hu with|str hl=>exact same rfl rfl rfl (.str hl)
  |_=>cases h
 |err =>
  cases v with
  |err y=>cases h;cases hu with|err he=>exact same rfl rfl rfl (.err he)
  |_=>cases h
 |sl t =>
  simp only[rb1]at h;have hu':e7 E.N E.T ρ Z w u (nrm its v):=by
   cases v with
   |acc id =>
    simp only[nrm];split
    . rename_i t l hi;obtain⟨j,hj,_⟩:=x8 hi;obtain⟨L,hL,hn,hr⟩:=hm.holds (p5 hj);cases hu with
      |acc hL'=>have hL:ρ id=some L:=hL;rw[hL]at hL';cases hL';exact .sl hr
    . exact hu
   |_=>exact hu
  exact same (by unfold X5;rfl) rfl rfl (.sl (c06 hu' h))
 |a0n =>
  cases v with
  |M5 u' =>
   simp only[rb1]at h;split at h
   . split at h
     . cases hu;exact same rfl rfl rfl (.M5 rfl)
     . cases h
   . cases h
  |_=>cases h
 |val t =>
  cases v with
  |agg vs =>
   simp only[rb1]at h;split at h
   . rename_i y hy;obtain⟨cs,rfl,hr⟩:=e7.E5 hu;have hrd:=y.bk_ok (s:=.agg vs) hr h;have hsv:=y.sv_ok (ρ:=ρ2) hrd;refine same rfl rfl rfl ?_;simp only[fl1,hy];split
     . rename_i ls hls;rw[hls]at hsv;exact hsv
     . exact .un
   . cases h
  |_=>cases h
 |acc t =>
  have hn:=hfr n2 (d5m _);cases v with
  |M9 =>
   cases h;cases hu;refine⟨I6 ρ2 n2 ⟨0,none,0,0,[]⟩,none::os,.cons ⟨⟨_,j8,rfl,by simp,Ac.nil⟩,by rw[x7 j8]⟩ (ht.mono (F6 hn)),fun i hi=>?_,F6 hn,.acc j8,rfl⟩;have hi:n2+1<=i:=hi;unfold I6;grind
  |acc id =>
   simp only[rb1]at h;split at h
   . rename_i t' l hi;split at h
     . rename_i e;subst e;cases h;obtain⟨j,hj,_⟩:=x8 hi;obtain⟨L,hL,r⟩:=hm.holds (p5 hj);have hL:ρ id=some L:=hL;cases hu with
       |acc hL' =>
        rw[hL]at hL';cases hL';refine⟨I6 ρ2 n2 L,some id::os,.cons ⟨_,hi,⟨L,j8,r⟩,fun b hb=>by rw[x7 j8]at hb;rw[x7 hL];exact hb⟩ (ht.mono (F6 hn)),fun i hi=>?_,F6 hn,.acc j8,rfl⟩;have hi:n2+1<=i:=hi;unfold I6;grind
     . cases h
   . cases h
  |sub id t2 lo nn =>
   simp only[rb1]at h;split at h
   . split at h
     . rename_i t' l hi;split at h
       . rename_i e;subst e;have⟨hb,h2⟩:=j3 h;clear h;simp only[d4U]at hb;obtain⟨e2,hel⟩:=hb;have e2:=d4W e2;subst e2;cases h2;obtain⟨j,hj,_⟩:=x8 hi;obtain⟨L,hL,hn1,hlen,hac⟩:=hm.holds (p5 hj);have hL:ρ id=some L:=hL;cases hu with
         |a3d hL' l0 n0 l1 hc hA =>
          rw[hL]at hL';cases hL';have hnl:nn.toNat<=l.length:=by have l1:(0:Int)+nn<=L.n:=l1;omega
          have hact:=Ac.takeN (k:=nn.toNat) hac (by omega);have e0:(Int.ofNat 0).toNat=0:=rfl;rw[e0,Nat.zero_mul]at hA;rw[e0,Nat.sub_zero]at hc;have hA2:_=L.A:=hA.trans (by
           split
           . rfl
           . cases hLA:L.A with
             |none=>rfl
             |some a=>show some (a.add 0)=some a;obtain⟨ab,ao,asp⟩:=a;rfl)
          rw[hc,hA2];have hl2:(U9 rfl l:List (E.N.U t2)).take nn.toNat=l.take nn.toNat:=rfl;refine⟨I6 ρ2 n2 ⟨L.b,L.A,nn.toNat,L.cap,L.bs⟩,some id::os,.cons ⟨_,hi,⟨_,j8,by simp_all,by grind,hact⟩,fun b hb=>by rw[x7 j8]at hb;rw[x7 hL];exact hb⟩ (ht.mono (F6 hn)),fun i hi=>?_,F6 hn,.acc j8,rfl⟩;have hi:n2+1<=i:=hi;unfold I6;grind
       . cases h
     . cases h
   . cases h
  |_=>cases h
end
end Go.Rx
