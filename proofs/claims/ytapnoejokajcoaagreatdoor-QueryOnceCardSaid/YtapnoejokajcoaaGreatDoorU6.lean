/- 47 texts, one behind the other. -/
import Derived.Test.YtapnoejokajcoaaGreatDoorU3
import Derived.Test.YtapnoejokajcoaaGreatDoorU1
import Derived.Lib.SlicesCompact
import Derived.RangeFuncRecord
import Derived.Test.YtapnoejokajcoaaGreatDoorUEr
import Derived.Test.YtapnoejokajcoaaGreatDoorUEs
set_option linter.defProp false
set_option linter.unusedVariables false
set_option linter.unusedSimpArgs false
set_option maxRecDepth 100000
noncomputable section
def d4Y:=@Int.tmod_eq_emod_of_nonneg
def d4i:=@Classical.not_not
def d4p:=@Bool.decide_eq_true
def d4r:=@Int.tdiv_eq_ediv_of_nonneg
def d5H:=@List.take_succ_eq_append_getElem
def d5K:=@Int.mul_nonneg
def d5X:=@Bool.eq_iff_iff
def d5c:=@decide_eq_decide
def d5f:=@List.pairwise_cons
def d5i:=@Bool.false_ne_true
def d5s:=@List.length_nil
def d6F:=@List.any_eq_true
def d6G:=@List.getElem_map
def d6I:=@Go.World.putObj_heap_other
def d6L:=@List.map_append
def d6M:=@Nat.not_lt
def d6N:=@List.filter_append
def d6P:=@Go.World.putObj_size
def d6Q:=@List.mem_range
def d6U:=@Int.lt_of_mul_lt_mul_right
def d6V:=@Iff.rfl
def d6f:=@List.mergeSort_of_pairwise
def d6g:=@List.drop_eq_nil_of_le
def d6h:=@Array.getElem?_push
def d6k:=@List.filter_cons_of_pos
def d6m:=@Array.size_push
def d6o:=@Array.getElem?_eq_some_iff
def d6q:=@List.length_singleton
def d6v:=@List.filter_cons_of_neg
def d7B:=@List.mem_of_mem_take
def d7F:=@List.take_succ_cons
def d7H:=@Bool.and_false
def d7R:=@Bool.eq_false_iff
def d7S:=@List.foldl_append
def d7T:=@List.filter_congr
def d7c:=@List.length_set
def d7i:=@Int.mul_le_mul
def d8b:=@List.ext_getElem
def d8c:=@Nat.le_add_right
def d8h:=@Int.ediv_mul_le
def d8i:=@List.filter_nil
def d8j:=@Int.sub_mul
namespace Go.Rx
open Go Go.Wk Go.Wl
structure AR(N:B6)(T:M8)(α:Type) where
 rd:SV N->Option α
 sv:α->SV N
 ok:∀{ρ:o5}{Z:Nat->Prop}{w:World}{v:Value}{s:SV N}{x:α},rd s=some x->e7 N T ρ Z w v s->e7 N T ρ Z w v (sv x)
 pu:∀x,F1 (sv x)=true
structure AL(N:B6)(T:M8)(α:Type) where
 rd:List (SV N)->Option α
 sv:α->List (SV N)
 ok:∀{ρ:o5}{Z:Nat->Prop}{w:World}{v:Value}{s:List (SV N)}{x:α},rd s=some x->e7 N T ρ Z w v (.E8 s)->e7 N T ρ Z w v (.E8 (sv x))
 pu:∀x,(sv x).all F1=true
section
variable{N:B6}{T:M8}{α β:Type}
def AL.n:AL N T Unit where
 rd|[]=>some ()|_=>none
 sv _:=[]
 ok {_ _ _ _ s _} h r:=by cases s with|nil=>exact r|cons=>cases h
 pu _:=rfl
def AR.c(r:AR N T α)(l:AL N T β):AL N T (α×β) where
 rd|s::q=>(r.rd s).bind fun x=>(l.rd q).bind fun y=>some (x,y)|[]=>none
 sv y:=r.sv y.1::l.sv y.2
 ok {ρ Z w v s y} h hr:=by
  cases s with
  |nil=>cases h
  |cons a q =>
   obtain⟨x,h1,h⟩:=d4y.1 h;obtain⟨z,h2,h⟩:=d4y.1 h;cases h;generalize e:SV.E8 (a::q)=u at hr;cases hr with
   |I6 ha hr=>cases e;exact .I6 (r.ok h1 ha) (l.ok h2 hr)
   |_=>cases e
 pu y:=by rw[d6e,r.pu,l.pu];rfl
def rI:AR N T Int where
 rd|.int .i64 x=>some x|_=>none
 sv x:=.int .i64 x
 ok {_ _ _ _ s _} h r:=by
  cases s with
  |int k y=>cases k <;> cases h;exact r
  |_=>cases h
 pu _:=rfl
def rS:AR N T y8 where
 rd|.str x=>some x|_=>none
 sv x:=.str x
 ok {_ _ _ _ s _} h r:=by
  cases s with
  |str y=>cases h;exact r
  |_=>cases h
 pu _:=rfl
def rE:AR N T l8 where
 rd|.err x=>some x|_=>none
 sv x:=.err x
 ok {_ _ _ _ s _} h r:=by
  cases s with
  |err y=>cases h;exact r
  |_=>cases h
 pu _:=rfl
def rY:AR N T UInt8 where
 rd|.byte x=>some x|_=>none
 sv x:=.byte x
 ok {_ _ _ _ s _} h r:=by
  cases s with
  |byte y=>cases h;exact r
  |_=>cases h
 pu _:=rfl
def rL(t:Nat):AR N T (List (N.U t)) where
 rd|.sl t' l=>if h:t'=t then some (h ▸ l)else none|_=>none
 sv x:=.sl t x
 ok {_ _ _ _ s _} h r:=by
  cases s with
  |sl t' l =>
   simp only at h;split at h
   . rename_i e;subst e;cases h;exact r
   . cases h
  |_=>cases h
 pu _:=rfl
def TyI.r{t:Nat}(y:TyI N T t)(h1:∀x,∃l,y.sv x=.agg l)(h2:∀x,F1 (y.sv x)=true):AR N T (N.U t) where
 rd|.agg l=>y.bk (.agg l)|_=>none
 sv:=y.sv
 ok {ρ _ _ _ s x} h r:=by
  cases s with
  |agg l =>
   obtain⟨cs,rfl,hl⟩:=r.E1;obtain⟨q,e1⟩:=h1 x;have:=y.sv_ok (ρ:=ρ) (y.bk_ok (s:=.agg l) hl h);rw[e1]at this ⊢;exact this
  |_=>cases h
 pu:=h2
end
section
variable{E:Env}{A:Type}
def rB:AR E.N E.T Bool where
 rd:=a9O
 sv x:=I0 x
 ok h r:=a3D h r
 pu _:=rfl
def Env.kL(E:Env)(K:Nat)(L:AL E.N E.T A)(k:VK)(ob:A->List Prop)(x:A->k.den E.N):Env:=E.A7 K fun args=>(L.rd args).bind fun a=>some ⟨ob a,[],Z5 E 0 k (x a)⟩
def Env.kM(E:Env)(K:Nat)(L:AL E.N E.T A)(k1 k2:VK)(ob:A->List Prop)(x1:A->k1.den E.N)(x2:A->k2.den E.N):Env:=E.A7 K fun args=>(L.rd args).bind fun a=>some ⟨ob a,[],.E8 [Z5 E 0 k1 (x1 a),Z5 E 0 k2 (x2 a)]⟩
def Env.kC(E:Env)(K:Nat)(L:AL E.N E.T A)(k:VK)(ob:A->List Prop)(x:A->k.den E.N):Env:=E.a0B K fun args nx=>(L.rd args).bind fun a=>some ⟨ob a,[],Z5 E nx k (x a),a2m E k (x a)⟩
def Env.kD(E:Env)(K:Nat)(L:AL E.N E.T A)(k1 k2:VK)(ob:A->List Prop)(x1:A->k1.den E.N)(x2:A->k2.den E.N):Env:=E.a0B K fun args nx=>(L.rd args).bind fun a=>some ⟨ob a,[],.E8 [Z5 E nx k1 (x1 a),Z5 E nx k2 (x2 a)],a2m E k1 (x1 a)⟩
def c8.kL(h:c8 E){K:Nat}(hc:a0o E.P K){fn:Func}(hf:E.P.funcs[K]?=some fn){inl:Inl E}(hI:G4 E inl){an:D1}{L:AL E.N E.T A}{k:VK}{ob:A->List Prop}{x:A->k.den E.N}(hb:∀a,p8 (ob a)->bare E k (x a))(hv:∀a,p8 (ob a)->i7 inl an fn (L.sv a) [] [] 0 (a1P E [k] (fun y=>y=x a))):c8 (E.kL K L k ob x):=h.A7 hc fun args q e ho=>by obtain⟨a,h1,h2⟩:=d4y.1 e;cases h2;exact A0.conv (H6 h hI hf (hb a ho) (hv a ho) 0) fun D w vs hr=>L.ok h1 hr
def c8.kM(h:c8 E){K:Nat}(hc:a0o E.P K){fn:Func}(hf:E.P.funcs[K]?=some fn){inl:Inl E}(hI:G4 E inl){an:D1}{L:AL E.N E.T A}{k1 k2:VK}{ob:A->List Prop}{x1:A->k1.den E.N}{x2:A->k2.den E.N}(hb:∀a,p8 (ob a)->bare E k1 (x1 a))(hb2:∀a,p8 (ob a)->bare E k2 (x2 a))(hv:∀a,p8 (ob a)->i7 inl an fn (L.sv a) [] [] 0 (a1P E [k1,k2] (fun y z=>y=x1 a/\z=x2 a))):c8 (E.kM K L k1 k2 ob x1 x2):=h.A7 hc fun args q e ho=>by obtain⟨a,h1,h2⟩:=d4y.1 e;cases h2;exact A0.conv (c43 h hI hf (hb a ho) (hb2 a ho) (hv a ho) 0) fun D w vs hr=>L.ok h1 hr
def c8.kC(h:c8 E){K:Nat}(hc:a0o E.P K){fn:Func}(hf:E.P.funcs[K]?=some fn){inl:Inl E}(hI:G4 E inl){an:D1}{L:AL E.N E.T A}{k:VK}{ob:A->List Prop}{x:A->k.den E.N}(hv:∀a,p8 (ob a)->i7 inl an fn (L.sv a) [] [] 0 (a1P E [k] (fun y=>y=x a))):c8 (E.kC K L k ob x):=h.a0B hc fun args nx c e hp ho=>by obtain⟨a,h1,h2⟩:=d4y.1 e;cases h2;exact O8.a3F (d0x h hI hf (L.pu a) (hv a ho)) fun ρ Z w v hr=>L.ok h1 hr
def c8.kD(h:c8 E){K:Nat}(hc:a0o E.P K){fn:Func}(hf:E.P.funcs[K]?=some fn){inl:Inl E}(hI:G4 E inl){an:D1}{L:AL E.N E.T A}{k1 k2:VK}{ob:A->List Prop}{x1:A->k1.den E.N}{x2:A->k2.den E.N}(h2:∀a,a2m E k2 (x2 a)=[])(hv:∀a,p8 (ob a)->i7 inl an fn (L.sv a) [] [] 0 (a1P E [k1,k2] (fun y z=>y=x1 a/\z=x2 a))):c8 (E.kD K L k1 k2 ob x1 x2):=h.a0B hc fun args nx c e hp ho=>by obtain⟨a,h1,h3⟩:=d4y.1 e;cases h3;exact O8.a3F (c6Z h hI hf (h2 a) (L.pu a) (hv a ho)) fun ρ Z w v hr=>L.ok h1 hr
end
end Go.Rx
namespace Go.Re
open Go.Wl
def a5k(a b:Nt):Prop:=a.Day<b.Day∨a.Day=b.Day/\a.N<b.N
instance:∀a b,Decidable (a5k a b):=fun _ _=>inferInstanceAs (Decidable (_∨_))
def a1V(l:List Int):Int:=if(l.length:Int)=0 then 1 else(l.length:Int)
def OkN(lo hi:Int)(b:Bool)(n:Int):Prop:=if(b=true/\n<0)/\-hi<=n then lo<=-n/\-n<=hi else lo<=n/\n<=hi
structure Y5(l:List Int)(lo hi:Int)(b:Bool):Prop where
 ok:∀i:Int,0<=i->i<l.length->OkN lo hi b (ix l i)
 up:∀i:Int,0<i->i<l.length->ix l (i-1)<ix l i
 few:(l.length:Int)<=24
def a1j{α:Type}[Inhabited α]{l:List α}{i:Int}(h0:0<=i)(h1:i<l.length):ix l i∈l:=by
 have h:i.toNat<l.length:=by omega
 rw[w8 h];exact d5G h
def b9C(L:List Int):Bool:=L.all fun n=>decide (n<=60)
def b8X{L:List Int}(h:∀j:Int,0<=j->j<L.length->ix L j<=60):b9C L=true:=d4N.2 fun n hn=>by obtain⟨k,hk,e⟩:=d4R hn;have:=h k (by omega) (by omega);rw[w8 (by omega)]at this;have e:L[(k:Int).toNat]'(by omega)=n:=e;rw[e]at this;exact d4u this
def c1X{L:List Int}{j:Int}(h0:0<=j)(h1:j<L.length)(h:60<ix L j):b9C L=false:=by
 cases e:b9C L with
 |false=>rfl
 |true =>
  have:=d5e (d4N.1 e _ (a1j h0 h1));omega
def F4(r:Rl):Bool:=b9C [(r.Month.length:Int),r.p5.length,r.j9.length,r.j7.length,r.w6.length,r.Hour.length,r.Minute.length,r.Second.length,r.x8.length,r.e9.length]
end Go.Re
section
namespace Go.Re
open Go.Wl
open Go.Rx (c6)
def M4(r:Rl):Int:=if r.j8=1 then 5 else if r.j8=0/\(r.p5.length:Int)=0 then 53 else 0
def c0f(m:Int)(d:Nt):Prop:=0<=d.Day/\d.Day<=6/\d.N<=m/\-m<=d.N
def b5m(r:Rl):Prop:=0<=r.j8/\r.j8<=6/\1<=r.Interval/\r.Interval<=9999/\0<=r.Count/\r.Count<=9999/\0<=r.u6/\r.u6<=6
def b9c(r:Rl):Prop:=(r.e9.length:Int)<=1/\((r.e9.length:Int)=1->r.Count<=0/\o7 (ix r.e9 0)=true)
structure b4h(r:Rl):Prop where
 mo:Y5 r.Month 1 12 false
 wn:Y5 r.p5 1 53 true
 yd:Y5 r.j9 1 366 true
 md:Y5 r.j7 1 31 true
 ho:Y5 r.Hour 0 23 false
 mi:Y5 r.Minute 0 59 false
 se:Y5 r.Second 0 59 false
 sp:Y5 r.x8 1 366 true
structure c5C(l:List Nt)(m:Int):Prop where
 ok:∀i:Int,0<=i->i<l.length->c0f m (ix l i)
 up:∀i:Int,0<i->i<l.length->a5k (ix l (i-1)) (ix l i)
def b22(r:Rl):Prop:=¬(((r.j8≠0/\0<(r.p5.length:Int))∨((1<=r.j8/\r.j8<=3)/\0<(r.j9.length:Int)))∨r.j8=2/\0<(r.j7.length:Int))
def b8m(r:Rl):Prop:=(0<(r.Month.length:Int)+r.p5.length+r.j9.length+r.j7.length+r.w6.length+r.Hour.length+r.Minute.length+r.Second.length∨(r.x8.length:Int)=0)/\a1V r.Hour*a1V r.Minute*a1V r.Second<=48
structure b3N(r:Rl):Prop where
 head:b5m r
 G6:b9c r
 lists:b4h r
 few:(r.w6.length:Int)<=24
 days:c5C r.w6 (M4 r)
 fit:b22 r
 some:b8m r
open Classical in
def M7(r:Rl):Bool:=decide (b3N r)
open Classical in
def q7{r:Rl}:M7 r=true↔b3N r:=by unfold M7;exact d4Z
def x7{r:Rl}(h:¬b3N r):M7 r=false:=by
 cases e:M7 r with
 |true=>exact absurd (q7.1 e) h
 |false=>rfl
def c1P{L:List Int}(h:b9C L=true){n:Int}(hn:n∈L):n<=60:=d5e (d4N.1 h n hn)
structure d3B(r:Rl):Prop where
 mo:(r.Month.length:Int)<=60
 wn:(r.p5.length:Int)<=60
 yd:(r.j9.length:Int)<=60
 md:(r.j7.length:Int)<=60
 dy:(r.w6.length:Int)<=60
 ho:(r.Hour.length:Int)<=60
 mi:(r.Minute.length:Int)<=60
 se:(r.Second.length:Int)<=60
 sp:(r.x8.length:Int)<=60
 ti:(r.e9.length:Int)<=60
def fewR_ok{r:Rl}(h:F4 r=true):d3B r:=by unfold F4 at h;constructor <;> exact c1P h (by simp)
def a6R{l:List Int}:(a1V l=1/\(l.length:Int)=0)∨(a1V l=(l.length:Int)/\1<=(l.length:Int)):=by
 unfold a1V;by_cases h:(l.length:Int)=0
 . rw[if_pos h];omega
 . rw[if_neg h];omega
def b8A{a b:Int}(h0:1<=a)(h1:a<=3600)(h2:1<=b)(h3:b<=60):1<=a*b/\a*b<=216000:=by
 constructor
 . have:=d7i h0 h2 (by decide) (by omega);omega
 . have:=d7i h1 h3 (by omega) (by decide);omega
def c99{a b c:Int}(ha:1<=a/\a<=60)(hb:1<=b/\b<=60)(hc:1<=c/\c<=60):c6 (a*b)/\c6 (a*b*c):=by
 have h1:1<=a*b:=by have:=d7i ha.1 hb.1 (by decide) (by omega);omega
 have h2:a*b<=3600:=by have:=d7i ha.2 hb.2 (by omega) (by decide);omega
 have h3:=b8A h1 h2 hc.1 hc.2;exact⟨⟨by omega,by omega⟩,⟨by omega,by omega⟩⟩
structure a1m(l:List Nt)(m:Int)(x:Int):Prop where
 ok:∀i:Int,0<=i->i<x->c0f m (ix l i)
 up:∀i:Int,0<i->i<x->a5k (ix l (i-1)) (ix l i)
def a1m.nil{l:List Nt}{m:Int}:a1m l m 0:=⟨fun i a b=>by omega,fun i a b=>by omega⟩
def a1m.step{l:List Nt}{m x:Int}(h:a1m l m x)(h1:c0f m (ix l x))(h2:0<x->a5k (ix l (x-1)) (ix l x)):a1m l m (x+1):=by
 constructor
 . intro i a b;by_cases e:i=x
   . subst e;exact h1
   . exact h.ok i a (by omega)
 . intro i a b;by_cases e:i=x
   . subst e;exact h2 a
   . exact h.up i a (by omega)
def a1m.done{l:List Nt}{m x:Int}(h:a1m l m x)(hx:¬x<l.length):c5C l m:=⟨fun i a b=>h.ok i a (by omega),fun i a b=>h.up i a (by omega)⟩
end Go.Re
end
section
namespace Go.Re
open Go.Wl
open Go.Rx (c6)
def M1(l:List Int)(n:Int):Bool:=decide (n∈l)
def a05{l:List Int}{n:Int}:M1 l n=true↔n∈l:=by unfold M1;exact d4Z
def K5{α:Type}[Inhabited α]{l:List α}{x:α}(h:x∈l):∃i:Int,0<=i/\i<l.length/\ix l i=x:=by obtain⟨k,hk,e⟩:=d4R h;refine⟨k,by omega,by omega,?_⟩;rw[w8 (by omega)];exact e
def b8u{l:List Int}{n i:Int}(h0:0<=i)(h1:i<l.length)(h:ix l i=n):M1 l n=true:=a05.2 (h ▸ a1j h0 h1)
def c2B{l:List Int}{n:Int}(h:∀i:Int,0<=i->i<l.length->ix l i≠n):M1 l n=false:=d4F fun hm=>by obtain⟨i,h0,h1,e⟩:=K5 hm;exact h i h0 h1 e
def P9(a b:List Int):Bool:=decide (a=b)
def c27{a b:List Int}(hl:a.length=b.length)(h:∀i:Int,0<=i->i<a.length->ix a i=ix b i):a=b:=d8b hl fun i h1 h2=>by have:=h i (by omega) (by omega);rw[w8 (by omega),w8 (by omega)]at this;exact this
def a3B(l:List Int)(n all:Int):Bool:=M1 l n || M1 l (n-all-1)
def a3j(l:List Int)(n all:Int):Bool:=decide ((l.length:Int)=0) || a3B l n all
def a6q(x y:Int):Int:=if x<y then -1 else if y<x then 1 else 0
def a3E(a b:Nt):Int:=if a6q a.Day b.Day≠0 then a6q a.Day b.Day else a6q a.N b.N
def a7v{a b:Nt}:0<=a3E a b↔¬a5k a b:=by
 unfold a3E a6q a5k;by_cases h1:a.Day<b.Day
 . simp[h1]
 . by_cases h2:b.Day<a.Day
   . simp[h1,h2];omega
   . have e:a.Day=b.Day:=by omega
     by_cases h3:a.N<b.N
     . simp[e,h3]
     . by_cases h4:b.N<a.N
       . simp[e,h3,h4]
       . simp[e,h3,h4]
open Classical in
def c0s(r:Rl):Bool:=decide (b22 r)
open Classical in
def c4e{r:Rl}(h:b22 r):true=c0s r:=(d4u h).symm
open Classical in
def c5t{r:Rl}(h:¬b22 r):false=c0s r:=(d4F h).symm
def N3(l:List Int):List Int:=Lib.compact (srt l)
def UpL(l:List Int):Prop:=∀i:Int,0<i->i<l.length->ix l (i-1)<ix l i
def b1r{l:List Int}(h:UpL l):∀(j i:Nat)(hi:i<j)(hj:j<l.length),l[i]'(by omega)<l[j]:=by
 intro j
 induction j with
 |zero=>intro i hi;omega
 |succ j ih =>
  intro i hi hj;have h1:=h (j+1:Nat) (by omega) (by omega);have e:((j+1:Nat):Int)-1=(j:Int):=by omega
  rw[e,w8 (by omega),w8 (by omega)]at h1;have h1:l[j]<l[j+1]:=h1;by_cases e:i=j
  . subst e;exact h1
  . have:=ih i (by omega) (by omega);omega
def compact_all{l:List Int}(h:∀j,j<l.length->Lib.keeps l.toArray j=true):Lib.compact l=l:=by
 unfold Lib.compact Lib.compactUpTo;rw[d6Y.2 fun j hj=>h j (d6Q.1 hj)];apply d8b
 . simp
 . intro i h1 h2;simp[h2]
def a9R{l:List Int}(h:(Lib.compact l).length=l.length):∀j,j<l.length->Lib.keeps l.toArray j=true:=by
 unfold Lib.compact Lib.compactUpTo at h;rw[d5F]at h;have h2:((List.range l.length).filter (Lib.keeps l.toArray)).length=(List.range l.length).length:=by rw[h,List.length_range]
 have:=List.length_filter_eq_length_iff.1 h2;exact fun j hj=>this j (d6Q.2 hj)
def a9w{l:List Int}{j:Nat}(hj:j<l.length):Lib.keeps l.toArray j=true↔(j=0∨ix l ((j:Int)-1)≠ix l j):=by
 unfold Lib.keeps;by_cases h0:j=0
 . subst h0;simp
 . have e1:l.toArray[j]! = ix l j:=by
     rw[w8 (by omega)];simp[hj]
   have e2:l.toArray[j-1]! = ix l ((j:Int)-1):=by
    rw[w8 (by omega)];have:((j:Int)-1).toNat=j-1:=by omega
    simp only[this];have hj1:j-1<l.length:=by omega
    simp[hj1]
   rw[e1,e2,d4Z];exact⟨fun h=>h.imp id fun h e=>h e.symm,fun h=>h.imp id fun h e=>h e.symm⟩
def b9L{l:List Int}(h:UpL l):srt l=l:=by unfold srt;apply d6f;rw[d5q];intro i j hi hj hij;have:=b1r h j i hij hj;exact d4u (by omega)
def a7m{l:List Int}:l=N3 l↔UpL l:=by
 constructor
 . intro h;have hlen:(Lib.compact (srt l)).length=(srt l).length:=by
    rw[a2I];exact congrArg List.length h.symm
   have hk:=a9R hlen;have hs:srt l=l:=by have:=compact_all hk;unfold N3 at h;rw[this]at h;exact h.symm
   rw[hs]at hk;have hp:=c7P l;rw[hs]at hp;intro i h0 h1;have k1:=(a9w (l:=l) (j:=i.toNat) (by omega)).1 (hk i.toNat (by omega));have e:((i.toNat:Nat):Int)=i:=by omega
   rw[e]at k1;have k2:ix l (i-1)<=ix l i:=by rw[w8 (by omega),w8 (by omega)];exact d5q.1 hp _ _ (by omega) (by omega) (by omega)
   rcases k1 with k1|k1
   . omega
   . omega
 . intro h;unfold N3;rw[b9L h,compact_all];intro j hj;refine(a9w hj).2 ?_;by_cases h0:j=0
   . exact .inl h0
   . right;have:=h j (by omega) (by omega);omega
end Go.Re
end
namespace Go.Re
open Go Go.Wk Go.Wl Go.Rx
def b34(lo hi:Int)(b:Bool)(n:Int):Prop:=(lo<=n/\n<=hi)∨(b=true/\n<=-lo)/\-hi<=n
instance (lo hi:Int) (b:Bool) (n:Int):Decidable (b34 lo hi b n):=by unfold b34;infer_instance
def a1w(l:List Int)(lo hi:Int)(b:Bool):Bool:=l.any fun n=>decide (¬b34 lo hi b n)
def b2Q{l:List Int}{lo hi:Int}{b:Bool}{i:Int}(h0:0<=i)(h1:i<l.length)(h:¬b34 lo hi b (ix l i)):a1w l lo hi b=true:=d6F.2 ⟨_,a1j h0 h1,d4u h⟩
def b5p{l:List Int}{lo hi:Int}{b:Bool}(h:∀i:Int,0<=i->i<l.length->b34 lo hi b (ix l i)):a1w l lo hi b=false:=by
 cases hb:a1w l lo hi b with
 |false=>rfl
 |true =>
  obtain⟨n,hn,hd⟩:=d6F.1 hb;obtain⟨i,h0,h1,rfl⟩:=K5 hn;exact absurd (h i h0 h1) (d5e hd)
def may_ok{lo hi:Int}{b:Bool}{n:Int}(h0:0<=lo):b34 lo hi b n↔OkN lo hi b n:=by
 unfold b34 OkN;cases b with
 |false=>simp
 |true =>
  simp only[true_and];split <;> constructor <;> intro h <;> omega
def b2e{l:List Int}{lo hi:Int}{b:Bool}(h0:0<=lo):Y5 l lo hi b↔((l.length:Int)<=24/\l=N3 l)/\a1w l lo hi b=false:=by
 constructor
 . intro h;exact⟨⟨h.few,a7m.2 h.up⟩,b5p fun i a c=>(may_ok h0).2 (h.ok i a c)⟩
 . rintro⟨⟨h1,h2⟩,h3⟩;refine⟨fun i a c=>(may_ok h0).1 (d4i.1 fun hn=>?_),a7m.1 h2,h1⟩;rw[b2Q a c hn]at h3;cases h3
section
variable{l:List Int}{lo hi:Int}{b:Bool}
def a5t(h:24<(l.length:Int)):¬Y5 l lo hi b:=fun r=>by have:=r.few;omega
def a5n(h:False∨¬P9 l (N3 l)=true):¬Y5 l lo hi b:=fun r=>h.elim id fun h=>h (d4u (a7m.2 r.up))
def a5v(h0:0<=lo)(h:False∨a1w l lo hi b=true):¬Y5 l lo hi b:=fun r=>h.elim id fun h=>by rw[((b2e h0).1 r).2]at h;cases h
def a5p(h0:0<=lo)(h1:¬24<(l.length:Int))(h2:¬(False∨¬P9 l (N3 l)=true))(h3:¬(False∨a1w l lo hi b=true)):Y5 l lo hi b:=
 (b2e h0).2 ⟨⟨by omega,d5e (d4i.1 fun hn=>h2 (.inr hn))⟩,by
  cases hb:a1w l lo hi b with
  |false=>rfl
  |true=>exact absurd (.inr hb) h3⟩
def a7J(l:List Int):max 1 (l.length:Int)=a1V l:=by unfold a1V;split <;> omega
end
def c0M{p:Prop}[Decidable p]{b:Bool}(h:p↔b=true):decide p=b:=d5X.2 (d4Z.trans h)
structure A3(s:Tm)(r:Rl):Prop where
 rt:o7 s=true
 rr:M7 r=true
 un:0<(r.e9.length:Int)->(((ix r.e9 0).n9=true↔s.n9=true)/\((ix r.e9 0).UTC=true↔s.UTC=true))
 ba:s.n9=true->r.j8<=3/\(r.Hour.length:Int)=0/\(r.Minute.length:Int)=0/\(r.Second.length:Int)=0
open Classical in
def G0(s:Tm)(r:Rl):Bool:=decide (A3 s r)
open Classical in
def L7{s:Tm}{r:Rl}:G0 s r=true↔A3 s r:=by unfold G0;exact d4Z
def b56{s:Tm}{r:Rl}(h:¬A3 s r):false=G0 s r:=by
 cases e:G0 s r with
 |true=>exact absurd (L7.1 e) h
 |false=>rfl
def a5B(r:Rl)(t:Int):Int:=
 if r.j8=0 then(A5 (t / 86400+1)).Year else if r.j8=1 then 12*(A5 (t / 86400+1)).Year+(A5 (t / 86400+1)).Month
 else if r.j8=2 then(t / 86400+1+6-r.u6) / 7 else if r.j8=3 then t / 86400+1 else if r.j8=4 then t / 3600 else if r.j8=5 then t / 60 else t
def l5(r:Rl)(t:Int):Int:=a5B r t-(if r.j8=1 then 1 else 0)
def nbP(n:Int):Int:=if n=0∨3652059<n then 315537897600 else(n-1)*86400
def B8(r:Rl)(i:Int):Int:=
 if r.j8=0 then nbP (w4 ⟨i,1,1⟩)else if r.j8=1 then nbP (w4 ⟨i / 12,i%12+1,1⟩)else if r.j8=2 then nbP (max 1 (7*i-6+r.u6))
 else if r.j8=3 then nbP i else if r.j8=4 then min i 87649416*3600 else if r.j8=5 then min i 5258964960*60 else min i 315537897600
def a5T(d:Dy):0<=w4 d/\w4 d<=3652059:=by
 unfold w4;split
 . rename_i h;have:=Z3 h;omega
 . omega
def b5S(n:Int):(0<=(A5 n).Year/\(A5 n).Year<=9999)/\(0<=(A5 n).Month/\(A5 n).Month<=12)/\0<=(A5 n).Date/\(A5 n).Date<=31:=by
 by_cases h:n<1∨3652059<n
 . have e:A5 n=⟨0,0,0⟩:=by unfold A5;rw[if_pos h]
   rw[e];exact⟨by decide,by decide,by decide⟩
 . obtain⟨h1,_⟩:=of_ok (n:=n) (by omega) (by omega);obtain⟨a,b,c,d,e,f⟩:=h1.ym;exact⟨⟨by omega,b⟩,⟨by omega,d⟩,by omega,f⟩
def a2y(y f:Int):Int:=if a03 y f=0 then 1 else a03 y f
def atW(r:Rl)(n:Int):Int:=if r.j8=1∨0<(r.Month.length:Int)then(A5 n).Date else ydS (A5 n)
def a5L(r:Rl)(n:Int):Int:=if r.j8=1∨0<(r.Month.length:Int)then D6 (A5 n).Year (A5 n).Month else ydS ⟨(A5 n).Year,12,31⟩
def WdP(r:Rl)(n:Int)(x:Nt):Prop:=x.Day=wdS n/\((x.N=0∨x.N=1+(atW r n-1) / 7) ∨ -x.N=1+(a5L r n-atW r n) / 7)
instance (r:Rl) (n:Int) (x:Nt):Decidable (WdP r n x):=by unfold WdP;infer_instance
def wdB(r:Rl)(n:Int):Bool:=r.w6.any fun x=>decide (WdP r n x)
def a10(s:Tm)(r:Rl)(dy n:Int):Prop:=
 if 0<(r.p5.length:Int)then wdS n=wdS dy
 else ¬(((r.j8<=1/\(A5 n).Date≠s.Day.Date)∨((r.j8=0/\(r.Month.length:Int)=0)/\(A5 n).Month≠s.Day.Month)))/\(r.j8≠2∨wdS n=wdS dy)
instance (s:Tm) (r:Rl) (dy n:Int):Decidable (a10 s r dy n):=by unfold a10;infer_instance
def a4l(s:Tm)(r:Rl)(dy n:Int):Bool:=
 (((decide ((r.Month.length:Int)=0) || M1 r.Month (A5 n).Month) && a3j r.p5 (Q4 n r.u6).2 (a2y (Q4 n r.u6).1 r.u6)) && (a3j r.j9 (ydS (A5 n)) (ydS ⟨(A5 n).Year,12,31⟩) && a3j r.j7 (A5 n).Date (D6 (A5 n).Year (A5 n).Month))) &&
 (if 0<(r.w6.length:Int)then wdB r n else if 0<(r.j9.length:Int)∨0<(r.j7.length:Int)then true else decide (a10 s r dy n))
def c94(n f:Int):-1000000<=(Q4 n f).2/\(Q4 n f).2<=1000000:=by
 unfold Q4;split
 . exact⟨by decide,by decide⟩
 . show -1000000<=(n-I2 (wkY n f) f) / 7+1/\_
   obtain⟨⟨y0,y1⟩,_⟩:=b5S n;have hy:0-1<=wkY n f/\wkY n f<=10000:=by unfold wkY;split;omega;split <;> omega
   have b:=a2q (wkY n f) f;have a0:=E5 (show -1<=wkY n f by omega);have a1:=E5 (show wkY n f<=10000 by omega);have a2:u4 (-1)=-731:=by decide
   have a3:u4 10000=3652059:=by decide
   show -1000000<=(n-I2 (wkY n f) f) / 7+1/\(n-I2 (wkY n f) f) / 7+1<=1000000
   omega
def c7W(y f:Int):-1000000<=a2y y f/\a2y y f<=1000000:=by
 unfold a2y;have h:-1000000<=a03 y f/\a03 y f<=1000000:=by
  unfold a03;split
  . omega
  . have b:=a2q y f;have c:=a2q (y+1) f;have a0:=Q5 (y:=y) (by omega) (by omega);have a1:=Q5 (y:=y+1) (by omega) (by omega);omega
 split <;> omega
def b6h(d:Dy):-5000000<=ydS d/\ydS d<=5000000:=by
 unfold ydS;split
 . rename_i h;obtain⟨y0,y1,_⟩:=h.ym;have a:=Z3 h;have b:=Q5 (y:=d.Year) (by omega) (by omega);omega
 . omega
def b5H(y m:Int):0<=D6 y m/\D6 y m<=31:=by unfold D6;(repeat' split) <;> omega
def c3H{r:Rl}{n i:Int}(h0:0<=i)(h1:i<r.w6.length)(h:WdP r n (ix r.w6 i)):true=wdB r n:=(d6F.2 ⟨_,a1j h0 h1,d4u h⟩).symm
def c84{r:Rl}{n:Int}(h:∀i:Int,0<=i->i<r.w6.length->¬WdP r n (ix r.w6 i)):false=wdB r n:=by
 cases hb:wdB r n with
 |false=>rfl
 |true =>
  obtain⟨x,hx,hd⟩:=d6F.1 hb;obtain⟨i,h0,h1,rfl⟩:=K5 hx;exact absurd (d5e hd) (h i h0 h1)
def c8b(r:Rl)(n:Int):0<=atW r n+5000000/\atW r n<=5000000/\0<=a5L r n+5000000/\a5L r n<=5000000:=by have a:=b6h (A5 n);have b:=b6h ⟨(A5 n).Year,12,31⟩;have c:=b5H (A5 n).Year (A5 n).Month;obtain⟨_,_,d⟩:=b5S n;unfold atW a5L;split <;> omega
def yd_ok{n:Int}(h0:1<=n)(h1:n<=3652059):1<=ydS (A5 n)/\ydS (A5 n)<=ydS ⟨(A5 n).Year,12,31⟩:=by
 obtain⟨hr,hn⟩:=of_ok h0 h1;obtain⟨y0,y1,m0,m1,_⟩:=hr.ym;have i1:=a3y hr;have hr2:G3 ⟨(A5 n).Year,12,31⟩:=by
  refine⟨show(1:Int)<=31 by decide,?_⟩;show(31:Int)<=D6 (A5 n).Year 12
  unfold D6;rw[if_neg (by omega),if_neg (by decide)];decide
 have e1:ydS (A5 n)=L4 (A5 n)-u4 (A5 n).Year:=by unfold ydS;rw[if_pos hr]
 have e2:ydS ⟨(A5 n).Year,12,31⟩=S8 (A5 n).Year 12+31:=by
  unfold ydS;rw[if_pos hr2];show u4 (A5 n).Year+S8 (A5 n).Year 12+31-u4 (A5 n).Year=_
  omega
 have:=b8i (A5 n).Year;omega
def at_ok{r:Rl}{n:Int}(h0:1<=n)(h1:n<=3652059):1<=atW r n/\atW r n<=a5L r n:=by
 obtain⟨hr,hn⟩:=of_ok h0 h1;have a:=yd_ok h0 h1;unfold atW a5L;split
 . exact hr
 . exact a
def b0F{l:List Int}{n a:Int}(h:0<(l.length:Int)/\¬Re.a3B l n a=true):a3j l n a=false:=by unfold a3j;rw[d4F (by omega),d7N];exact d7R.2 h.2
def a4w{l:List Int}{n a:Int}(h:¬(0<(l.length:Int)/\¬Re.a3B l n a=true)):a3j l n a=true:=by
 unfold a3j;rw[d5l,d4Z];by_cases h0:(l.length:Int)=0
 . exact .inl h0
 . exact .inr (d4i.1 fun hn=>h ⟨by omega,hn⟩)
def b3R(r:Rl)(m:Int):Bool:=decide ((r.Month.length:Int)=0) || M1 r.Month m
def c7G{r:Rl}{m:Int}(h:0<(r.Month.length:Int)/\¬M1 r.Month m=true):b3R r m=false:=by unfold b3R;rw[d4F (by omega),d7N];exact d7R.2 h.2
def c2V{r:Rl}{m:Int}(h:¬(0<(r.Month.length:Int)/\¬M1 r.Month m=true)):b3R r m=true:=by
 unfold b3R;rw[d5l,d4Z];by_cases h0:(r.Month.length:Int)=0
 . exact .inl h0
 . exact .inr (d4i.1 fun hn=>h ⟨by omega,hn⟩)
section
variable{s:Tm}{r:Rl}{dy n:Int}
abbrev wkB(r:Rl)(n:Int):Bool:=a3j r.p5 (Q4 n r.u6).2 (a2y (Q4 n r.u6).1 r.u6)
abbrev ydB(r:Rl)(n:Int):Bool:=a3j r.j9 (ydS (A5 n)) (ydS ⟨(A5 n).Year,12,31⟩)
abbrev mdB(r:Rl)(n:Int):Bool:=a3j r.j7 (A5 n).Date (D6 (A5 n).Year (A5 n).Month)
def b9d(s:Tm)(r:Rl)(dy n:Int):Bool:=if 0<(r.w6.length:Int)then wdB r n else if 0<(r.j9.length:Int)∨0<(r.j7.length:Int)then true else decide (a10 s r dy n)
def a7s:a4l s r dy n=(((b3R r (A5 n).Month && wkB r n) && (ydB r n && mdB r n)) && b9d s r dy n):=rfl
def d1B(h:b3R r (A5 n).Month=false):false=a4l s r dy n:=by rw[a7s,h];rfl
def c8A(h:wkB r n=false):false=a4l s r dy n:=by rw[a7s,h,d7H];rfl
def c8u(h:ydB r n=false):false=a4l s r dy n:=by rw[a7s,h,Bool.false_and,d7H];rfl
def d2d(h:mdB r n=false):false=a4l s r dy n:=by rw[a7s,h,d7H,d7H];rfl
def c2K(h1:b3R r (A5 n).Month=true)(h2:wkB r n=true)(h3:ydB r n=true)(h4:mdB r n=true):a4l s r dy n=b9d s r dy n:=by rw[a7s,h1,h2,h3,h4];rfl
end
def O4{l:List Int}{i:Int}(h0:0<=i)(h1:i<l.length):l.drop i.toNat=ix l i::l.drop (i+1).toNat:=by
 have h:i.toNat<l.length:=by omega
 rw[d5Q h,w8 h,show(i+1).toNat=i.toNat+1 by omega]
def W6(sp:List Int)(len:Int):Int->List Int->List Int
 |_,[]=>[]
 |i,t::r=>if M1 sp (i+1)=true∨M1 sp (i-len)=true then t::W6 sp len (i+1) r else W6 sp len (i+1) r
def b7B{sp:List Int}{n i:Int}:W6 sp n i []=[]:=rfl
def a15{sp:List Int}{n i t:Int}{r:List Int}:W6 sp n i (t::r)=if M1 sp (i+1)=true∨M1 sp (i-n)=true then t::W6 sp n (i+1) r else W6 sp n (i+1) r:=rfl
def W3(r:Rl)(l:List Int):List Int:=if(r.x8.length:Int)=0 then l else W6 r.x8 l.length 0 l
structure a1y(sp:List Int)(l x:List Int)(i:Int):Prop where
 a:0<=i
 b:i<=l.length
 c:(x.length:Int)<=i
 d:x++W6 sp l.length i (l.drop i.toNat)=W6 sp l.length 0 l
def a1y.init{sp l:List Int}:a1y sp l [] 0:=⟨d4D 0,by omega,by simp,by simp⟩
def a1y.yes{sp l x:List Int}{i:Int}(h:a1y sp l x i)(hi:i<l.length)(hp:M1 sp (i+1)=true∨M1 sp (i-l.length)=true):a1y sp l (x++[ix l i]) (i+1):=by have d:=h.d;rw[O4 h.a hi,a15,if_pos hp]at d;exact⟨by have:=h.a;omega,by omega,by have:=h.c;simp only[d4o,d4z,d5s];omega,by rw[<- d];simp⟩
def a1y.no{sp l x:List Int}{i:Int}(h:a1y sp l x i)(hi:i<l.length)(hp:¬(M1 sp (i+1)=true∨M1 sp (i-l.length)=true)):a1y sp l x (i+1):=by have d:=h.d;rw[O4 h.a hi,a15,if_neg hp]at d;exact⟨by have:=h.a;omega,by omega,by have:=h.c;omega,d⟩
def a1y.fin{sp l x:List Int}{i:Int}(h:a1y sp l x i)(hi:¬i<l.length):x=W6 sp l.length 0 l:=by have d:=h.d;rw[d6g (by omega),b7B]at d;rw[<- d,d4U]
def a8B(n:Nat):List Int:=(List.range n).map Int.ofNat
def l7(l:List Int)(fr:Bool)(own all:Int):List Int:=if 0<(l.length:Int)then l else if fr=true then a8B all.toNat else [own]
def a5U(n:Nat):(a8B n).length=n:=by unfold a8B;simp
structure a8W(n:Nat)(x:List Int)(i:Int):Prop where
 a:0<=i
 b:i<=n
 c:x.length=n
 d:∀j:Nat,(j:Int)<i->x[j]?=some (j:Int)
def a8W.step{n:Nat}{x:List Int}{i:Int}(h:a8W n x i)(hi:i<n):a8W n (x.set i.toNat i) (i+1):=by
 have ha:=h.a;refine⟨by omega,by omega,by rw[d7c];exact h.c,fun j hj=>?_⟩;by_cases e:j=i.toNat
 . subst e;rw[d4V (by rw[h.c];omega)];congr 1;omega
 . rw[d5j (d5y e)];exact h.d j (by omega)
def a8W.fin{n:Nat}{x:List Int}{i:Int}(h:a8W n x i)(hi:¬i<n):x=a8B n:=by
 have hb:=h.b;refine d7m fun j=>?_;by_cases hj:j<n
 . rw[h.d j (by omega)];unfold a8B;simp[hj]
 . rw[d6i (by rw[h.c];omega),d6i (by rw[a5U];omega)]
def hB(s:Tm)(r:Rl)(h:Int):Prop:=¬((0<(r.Hour.length:Int)/\¬M1 r.Hour h=true)∨((r.Hour.length:Int)=0/\r.j8<=3)/\h≠s.Hour)
def mB(s:Tm)(r:Rl)(m:Int):Prop:=¬((0<(r.Minute.length:Int)/\¬M1 r.Minute m=true)∨((r.Minute.length:Int)=0/\r.j8<=4)/\m≠s.Min)
def sB(s:Tm)(r:Rl)(x:Int):Prop:=(0<(r.Second.length:Int)/\M1 r.Second x=true)∨(r.Second.length:Int)=0/\(5<r.j8∨x=s.D5)
instance (s:Tm) (r:Rl) (h:Int):Decidable (hB s r h):=by unfold hB;infer_instance
instance (s:Tm) (r:Rl) (h:Int):Decidable (mB s r h):=by unfold mB;infer_instance
instance (s:Tm) (r:Rl) (h:Int):Decidable (sB s r h):=by unfold sB;infer_instance
def b3e(s:Tm)(r:Rl)(h m:Int):Nat->List Int
 |0=>[]
 |k+1=>b3e s r h m k++if sB s r k then [3600*h+60*m+(k:Int)]else []
def b1b(s:Tm)(r:Rl)(h:Int):Nat->List Int
 |0=>[]
 |k+1=>b1b s r h k++if mB s r k then b3e s r h k 60 else []
def b42(s:Tm)(r:Rl):Nat->List Int
 |0=>[]
 |k+1=>b42 s r k++if hB s r k then b1b s r k 60 else []
def T5(s:Tm)(r:Rl):List Int:=b42 s r 24
def c26{r:Rl}{t:Int}(t0:0<=t)(t1:t<315537897600)(w0:0<=r.u6)(w1:r.u6<=6):0<=a5B r t/\a5B r t<=315537897600/\(r.j8=1->13<=a5B r t):=by
 obtain⟨h1,_⟩:=of_ok (n:=t / 86400+1) (by omega) (by omega);obtain⟨a,b,c,d,_⟩:=h1.ym;unfold a5B;split
 . omega
 split
 . omega
 split
 . omega
 split
 . omega
 split
 . omega
 split <;> omega
def y7{s:Tm}(h:o7 s=true):0<=b8 s/\b8 s<315537897600:=by have hr:=A9.1 h;have:=a2f hr;unfold b8;rw[if_pos hr];omega
def b8Y{r:Rl}{k:Int}(hR:M7 r=true)(k0:0<=k)(k1:k<=40000):0<=k*r.Interval/\k*r.Interval<=399960000:=by obtain⟨_,_,i0,i1,_⟩:=(q7.1 hR).head;have a:=d5K k0 (show 0<=r.Interval by omega);have b:=d7i k1 i1 (show 0<=r.Interval by omega) (by omega:(0:Int)<=40000);omega
def O3(e:l8):l8:=if e.is 5 then .no 5 else .nil
def b4S(e:l8):O3 e=.nil∨∃n,O3 e=.no n:=by
 unfold O3;split
 . exact .inr ⟨5,rfl⟩
 . exact .inl rfl
structure Ws where
 T:List Int
 C:List Int
 run:List Int
 now:Int
def flW(r:Rl)(w:Ws):Ws:=⟨w.T++W3 r w.run,w.C++List.replicate (W3 r w.run).length (w.now.tdiv r.Interval),[],w.now⟩
def a5Q(s:Tm)(r:Rl)(t:Int):Int:=a5B r t-a5B r (b8 s)
def b35(s:Tm)(r:Rl)(t:Int):Prop:=a5Q s r t<0∨(a5Q s r t).tmod r.Interval≠0
instance (s:Tm) (r:Rl) (t:Int):Decidable (b35 s r t):=inferInstanceAs (Decidable (_∨_))
def stW(s:Tm)(r:Rl)(w:Ws)(t:Int):Ws:=
 if b35 s r t then w else if a5Q s r t≠w.now then⟨(flW r w).T,(flW r w).C,[t],a5Q s r t⟩else⟨w.T,w.C,w.run++[t],w.now⟩
def dyW(s:Tm)(r:Rl)(n:Int):List Int:=if a4l s r (w4 s.Day) n=true then(T5 s r).map fun c=>86400*(n-1)+c else []
def spW(s:Tm)(r:Rl)(a:Int):Nat->List Int
 |0=>[]
 |k+1=>spW s r a k++dyW s r (a+k)
def wsW(s:Tm)(r:Rl)(l:List Int):Ws:=l.foldl (stW s r) ⟨[],[],[],-1⟩
section
variable{s:Tm}{r:Rl}
def c86{w:Ws}{t:Int}(h:b35 s r t):stW s r w t=w:=by unfold stW;rw[if_pos h]
def c7l{w:Ws}{t:Int}(h:¬b35 s r t)(h1:a5Q s r t≠w.now):stW s r w t=⟨(flW r w).T,(flW r w).C,[t],a5Q s r t⟩:=by unfold stW;rw[if_neg h,if_pos h1]
def c8G{w:Ws}{t:Int}(h:¬b35 s r t)(h1:¬a5Q s r t≠w.now):stW s r w t=⟨w.T,w.C,w.run++[t],w.now⟩:=by unfold stW;rw[if_neg h,if_neg h1]
def c2r{l:List Int}{t:Int}:wsW s r (l++[t])=stW s r (wsW s r l) t:=by unfold wsW;rw[d7S];rfl
def a8J{sp:List Int}{n:Int}:∀(l:List Int)(i:Int),(W6 sp n i l).length<=l.length
 |[],_=>d4C 0
 |t::l,i=>by
  have:=a8J (sp:=sp) (n:=n) l (i+1);rw[a15];split
  . simpa using this
  . exact Nat.le_succ_of_le this
def b5l{h m:Int}(h0:0<=h)(h1:h<24)(m0:0<=m)(m1:m<60):∀(k:Nat),k<=60->∀c∈b3e s r h m k,0<=c/\c<86400
 |0,_,c,hc=>by cases hc
 |k+1,hk,c,hc=>by
  unfold b3e at hc;rcases d4J.1 hc with hc|hc
  . exact b5l h0 h1 m0 m1 k (by omega) c hc
  . split at hc
    . cases d4q.1 hc;omega
    . cases hc
def b50{h:Int}(h0:0<=h)(h1:h<24):∀(k:Nat),k<=60->∀c∈b1b s r h k,0<=c/\c<86400
 |0,_,c,hc=>by cases hc
 |k+1,hk,c,hc=>by
  unfold b1b at hc;rcases d4J.1 hc with hc|hc
  . exact b50 h0 h1 k (by omega) c hc
  . split at hc
    . exact b5l h0 h1 (by omega) (by omega) 60 (by omega) c hc
    . cases hc
def b59:∀(k:Nat),k<=24->∀c∈b42 s r k,0<=c/\c<86400
 |0,_,c,hc=>by cases hc
 |k+1,hk,c,hc=>by
  unfold b42 at hc;rcases d4J.1 hc with hc|hc
  . exact b59 k (by omega) c hc
  . split at hc
    . exact b50 (by omega) (by omega) 60 (by omega) c hc
    . cases hc
def dnW(s:Tm)(r:Rl)(n i:Int):List Int:=((T5 s r).take i.toNat).map fun c=>86400*(n-1)+c
def d3c{n:Int}:dnW s r n 0=[]:=by unfold dnW;rfl
def c3t{n i:Int}(h0:0<=i)(h1:i<(T5 s r).length):dnW s r n (i+1)=dnW s r n i++[86400*(n-1)+ix (T5 s r) i]:=by
 have h:i.toNat<(T5 s r).length:=by omega
 unfold dnW;rw[show(i+1).toNat=i.toNat+1 by omega,d5H h,d6L,w8 h];rfl
structure WhI(s:Tm)(r:Rl)(tw A D:Int)(w:Ws)(n:Int):Prop where
 a:A<=n
 a1:1<=A
 b:n<=3652060
 c:n=A∨86400*(n-2)<tw+86400*D
 w0:-1<=w.now
 w1:w.now<=400000000000
 e:w=wsW s r (spW s r A (n-A).toNat)
structure WdI(s:Tm)(r:Rl)(A n:Int)(w:Ws)(i:Int):Prop where
 i0:0<=i
 i1:i<=(T5 s r).length
 a:A<=n
 w0:-1<=w.now
 w1:w.now<=400000000000
 e:w=wsW s r (spW s r A (n-A).toNat++dnW s r n i)
structure FlI(r:Rl)(T C run:List Int)(now:Int)(X Y:List Int)(j:Int):Prop where
 j0:0<=j
 j1:j<=(W3 r run).length
 x:X=T++(W3 r run).take j.toNat
 y:Y=C++List.replicate j.toNat (now.tdiv r.Interval)
 lx:(X.length:Int)=T.length+j
 ly:(Y.length:Int)=C.length+j
def c28{A n:Int}(h:A<=n):spW s r A (n+1-A).toNat=spW s r A (n-A).toNat++dyW s r n:=by
 rw[show(n+1-A).toNat=(n-A).toNat+1 by omega];show spW s r A (n-A).toNat++dyW s r (A+((n-A).toNat:Int))=_
 rw[show A+((n-A).toNat:Int)=n by omega]
def WhI.no{tw A D n:Int}{w:Ws}(h:WhI s r tw A D w n)(hd:¬a4l s r (w4 s.Day) n=true)(hn:n<=3652059/\86400*(n-1)<tw+86400*D):WhI s r tw A D w (n+1):=
 ⟨by have:=h.a;omega,h.a1,by omega,.inr (by omega),h.w0,h.w1,by rw[c28 h.a,show dyW s r n=[] by unfold dyW;rw[if_neg hd],d4U];exact h.e⟩
def WhI.day{tw A D n:Int}{w:Ws}(h:WhI s r tw A D w n):WdI s r A n w 0:=
 ⟨d4D 0,by omega,h.a,h.w0,h.w1,by rw[d3c,d4U];exact h.e⟩
def WdI.step{A n i:Int}{w w2:Ws}(h:WdI s r A n w i)(hi:i<(T5 s r).length)(he:stW s r w (86400*(n-1)+ix (T5 s r) i)=w2)(h0:-1<=w2.now)(h1:w2.now<=400000000000):WdI s r A n w2 (i+1):=
 ⟨by have:=h.i0;omega,by omega,h.a,h0,h1,by rw[c3t h.i0 hi,<- d4K,c2r,<- h.e,he]⟩
def WdI.out{A n i:Int}{w:Ws}(h:WdI s r A n w i)(hi:i<(T5 s r).length)(ho:b35 s r (86400*(n-1)+ix (T5 s r) i)):WdI s r A n w (i+1):=
 h.step hi (c86 ho) h.w0 h.w1
def WdI.on{A n i now:Int}{T C run:List Int}(h:WdI s r A n ⟨T,C,run,now⟩ i)(hi:i<(T5 s r).length)(ho:¬b35 s r (86400*(n-1)+ix (T5 s r) i))(hk:¬a5Q s r (86400*(n-1)+ix (T5 s r) i)≠now) :
  WdI s r A n ⟨T,C,run++[86400*(n-1)+ix (T5 s r) i],now⟩ (i+1):=
 h.step hi (c8G ho hk) h.w0 h.w1
def WdI.new{A n i now:Int}{T C run X Y:List Int}(h:WdI s r A n ⟨T,C,run,now⟩ i)(hi:i<(T5 s r).length)(ho:¬b35 s r (86400*(n-1)+ix (T5 s r) i))(hk:a5Q s r (86400*(n-1)+ix (T5 s r) i)≠now)
  (hp:-1<=a5Q s r (86400*(n-1)+ix (T5 s r) i)/\a5Q s r (86400*(n-1)+ix (T5 s r) i)<=400000000000)
  (hf:X=T++W3 r run/\Y=C++List.replicate (W3 r run).length (now.tdiv r.Interval)) :
  WdI s r A n ⟨X,Y,[86400*(n-1)+ix (T5 s r) i],a5Q s r (86400*(n-1)+ix (T5 s r) i)⟩ (i+1):=by
 obtain⟨rfl,rfl⟩:=hf;exact h.step hi (c7l ho hk) hp.1 hp.2
def FlI.step{T C run X Y:List Int}{now j:Int}(h:FlI r T C run now X Y j)(hj:j<(W3 r run).length):FlI r T C run now (X++[ix (W3 r run) j]) (Y++[now.tdiv r.Interval]) (j+1):=by
 have h0:=h.j0;have hl:j.toNat<(W3 r run).length:=by omega
 have lx:=h.lx;have ly:=h.ly;refine⟨by omega,by omega,?_,?_,by simp only[d4o,d4z,d5s];omega,by simp only[d4o,d4z,d5s];omega⟩
 . rw[show(j+1).toNat=j.toNat+1 by omega,d5H hl,<- d4K,<- h.x,w8 hl]
 . rw[show(j+1).toNat=j.toNat+1 by omega,List.replicate_succ',<- d4K,<- h.y]
end
structure Al where
 n:Int
 k:Int
 out:List Int
def c2I(s:Tm)(r:Rl)(n t:Int):Prop:=(t<=b8 s∨0<(r.e9.length:Int)/\b8 (ix r.e9 0)<t)∨0<r.Count/\r.Count<=n
instance (s:Tm) (r:Rl) (n t:Int):Decidable (c2I s r n t):=inferInstanceAs (Decidable (_∨_))
def stA(s:Tm)(r:Rl)(tw:Int)(w:Al)(t c:Int):Al:=
 if c2I s r w.n t then w else⟨w.n+1,if c<40000 then w.k+1 else w.k,if t<tw then w.out++[t]else w.out⟩
def alA(s:Tm)(r:Rl)(tw:Int)(T C:List Int):Nat->Al
 |0=>⟨1,1,if b8 s<tw then [b8 s]else []⟩
 |i+1=>stA s r tw (alA s r tw T C i) (ix T i) (ix C i)
section
variable{s:Tm}{r:Rl}
structure AlI(s:Tm)(r:Rl)(tw:Int)(T C:List Int)(n k:Int)(out:List Int)(i:Int):Prop where
 i0:0<=i
 i1:i<=T.length
 n0:1<=n/\n<=i+1
 k0:1<=k/\k<=i+1
 o:(out.length:Int)<=i+1
 e:(⟨n,k,out⟩:Al)=alA s r tw T C i.toNat
def b6m{tw:Int}{T C:List Int}{i:Int}(h:0<=i):alA s r tw T C (i+1).toNat=stA s r tw (alA s r tw T C i.toNat) (ix T i) (ix C i):=by
 rw[show(i+1).toNat=i.toNat+1 by omega];show stA s r tw _ (ix T (i.toNat:Int)) (ix C (i.toNat:Int))=_
 rw[show((i.toNat:Nat):Int)=i by omega]
def AlI.off{tw n k i:Int}{T C out:List Int}(h:AlI s r tw T C n k out i)(hi:i<T.length)(ho:c2I s r n (ix T i)):AlI s r tw T C n k out (i+1):=by have a:=h.i0;have b:=h.n0;have c:=h.k0;have d:=h.o;refine⟨by omega,by omega,by omega,by omega,by omega,?_⟩;rw[b6m a,<- h.e];unfold stA;dsimp only;rw[if_pos ho]
def AlI.on{tw n k k2 i:Int}{T C out o2:List Int}(h:AlI s r tw T C n k out i)(hi:i<T.length)(ho:¬c2I s r n (ix T i))(hk:k2=if ix C i<40000 then k+1 else k)(h2:o2=if ix T i<tw then out++[ix T i]else out):AlI s r tw T C (n+1) k2 o2 (i+1):=by
 have a:=h.i0;have b:=h.n0;have c:=h.k0;have d:=h.o;refine⟨by omega,by omega,by omega,by rw[hk];split <;> omega,?_,?_⟩
 . rw[h2];split
   . simp only[d4o,d4z,d5s];omega
   . omega
 rw[b6m a,<- h.e];unfold stA;dsimp only;rw[if_neg ho,hk,h2]
end
def frA(s a:Tm):List Int->List Tm
 |[]=>[]
 |t::l=>if b8 a<=t then K3 t s::frA s a l else frA s a l
def a61{s a:Tm}:∀(l m:List Int),frA s a (l++m)=frA s a l++frA s a m
 |[],_=>rfl
 |t::l,m=>by
  show(if b8 a<=t then K3 t s::frA s a (l++m)else frA s a (l++m))=(if b8 a<=t then K3 t s::frA s a l else frA s a l)++_
  rw[a61 l m];split <;> rfl
structure ExI(s a:Tm)(l:List Int)(x:List Tm)(i:Int):Prop where
 i0:0<=i
 i1:i<=l.length
 lx:(x.length:Int)<=i
 e:x=frA s a (l.take i.toNat)
def ExI.tk{l:List Int}{i:Int}(h0:0<=i)(h1:i<l.length):l.take (i+1).toNat=l.take i.toNat++[ix l i]:=by
 have h:i.toNat<l.length:=by omega
 rw[show(i+1).toNat=i.toNat+1 by omega,d5H h,w8 h]
def ExI.no{s a:Tm}{l:List Int}{x:List Tm}{i:Int}(h:ExI s a l x i)(hi:i<l.length)(hy:¬b8 a<=ix l i):ExI s a l x (i+1):=by
 have h0:=h.i0;have h1:=h.lx;refine⟨by omega,by omega,by omega,?_⟩;rw[ExI.tk h0 hi,a61,<- h.e];show _=_++(if b8 a<=ix l i then _ else _)
 rw[if_neg hy];exact(d4U _).symm
def b7L(s:Tm)(r:Rl)(a b:Tm):Prop:=(¬G0 s r=true∨¬o7 a=true)∨¬o7 b=true
def c2L:Tm:=⟨⟨0,0,0⟩,0,0,0,false,false⟩
def c9n{a t:Tm}:((a.Day.Year=t.Day.Year/\a.Day.Month=t.Day.Month/\a.Day.Date=t.Day.Date/\True)/\a.Hour=t.Hour/\a.Min=t.Min/\a.D5=t.D5/\(a.n9=true↔t.n9=true)/\(a.UTC=true↔t.UTC=true)/\True)↔a=t:=by
 obtain⟨⟨y,m,d⟩,h,i,s,b,u⟩:=a;obtain⟨⟨y',m',d'⟩,h',i',s',b',u'⟩:=t;constructor
 . rintro⟨⟨h1,h2,h3,_⟩,h4,h5,h6,h7,h8,_⟩;dsimp only at h1 h2 h3 h4 h5 h6 h7 h8;rw[h1,h2,h3,h4,h5,h6,d5X.2 h7,d5X.2 h8]
 . intro h;rw[h];exact⟨⟨rfl,rfl,rfl,trivial⟩,rfl,rfl,rfl,d6V,d6V,trivial⟩
def goY(res:List Int->Int->Bool):List Int->List Int->List Int
 |y,[]=>y
 |y,t::r=>bif res y t then goY res (y++[t]) r else y++[t]
def okY(pre:List Int->Int->Prop)(res:List Int->Int->Bool):List Int->List Int->Prop
 |_,[]=>True
 |y,t::r=>pre y t/\(res y t=true->okY pre res (y++[t]) r)
structure GoI(pre:List Int->Int->Prop)(res:List Int->Int->Bool)(g y T:List Int):Prop where
 a:goY res y T=g
 b:okY pre res y T
section
variable{pre:List Int->Int->Prop}{res:List Int->Int->Bool}{g y T:List Int}{t:Int}
def GoI.fin(h:GoI pre res g y []):y=g:=h.a
def GoI.may(h:GoI pre res g y (t::T)):pre y t:=h.b.1
def GoI.stop(h:GoI pre res g y (t::T))(hr:¬res y t=true):y++[t]=g:=by have a:=h.a;unfold goY at a;rw[d4W]at hr;rw[hr]at a;exact a
def GoI.go(h:GoI pre res g y (t::T))(hr:res y t=true):GoI pre res g (y++[t]) T:=by have a:=h.a;unfold goY at a;rw[hr]at a;exact⟨a,h.b.2 hr⟩
end
def a3a(fr tw b:Int):List Int->List Int
 |[]=>[]
 |s::r=>if fr<=b+s/\b+s<tw then(b+s)::a3a fr tw b r else a3a fr tw b r
def a1f(fr tw b:Int)(ss:List Int):List Int->List Int
 |[]=>[]
 |m::r=>if b+m*60+59<fr∨tw<=b+m*60 then a1f fr tw b ss r else a3a fr tw (b+m*60) ss++a1f fr tw b ss r
def a1J(fr tw:Int)(ms ss:List Int):List Int->List Int
 |[]=>[]
 |h::r=>if h*3600+3599<fr∨tw<=h*3600 then a1J fr tw ms ss r else a1f fr tw (h*3600) ss ms++a1J fr tw ms ss r
def hoL(s:Tm)(r:Rl):List Int:=l7 r.Hour (decide (3<r.j8)) s.Hour 24
def miL(s:Tm)(r:Rl):List Int:=l7 r.Minute (decide (4<r.j8)) s.Min 60
def seL(s:Tm)(r:Rl):List Int:=l7 r.Second (decide (5<r.j8)) s.D5 60
def a3q(s:Tm)(r:Rl)(fr tw:Int):List Int:=a1J fr tw (miL s r) (seL s r) (hoL s r)
section
variable{fr tw b s m h:Int}{r ms ss:List Int}
def c15:a3a fr tw b []=[]:=rfl
def b2t(hc:fr<=b+s/\b+s<tw):a3a fr tw b (s::r)=(b+s)::a3a fr tw b r:=if_pos hc
def b5F(hc:¬(fr<=b+s/\b+s<tw)):a3a fr tw b (s::r)=a3a fr tw b r:=if_neg hc
def b1m:a1f fr tw b ss []=[]:=rfl
def b17(hc:b+m*60+59<fr∨tw<=b+m*60):a1f fr tw b ss (m::r)=a1f fr tw b ss r:=if_pos hc
def b5u(hc:¬(b+m*60+59<fr∨tw<=b+m*60)):a1f fr tw b ss (m::r)=a3a fr tw (b+m*60) ss++a1f fr tw b ss r:=if_neg hc
def b2w:a1J fr tw ms ss []=[]:=rfl
def a6O(hc:h*3600+3599<fr∨tw<=h*3600):a1J fr tw ms ss (h::r)=a1J fr tw ms ss r:=if_pos hc
def b00(hc:¬(h*3600+3599<fr∨tw<=h*3600)):a1J fr tw ms ss (h::r)=a1f fr tw (h*3600) ss ms++a1J fr tw ms ss r:=if_neg hc
end
def inB(n:Int)(l:List Int):Prop:=∀i:Int,0<=i->i<l.length->0<=ix l i/\ix l i<=n
def a4I{l:List Int}{f:Bool}{own all n:Int}(hl:∀i:Int,0<=i->i<l.length->OkN 0 n false (ix l i))(h0:0<=own)(h1:own<=n)(ha:0<=all)(hn:all<=n+1):inB n (l7 l f own all):=by
 intro i i0 i1;unfold l7 at i1 ⊢;by_cases hc:0<(l.length:Int)
 . rw[if_pos hc]at i1 ⊢;have:=hl i i0 i1;unfold OkN at this;simp only[d5m,false_and,if_false]at this;exact this
 . rw[if_neg hc]at i1 ⊢;cases f with
   |true =>
    rw[if_pos rfl]at i1 ⊢;rw[a5U]at i1;rw[w8 (by rw[a5U];omega)];unfold a8B;simp only[d6G,List.getElem_range];show 0<=((i.toNat:Nat):Int)/\((i.toNat:Nat):Int)<=n
    omega
   |false =>
    rw[if_neg (by decide)]at i1 ⊢;have:i=0:=by simp at i1;omega
    subst this;exact⟨h0,h1⟩
def c6w{s:Tm}{r:Rl}(h:A3 s r):inB 23 (hoL s r):=by obtain⟨_,⟨a,b⟩,_⟩:=A9.1 h.rt;exact a4I (q7.1 h.rr).lists.ho.ok a b (by decide) (by decide)
def b4n{s:Tm}{r:Rl}(h:A3 s r):inB 59 (miL s r):=by obtain⟨_,_,⟨a,b⟩,_⟩:=A9.1 h.rt;exact a4I (q7.1 h.rr).lists.mi.ok a b (by decide) (by decide)
def b3y{s:Tm}{r:Rl}(h:A3 s r):inB 59 (seL s r):=by obtain⟨_,_,_,⟨a,b⟩,_⟩:=A9.1 h.rt;exact a4I (q7.1 h.rr).lists.se.ok a b (by decide) (by decide)
def S4{l:List Int}{f:Bool}{own all:Int}(hl:(l.length:Int)<=24)(ha:all<=60):((l7 l f own all).length:Int)<=60:=by
 unfold l7;split
 . omega
 . split
   . rw[a5U];omega
   . simp
end Go.Re
namespace Go.Rx
open Go Go.Wk Go.Wl
def mark(D:Nat):Deferred:={ target:=.collected D,args:=#[] }
def marks(ds:List Nat):List Deferred:=ds.map mark
abbrev QD:=Exit->Fr->World->List Nat->Prop
def d2c(n:Nat)(Q:QD):Exit->Act->World->Prop:=fun e a w1=>∃f w ds,Is a f n/\a.defers=marks ds/\F3 w w1/\Q e f w ds
def WD(P:Program)(n:Nat)(c:Code)(Q:QD)(f:Fr)(w:World)(ds:List Nat):Prop:=
 ∀a w1,Is a f n->a.defers=marks ds->F3 w w1->c.wpIn (O5 none) 0 P (d2c n Q) a w1
def c4J(next:Fr->World->List Nat->Prop)(Q:QD):QD
 |.normal,f,w,ds=>next f w ds
 |e,f,w,ds=>Q e f w ds
def c10(id:Nat)(Q:QD):QD
 |.exit j,f,w,ds=>bif Nat.beq j id then Q .normal f w ds else Q (.exit j) f w ds
 |e,f,w,ds=>Q e f w ds
section
variable{P:Program}{n:Nat}{Q:QD}{f:Fr}{w:World}{ds:List Nat}
def c9M{c:Code}{Q0:Exit->Fr->World->Prop}(h:W P n c Q0 f w)(hq:∀e f' w',Q0 e f' w'->Q e f' w' ds):WD P n c Q f w ds:=fun a w1 ha hd hs =>
 d6b (h a w1 ha hs none) fun _ _ _ ⟨g,v,hg,hd',hv,q⟩=>⟨g,v,ds,hg,hd'.trans hd,hv,hq _ _ _ q⟩
def a5W{c:Code}{Q':QD}(h:WD P n c Q f w ds)(hq:∀e f w ds,Q e f w ds->Q' e f w ds):WD P n c Q' f w ds:=fun a w1 ha hd hs =>
 d6b (h a w1 ha hd hs) fun _ _ _ ⟨g,v,d,h1,h2,h3,q⟩=>⟨g,v,d,h1,h2,h3,hq _ _ _ _ q⟩
def c5P{x y:Code}(h:WD P n x (c4J (WD P n y Q) Q) f w ds):WD P n (.seq x y) Q f w ds:=fun a w1 ha hd hs =>
 wpIn_seq (d6b (h a w1 ha hd hs) fun e a' w' ⟨g,v,d,hg,hd,hv,q⟩=>by cases e <;> first|exact q a' w' hg hd hv|exact⟨g,v,d,hg,hd,hv,q⟩)
def c0Z{id:Nat}{c:Code}(h:WD P n c (c10 id Q) f w ds):WD P n (.block id c) Q f w ds:=fun a w1 ha hd hs =>
 wpIn_block (d6b (h a w1 ha hd hs) fun e a' w' ⟨g,v,d,hg,hd,hv,q⟩=>by
  cases e with
  |exit j =>
   simp only[Exit.inBlock];unfold c10 at q;by_cases hj:j=id
   . subst hj;simp only[d6w,d4G]at q;rw[if_pos rfl];exact⟨g,v,d,hg,hd,hv,q⟩
   . simp only[Y9 hj,d4L]at q;rw[if_neg hj];exact⟨g,v,d,hg,hd,hv,q⟩
  |_=>exact⟨g,v,d,hg,hd,hv,q⟩)
def c2J{c:Code}(I:Nat->Fr->World->List Nat->Prop)(m:Nat)(h0:I m f w ds)
  (round:∀m f w ds,I m f w ds->WD P n c (c4J (fun f' w' ds'=>∃m',m'<m/\I m' f' w' ds') Q) f w ds):WD P n (.loop c) Q f w ds:=by
 intro a w1 ha hd hs
 classical
 let X:Nat->Act->World->Prop:=fun m a w1=>∃f w ds,Is a f n/\a.defers=marks ds/\F3 w w1/\I m f w ds
 let J:Act->World->Prop:=fun a w1=>∃m,X m a w1
 let μ:Act->World->Nat:=fun a w1=>if h:∃m,X m a w1 then Classical.choose (S2 h)else 0
 have mu:∀a w1,J a w1->X (μ a w1) a w1/\∀k,X k a w1->μ a w1<=k:=fun a w1 h=>by grind
 refine wpIn_loop J μ ⟨m,f,w,ds,ha,hd,hs,h0⟩ ?_;intro a w1 hJ;obtain⟨f,w,ds,hf,hds,hw,hI⟩:=(mu a w1 hJ).1;refine d6b (round _ f w ds hI a w1 hf hds hw) ?_;intro e a' w' ⟨g,v,d,hg,hd,hv,q⟩;cases e with
 |normal =>
  obtain⟨m',hlt,hI'⟩:=q;have hx:X m' a' w':=⟨g,v,d,hg,hd,hv,hI'⟩;exact⟨⟨m',hx⟩,Nat.lt_of_le_of_lt ((mu a' w' ⟨m',hx⟩).2 m' hx) hlt⟩
 |_=>exact⟨g,v,d,hg,hd,hv,q⟩
def rcL(fn:FuncId)(tm:Array Value)(ps:Array Tmp)(asg body:Code)(D:Nat)(st:LoopState)(pe:Option Code):Loop:=
 { state:=st,pending:=pe,fn,tmps:=tm,params:=ps,assign:=asg,body,defers:=D }
def a4b{w1:World}(hs:F3 w w1)(r:Nat)(o:Obj):F3 (w.putObj r o) (w1.putObj r o):=by obtain⟨k,rfl⟩:=hs;exact⟨k,rfl⟩
def a8I{w1:World}(hs:F3 w w1)(o:Obj):F3 (w.alloc o) (w1.alloc o):=by obtain⟨k,rfl⟩:=hs;exact⟨k,rfl⟩
def a1v(w:World)(fn:FuncId)(tm:Array Value)(ps:Array Tmp)(asg body:Code):World:=(w.alloc (.deferred (some []))).alloc (.loop (rcL fn tm ps asg body w.heap.size .ready none))
def c1c{g:Operand}{ps:Array Tmp}{asg body:Code}{gf:Nat}{lb:List Value}(hg:ev f g=.func (.func gf) #[] lb.toArray)(eg:∀args w,(callFunc gf args).run P w=.ok (.enter gf args) w)
  (h:∀(fn:FuncId)(tm:Array Value),Is { tmps:=tm,defers:=[] } f n ->
   F7 P gf (.func (.yield (w.heap.size+1)) #[] #[]::lb) (a1v w fn tm ps asg body) (fun _ w2=>∃st pe,st≠.busy/\w2.heap[w.heap.size+1]?=some (.loop (rcL fn tm ps asg body w.heap.size st pe)) /\
    ((pe=none/\Q .normal f (w2.putObj (w.heap.size+1) (.loop (rcL fn tm ps asg body w.heap.size .exhausted pe))) (w.heap.size::ds)) ∨
     (pe=some .ret/\Q .ret f (w2.putObj (w.heap.size+1) (.loop (rcL fn tm ps asg body w.heap.size .exhausted pe))) (w.heap.size::ds))))):WD P n (.rangeFunc g ps asg body) Q f w ds:=by
 intro a w1 ha hd hs;have hsz:w1.heap.size=w.heap.size:=by rw[hs.heap]
 refine wpIn_rangeFunc fun fn _=>?_;obtain⟨W1,hW1⟩:∃W1,(w1.alloc (.deferred (some []))).alloc (.loop { state:=.ready,pending:=none,fn,tmps:=a.tmps,params:=ps,assign:=asg,body,defers:=w1.heap.size })=W1:=⟨_,rfl⟩;refine⟨w1.heap.size+1,[{ target:=.collected w1.heap.size,args:=#[] }],W1,{ target:=.fn (.func gf) lb.toArray,args:=#[.func (.yield (w1.heap.size+1)) #[] #[]] },W1,gf,#[.func (.yield (w1.heap.size+1)) #[] #[]]++lb.toArray,W1,by rw[<- hW1];exact run_enterLoop_outer _ _ _ _ _,?_,?_,?_,fun h=>(by cases h),?_⟩
 . have e:a.eval g=.func (.func gf) #[] lb.toArray:=by rw[ha.eval];exact hg
   simp only[resolve,e];simp[go_sem]
 . intro f' _;trivial
 . simp[invoke,go_sem,eg]
 . have hi:Is { tmps:=a.tmps,defers:=[] } f n:=⟨ha.size,ha.get⟩;have hc:=h fn a.tmps hi;have hS:F3 (a1v w fn a.tmps ps asg body) W1:=by
    rw[<- hW1,hsz];exact a8I (a8I hs _) _
   have hc:=hc _ hS;have ea:(Value.func (.yield (w.heap.size+1)) #[] #[]::lb).toArray=#[.func (.yield (w1.heap.size+1)) #[] #[]]++lb.toArray:=by rw[hsz];simp
   rw[ea]at hc;refine a5Z (d5p hc ?_);rintro e w3 ⟨v,w2,rfl,hs2,st,pe,hb,hl,hq⟩;have hl3:w3.heap[w1.heap.size+1]?=some (.loop (rcL fn a.tmps ps asg body w.heap.size st pe)):=by rw[hs2.heap,hsz];exact hl
   have hend:=run_endLoop (P:=P) hl3 hb;have hs3:F3 (w2.putObj (w.heap.size+1) (.loop (rcL fn a.tmps ps asg body w.heap.size .exhausted pe))) (w3.putObj (w1.heap.size+1) (.loop (rcL fn a.tmps ps asg body w.heap.size .exhausted pe))):=by rw[hsz];exact a4b hs2 _ _
   have hdd:([{ target:=.collected w1.heap.size,args:=#[] }]:List Deferred)++a.defers=marks (w.heap.size::ds):=by rw[hd,hsz];rfl
   rcases hq with⟨rfl,hq⟩|⟨rfl,hq⟩
   . exact⟨none,_,hend,f,_,_,⟨ha.size,ha.get⟩,hdd,hs3,hq⟩
   . exact⟨some .ret,_,hend,wpIn_ret ⟨f,_,_,⟨ha.size,ha.get⟩,hdd,hs3,hq⟩⟩
def b1s{l:Nat}{fn:FuncId}{tm:Array Value}{p:Tmp}{asg body:Code}{D:Nat}{v:Value}{R:Value->World->Prop}(hl:w.heap[l]?=some (.loop (rcL fn tm #[p] asg body D .ready none)))(hi:Is { tmps:=tm,defers:=[] } f n)(hp:Nat.blt p n=true)
  (h:W P n asg (b6p (fun f2 w2=>w2.heap[l]?=some (.loop (rcL fn tm #[p] asg body D .ready none))/\W P n body (fun e _ w3=>w3.heap[l]?=some (.loop (rcL fn tm #[p] asg body D .busy none)) /\
   ((e=.normal/\R (.bool true) (w3.putObj l (.loop (rcL fn tm #[p] asg body D .ready none))))∨(e=.ret/\R (.bool false) (w3.putObj l (.loop (rcL fn tm #[p] asg body D .done (some .ret)))))))
    f2 (w2.putObj l (.loop (rcL fn tm #[p] asg body D .busy none)))) (fun _ _ _=>False)) (D2 f p v) w):a0m P l [v] w R:=by
 intro w1 hs;have hl1:w1.heap[l]?=some (.loop (rcL fn tm #[p] asg body D .ready none)):=by rw[hs.heap];exact hl
 refine⟨fn,_,asg,body,run_yield (P:=P) (args:=[v].toArray) hl1 rfl,roundIn_of_wpIn trivial ?_⟩;have ht:((#[p]:Array Tmp).zip [v].toArray).foldl (fun tmps (x:Tmp×Value)=>tmps.setIfInBounds x.1 x.2) tm=tm.setIfInBounds p v:=by simp
 have hip:Is { tmps:=((#[p]:Array Tmp).zip [v].toArray).foldl (fun tmps (x:Tmp×Value)=>tmps.setIfInBounds x.1 x.2) tm,defers:=[] } (D2 f p v) n:=by rw[ht];exact hi.put (F8 hp) v
 refine d6b (h _ w1 hip hs (some l)) ?_;rintro e a2 w2 ⟨f2,w2',hi2,hd2,hs2,q⟩;cases e with
 |normal =>
  obtain⟨hl2,hb⟩:=q;have hl2':w2.heap[l]?=some (.loop (rcL fn tm #[p] asg body D .ready none)):=by rw[hs2.heap];exact hl2
  refine⟨_,run_beginRound (P:=P) hl2' rfl,?_⟩;refine d6b (hb a2 _ hi2 (a4b hs2 _ _) (some l)) ?_;rintro e a3 w3 ⟨f3,w3',hi3,hd3,hs3,hl3,q⟩;have hl3':w3.heap[l]?=some (.loop (rcL fn tm #[p] asg body D .busy none)):=by rw[hs3.heap];exact hl3
  rcases q with⟨rfl,q⟩|⟨rfl,q⟩
  . exact⟨_,_,run_endRound (P:=P) none hl3',_,_,rfl,a4b hs3 _ _,q⟩
  . exact⟨_,_,run_endRound (P:=P) (some .ret) hl3',_,_,rfl,a4b hs3 _ _,q⟩
 |_=>exact q.elim
def Y6:World->List Nat->World
 |w,[]=>w
 |w,D::ds=>Y6 (w.putObj D (.deferred none)) ds
def a4f{fn:Func}{R:Ending->World->Prop}{tm:Array Value}:∀(ds:List Nat)(w:World),ds.Nodup->(∀D∈ds,w.heap[D]?=some (.deferred (some [])))->(∃v,(results fn tm).run P (Y6 w ds)=.ok v (Y6 w ds)/\R (.returned v) (Y6 w ds))->LeavesInM (O5 none) 0 P fn tm R (marks ds) .returning w
 |[],_,_,_,h=>h
 |D::ds,w,hn,hd,h=>by refine⟨(by simp_all),.inl ⟨D,_,rfl,run_takeDeferred (hd D (d5u ..)),?_⟩⟩;refine a4f ds _ (d7A.1 hn).2 (fun D' h'=>?_) h;have hne:D'≠D:=fun e=>(d7A.1 hn).1 (e ▸ h');rw[d6I hne];simp_all
def a8F{w1:World}:∀(ds:List Nat)(w:World)(w1:World),F3 w w1->F3 (Y6 w ds) (Y6 w1 ds)
 |[],_,_,h=>h
 |_::ds,_,_,h=>a8F (w1:=w1) ds _ _ (a4b h _ _)
def c6W{K:FuncId}{fn:Func}{c:Code}{args:List Value}{R:Value->World->Prop}(hf:P.funcs[K]?=some fn)(hb:fn.body=some c)(hn:fn.ntmps=n)(hs:Nat.ble args.length n=true)
  (h:WD P n c (fun e f w ds=>(e=.ret∨e=.normal)/\ds.Nodup/\(∀D∈ds,w.heap[D]?=some (.deferred (some [])))/\∃v,b78 P fn n f (Y6 w ds) v/\R v (Y6 w ds)) (nth args) w []):F7 P K args w R:=by
 subst hn;intro w1 hw;refine(callsIn_wide (n:=0)).1 (callsIn_of_wp_marks hf hb trivial (d6b (h _ w1 (b2v args _ (d5k hs)) rfl hw) ?_));rintro e a w2 ⟨f,w',ds,hi,hd,hv,he,hnd,hm,v,hr,hR⟩;have key:LeavesInM (O5 none) 0 P fn a.tmps (fun e w2=>∃v w',e=.returned v/\F3 w' w2/\R v w') a.defers .returning w2:=by rw[hd];have hss:=a8F (w1:=w1) ds w' w2 hv;refine a4f ds w2 hnd (fun D hD=>by rw[hv.heap];exact hm D hD) ⟨v,hr a _ hi hss,v,_,rfl,hss,hR⟩
 rcases he with rfl|rfl <;> exact key
end
def Sep.stay{B0:List Nat}{w0 w w':World}{Z:Nat->Prop}{l:List It}{B F:List Nat}(hs:Sep B0 w0 Z w l)(hx:Ext B w w')(hB:∀b∈B,b<w.heap.size->(∀t∈l,b ∉ t.F)/\¬Z b)(hO:∀t∈l,t.O=F)(hF:∀t∈l,∀b∈t.F,b∈F):Sep F w' Z w' l:=by refine⟨Ext.refl _ _,fun b hb=>d5L (hs.zlt b hb) hx.size,fun k t hk=>?_,hs.apart⟩;have hm:t∈l:=d4s hk;have ok:=hs.ok k t hk;refine⟨ok.H8 Z Z B w w' ok.holds hx (fun b hb h=>?_) (fun _ h=>h),ok.H8,fun b hb=>d5L (ok.lt b hb) hx.size,ok.N5,fun b hb=>.inl (by grind),fun b hb=>by simp_all⟩;grind
section
variable{E:Env}{C C0:Ctx}{ρ ρ' ρb:o5}{Z Z' Zb:Nat->Prop}{w w' wb:World}{its its' lkd:c7 E.N}{nx nb:Nat}{fx:l6 E.N}{st:E.St}{f fb:Fr}
def B5(E:Env)(ρ:o5)(its:c7 E.N):List Nat:=its.flatMap fun p=>s6 E.N ρ p.1 p.2
def s5{b:Nat}:b∈B5 E ρ its↔∃p∈its,b∈s6 E.N ρ p.1 p.2:=by unfold B5;simp_all
def a4O{B0:List Nat}{t:It}:t∈s9 E.N E.T ρ B0 its↔∃p∈its,t=C7 E.N E.T ρ B0 p.1 p.2:=by unfold s9;grind
def Mem.okp(hm:Mem E C ρ Z w its nx){p:Nat×Item E.N}(hp:p∈its):(C7 E.N E.T ρ C.B0 p.1 p.2).Ok C.B0 C.w0 Z w:=by obtain⟨k,hk⟩:=d5g hp;exact hm.sep.ok k _ (j3 hk)
def a86{B0 B1:List Nat}{w0:World}(hs:Sep B0 w0 Z w (s9 E.N E.T ρ B0 its))(hx:∀p∈its,∀b∈s6 E.N ρ p.1 p.2,b∈B1∨w.heap.size<=b):Sep B1 w Z w (s9 E.N E.T ρ B1 its):=by
 refine⟨Ext.refl _ _,hs.zlt,fun k t hk=>?_,fun j k s t hj hk hne=>?_⟩
 . obtain⟨p,hp,rfl⟩:=l9 hk;have ok:=hs.ok k _ (j3 hp);refine⟨ok.holds,s7,ok.lt,ok.N5,fun b hb=>?_,fun b hb=>hb⟩;rcases hx p (d4s hp) b hb with h|h
   . exact .inl h
   omega
 . obtain⟨p,hp,rfl⟩:=l9 hj;obtain⟨q,hq,rfl⟩:=l9 hk;exact fun b hb hb'=>hs.apart j k (C7 E.N E.T ρ B0 p.1 p.2) (C7 E.N E.T ρ B0 q.1 q.2) (j3 hp) (j3 hq) hne b hb hb'
def Ctx.gr(ρ0:o5)(Z:Nat->Prop)(w:World)(B:List Nat):Ctx:=⟨ρ0,Z,w,B,w⟩
def Mem.c1v{B:List Nat}(hm:Mem E C ρ Z w its nx)(hx:Ext B w w')(hB:∀b∈B,b<w.heap.size->b ∉ B5 E ρ its/\¬Z b){ρ0:o5}(h0:∀i L,ρ0 i=some L->ρ i=some L):Mem E (Ctx.gr ρ0 Z w' (B5 E ρ its)) ρ Z w' its nx:=by
 have h1:Sep (B5 E ρ its) w Z w (s9 E.N E.T ρ (B5 E ρ its) its):=a86 hm.sep fun p hp b hb=>.inl (s5.2 ⟨p,hp,hb⟩);refine⟨Sep.stay h1 hx (fun b hb hlt=>⟨fun t ht hbt=>?_,(hB b hb hlt).2⟩) (fun t ht=>?_) (fun t ht b hb=>?_),hm.fr,h0,fun _ h=>h,fun _ h=>.inl h⟩
 . obtain⟨p,hp,rfl⟩:=a4O.1 ht;exact(hB b hb hlt).1 (s5.2 ⟨p,hp,hbt⟩)
 . obtain⟨p,hp,rfl⟩:=a4O.1 ht;rfl
 . obtain⟨p,hp,rfl⟩:=a4O.1 ht;exact s5.2 ⟨p,hp,hb⟩
def Mem.base(hm:Mem E C ρ Z w its nx):Mem E (Ctx.gr ρ Z w (B5 E ρ its)) ρ Z w its nx:=hm.c1v (B:=[]) (Ext.refl _ _) (fun _ h=>by cases h) (fun _ _ h=>h)
def Mem.b0t{ib:c7 E.N}(hb:Mem E C ρb Zb wb ib nb)(hm:Mem E (Ctx.gr ρb Zb wb (B5 E ρb ib)) ρ Z w its nx):Mem E C ρ Z w its nx:=by
 have hB:∀x∈B5 E ρb ib,x∈C.B0∨C.w0.heap.size<=x:=fun x hx=>by obtain⟨p,hp,h⟩:=s5.1 hx;exact(hb.okp hp).org x h
 have hsz:=hb.sep.ext.size;refine⟨⟨hb.sep.ext.trans hm.sep.ext (fun x hx=>.inl hx) hB,hm.sep.zlt,fun k t hk=>?_,fun j k s t hj hk hne=>?_⟩,hm.fr,fun i L e=>hm.ge i L (hb.ge i L e),fun b h=>hm.zge b (hb.zge b h),fun b h=>?_⟩
 . obtain⟨p,hp,rfl⟩:=l9 hk;have ok:=hm.sep.ok k _ (j3 hp);refine⟨ok.holds,s7,ok.lt,ok.N5,fun b hb'=>?_,fun b hb=>hb⟩;rcases ok.org b hb' with h|h
   . exact hB b h
   . exact .inr (d4v hsz h)
 . obtain⟨p,hp,rfl⟩:=l9 hj;obtain⟨q,hq,rfl⟩:=l9 hk;exact fun b hb1 hb2=>hm.sep.apart j k (C7 E.N E.T ρ _ p.1 p.2) (C7 E.N E.T ρ _ q.1 q.2) (j3 hp) (j3 hq) hne b hb1 hb2
 . rcases hm.zle b h with h|h|h
   . exact hb.zle b h
   . exact .inr (hB b h)
   . exact .inr (.inr (d4v hsz h))
def Mem.quiet{B:List Nat}(hm:Mem E C ρ Z w its nx)(hx:Ext B w w')(hB:∀b∈B,b<w.heap.size->b ∉ B5 E ρ its/\¬Z b/\C.w0.heap.size<=b):Mem E C ρ Z w' its nx:=by
 have hsz:=hm.sep.ext.size;refine⟨⟨hm.sep.ext.trans hx (fun x hx=>.inl hx) (fun x hx=>?_),fun b hb=>d5L (hm.sep.zlt b hb) hx.size,fun k t hk=>?_,hm.sep.apart⟩,hm.fr,hm.ge,hm.zge,hm.zle⟩
 . grind
 . obtain⟨p,hp,rfl⟩:=l9 hk;have ok:=hm.sep.ok k _ (j3 hp);refine⟨s7 Z Z B w w' ok.holds hx (fun b hb h=>?_) (fun _ h=>h),s7,fun b hb=>d5L (ok.lt b hb) hx.size,ok.N5,ok.org,ok.a5F⟩;rcases d4P b w.heap.size with h1|h1
   . rcases h with h|h
     . exact absurd (s5.2 ⟨p,d4s hp,h⟩) (hB b hb h1).1
     simp_all
   . exact h1
def TnW(Z:Nat->Prop)(w:World)(Z':Nat->Prop)(w':World):Prop:=Tn (fun _=>none) Z w (fun _=>none) Z' w'
def TnW.of(h:Tn ρ Z w ρ' Z' w'):TnW Z w Z' w':=⟨fun _ _ h=>h,h.z,h.ext⟩
def TnW.tn(h:TnW Z w Z' w')(hρ:∀i L,ρ i=some L->ρ' i=some L):Tn ρ Z w ρ' Z' w':=⟨hρ,h.z,h.ext⟩
def TnW.tr{Z1:Nat->Prop}{w1:World}(h:TnW Z w Z1 w1)(k:TnW Z1 w1 Z' w'):TnW Z w Z' w':=Tn.trans h k
def TnW.q{B:List Nat}(hx:Ext B w w')(hB:∀b∈B,b<w.heap.size->¬Z b):TnW Z w Z w':=⟨fun _ _ h=>h,fun _ h _=>h,B,hx,fun b hb hz=>by grind⟩
def Rel.base(h:Rel E C fx lkd st ρ Z f w):Rel E (Ctx.gr ρ Z w (B5 E ρ (st.items++lkd))) fx lkd st ρ Z f w:=⟨h.sl,h.fx,h.gs,h.mem.base,Tn.refl _ _ _,h.a43⟩
def Rel.b0t{lkd':c7 E.N}{fx':l6 E.N}{st':E.St}{f':Fr}(hb:Rel E C fx lkd st ρb Zb fb wb)(h:Rel E (Ctx.gr ρb Zb wb (B5 E ρb (st.items++lkd))) fx' lkd' st' ρ Z f' w):Rel E C fx' lkd' st' ρ Z f' w:=⟨h.sl,h.fx,h.gs,hb.mem.b0t h.mem,hb.tn.trans h.tn,hb.g⟩
structure Mk(E:Env)(C:Ctx)(ρ:o5)(Z:Nat->Prop)(w:World)(its:c7 E.N)(ds:List Nat):Prop where
 nd:ds.Nodup
 is:∀D∈ds,w.heap[D]?=some (.deferred (some []))
 new:∀D∈ds,C.w0.heap.size<=D
 ap:∀D∈ds,D ∉ B5 E ρ its/\¬Z D
def Mk.lt{ds:List Nat}(h:Mk E C ρ Z w its ds):∀D∈ds,D<w.heap.size:=fun D hD=>(d6o.1 (h.is D hD)).1
def Mk.go{ds:List Nat}(h:Mk E C ρ Z w its ds)(hm:Mem E (Ctx.gr ρb Z w (B5 E ρ its)) ρ' Z' w' its' nx):Mk E C ρ' Z' w' its' ds:=by
 refine⟨h.nd,fun D hD=>?_,h.new,fun D hD=>⟨fun hf=>?_,fun hz=>?_⟩⟩
 . rw[hm.sep.ext.block D (h.lt D hD) (h.ap D hD).1];exact h.is D hD
 . obtain⟨p,hp,hb⟩:=s5.1 hf;have hlt:=h.lt D hD;rcases(hm.okp hp).org D hb with h1|h1
   . exact(h.ap D hD).1 h1
   . exact absurd h1 (Nat.not_le.2 hlt)
 . have hlt:=h.lt D hD;rcases hm.zle D hz with h1|h1|h1
   . exact(h.ap D hD).2 h1
   . exact(h.ap D hD).1 h1
   . exact absurd h1 (Nat.not_le.2 hlt)
def Mk.sub{ds:List Nat}(h:Mk E C ρ Z w its ds)(hs:∀p∈its',p∈its):Mk E C ρ Z w its' ds:=⟨h.nd,h.is,h.new,fun D hD=>⟨fun hf=>by obtain⟨p,hp,hb⟩:=s5.1 hf;exact(h.ap D hD).1 (s5.2 ⟨p,hs p hp,hb⟩),(h.ap D hD).2⟩⟩
def QKD(E:Env)(C:Ctx)(fx:l6 E.N)(lkd:c7 E.N)(K:Ks E):QD:=fun e f w ds=>∃st ρ Z,Rel E C fx lkd st ρ Z f w/\Mk E C ρ Z w (st.items++lkd) ds/\b7R K e st
def piece_ok{inl:Inl E}{an:D1}(hE:c8 E)(hI:G4 E inl){c:Code}{K:Ks E}{ds:List Nat}(h:Rel E C fx lkd st ρ Z f w)(hk:Mk E C ρ Z w (st.items++lkd) ds)(hv:vc inl an c fx lkd st K):WD E.P an.n c (QKD E C fx lkd K) f w ds:=
 c9M (vc_ok hE hI c _ fx lkd st K ρ Z f w h.base hv) fun _ _ _ ⟨st',ρ',Z',hr,he⟩=>⟨st',ρ',Z',h.b0t hr,hk.go hr.mem,he⟩
def a9j:∀(ds:List Nat)(w:World),Ext ds w (Y6 w ds)
 |[],w=>Ext.refl _ _
 |D::ds,w=>by refine Ext.trans (B1:=[D]) (B2:=ds) (b:=w.putObj D (.deferred none)) ⟨rfl,rfl,rfl,by simp_all,fun b _ hb=>d6I (by simp_all)⟩ (a9j ds _) (fun x hx=>.inl (by simp_all)) (fun x hx=>.inl (d5b _ hx))
def Rel.Y6{ds:List Nat}(h:Rel E C fx lkd st ρ Z f w)(hk:Mk E C ρ Z w (st.items++lkd) ds):Rel E C fx lkd st ρ Z f (Go.Rx.Y6 w ds):=by have hx:=a9j ds w;have ht:TnW Z w Z (Go.Rx.Y6 w ds):=TnW.q hx fun b hb _=>(hk.ap b hb).2;exact⟨fun k s e=>(ht.tn (fun _ _ h=>h)).rep (h.sl k s e),fun p hp=>(ht.tn (fun _ _ h=>h)).rep (h.fx p hp),fun k j b s e=>⟨fun hb=>(ht.tn (fun _ _ h=>h)).rep ((h.gs k j b s e).1 hb),(h.gs k j b s e).2⟩,h.mem.quiet hx fun b hb _=>⟨(hk.ap b hb).1,(hk.ap b hb).2,hk.new b hb⟩,h.tn.trans (ht.tn (fun _ _ h=>h)),h.g⟩
def b6f{keep:List Nat}{vs:List LV}{lkd':c7 E.N}{st':E.St}{α:Type}{g:Cur E.N α vs}{Kα:α->Prop}{K:α->E.St->Prop}(h0:Rel E C0 fx lkd st ρb Zb fb wb)(hl:∀p∈lkd',p∈st.items++lkd)
  (h:Rel E C (p9 fx st keep++fx) lkd' st' ρ Z f w) (hρ:∀i L,ρb i=some L->ρ i=some L) (hC:∀i L,C.ρ0 i=some L->ρb i=some L) (hv:rbP E fx st (p9 fx st keep++fx) st' vs g Kα) (hK:P3 E fx st vs g ⟨[],[],[],st.nx⟩ K) :
  ∃new ρ2 a,Kα a/\K a new/\Rel E C (p9 fx st keep++fx) lkd' new ρ2 Z f w/\∀i L,ρb i=some L->ρ2 i=some L:=by
 unfold rbP at hv;cases hb:b38 E fx st (p9 fx st keep++fx) st' vs with
 |false=>simp_all
 |true =>
  rw[hb,d4G]at hv;unfold b38 at hb;simp only[d4k]at hb;obtain⟨hd,hr⟩:=hb;split at hv
  . rename_i a ha;have hbase:∀s id off,v8 fx st s=.ref id off->∃L,ρb id=some L:=fun s id off e=>by
     have:=h0.slot s;rw[e]at this;generalize fb s=u at this;cases this with
     |ref hL=>simp_all
    have hbA:∀s id,b1d (v8 fx st s)=some id∨obN (v8 fx st s)=some id->∃L,ρb id=some L:=fun s id e=>by
     have:=h0.slot s;generalize v8 fx st s=x at e this;generalize fb s=u at this;rcases e with e|e
     . cases this with
       |acc hL=>cases e;simp_all
       |a34 hL _ _ _ _ _=>cases e;simp_all
       |_=>cases e
     . cases this with
       |ref hL=>cases e;simp_all
       |yld hL=>cases e;simp_all
       |mp hL=>cases e;simp_all
       |_=>cases e
    obtain⟨new,ρ2,os,hF,hp,hk⟩:=rbAll_ok (fun s id e=>h0.a8a e) hbase hbA hρ h vs g a ⟨[],[],[],st.nx⟩ ρb [] ha (a71 hr) ⟨.nil,h0.mem.fr,fun _ _ h=>h,fun k s e=>(by cases e),rfl⟩ K hK;have hnd:(os.filterMap id).Nodup:=hp.nodup_iff.2 (by simpa using J1 hd);refine⟨new,ρ2,a,hv,hk,⟨hF.sl,fun p hp=>?_,fun k j b s e=>(by rw[hF.gs]at e;cases e),?_,⟨fun i L e=>hF.sub i L (hC i L e),h.tn.z,h.tn.ext⟩,h.g⟩,hF.sub⟩
    . have r1:=h.fx p hp;have r2:∃v,e7 E.N E.T ρb Zb wb v p.2:=by
       rcases d4J.1 hp with hp|hp
       . simp only[p9,d5U]at hp;obtain⟨s,_,rfl⟩:=hp;exact⟨_,h0.slot s⟩
       . exact⟨_,h0.fx p hp⟩
      obtain⟨v,r2⟩:=r2;exact e7.sub (e7.lower r1 r2 hρ) hF.sub
    . refine Mem.a9J h.mem (fun p hp=>?_) hF.tg hnd hF.fr (fun i L e=>hF.sub i L (hC i L e));obtain⟨k,hk⟩:=d5g hp;have e1:holds E.N E.T ρ p.1 Z w p.2:=h.mem.holds (k:=st'.items.length+k) (by grind);obtain⟨k2,hk2⟩:=d5g (hl p hp);have e2:holds E.N E.T ρb p.1 Zb wb p.2:=h0.mem.holds hk2;obtain⟨a1,a2⟩:=a5j e1 e2 hρ;obtain⟨b1,b2⟩:=O7 hF.sub a1;simp_all
  simp_all
end
structure YE(E:Env) where
 yo:ClX E.P->E.N.O 0
 is:∀(b:Nat)(Z:Nat->Prop)(w:World)(x:ClX E.P)(F:List Nat),((E.N.oj 0).ob b).is Z w (yo x) F↔(obY E.P b).is Z w x F
def J4(res:List Int->Int->Bool)(xs:List Int):Bool:=match xs.getLast? with|none=>false|some t=>!res xs.dropLast t
def b7n{res:List Int->Int->Bool}{xs:List Int}{t:Int}:J4 res (xs++[t])=!res xs t:=by simp[J4]
def stA(b:Bool):LoopState:=bif b then .done else .ready
def stP(b:Bool):Option Code:=bif b then some .ret else none
def c5Q(L:Nat)(r:Loop):It:=⟨[L],[L],fun _ w=>w.heap[L]?=some (.loop r)⟩
def a8L{L:Nat}{r:Loop}:(c5Q L r).V8:=fun Z Z' B w w' h hx hB _=>by
 have h:w.heap[L]?=some (.loop r):=h;have hlt:=(d6o.1 h).1;show w'.heap[L]?=_
 rw[hx.block L hlt (fun hm=>absurd (hB L hm (.inl (d4q.2 rfl))) (Nat.not_le.2 hlt))];exact h
def Sep.c8w{w w':World}{Z:Nat->Prop}{l:List It}{B F:List Nat}(hs:Sep F w Z w l)(hx:Ext B w w')(hB:∀b∈B,b<w.heap.size->b ∉ F/\¬Z b):Sep F w' Z w' l:=by
 refine⟨Ext.refl _ _,fun b hb=>d5L (hs.zlt b hb) hx.size,fun k t hk=>?_,hs.apart⟩;have ok:=hs.ok k t hk;have hO:∀b∈t.F,b∈t.O:=fun b hb=>by
  rcases ok.org b hb with h|h
  . exact h
  . exact absurd (ok.lt b hb) (d6M.2 h)
 refine⟨ok.H8 Z Z B w w' ok.holds hx (fun b hb h=>?_) (fun _ h=>h),ok.H8,fun b hb=>d5L (ok.lt b hb) hx.size,ok.N5,fun b hb=>.inl (hO b hb),ok.a5F⟩;rcases d4P b w.heap.size with h1|h1
 . rcases h with h|h
   . exact absurd (ok.a5F b (hO b h)) (hB b hb h1).1
   simp_all
 . exact h1
def a16(w:World)(L:Nat)(o:Obj):Ext [L] w (w.putObj L o):=⟨rfl,rfl,rfl,by simp_all,fun b _ hb=>d6I (by simp_all)⟩
section
variable{E:Env}{fx:l6 E.N}{st:E.St}
def a2j{nm:List Nat}{α:Type}{G:α->Nat->c7 E.N->List E.SV->Prop}:∀(ks:List TK)(f:tcD E.N α ks)(nx:Nat)(its:c7 E.N)(acc:List E.SV),a47 E nm ks nx its acc f G->∀Y,G (a1x ks f Y) (a0H E nm ks nx its acc Y).1 (a0H E nm ks nx its acc Y).2.1 (a0H E nm ks nx its acc Y).2.2
 |[],_,_,_,_,h,_=>h
 |.v k::r,f,_,_,_,h,Y=>a2j r (f Y.1) _ _ _ (h Y.1) Y.2
 |.to _::r,f,_,_,_,h,Y=>a2j r f _ _ _ h Y
 |.a0c::r,f,_,_,_,h,Y=>a2j r f _ _ _ h Y
 |.any::r,f,_,_,_,h,Y=>a2j r f _ _ _ h Y
def a8j{nm:List Nat}{α:Type}{G:α->Nat->c7 E.N->Prop}:∀(ps:List TP)(f:tpD E.N α ps)(i nx:Nat)(its:c7 E.N),a7j E nm ps i nx its f G->∀Y,G (a0D ps f Y) (a5w E nm ps i nx its Y).1 (a5w E nm ps i nx its Y).2
 |[],_,_,_,_,h,_=>h
 |.own _ T ks::r,f,i,nx,its,h,Y=>a8j r _ _ _ _ (a2j ks f nx its [] h Y.1) Y.2
 |.ob _ k::r,f,i,nx,its,h,Y=>a8j r (f Y.1) _ _ _ (h Y.1) Y.2
def a5X{α:Type}{d:α}{G:α->E.St->Prop}:∀(vs:List LV)(f:Cur E.N α vs)(new:E.St),a3I vs=true->P3 E fx st vs f new G->∀Y,G (a4n d vs f Y) (b1V E fx st vs Y new)
 |[],_,_,_,h,_=>h
 |.slot s k::r,f,new,ho,h,Y=>a5X r (f Y.1) _ ho (h Y.1) Y.2
 |.tree ss ps::r,f,new,ho,h,Y=>a5X r (a0D ps f Y.1) _ ho (a8j ps f 0 _ _ h Y.1) Y.2
 |.own _ _::_,_,_,ho,_,_=>by cases ho
 |.ob _ _::_,_,_,ho,_,_=>by cases ho
 |.cont _ _::_,_,_,ho,_,_=>by cases ho
 |.unr _::_,_,_,ho,_,_=>by cases ho
def b4U:List LV->Bool
 |[]=>true
 |v::r=>(match v with|.tree ss _=>ss.isEmpty|_=>false) && b4U r
def N8(E:Env)(fx:l6 E.N)(st:E.St)(vs:List LV)(Y:vC E.N vs):E.St:=b1V E fx st vs Y ⟨[],[],[],st.nx⟩
def a7H:∀(vs:List LV)(Y:vC E.N vs)(new:E.St),b4U vs=true->(b1V E fx st vs Y new).slots=new.slots
 |[],_,_,_=>rfl
 |v::r,Y,new,h=>by
  unfold b4U at h;simp only[d4k]at h;obtain⟨h1,h2⟩:=h;cases v with
  |tree ss ps =>
   have h1:ss.isEmpty=true:=h1;have e:ss=[]:=d7Y.1 h1;subst e;exact a7H r Y.2 _ h2
  |_=>cases h1
def a8R{vs:List LV}(Y:vC E.N vs)(h:b4U vs=true):(N8 E fx st vs Y).slots=[]:=a7H vs Y _ h
end
section
variable{E:Env}{C0:Ctx}{ρ:o5}{Z:Nat->Prop}{w:World}{lkd:c7 E.N}{fx:l6 E.N}{st:E.St}{f:Fr}{inl:Inl E}{an:D1}
def JY(E:Env)(fx:l6 E.N)(st:E.St)(vs:List LV)(rest:c7 E.N)(L:Nat)(rec:LoopState->Option Code->Loop)(I:List Int->Cur E.N Prop vs)(res:List Int->Int->Bool)(ρ:o5)(Z:Nat->Prop)(w:World)(Zc:Nat->Prop)(wc:World)(xs:List Int)(F:List Nat):Prop:=
 ∃(Y:vC E.N vs)(ρj:o5)(Zj:Nat->Prop),a4n False vs (I xs) Y/\(∀i,(N8 E fx st vs Y).nx<=i->ρj i=none)/\(∀i Lo,ρ i=some Lo->ρj i=some Lo)/\(∀b,Zj b->Zc b∨b∈F)/\(∀b∈F,b<wc.heap.size)/\TnW Z w Zj wc /\
  Sep F wc Zj wc (c5Q L (rec (stA (J4 res xs)) (stP (J4 res xs)))::s9 E.N E.T ρj F ((N8 E fx st vs Y).items++rest))
variable{vs:List LV}{rest:c7 E.N}{L:Nat}{I:List Int->Cur E.N Prop vs}{res:List Int->Int->Bool}{pre:List Int->Int->Prop}{keep:List Nat}{p:Nat}{asg body:Code}{fn D:Nat}{tm:Array Value}
def c3O{rec:LoopState->Option Code->Loop}{xs:List Int}{F:List Nat}:It.V8 ⟨F,[],fun Zc wc=>JY E fx st vs rest L rec I res ρ Z w Zc wc xs F⟩:=by
 intro Z1 Z2 B w1 w2 h hx hB hZ;obtain⟨Y,ρj,Zj,hY,hfr,hsub,hZj,hlt,htn,hs⟩:=h;have hB':∀b∈B,b<w1.heap.size->b ∉ F/\¬Zj b:=fun b hb h1=>by grind
 refine⟨Y,ρj,Zj,hY,hfr,hsub,fun b hb=>?_,fun b hb=>d5L (hlt b hb) hx.size,htn.tr (TnW.q hx fun b hb h1=>(hB' b hb h1).2),Sep.c8w hs hx hB'⟩;grind
def c11{C:Ctx}{ρ1:o5}{Z1:Nat->Prop}{w1 w2:World}{st1:E.St}{f1:Fr}{fx1:l6 E.N}{lk1:c7 E.N}{B:List Nat}(h:Rel E C fx1 lk1 st1 ρ1 Z1 f1 w1)(hx:Ext B w1 w2)(hB:∀b∈B,b<w1.heap.size->b ∉ B5 E ρ1 (st1.items++lk1)/\¬Z1 b):Rel E (Ctx.gr C.ρ0 Z1 w2 (B5 E ρ1 (st1.items++lk1))) fx1 lk1 st1 ρ1 Z1 f1 w2:=by have ht:Tn ρ1 Z1 w1 ρ1 Z1 w2:=(TnW.q hx fun b hb h1=>(hB b hb h1).2).tn (fun _ _ h=>h);exact⟨fun k s e=>ht.rep (h.sl k s e),fun q hq=>ht.rep (h.fx q hq),fun k j b s e=>⟨fun hb=>ht.rep ((h.gs k j b s e).1 hb),(h.gs k j b s e).2⟩,h.mem.c1v hx hB h.mem.ge,⟨h.mem.ge,fun _ h _=>h,[],Ext.refl _ _,fun _ h=>by cases h⟩,a1l.turn h.a43 ht⟩
def round_ok(hE:c8 E)(hI:G4 E inl)(h:Rel E C0 fx lkd st ρ Z f w)(hrest:∀q∈rest,q∈st.items++lkd)(hns:b4U vs=true)(hok:a3I vs=true)(hp:Nat.blt p an.n=true)(hpf:∀q∈p9 fx st keep++fx,q.1≠p)
  (hst:∀xs t,pre xs t->J4 res xs=false)
  (hv:∀xs t,c6 t->pre xs t->P3 E fx st vs (I xs) ⟨[],[],[],st.nx⟩ (fun x new=>x->vc inl an asg (p9 fx st keep++fx) rest ⟨(p,.int .i64 t)::new.slots,[],new.items,new.nx⟩
   ⟨fun st1=>vc inl an body (p9 fx st keep++fx) rest st1 ⟨fun st'=>res xs t=true/\rbP E fx st (p9 fx st keep++fx) st' vs (I (xs++[t])) id,fun st'=>res xs t=false/\rbP E fx st (p9 fx st keep++fx) st' vs (I (xs++[t])) id,[]⟩,fun _=>False,[]⟩))
  (hi:Is { tmps:=tm,defers:=[] } f an.n) (Zc:Nat->Prop) (wc:World) (F:List Nat) (xs:List Int) (t:Int) (hz:∀b,Zc b->b<wc.heap.size) (hF:∀b∈F,¬Zc b) (hJ:JY E fx st vs rest L (rcL fn tm #[p] asg body D) I res ρ Z w Zc wc xs F) (hpre:pre xs t) (hin:c6 t) :
  a0m E.P L [.int .i64 t] wc (fun v w'=>v=.bool (res xs t)/\∃F',JY E fx st vs rest L (rcL fn tm #[p] asg body D) I res ρ Z w Zc w' (xs++[t]) F'/\b3W wc w' F F'):=by
 classical
 obtain⟨Y,ρj,Zj,hY,hfr,hsub,hZj,hlt,htn,hs⟩:=hJ;have hsb:=hst xs t hpre;rw[hsb]at hs;have hrec:wc.heap[L]?=some (.loop (rcL fn tm #[p] asg body D .ready none)):=hs.at 0 rfl;have hLlt:L<wc.heap.size:=(d6o.1 hrec).1;have hLF:L∈F:=(hs.ok 0 _ rfl).a5F L (d4q.2 rfl);have hLZ:¬Zj L:=hs.nz 0 rfl L (d4q.2 rfl);have hLf:L ∉ B5 E ρj ((N8 E fx st vs Y).items++rest):=fun hm=>by obtain⟨q,hq,hb⟩:=s5.1 hm;obtain⟨k,hk⟩:=d5g hq;exact hs.apart 0 (k+1) _ (C7 E.N E.T ρj F q.1 q.2) rfl (by rw[d4S];exact j3 hk) (by omega) L (d4q.2 rfl) hb
 have hfF:∀b∈B5 E ρj ((N8 E fx st vs Y).items++rest),b∈F:=fun b hm=>by
  obtain⟨q,hq,hb⟩:=s5.1 hm;obtain⟨k,hk⟩:=d5g hq;have ok:=hs.ok (k+1) (C7 E.N E.T ρj F q.1 q.2) (by rw[d4S];exact j3 hk);rcases ok.org b hb with h1|h1
  . exact h1
  . exact absurd (ok.lt b hb) (d6M.2 h1)
 have hm0:Mem E (Ctx.gr ρ Zj wc F) ρj Zj wc ((N8 E fx st vs Y).items++rest) (N8 E fx st vs Y).nx:=⟨hs.drop,hfr,hsub,fun _ h=>h,fun _ h=>.inl h⟩;have hm:=hm0.c1v (B:=[]) (Ext.refl _ _) (fun _ h=>by cases h) hsub;have hT:Tn ρ Z w ρj Zj wc:=htn.tn hsub;have hr0:Rel E (Ctx.gr ρ Zj wc (B5 E ρj ((N8 E fx st vs Y).items++rest))) (p9 fx st keep++fx) rest ⟨(p,.int .i64 t)::(N8 E fx st vs Y).slots,[],(N8 E fx st vs Y).items,(N8 E fx st vs Y).nx⟩ ρj Zj (D2 f p (.int .i64 t)) wc:=by
  refine⟨fun k s e=>?_,fun q hq=>?_,fun k j b s e=>(by cases e),hm,⟨hsub,fun _ h _=>h,[],Ext.refl _ _,fun _ h=>by cases h⟩,a1l.turn h.a43 hT⟩
  . have e:lk ((p,.int .i64 t)::(N8 E fx st vs Y).slots) k=some s:=e;rw[K9]at e;by_cases hk:p=k
    . rw[if_pos hk]at e;cases e;subst hk;rw[V7,if_pos rfl];exact .int fun _=>hin
    . rw[if_neg hk,a8R Y hns]at e;cases e
  . rw[V7,if_neg (hpf q hq)];refine hT.rep ?_;rcases d4J.1 hq with hq|hq
    . simp only[p9,d5U]at hq;obtain⟨s,_,rfl⟩:=hq;exact h.slot s
    . exact h.fx q hq
 have hvc:=a5X (d:=False) vs (I xs) _ hok (hv xs t hin hpre) Y hY;refine b1s hrec hi hp (a2o (vc_ok hE hI asg _ _ _ _ _ ρj Zj _ wc hr0 hvc) fun e f2 w2 q=>?_);obtain⟨st1,ρ1,Z1,hr1,he1⟩:=q;cases e with
 |normal =>
  have he1:vc inl an body (p9 fx st keep++fx) rest st1 ⟨fun st'=>res xs t=true/\rbP E fx st (p9 fx st keep++fx) st' vs (I (xs++[t])) id,fun st'=>res xs t=false/\rbP E fx st (p9 fx st keep++fx) st' vs (I (xs++[t])) id,[]⟩:=he1;have hx1:Ext (B5 E ρj ((N8 E fx st vs Y).items++rest)) wc w2:=hr1.mem.sep.ext;have hL2:w2.heap[L]?=some (.loop (rcL fn tm #[p] asg body D .ready none)):=by rw[hx1.block L hLlt hLf];exact hrec
  refine⟨hL2,?_⟩;have hLf1:L ∉ B5 E ρ1 (st1.items++rest):=fun hm=>by
   obtain⟨q,hq,hb⟩:=s5.1 hm;rcases(hr1.mem.okp hq).org L hb with h1|h1
   . exact hLf h1
   . exact absurd hLlt (d6M.2 h1)
  have hLZ1:¬Z1 L:=fun hz=>by
   rcases hr1.mem.zle L hz with h1|h1|h1
   . exact hLZ h1
   . exact hLf h1
   . exact absurd hLlt (d6M.2 h1)
  have hr2:=c11 hr1 (a16 w2 L (.loop (rcL fn tm #[p] asg body D .busy none))) (fun b hb _=>by simp_all);refine a2o (vc_ok hE hI body _ _ _ _ _ ρ1 Z1 f2 _ hr2 he1) fun e f3 w3 q=>?_;obtain⟨st',ρ',Z',hr',he'⟩:=q;have hx3:Ext (B5 E ρ1 (st1.items++rest)) (w2.putObj L (.loop (rcL fn tm #[p] asg body D .busy none))) w3:=hr'.mem.sep.ext;have hLlt2:L<w2.heap.size:=(d6o.1 hL2).1;have hLlt2':L<(w2.putObj L (.loop (rcL fn tm #[p] asg body D .busy none))).heap.size:=by rw[d6P];exact hLlt2
  have hL3:w3.heap[L]?=some (.loop (rcL fn tm #[p] asg body D .busy none)):=by rw[hx3.block L hLlt2' hLf1];exact World.putObj_heap_same hLlt2
  have hLlt3:L<w3.heap.size:=(d6o.1 hL3).1;have fin:∀b:Bool,res xs t=b->rbP E fx st (p9 fx st keep++fx) st' vs (I (xs++[t])) id->(Value.bool b=.bool (res xs t)/\∃F',JY E fx st vs rest L (rcL fn tm #[p] asg body D) I res ρ Z w Zc (w3.putObj L (.loop (rcL fn tm #[p] asg body D (stA (!b)) (stP (!b))))) (xs++[t]) F'/\b3W wc (w3.putObj L (.loop (rcL fn tm #[p] asg body D (stA (!b)) (stP (!b))))) F F'):=by
   intro b hb hrb;obtain⟨new,ρ2,a,ha,⟨Y',e1,e2⟩,hr3,hsub2⟩:=b6f (K:=fun x new=>∃Y,x=a4n False vs (I (xs++[t])) Y/\new=N8 E fx st vs Y) h hrest hr' hr'.mem.ge (fun _ _ h=>h) hrb (a3R (d:=False) vs _ _ hok fun Y=>⟨Y,rfl,rfl⟩);subst e2;have hLf2:L ∉ B5 E ρ2 ((N8 E fx st vs Y').items++rest):=fun hm=>by
    obtain⟨q,hq,hb⟩:=s5.1 hm;rcases(hr3.mem.okp hq).org L hb with h1|h1
    . exact hLf1 h1
    . exact absurd hLlt2' (d6M.2 h1)
   have hLZ2:¬Z' L:=fun hz=>by
    rcases hr3.mem.zle L hz with h1|h1|h1
    . exact hLZ1 h1
    . exact hLf1 h1
    . exact absurd hLlt2' (d6M.2 h1)
   have hm4:=hr3.mem.c1v (a16 w3 L (.loop (rcL fn tm #[p] asg body D (stA (!b)) (stP (!b))))) (fun b' hb' _=>by simp_all) hr3.mem.ge;have hs1:w2.heap.size<=w3.heap.size:=by have:=hx3.size;rw[d6P]at this;exact this
   have hs0:=hx1.size
   let ex:=(List.range w3.heap.size).filter fun b=>decide (Z' b/\¬Zc b)
   have hex:∀b,b∈ex↔b<w3.heap.size/\Z' b/\¬Zc b:=fun b=>by simp[ex]
   -- old feet
   have org1:∀b∈B5 E ρ1 (st1.items++rest),b∈F∨wc.heap.size<=b:=fun b hb=>by
    obtain⟨q,hq,hb⟩:=s5.1 hb;rcases(hr1.mem.okp hq).org b hb with h1|h1
    . exact .inl (hfF b h1)
    . exact .inr h1
   have org2:∀b∈B5 E ρ2 ((N8 E fx st vs Y').items++rest),b∈F∨wc.heap.size<=b:=fun b hb=>by
    obtain⟨q,hq,hb⟩:=s5.1 hb;rcases(hr3.mem.okp hq).org b hb with h1|h1
    . exact org1 b h1
    . have h1:(w2.putObj L (.loop (rcL fn tm #[p] asg body D .busy none))).heap.size<=b:=h1;rw[d6P]at h1;omega
   have orgZ:∀b,Z' b->Zc b∨b∈F∨wc.heap.size<=b:=fun b hz=>by
    rcases hr3.mem.zle b hz with h1|h1|h1
    . rcases hr1.mem.zle b h1 with h1|h1|h1
      . rcases hZj b h1 with h1|h1
        all_goals simp_all
      . exact .inr (.inl (hfF b h1))
      . exact .inr (.inr h1)
    . exact .inr (org1 b h1)
    . have h1:(w2.putObj L (.loop (rcL fn tm #[p] asg body D .busy none))).heap.size<=b:=h1;rw[d6P]at h1;omega
   have ltf:∀b∈B5 E ρ2 ((N8 E fx st vs Y').items++rest),b<w3.heap.size:=fun b hb=>by obtain⟨q,hq,hb⟩:=s5.1 hb;exact(hr3.mem.okp hq).lt b hb
   refine⟨by rw[hb],L::(B5 E ρ2 ((N8 E fx st vs Y').items++rest)++ex),⟨Y',ρ2,Z',e1 ▸ ha,hr3.mem.fr,hsub2,fun b hb=>?_,fun b hb=>?_,?_,?_⟩,?_,fun b hb=>?_⟩
   . by_cases hc:Zc b
     . exact .inl hc
     . exact .inr (d5b _ (d5T _ ((hex b).2 ⟨hr3.mem.sep.zlt b hb,hb,hc⟩)))
   . rw[d6P];grind
   . exact(((htn.tr (TnW.of hr1.tn)).tr (TnW.q (a16 w2 L _) fun b hb _=>by simp_all)).tr (TnW.of hr3.tn)).tr (TnW.q (a16 w3 L _) fun b hb _=>by simp_all)
   . have es:J4 res (xs++[t])=!b:=by rw[b7n,hb]
     rw[es];have h5:Sep (L::(B5 E ρ2 ((N8 E fx st vs Y').items++rest)++ex)) (w3.putObj L (.loop (rcL fn tm #[p] asg body D (stA (!b)) (stP (!b))))) Z' (w3.putObj L (.loop (rcL fn tm #[p] asg body D (stA (!b)) (stP (!b))))) (s9 E.N E.T ρ2 (L::(B5 E ρ2 ((N8 E fx st vs Y').items++rest)++ex)) ((N8 E fx st vs Y').items++rest)):=
      a86 hm4.sep fun q hq b hb=>.inl (d5b _ (d5a _ (s5.2 ⟨q,hq,hb⟩)))
     refine Sep.d1R h5 ?_ a8L (fun b' hb'=>?_) (fun b' hb'=>?_) rfl (fun b' hb'=>?_) (fun k s hk b' hb' hbs=>?_)
     . exact World.putObj_heap_same hLlt3
     . have hb':b'∈[L]:=hb';simp_all
     . have hb':b'∈[L]:=hb';simp_all
     . have hb':b'∈[L]:=hb';simp_all
     . have hb':b'∈[L]:=hb';rw[d4q]at hb';subst hb';obtain⟨q,hq,rfl⟩:=l9 hk;exact hLf2 (s5.2 ⟨q,d4s hq,hbs⟩)
   . refine Ext.trans (B1:=F) (B2:=F) (b:=w3) ?_ ((a16 w3 L _).mono fun x hx=>by simp_all) (fun x hx=>.inl hx) (fun x hx=>.inl hx);refine Ext.trans (B1:=F) (B2:=B5 E ρ1 (st1.items++rest)) (b:=w2.putObj L (.loop (rcL fn tm #[p] asg body D .busy none))) ?_ hx3 (fun x hx=>.inl hx) org1;exact Ext.trans (B1:=B5 E ρj ((N8 E fx st vs Y).items++rest)) (B2:=[L]) (b:=w2) hx1 (a16 w2 L _) (fun x hx=>.inl (hfF x hx)) (fun x hx=>by simp_all)
   . grind
  cases e with
  |normal=>exact⟨hL3,.inl ⟨rfl,fin true he'.1 he'.2⟩⟩
  |ret=>exact⟨hL3,.inr ⟨rfl,fin false he'.1 he'.2⟩⟩
  |_=>exact he'.elim
 |_=>exact he1.elim
end
def a7N{N:B6}:List (SV N)->Option (List Nat)
 |[]=>some []
 |v::r=>match v with
  |.ref id off=>bif Nat.beq off 0 then(match a7N r with|some l=>some (id::l)|none=>none)else none
  |_=>none
def c16{N:B6}(its:c7 N):Nat->List Nat->Option (c7 N)
 |_,[]=>some []
 |n,id::r=>match lk its id with
  |some (.own T cells)=>bif cells.all F1 then(match c16 its (n+1) r with|some l=>some ((n,.own T cells)::l)|none=>none)else none
  |_=>none
def b5U{N:B6}:Nat->Nat->List (SV N)
 |_,0=>[]
 |n,m+1=>.ref n 0::b5U (n+1) m
structure b46(E:Env)(Y:YE E) where
 f:Nat->List E.SV->c7 E.N->(List Int->Int->Prop)->(List Int->Int->Bool)->Option (Prop×List Int)
 ok:∀K cs its pre res ob xs,f K cs its pre res=some (ob,xs)->ob->(∀args w,(callFunc K args).run E.P w=.ok (.enter K args) w)/\∀c:Cl E.P,c.pre=pre->c.res=res ->
  L8 E.P E.N E.T E.G K (.yld 0::cs) ((0,.ob 0 (its.length+1) (Y.yo (c,[])))::its) (2*(its.length+1)) (fun k=>∀fid n v,k v ((0,.ob 0 fid (Y.yo (c,xs)))::its) n)
section
variable{E:Env}{ρ ρ':o5}{Z:Nat->Prop}{w e:World}{its:c7 E.N}
def a90:∀(ids:List Nat)(n:Nat)(itc:c7 E.N),c16 its n ids=some itc->itc.length=ids.length/\∀j q,itc[j]?=some q->∃id T cells,ids[j]?=some id/\lk its id=some (.own T cells)/\cells.all F1=true/\q=(n+j,.own T cells)
 |[],n,itc,h=>by cases h;exact⟨rfl,fun j q hq=>by simp at hq⟩
 |id::r,n,itc,h=>by
  unfold c16 at h;split at h
  . rename_i T cells hl;have⟨h1,h2⟩:=i6 h;split at h2
    . rename_i l hr;cases h2;obtain⟨g1,g2⟩:=a90 r (n+1) l hr;refine⟨by simp[g1],fun j q hq=>?_⟩;cases j with
      |zero=>simp at hq;exact⟨id,T,cells,rfl,hl,h1,by rw[<- hq];rfl⟩
      |succ j =>
       obtain⟨id',T',cells',a1,a2,a3,a4⟩:=g2 j q (by simpa using hq);exact⟨id',T',cells',by simpa using a1,a2,a3,by rw[a4];congr 1;omega⟩
    . cases h2
  . cases h
def b1B{ρc:o5}:∀(cs:List E.SV)(ids:List Nat)(vs:List Value)(n:Nat),a7N cs=some ids->e8 E.N E.T ρ Z w vs cs->(∀j id,ids[j]?=some id->ρc (n+j)=ρ id)->e7 E.N E.T ρc Z e (.tuple vs.toArray) (.E8 (b5U n ids.length))
 |[],ids,vs,n,h,hr,_=>by cases h;rw[e8.z8 hr];exact .L0
 |v::cs,ids,vs,n,h,hr,hc=>by
  unfold a7N at h;split at h
  . rename_i id off;have⟨h1,h2⟩:=i6 h;split at h2
    . rename_i l hl;cases h2;have:=d4m h1;subst this;obtain⟨v1,r,rfl,g1,_,g2⟩:=hr.cons_inv;cases g1 with
      |ref hL =>
       exact .I6 (.ref (by have:=hc 0 id rfl;rw[d5D]at this;rw[this];exact hL)) (b1B cs l r (n+1) hl g2 fun j id' hj=>by rw[show n+1+j=n+(j+1) by omega];exact hc (j+1) id' (by simpa using hj))
    . cases h2
  . cases h
def b5R{id:Nat}{x y:Item E.N}(hd:distinct (its.map (·.1))=true)(h1:lk its id=some x)(h2:(id,y)∈its):y=x:=by
 have hn:=J1 hd;obtain⟨i,hi,_⟩:=x6 h1;obtain⟨j,hj⟩:=d5g h2;have e1:(its.map (·.1))[i]?=some id:=by simp[hi]
 have e2:(its.map (·.1))[j]?=some id:=by simp[hj]
 have hlt:i<(its.map (·.1)).length:=A1 e1;have:i=j:=(List.getElem?_inj hlt hn).1 (e1.trans e2.symm);subst this;rw[hi]at hj;cases hj;rfl
end
section
variable{E:Env}{C:Ctx}{ρ:o5}{Z:Nat->Prop}{w:World}{lkd:c7 E.N}{fx:l6 E.N}{st:E.St}{f:Fr}{inl:Inl E}{an:D1}{YY:YE E}{ds:List Nat}
variable{vs:List LV}{I:List Int->Cur E.N Prop vs}{res:List Int->Int->Bool}{pre:List Int->Int->Prop}{keep ids iti:List Nat}{p:Nat}{asg body:Code}{K:Ks E}{g:Operand}{gf:Nat}{cs:List E.SV}{itc:c7 E.N}{ob:Prop}{xs:List Int}
def b3c(w:World)(fn:FuncId)(tm:Array Value)(ps:Array Tmp)(asg body:Code):Ext [] w (a1v w fn tm ps asg body):=by
 have h1:∀(w:World)(o:Obj),Ext [] w (w.alloc o):=fun w o=>⟨rfl,rfl,rfl,by show w.heap.size<=(w.heap.push o).size;rw[d6m];omega,fun k hk _=>by
  show(w.heap.push o)[k]?=_
  rw[d6h,if_neg (by omega)]⟩
 exact(h1 w _).tr (h1 _ _)
def b0D(w:World)(fn:FuncId)(tm:Array Value)(ps:Array Tmp)(asg body:Code):(a1v w fn tm ps asg body).heap.size=w.heap.size+2:=by
 show((w.heap.push _).push _).size=_
 rw[d6m,d6m]
def b72(w:World)(fn:FuncId)(tm:Array Value)(ps:Array Tmp)(asg body:Code):(a1v w fn tm ps asg body).heap[w.heap.size+1]?=some (.loop (rcL fn tm ps asg body w.heap.size .ready none)):=by
 show((w.heap.push _).push _)[w.heap.size+1]?=_
 rw[d6h,if_pos (by rw[d6m])]
def b7p(w:World)(fn:FuncId)(tm:Array Value)(ps:Array Tmp)(asg body:Code):(a1v w fn tm ps asg body).heap[w.heap.size]?=some (.deferred (some [])):=by
 show((w.heap.push _).push _)[w.heap.size]?=_
 rw[d6h,if_neg (by rw[d6m];omega),d6h,if_pos rfl]
def range_ok(hE:c8 E)(hI:G4 E inl)(TL:b46 E YY)(h:Rel E C fx lkd st ρ Z f w)(hk:Mk E C ρ Z w (st.items++lkd) ds)(hg:evS fx lkd st [] g=.clo gf cs)(hcs:a7N cs=some iti)(hci:c16 st.items 1 iti=some itc)
  (hp:Nat.blt p an.n=true) (hdi:distinct iti=true) (hds:distinct (st.items.map (·.1))=true) (hns:b4U vs=true) (hok:a3I vs=true) (hni:iti.all (fun i=>!ids.elem i)=true) (hpf:(p9 fx st keep++fx).all (fun q=>!Nat.beq q.1 p)=true)
  (hids:ids=A8 E fx st vs)
  (h0:rbP E fx st (p9 fx st keep++fx) (inn st ids) vs (I []) id) (hst:∀xs t,pre xs t->J4 res xs=false)
  (hv:∀xs t,c6 t->pre xs t->P3 E fx st vs (I xs) ⟨[],[],[],st.nx⟩ (fun x new=>x->vc inl an asg (p9 fx st keep++fx) (without (without st.items ids) iti++lkd) ⟨(p,.int .i64 t)::new.slots,[],new.items,new.nx⟩
   ⟨fun st1=>vc inl an body (p9 fx st keep++fx) (without (without st.items ids) iti++lkd) st1 ⟨fun st'=>res xs t=true/\rbP E fx st (p9 fx st keep++fx) st' vs (I (xs++[t])) id,fun st'=>res xs t=false/\rbP E fx st (p9 fx st keep++fx) st' vs (I (xs++[t])) id,[]⟩,fun _=>False,[]⟩))
  (ht:TL.f gf (b5U 1 iti.length) itc pre res=some (ob,xs)) (hob:ob)
  (hK:P3 E fx st vs (I xs) ⟨[],[],[],st.nx⟩ (fun x new=>x->(bif J4 res xs then K.r else K.n) ⟨new.slots++p9 fx st keep,[],new.items++without st.items ids,new.nx⟩)) :
  WD E.P an.n (.rangeFunc g #[p] asg body) (QKD E C fx lkd K) f w ds:=by
 have hR:=h.base;obtain⟨new,ρ2,a,ha,⟨Y0,e1,e2⟩,h2⟩:=rbP_ok (K:=fun x new=>∃Y,x=a4n False vs (I []) Y/\new=N8 E fx st vs Y) hR (hR.enter keep ids) h0 (a3R (d:=False) vs _ _ hok fun Y=>⟨Y,rfl,rfl⟩);subst e2;have hm2:Mem E (Ctx.gr ρ Z w (B5 E ρ (st.items++lkd))) ρ2 Z w ((N8 E fx st vs Y0).items++(without st.items ids++lkd)) (N8 E fx st vs Y0).nx:=h2.mem;have hsub2:∀i L,ρ i=some L->ρ2 i=some L:=hm2.ge;generalize hWi:without st.items ids=Wi at *;generalize hrest:without Wi iti++lkd=rest at *;have hWsub:∀q∈Wi,q∈st.items:=fun q hq=>by rw[<- hWi]at hq;exact(d4Q.1 hq).1
 have hrsub:∀q∈rest,q∈st.items++lkd:=fun q hq=>by
  rw[<- hrest]at hq;rcases d4J.1 hq with hq|hq
  . exact d5a _ (hWsub q (d4Q.1 hq).1)
  . exact d5T _ hq
 have perm:∀A:c7 E.N,(A++(Wi++lkd)).Perm ((A++rest)++within Wi iti):=fun A=>by rw[<- hrest,d4K A];refine List.Perm.append_left A ?_;have:=(a1h Wi iti).append_right lkd;refine this.trans ?_;rw[d4K];exact List.perm_append_comm
 have hmp:=hm2.perm (perm (N8 E fx st vs Y0).items)
 -- the parts that the function is led to
 obtain⟨hlen,hcan⟩:=a90 iti 1 itc hci;have hndi:=J1 hdi;have inI:∀j id,iti[j]?=some id->∃T cells L,lk st.items id=some (.own T cells)/\cells.all F1=true/\itc[j]?=some (1+j,.own T cells)/\ρ id=some L/\L.bs=[L.b]/\(id,Item.own T cells)∈st.items:=fun j id hj=>by
  have hlt:j<itc.length:=by rw[hlen];exact A1 hj
  obtain⟨id',T,cells,a1,a2,a3,a4⟩:=hcan j _ (d4x hlt);rw[hj]at a1;cases a1;obtain⟨k,hk',_⟩:=x6 a2;obtain⟨L,_,hL,hbs,_⟩:=h.mem.holds (o6 (l2:=lkd) hk');exact⟨T,cells,L,a2,a3,by rw[d4x hlt,a4],hL,hbs,d4s hk'⟩
 have inW:∀q∈within Wi iti,∃(j:Nat)(T:Nat)(cells:List E.SV)(L:Loc),iti[j]?=some q.1/\q.2=.own T cells/\cells.all F1=true/\itc[j]?=some (1+j,.own T cells)/\ρ q.1=some L/\L.bs=[L.b]/\q∈st.items:=fun q hq=>by obtain⟨q1,q2⟩:=q;obtain⟨hq1,hq2⟩:=d4Q.1 hq;obtain⟨j,hj⟩:=d5g (List.elem_iff.1 hq2);obtain⟨T,cells,L,b1,b2,b3,b4,b5,_⟩:=inI j q1 hj;exact⟨j,T,cells,L,hj,b5R hds b1 (hWsub _ hq1),b2,b3,b4,b5,hWsub _ hq1⟩
 -- the closure
 have hre:=h.ev Y3.nil g;rw[hg]at hre;generalize hgv:Wk.ev f g=gv at hre;cases hre with| @clo _ lb _ hrl =>
 have hrl:e8 E.N E.T ρ Z w lb cs:=hrl;obtain⟨heg,hgen⟩:=TL.ok _ _ _ _ _ _ _ ht hob;refine c1c (lb:=lb) hgv heg fun fn tm hi=>?_;have hxe:=b3c w fn tm #[p] asg body;have hse:=b0D w fn tm #[p] asg body;have hL0:=b72 w fn tm #[p] asg body;have hD0:=b7p w fn tm #[p] asg body;generalize a1v w fn tm #[p] asg body=ew at hxe hse hL0 hD0 ⊢;have hzw:∀b,Z b->b<w.heap.size:=h.mem.sep.zlt;have hlt2:∀(b:Nat)(its:c7 E.N),(∀q∈its,q∈(N8 E fx st vs Y0).items++(Wi++lkd))->b∈B5 E ρ2 its->b<w.heap.size:=fun b its hs hb=>by obtain⟨q,hq,hb⟩:=s5.1 hb;exact(hm2.okp (hs q hq)).lt b hb
 -- the client's own parts
 have hl1:∀q∈(N8 E fx st vs Y0).items++rest,q∈(N8 E fx st vs Y0).items++(Wi++lkd):=fun q hq=>(perm _).mem_iff.2 (d5a _ hq);have hmJ:Mem E (Ctx.gr ρ Z ew (B5 E ρ2 ((N8 E fx st vs Y0).items++rest))) ρ2 Z ew ((N8 E fx st vs Y0).items++rest) (N8 E fx st vs Y0).nx:=
  (hmp.sel (its':=(N8 E fx st vs Y0).items++rest) (nx':=(N8 E fx st vs Y0).nx) (fun _ _ h=>h) hmp.fr (fun i=>i) (fun _ _ _ _ h=>h) fun i q hq=>o6 hq).c1v hxe (fun _ h=>by cases h) hsub2
 generalize hF0:(w.heap.size+1)::B5 E ρ2 ((N8 E fx st vs Y0).items++rest)=F0;have hLn:w.heap.size+1 ∉ B5 E ρ2 ((N8 E fx st vs Y0).items++rest):=fun hm=>absurd (hlt2 _ _ hl1 hm) (by omega);have hF0m:∀b,b∈F0↔b=w.heap.size+1∨b∈B5 E ρ2 ((N8 E fx st vs Y0).items++rest):=fun b=>by rw[<- hF0,d4B]
 have hJ0:JY E fx st vs rest (w.heap.size+1) (rcL fn tm #[p] asg body w.heap.size) I res ρ Z w Z ew [] F0:=by
  refine⟨Y0,ρ2,Z,e1 ▸ ha,hm2.fr,hsub2,fun b hb=>.inl hb,fun b hb=>?_,TnW.q hxe (fun _ h=>by cases h),?_⟩
  . rcases(hF0m b).1 hb with rfl|hb
    . omega
    . have:=hlt2 _ _ hl1 hb;omega
  . have h5:Sep F0 ew Z ew (s9 E.N E.T ρ2 F0 ((N8 E fx st vs Y0).items++rest)):=a86 hmJ.sep fun q hq b hb=>.inl ((hF0m b).2 (.inr (s5.2 ⟨q,hq,hb⟩)));refine Sep.d1R h5 hL0 a8L (fun b hb=>?_) (fun b hb hz=>?_) rfl (fun b hb=>?_) (fun k s hk b hb hbs=>?_)
    . have hb:b∈[w.heap.size+1]:=hb;rw[d4q]at hb;omega
    . have hb:b∈[w.heap.size+1]:=hb;rw[d4q]at hb;have:=hzw b hz;omega
    . have hb:b∈[w.heap.size+1]:=hb;rw[d4q]at hb;exact(hF0m b).2 (.inl hb)
    . have hb:b∈[w.heap.size+1]:=hb;rw[d4q]at hb;subst hb;obtain⟨q,hq,rfl⟩:=l9 hk;exact hLn (s5.2 ⟨q,d4s hq,hbs⟩)
 have hpf':∀q∈p9 fx st keep++fx,q.1≠p:=fun q hq e=>by have:=d4N.1 hpf q hq;rw[e,d6w]at this;cases this
 let c : Cl E.P := { J := fun b Zc wc xs F => b = w.heap.size + 1 /\ JY E fx st vs rest (w.heap.size + 1) (rcL fn tm #[p] asg body w.heap.size) I res ρ Z w Zc wc xs F
                     H8:=fun Z1 Z2 B w1 w2 hh hx hB hZ=>⟨hh.1,c3O Z1 Z2 B w1 w2 hh.2 hx hB hZ⟩
                     lt:=fun hh=>by obtain⟨_,_,_,_,_,_,_,_,hl,_⟩:=hh;exact hl
                     pre:=pre,res:=res
                     step:=fun Zc wc b F xs t hz hF hJ hpre hin=>by obtain⟨rfl,hJ⟩:=hJ;exact(round_ok hE hI hR hrsub hns hok hp hpf' hst hv hi Zc wc F xs t hz hF hJ hpre hin).mono fun v w' ⟨a,F',b,d⟩=>⟨a,F',⟨rfl,b⟩,d⟩ }
 have hG:=hgen c rfl rfl
 let ρc:o5:=fun i=>if i=0 then some ⟨w.heap.size+1,none,0,0,[]⟩else if i=itc.length+1 then some ⟨w.heap.size+1,none,0,0,F0⟩else(match iti[i-1]? with|some id=>ρ id|none=>none)
 have hc0:ρc 0=some ⟨w.heap.size+1,none,0,0,[]⟩:=rfl;have hcf:ρc (itc.length+1)=some ⟨w.heap.size+1,none,0,0,F0⟩:=by simp[ρc]
 have hcj:∀j id,iti[j]?=some id->ρc (1+j)=ρ id:=fun j id hj=>by
  have:=A1 hj;have e1:¬(1+j=0):=by omega
  have e2:¬(1+j=itc.length+1):=by omega
  simp only[ρc];rw[if_neg e1,if_neg e2,show 1+j-1=j by omega,hj]
 generalize hFI:B5 E ρ (within Wi iti)=FI;have hFIm:∀j id L,iti[j]?=some id->ρ id=some L->(∃T cells,lk st.items id=some (.own T cells))->L.bs=[L.b]->L.b∈FI/\L.b∈B5 E ρ (st.items++lkd)/\L.b<w.heap.size/\¬Z L.b/\L.b ∉ B5 E ρ2 ((N8 E fx st vs Y0).items++rest):=fun j id L hj hL ⟨T,cells,hl⟩ hbs=>by
  obtain⟨k,hk',_⟩:=x6 hl;have hmem:(id,Item.own T cells)∈st.items:=d4s hk';have hWm:(id,Item.own T cells)∈Wi:=by rw[<- hWi];exact d4Q.2 ⟨hmem,d4N.1 hni id (d4s hj)⟩
  have hw:(id,Item.own T cells)∈within Wi iti:=d4Q.2 ⟨hWm,d7g (d4s hj)⟩;have hb:L.b∈s6 E.N ρ id (.own T cells):=by rw[s8 hL,hbs];exact d4q.2 rfl
  have hb2:L.b∈s6 E.N ρ2 id (.own T cells):=by rw[s8 (hsub2 _ _ hL),hbs];exact d4q.2 rfl
  have ok:=h.mem.okp (d5a lkd hmem);refine⟨by rw[<- hFI];exact s5.2 ⟨_,hw,hb⟩,s5.2 ⟨_,d5a _ hmem,hb⟩,ok.lt _ hb,ok.N5 _ hb,fun hf=>?_⟩;obtain⟨q,hq,hqb⟩:=s5.1 hf;obtain⟨k1,hk1⟩:=d5g hq;obtain⟨k2,hk2⟩:=d5g hw;have hk1':=A1 hk1;have hk2':(((N8 E fx st vs Y0).items++rest)++within Wi iti)[((N8 E fx st vs Y0).items++rest).length+k2]?=some (id,Item.own T cells):=by rw[d4t (d8c _ _),d5Y];exact hk2
  exact hmp.sep.apart k1 (((N8 E fx st vs Y0).items++rest).length+k2) (C7 E.N E.T ρ2 _ q.1 q.2) (C7 E.N E.T ρ2 _ id (.own T cells)) (j3 (o6 hk1)) (j3 hk2') (by omega) L.b hqb hb2
 have hsepI:Sep (F0++FI) ew Z ew (s9 E.N E.T ρc (F0++FI) itc):=by
  refine⟨Ext.refl _ _,fun b hb=>by have:=hzw b hb;omega,fun k t hk'=>?_,fun k1 k2 t1 t2 hk1 hk2 hne b hb1 hb2=>?_⟩
  . obtain⟨q,hq,rfl⟩:=l9 hk';obtain⟨id,T,cells,b1,b2,b3,rfl⟩:=hcan k q hq;obtain⟨T',cells',L,d1,d2,d3,d4,d5,d6⟩:=inI k id b1;rw[b2]at d1;cases d1;obtain⟨m1,m2,m3,m4,m5⟩:=hFIm k id L b1 d4 ⟨T,cells,b2⟩ d5;have hcl:ρc (1+k)=some L:=by rw[hcj k id b1];exact d4
    have hft:∀b,b∈s6 E.N ρc (1+k) (.own T cells)->b=L.b:=fun b hb=>by rw[s8 hcl,d5]at hb;exact d4q.1 hb
    obtain⟨k',hk'',_⟩:=x6 b2;have hh:holds E.N E.T ρ id Z w (.own T cells):=h.mem.holds (o6 (l2:=lkd) hk'');have hh:=(s7 (N:=E.N) (T:=E.T) (ρ:=ρ) (B0:=[]) (id:=id) (i:=.own T cells)) Z Z [] w ew hh hxe (fun _ h=>by cases h) (fun _ h=>h);obtain⟨L',cs',hL',hbs',ho,hr⟩:=hh;rw[d4]at hL';cases hL';exact⟨⟨L,cs',hcl,d5,ho,a9g b3 hr _⟩,s7,fun b hb=>by rw[hft b hb];omega,fun b hb=>by rw[hft b hb];exact m4,fun b hb=>.inl (by rw[hft b hb];exact d5T _ m1),fun b hb=>hb⟩
  . obtain⟨q1,hq1,rfl⟩:=l9 hk1;obtain⟨q2,hq2,rfl⟩:=l9 hk2;obtain⟨id1,T1,c1,b1,b2,b3,rfl⟩:=hcan k1 q1 hq1;obtain⟨id2,T2,c2,g1,g2,g3,rfl⟩:=hcan k2 q2 hq2;obtain⟨_,_,L1,_,_,_,d4,d5,_⟩:=inI k1 id1 b1;obtain⟨_,_,L2,_,_,_,f4,f5,_⟩:=inI k2 id2 g1;have hb1:b∈s6 E.N ρc (1+k1) (.own T1 c1):=hb1;have hb2:b∈s6 E.N ρc (1+k2) (.own T2 c2):=hb2;rw[s8 (show ρc (1+k1)=some L1 by rw[hcj k1 id1 b1];exact d4)]at hb1;rw[s8 (show ρc (1+k2)=some L2 by rw[hcj k2 id2 g1];exact f4)]at hb2;have hid:id1≠id2:=fun e=>by
     subst e;exact hne ((List.getElem?_inj (A1 b1) hndi).1 (b1.trans g1.symm))
    obtain⟨i1,hi1,_⟩:=x6 b2;obtain⟨i2,hi2,_⟩:=x6 g2;refine h.mem.sep.apart i1 i2 (C7 E.N E.T ρ _ id1 (.own T1 c1)) (C7 E.N E.T ρ _ id2 (.own T2 c2)) (j3 (o6 (l2:=lkd) hi1)) (j3 (o6 (l2:=lkd) hi2)) (fun e=>?_) b (by show b∈s6 E.N ρ id1 (.own T1 c1);rw[s8 d4];exact hb1) (by show b∈s6 E.N ρ id2 (.own T2 c2);rw[s8 f4];exact hb2);subst e;rw[hi1]at hi2;cases hi2;exact hid rfl
 have hF0Z:∀b∈F0,¬Z b:=fun b hb hz=>by
  rcases(hF0m b).1 hb with rfl|hb
  . have:=hzw _ hz;omega
  . obtain⟨q,hq,hb⟩:=s5.1 hb;exact(hm2.okp (hl1 q hq)).N5 b hb hz
 have hfob:s6 E.N ρc 0 (.ob 0 (itc.length+1) (YY.yo (c,[])))=F0:=by rw[E6 hcf]
 have hsep:Sep (F0++FI) ew Z ew (s9 E.N E.T ρc (F0++FI) ((0,.ob 0 (itc.length+1) (YY.yo (c,[])))::itc)):=by
  refine⟨Ext.refl _ _,hsepI.zlt,fun k t hk'=>?_,fun k1 k2 t1 t2 hk1 hk2 hne b hb1 hb2=>?_⟩
  . cases k with
    |succ k=>exact hsepI.ok k t hk'
    |zero =>
     cases hk';refine⟨⟨_,_,hc0,hcf,(YY.is _ _ _ _ _).2 ⟨rfl,hJ0⟩⟩,s7,fun b hb=>?_,fun b hb=>?_,fun b hb=>.inl ?_,fun b hb=>hb⟩
     . have hb:b∈s6 E.N ρc 0 (.ob 0 (itc.length+1) (YY.yo (c,[]))):=hb;rw[hfob]at hb;obtain⟨_,_,_,_,_,_,_,hl,_⟩:=hJ0;exact hl b hb
     . have hb:b∈s6 E.N ρc 0 (.ob 0 (itc.length+1) (YY.yo (c,[]))):=hb;rw[hfob]at hb;exact hF0Z b hb
     . have hb:b∈s6 E.N ρc 0 (.ob 0 (itc.length+1) (YY.yo (c,[]))):=hb;rw[hfob]at hb;exact d5a _ hb
  . have key:∀(k:Nat)(t:It)(b:Nat),(s9 E.N E.T ρc (F0++FI) itc)[k]?=some t->b∈F0->b∈t.F->False:=fun k t b hk' hb hbt=>by
      obtain⟨q,hq,rfl⟩:=l9 hk';obtain⟨id,T,cells,b1,b2,b3,rfl⟩:=hcan k q hq;obtain⟨_,_,L,_,_,_,d4,d5,_⟩:=inI k id b1;obtain⟨m1,m2,m3,m4,m5⟩:=hFIm k id L b1 d4 ⟨T,cells,b2⟩ d5;have hbt:b∈s6 E.N ρc (1+k) (.own T cells):=hbt;rw[s8 (show ρc (1+k)=some L by rw[hcj k id b1];exact d4),d5,d4q]at hbt;subst hbt;rcases(hF0m _).1 hb with e|hb
      . omega
      . exact m5 hb
    cases k1 with
    |zero =>
     cases k2 with
     |zero=>exact hne rfl
     |succ k2 =>
      cases hk1;have hb1:b∈s6 E.N ρc 0 (.ob 0 (itc.length+1) (YY.yo (c,[]))):=hb1;rw[hfob]at hb1;exact key k2 t2 b hk2 hb1 hb2
    |succ k1 =>
     cases k2 with
     |zero =>
      cases hk2;have hb2:b∈s6 E.N ρc 0 (.ob 0 (itc.length+1) (YY.yo (c,[]))):=hb2;rw[hfob]at hb2;exact key k1 t1 b hk1 hb2 hb1
     |succ k2=>exact hsepI.apart k1 k2 t1 t2 hk1 hk2 (by omega) b hb1 hb2
 have hrun:=hG (fun _ it _=>∃fid,it=(0,.ob 0 fid (YY.yo (c,xs)))::itc) (fun fid _ _=>⟨fid,rfl⟩) ρc Z ew (.func (.yield (w.heap.size+1)) #[] #[]::lb) (F0++FI) (fun i hi'=>by
   have e1:¬(i=0):=by omega
   have e2:¬(i=itc.length+1):=by omega
   simp only[ρc];rw[if_neg e1,if_neg e2,d6i (by omega)]) hsep
  (a1l.turn h.a43 ((TnW.q hxe (fun _ h=>by cases h)).tn (ρ:=fun _=>none) (ρ':=fun _=>none) (fun _ _ h=>h)))
  (.I6 (.yld hc0) (b1B cs iti lb 1 hcs hrl hcj))
 refine hrun.mono fun v w2 ⟨ρ',Z2,s,its',nx',hs2,hfr2,hsc,hZ12,hZ21,_,fid,hits⟩=>?_;subst hits
 -- what the client has then
 obtain⟨L',Lf',hL',hLf',hJ⟩:=hs2.at 0 (t:=C7 E.N E.T ρ' (F0++FI) 0 (.ob 0 fid (YY.yo (c,xs)))) rfl;have hL'':=hsc _ _ hc0;rw[hL'']at hL';cases hL';have hJ:=(YY.is _ _ _ _ _).1 hJ;obtain⟨_,Y,ρj,Zj,hY,hfrj,hsubj,hZj,hlt,htn,hsJ⟩:=hJ;generalize hF2:Lf'.bs=F2 at *;have hfoot2:∀b∈F2,b∈(C7 E.N E.T ρ' (F0++FI) 0 (.ob 0 fid (YY.yo (c,xs)))).F:=fun b hb=>by
  show b∈s6 E.N ρ' 0 (.ob 0 fid (YY.yo (c,xs)))
  rw[E6 hLf',hF2];exact hb
 have hF2Z:∀b∈F2,¬Z2 b:=fun b hb=>hs2.nz 0 rfl b (hfoot2 b hb);have hBo:∀b∈F0++FI,b∈B5 E ρ (st.items++lkd)∨b=w.heap.size+1:=fun b hb=>by
  rcases d4J.1 hb with hb|hb
  . rcases(hF0m b).1 hb with rfl|hb
    . exact .inr rfl
    . obtain⟨q,hq,hb⟩:=s5.1 hb;rcases(hm2.okp (hl1 q hq)).org b hb with h1|h1
      . exact .inl h1
      . exact absurd ((hm2.okp (hl1 q hq)).lt b hb) (d6M.2 h1)
  . rw[<- hFI]at hb;obtain⟨q,hq,hb⟩:=s5.1 hb;obtain⟨_,_,_,_,_,_,_,_,_,_,hm'⟩:=inW q hq;exact .inl (s5.2 ⟨q,d5a _ hm',hb⟩)
 have hF2o:∀b∈F2,b∈F0++FI∨w.heap.size+2<=b:=fun b hb=>by
  rcases(hs2.ok 0 _ rfl).org b (hfoot2 b hb)with h1|h1
  . exact .inl h1
  . rw[hse]at h1;exact .inr h1
 have hext:Ext (B5 E ρ (st.items++lkd)) w w2:=Ext.trans hxe hs2.ext (fun _ h=>by cases h) (fun b hb=>by
  rcases hBo b hb with h1|h1
  . exact .inl h1
  . exact .inr (by omega))
 have hrec:=hsJ.at 0 (t:=c5Q (w.heap.size+1) _) rfl;have hrec:w2.heap[w.heap.size+1]?=some (.loop (rcL fn tm #[p] asg body w.heap.size (stA (J4 res xs)) (stP (J4 res xs)))):=hrec;have hJF:∀q∈(N8 E fx st vs Y).items++rest,∀b∈s6 E.N ρj q.1 q.2,b∈F2/\b≠w.heap.size+1:=fun q hq b hb=>by
  obtain⟨k,hk'⟩:=d5g hq;have ok:=hsJ.ok (k+1) (C7 E.N E.T ρj F2 q.1 q.2) (by rw[d4S];exact j3 hk');refine⟨?_,fun e=>?_⟩
  . rcases ok.org b hb with h1|h1
    . exact h1
    . exact absurd (ok.lt b hb) (d6M.2 h1)
  . exact hsJ.apart 0 (k+1) _ (C7 E.N E.T ρj F2 q.1 q.2) rfl (by rw[d4S];exact j3 hk') (by omega) b (by rw[e];exact d4q.2 rfl) hb
 have hLF2:w.heap.size+1∈F2:=(hsJ.ok 0 _ rfl).a5F _ (d4q.2 rfl);have hLZj:¬Zj (w.heap.size+1):=hsJ.nz 0 rfl _ (d4q.2 rfl)
 -- the iterator's parts then
 have itAt:∀j id,iti[j]?=some id->∃T cells L cs',lk st.items id=some (.own T cells)/\cells.all F1=true/\ρ id=some L/\L.bs=[L.b]/\P5 w2 L.b T cs'/\e8 E.N E.T ρ' Z2 w2 cs' cells/\¬Z2 L.b/\L.b ∉ F2/\L.b<w.heap.size/\L.b∈B5 E ρ (st.items++lkd):=fun j id hj=>by
  obtain⟨T,cells,L,d1,d2,d3,d4,d5,_⟩:=inI j id hj;obtain⟨m1,m2,m3,m4,m5⟩:=hFIm j id L hj d4 ⟨T,cells,d1⟩ d5;have hcl:ρ' (1+j)=some L:=hsc _ _ (by rw[hcj j id hj];exact d4);have hat:(s9 E.N E.T ρ' (F0++FI) ((0,.ob 0 fid (YY.yo (c,xs)))::itc))[j+1]?=some (C7 E.N E.T ρ' (F0++FI) (1+j) (.own T cells)):=j3 (p:=(1+j,.own T cells)) (by rw[d4S];exact d3);obtain⟨L1,cs',hL1,_,ho,hr⟩:=hs2.at (j+1) hat;rw[hcl]at hL1;cases hL1;have hbf:L.b∈s6 E.N ρ' (1+j) (.own T cells):=by rw[s8 hcl,d5];exact d4q.2 rfl
  exact⟨T,cells,L,cs',d1,d2,d4,d5,ho,hr,hs2.nz (j+1) hat _ hbf,fun hb=>hs2.apart 0 (j+1) _ _ rfl hat (by omega) _ (hfoot2 _ hb) hbf,m3,m2⟩
 have inW2:∀q∈within Wi iti,∃L,ρ q.1=some L/\L.bs=[L.b]/\¬Z2 L.b/\¬Zj L.b/\L.b ∉ F2/\L.b<w.heap.size/\L.b∈B5 E ρ (st.items++lkd)/\(∀b,b∈s6 E.N ρj q.1 q.2->b=L.b)/\(∀b,b∈s6 E.N ρj q.1 q.2↔b∈s6 E.N ρ2 q.1 q.2)/\holds E.N E.T ρj q.1 (fun b=>Z2 b∨Zj b) w2 q.2:=fun q hq=>by
  obtain⟨j,T,cells,L,b1,b2,b3,b4,b5,b6,b7⟩:=inW q hq;obtain⟨T',cells',L1,cs',d1,d2,d4,d5,ho,hr,z1,z2,z3,z4⟩:=itAt j q.1 b1;rw[b5]at d4;cases d4;have hq2:q.2=.own T' cells':=b5R hds d1 b7;rw[b2]at hq2;cases hq2;have hzj:¬Zj L.b:=fun hz=>by
   rcases hZj _ hz with h1|h1
   . exact z1 h1
   . exact z2 h1
  refine⟨L,b5,b6,z1,hzj,z2,z3,z4,fun b hb=>?_,fun b=>?_,?_⟩
  . rw[b2,s8 (hsubj _ _ b5),b6]at hb;exact d4q.1 hb
  . rw[b2,s8 (hsubj _ _ b5),s8 (hsub2 _ _ b5)]
  . rw[b2];exact⟨L,cs',hsubj _ _ b5,b6,ho,(a9g b3 hr ρj).H8 (Ext.refl [] w2) (fun _ h=>by cases h) (fun b h _=>.inl h) (fun _ _ h=>h)⟩
 have hmF:Mem E (Ctx.gr ρ Z w (B5 E ρ (st.items++lkd))) ρj (fun b=>Z2 b∨Zj b) w2 (((N8 E fx st vs Y).items++rest)++within Wi iti) (N8 E fx st vs Y).nx:=by
  refine⟨⟨hext,fun b hb=>?_,fun k t hk'=>?_,fun k1 k2 t1 t2 hk1 hk2 hne b hb1 hb2=>?_⟩,hfrj,hsubj,fun b hb=>.inl (hZ12 b hb),fun b hb=>?_⟩
  . rcases hb with hb|hb
    . exact hs2.zlt b hb
    . exact hsJ.zlt b hb
  . obtain⟨q,hq,rfl⟩:=l9 hk';rcases d4P k ((N8 E fx st vs Y).items++rest).length with hlt'|hge
    . rw[d4A hlt']at hq;have ok:=hsJ.ok (k+1) (C7 E.N E.T ρj F2 q.1 q.2) (by rw[d4S];exact j3 hq);have hJq:=hJF q (d4s hq);refine⟨s7 (N:=E.N) (T:=E.T) (ρ:=ρj) (B0:=F2) (id:=q.1) (i:=q.2) Zj _ [] w2 w2 ok.holds (Ext.refl _ _) (fun _ h=>by cases h) (fun b h=>.inr h),s7,ok.lt,fun b hb hz=>?_,fun b hb=>?_,fun b hb=>hb⟩
      . rcases hz with hz|hz
        . exact hF2Z b (hJq b hb).1 hz
        . exact ok.N5 b hb hz
      . rcases hF2o b (hJq b hb).1 with h1|h1
        . rcases hBo b h1 with h1|h1
          . exact .inl h1
          . exact absurd h1 (hJq b hb).2
        . exact .inr (by show w.heap.size<=b;omega)
    . rw[d4t hge]at hq;obtain⟨L,b5,b6,z1,zj,z2,z3,z4,hft,_,hh⟩:=inW2 q (d4s hq);refine⟨hh,s7,fun b hb=>?_,fun b hb hz=>?_,fun b hb=>.inl ?_,fun b hb=>hb⟩
      . rw[hft b hb];exact d5L z3 hext.size
      . rw[hft b hb]at hz;rcases hz with hz|hz
        . exact z1 hz
        . exact zj hz
      . rw[hft b hb];exact z4
  . obtain⟨q1,hq1,rfl⟩:=l9 hk1;obtain⟨q2,hq2,rfl⟩:=l9 hk2;have hb1:b∈s6 E.N ρj q1.1 q1.2:=hb1;have hb2:b∈s6 E.N ρj q2.1 q2.2:=hb2;rcases d4P k1 ((N8 E fx st vs Y).items++rest).length with h1|h1
    . rw[d4A h1]at hq1;rcases d4P k2 ((N8 E fx st vs Y).items++rest).length with h2'|h2'
      . rw[d4A h2']at hq2;exact hsJ.apart (k1+1) (k2+1) (C7 E.N E.T ρj F2 q1.1 q1.2) (C7 E.N E.T ρj F2 q2.1 q2.2) (by rw[d4S];exact j3 hq1) (by rw[d4S];exact j3 hq2) (by omega) b hb1 hb2
      . rw[d4t h2']at hq2;obtain⟨L,_,_,_,_,z2,_,_,hft,_⟩:=inW2 q2 (d4s hq2);exact z2 (hft b hb2 ▸ (hJF q1 (d4s hq1) b hb1).1)
    . rw[d4t h1]at hq1;rcases d4P k2 ((N8 E fx st vs Y).items++rest).length with h2'|h2'
      . rw[d4A h2']at hq2;obtain⟨L,_,_,_,_,z2,_,_,hft,_⟩:=inW2 q1 (d4s hq1);exact z2 (hft b hb1 ▸ (hJF q2 (d4s hq2) b hb2).1)
      . rw[d4t h2']at hq2;obtain⟨_,_,_,_,_,_,_,_,_,hf1,_⟩:=inW2 q1 (d4s hq1);obtain⟨_,_,_,_,_,_,_,_,_,hf2,_⟩:=inW2 q2 (d4s hq2);have l1:=A1 hq1;have l2:=A1 hq2;exact hmp.sep.apart (((N8 E fx st vs Y0).items++rest).length+(k1-((N8 E fx st vs Y).items++rest).length)) (((N8 E fx st vs Y0).items++rest).length+(k2-((N8 E fx st vs Y).items++rest).length)) (C7 E.N E.T ρ2 _ q1.1 q1.2) (C7 E.N E.T ρ2 _ q2.1 q2.2)
         (j3 (by rw[d4t (by omega),d5Y];exact hq1)) (j3 (by rw[d4t (by omega),d5Y];exact hq2)) (by omega) b ((hf1 b).1 hb1) ((hf2 b).1 hb2)
  . have z2:∀b,Z2 b->Z b∨b∈B5 E ρ (st.items++lkd)∨w.heap.size<=b:=fun b hz=>by
      rcases hZ21 b hz with h1|h1|h1
      . exact .inl h1
      . rcases hBo b h1 with h1|h1
        . exact .inr (.inl h1)
        . exact .inr (.inr (by omega))
      . exact .inr (.inr (by omega))
    rcases hb with hb|hb
    . exact z2 b hb
    . rcases hZj b hb with h1|h1
      . exact z2 b h1
      . rcases hF2o b h1 with h1|h1
        . rcases hBo b h1 with h1|h1
          . exact .inr (.inl h1)
          . exact .inr (.inr (by show w.heap.size<=b;omega))
        . exact .inr (.inr (by show w.heap.size<=b;omega))
 have hmW:=hmF.perm (perm (N8 E fx st vs Y).items).symm;have hLf:w.heap.size+1 ∉ B5 E ρj ((N8 E fx st vs Y).items++(Wi++lkd))/\¬(Z2 (w.heap.size+1)∨Zj (w.heap.size+1)):=by
  refine⟨fun hm=>?_,fun hz=>?_⟩
  . obtain⟨q,hq,hb⟩:=s5.1 hm;rcases d4J.1 ((perm _).mem_iff.1 hq)with hq|hq
    . exact(hJF q hq _ hb).2 rfl
    . obtain⟨L,_,_,_,_,_,z3,_,hft,_⟩:=inW2 q hq;have:=hft _ hb;omega
  . rcases hz with hz|hz
    . exact hF2Z _ hLF2 hz
    . exact hLZj hz
 have fin:∀pe:Option Code,QKD E C fx lkd K (match J4 res xs with|true=>.ret|false=>.normal) f (w2.putObj (w.heap.size+1) (.loop (rcL fn tm #[p] asg body w.heap.size .exhausted pe))) (w.heap.size::ds):=fun pe=>by
  have hxp:=a16 w2 (w.heap.size+1) (.loop (rcL fn tm #[p] asg body w.heap.size .exhausted pe));have hD2:w2.heap[w.heap.size]?=some (.deferred (some [])):=by
   rw[hs2.ext.block _ (by omega) (fun hb=>?_)];exact hD0;rcases hBo _ hb with h1|h1
   . obtain⟨q,hq,hb⟩:=s5.1 h1;have:=(h.mem.okp hq).lt _ hb;omega
   . omega
  have hmQ:=hmW.quiet hxp (fun b hb _=>by rw[d4q]at hb;subst hb;exact⟨hLf.1,hLf.2,by show w.heap.size<=_;omega⟩);have hT:Tn ρ Z w ρj (fun b=>Z2 b∨Zj b) (w2.putObj (w.heap.size+1) (.loop (rcL fn tm #[p] asg body w.heap.size .exhausted pe))):=by refine⟨hsubj,fun b hb _=>.inl (hZ12 b hb),B5 E ρ (st.items++lkd),hext.trans hxp (fun x hx=>.inl hx) (fun x hx=>by rw[d4q]at hx;subst hx;exact .inr (by omega)),fun b hb hz=>?_⟩;obtain⟨q,hq,hb⟩:=s5.1 hb;exact absurd hz ((h.mem.okp hq).N5 b hb)
  have hslots:(N8 E fx st vs Y).slots=[]:=a8R Y hns;have hrel:Rel E C fx lkd ⟨(N8 E fx st vs Y).slots++p9 fx st keep,[],(N8 E fx st vs Y).items++Wi,(N8 E fx st vs Y).nx⟩ ρj (fun b=>Z2 b∨Zj b) f (w2.putObj (w.heap.size+1) (.loop (rcL fn tm #[p] asg body w.heap.size .exhausted pe))):=by
   refine⟨fun k s e=>?_,fun q hq=>hT.rep (h.fx q hq),fun k j b s e=>(by cases e),?_,h.tn.trans hT,h.g⟩
   . have e:lk ((N8 E fx st vs Y).slots++p9 fx st keep) k=some s:=e;rw[hslots,d5r]at e;obtain⟨i,hi',_⟩:=x6 e;have:=d4s hi';simp only[p9,d5U]at this;obtain⟨s',_,e'⟩:=this;cases e';exact hT.rep (h.slot k)
   . show Mem E C ρj _ _ (((N8 E fx st vs Y).items++Wi)++lkd) _
     rw[d4K];exact h.mem.b0t hmQ
  have hmk:Mk E C ρj (fun b=>Z2 b∨Zj b) (w2.putObj (w.heap.size+1) (.loop (rcL fn tm #[p] asg body w.heap.size .exhausted pe))) (((N8 E fx st vs Y).items++Wi)++lkd) (w.heap.size::ds):=by
   have hold:=hk.go hmQ;rw[d4K];refine⟨d7A.2 ⟨fun hd=>absurd (hk.lt _ hd) (Nat.lt_irrefl _),hk.nd⟩,fun D hD=>?_,fun D hD=>?_,fun D hD=>?_⟩
   . rcases d4B.1 hD with rfl|hD
     . rw[d6I (by omega)];exact hD2
     . exact hold.is D hD
   . rcases d4B.1 hD with rfl|hD
     . exact h.mem.sep.ext.size
     . exact hold.new D hD
   . rcases d4B.1 hD with rfl|hD
     . have hnB:w.heap.size ∉ F0++FI:=fun hb=>by
         rcases hBo _ hb with h1|h1
         . obtain⟨q,hq,hb⟩:=s5.1 h1;have:=(h.mem.okp hq).lt _ hb;omega
         . omega
       have hnF:w.heap.size ∉ F2:=fun hb=>by
        rcases hF2o _ hb with h1|h1
        . exact hnB h1
        . omega
       have hnZ:¬Z2 w.heap.size:=fun hz=>by
        rcases hZ21 _ hz with h1|h1|h1
        . have:=hzw _ h1;omega
        . exact hnB h1
        . omega
       refine⟨fun hm=>?_,fun hz=>?_⟩
       . obtain⟨q,hq,hb⟩:=s5.1 hm;rcases d4J.1 ((perm _).mem_iff.1 hq)with hq|hq
         . exact hnF (hJF q hq _ hb).1
         . obtain⟨L,_,_,_,_,_,z3,_,hft,_⟩:=inW2 q hq;have:=hft _ hb;omega
       . rcases hz with hz|hz
         . exact hnZ hz
         . rcases hZj _ hz with h1|h1
           . exact hnZ h1
           . exact hnF h1
     . exact hold.ap D hD
  have hKY:=a5X (d:=False) vs (I xs) _ hok hK Y hY;refine⟨_,_,_,hrel,hmk,?_⟩;have hKY:(bif J4 res xs then K.r else K.n) ⟨(N8 E fx st vs Y).slots++p9 fx st keep,[],(N8 E fx st vs Y).items++Wi,(N8 E fx st vs Y).nx⟩:=hKY;cases hb:J4 res xs with
  |true=>rw[hb]at hKY;exact hKY
  |false=>rw[hb]at hKY;exact hKY
 refine⟨stA (J4 res xs),stP (J4 res xs),?_,hrec,?_⟩
 . cases J4 res xs <;> (intro e;cases e)
 . have hfin:=fin (stP (J4 res xs));cases hb:J4 res xs with
   |true=>rw[hb]at hfin;exact .inr ⟨rfl,hfin⟩
   |false=>rw[hb]at hfin;exact .inl ⟨rfl,hfin⟩
end
def rng:Code->Bool
 |.rangeFunc _ _ _ _=>true
 |.seq a b=>rng a || rng b
 |.block _ c=>rng c
 |.loop c=>rng c
 |_=>false
def a0Q{b:Bool}{p:Prop}(h:bif b then p else False):b=true/\p:=by simp_all
section
variable{E:Env}{YY:YE E}
def vd(inl:Inl E)(an:D1)(TL:b46 E YY):Code->l6 E.N->c7 E.N->E.St->Ks E->Prop
 |.seq a b,fx,lkd,st,K=>bif rng a || rng b then vd inl an TL a fx lkd st ⟨fun st=>vd inl an TL b fx lkd st K,K.r,K.e⟩else vc inl an (.seq a b) fx lkd st K
 |.block i c,fx,lkd,st,K=>vd inl an TL c fx lkd st ⟨K.n,K.r,(i,K.n)::K.e⟩
 |.loop c,fx,lkd,st,K=>bif rng c then(match(first c).bind an.loop with
  |none=>False
  |some a=>∃(I:Cur E.N Prop a.vars)(m:Cur E.N Nat a.vars),
    rbP E fx st (p9 fx st a.keep++fx) (inn st (A8 E fx st a.vars)) a.vars (a1e a.vars I m) (fun im=>im.1) /\
    P3 E fx st a.vars (a1e a.vars I m) ⟨[],[],[],st.nx⟩ (fun im new=>im.1 ->
     vd inl an TL c (p9 fx st a.keep++fx) (without st.items (A8 E fx st a.vars)++lkd) new
      (a4s (p9 fx st a.keep) (without st.items (A8 E fx st a.vars)) K (fun st'=>rbP E fx st (p9 fx st a.keep++fx) st' a.vars (a1e a.vars I m) (fun im'=>im'.1/\im'.2<im.2)))))else vc inl an (.loop c) fx lkd st K
 |.rangeFunc g ps asg body,fx,lkd,st,K=>(match evS fx lkd st [] g with
  |.clo gf cs=>(match ps.toList,(first body).bind an.loop,a7N cs with
   |[p],some a,some iti=>(match c16 st.items 1 iti with
    |some itc=>bif Nat.blt p an.n && distinct iti && distinct (st.items.map (·.1)) && b4U a.vars && a3I a.vars && iti.all (fun i=>!(A8 E fx st a.vars).elem i) && (p9 fx st a.keep++fx).all (fun q=>!Nat.beq q.1 p)then
      ∃(I:List Int->Cur E.N Prop a.vars)(pre:List Int->Int->Prop)(res:List Int->Int->Bool),
       rbP E fx st (p9 fx st a.keep++fx) (inn st (A8 E fx st a.vars)) a.vars (I []) id /\
       (∀xs t,pre xs t->J4 res xs=false) /\
       (∀xs t,c6 t->pre xs t->P3 E fx st a.vars (I xs) ⟨[],[],[],st.nx⟩ (fun x new=>x->vc inl an asg (p9 fx st a.keep++fx) (without (without st.items (A8 E fx st a.vars)) iti++lkd) ⟨(p,.int .i64 t)::new.slots,[],new.items,new.nx⟩
        ⟨fun st1=>vc inl an body (p9 fx st a.keep++fx) (without (without st.items (A8 E fx st a.vars)) iti++lkd) st1 ⟨fun st'=>res xs t=true/\rbP E fx st (p9 fx st a.keep++fx) st' a.vars (I (xs++[t])) id,fun st'=>res xs t=false/\rbP E fx st (p9 fx st a.keep++fx) st' a.vars (I (xs++[t])) id,[]⟩,fun _=>False,[]⟩)) /\
       (match TL.f gf (b5U 1 iti.length) itc pre res with
       |some (ob,xs)=>ob/\P3 E fx st a.vars (I xs) ⟨[],[],[],st.nx⟩ (fun x new=>x->(J4 res xs=true->K.r ⟨new.slots++p9 fx st a.keep,[],new.items++without st.items (A8 E fx st a.vars),new.nx⟩)/\(J4 res xs=false->K.n ⟨new.slots++p9 fx st a.keep,[],new.items++without st.items (A8 E fx st a.vars),new.nx⟩))
       |none=>False)else False
    |none=>False)
   |_,_,_=>False)
  |_=>False)
 |c,fx,lkd,st,K=>vc inl an c fx lkd st K
variable{C:Ctx}{ρ ρb:o5}{Z Zb:Nat->Prop}{w wb:World}{lkd:c7 E.N}{fx:l6 E.N}{st st':E.St}{f fb:Fr}{inl:Inl E}{an:D1}{ds:List Nat}
def c1p{keep:List Nat}{vs:List LV}{lkd':c7 E.N}{α:Type}{g:Cur E.N α vs}{Kα:α->Prop}{K:α->E.St->Prop}(h:Rel E C fx lkd st ρb Zb fb wb)(hl:∀p∈lkd',p∈st.items++lkd)
  (h':Rel E (C.at ρb Zb wb) (p9 fx st keep++fx) lkd' st' ρ Z f w) (hk:Mk E C ρ Z w (st'.items++lkd') ds) (hv:rbP E fx st (p9 fx st keep++fx) st' vs g Kα) (hK:P3 E fx st vs g ⟨[],[],[],st.nx⟩ K) :
  ∃new ρ2 a,Kα a/\K a new/\Rel E (C.at ρb Zb wb) (p9 fx st keep++fx) lkd' new ρ2 Z f w/\Mk E C ρ2 Z w (new.items++lkd') ds:=by
 have hg:=c11 h' (Ext.refl [] w) (fun _ h=>by cases h);obtain⟨new,ρ2,a,h1,h2,h3,h4⟩:=b6f h hl hg h'.mem.ge (fun _ _ h=>h) hv hK;refine⟨new,ρ2,a,h1,h2,⟨h3.sl,h3.fx,h3.gs,?_,⟨h4,h'.tn.z,h'.tn.ext⟩,h'.g⟩,hk.go h3.mem⟩;have hB:∀x∈B5 E ρ (st'.items++lkd'),x∈C.B0∨C.w0.heap.size<=x:=fun x hx=>by obtain⟨p,hp,h⟩:=s5.1 hx;exact(h'.mem.okp hp).org x h
 have hsz:=h'.mem.sep.ext.size;refine⟨⟨h'.mem.sep.ext,h'.mem.sep.zlt,fun k t hk=>?_,fun j k s t hj hk hne=>?_⟩,h3.mem.fr,h4,h'.mem.zge,h'.mem.zle⟩
 . obtain⟨p,hp,rfl⟩:=l9 hk;have ok:=h3.mem.sep.ok k _ (j3 hp);refine⟨ok.holds,s7,ok.lt,ok.N5,fun b hb'=>?_,fun b hb=>hb⟩;rcases ok.org b hb' with h|h
   . exact hB b h
   . exact absurd (ok.lt b hb') (d6M.2 h)
 . obtain⟨p,hp,rfl⟩:=l9 hj;obtain⟨q,hq,rfl⟩:=l9 hk;exact fun b hb1 hb2=>h3.mem.sep.apart j k (C7 E.N E.T ρ2 _ p.1 p.2) (C7 E.N E.T ρ2 _ q.1 q.2) (j3 hp) (j3 hq) hne b hb1 hb2
def c1a{keep ids:List Nat}{K:Ks E}{n:E.St->Prop}{e:Exit}(h0:Rel E C fx lkd st ρb Zb fb wb)(hn:e≠.normal)
  (h:QKD E (C.at ρb Zb wb) (p9 fx st keep++fx) (without st.items ids++lkd) (a4s (p9 fx st keep) (without st.items ids) K n) e f w ds):QKD E C fx lkd K e f w ds:=by
 obtain⟨st',ρ',Z',hr,hk,he⟩:=h;have hl:=Rel.leave h0 hr;have hk':Mk E C ρ' Z' w ((st'.items++without st.items ids)++lkd) ds:=by rw[d4K];exact⟨hk.nd,hk.is,hk.new,hk.ap⟩
 cases e with
 |normal=>simp_all
 |ret=>exact⟨_,_,_,hl,hk',he⟩
 |exit i =>
  simp only[b7R,a4s]at he;rw[c1j]at he;cases hk2:lk K.e i with
  |none=>simp_all
  |some k=>rw[hk2]at he;exact⟨_,_,_,hl,hk',by simp only[b7R,hk2];exact he⟩
 |_=>exact he.elim
def vd_ok(hE:c8 E)(hI:G4 E inl)(TL:b46 E YY):∀(c:Code)(C:Ctx)(fx:l6 E.N)(lkd:c7 E.N)(st:E.St)(K:Ks E)(ρ:o5)(Z:Nat->Prop)(f:Fr)(w:World)(ds:List Nat),Rel E C fx lkd st ρ Z f w->Mk E C ρ Z w (st.items++lkd) ds->vd inl an TL c fx lkd st K->WD E.P an.n c (QKD E C fx lkd K) f w ds:=by
 intro c
 induction c with
 |seq a b iha ihb =>
  intro C fx lkd st K ρ Z f w ds h hk hv;simp only[vd]at hv;cases hb:(rng a || rng b)with
  |false=>rw[hb,d4L]at hv;exact piece_ok hE hI h hk hv
  |true =>
   rw[hb,d4G]at hv;refine c5P (a5W (iha C fx lkd st _ ρ Z f w ds h hk hv) fun e f' w' ds' q=>?_);obtain⟨st',ρ',Z',hr,hm,he⟩:=q;cases e with
   |normal=>exact ihb C fx lkd st' K ρ' Z' f' w' ds' hr hm he
   |ret=>exact⟨st',ρ',Z',hr,hm,he⟩
   |exit i=>exact⟨st',ρ',Z',hr,hm,he⟩
   |_=>exact he.elim
 |block i c ih =>
  intro C fx lkd st K ρ Z f w ds h hk hv;refine c0Z (a5W (ih C fx lkd st _ ρ Z f w ds h hk hv) fun e f' w' ds' q=>?_);obtain⟨st',ρ',Z',hr,hm,he⟩:=q;cases e with
  |normal=>exact⟨st',ρ',Z',hr,hm,he⟩
  |ret=>exact⟨st',ρ',Z',hr,hm,he⟩
  |exit j =>
   have he:(match(bif Nat.beq i j then some K.n else lk K.e j)with|some k=>k st'|none=>False):=he;show(bif Nat.beq j i then QKD E C fx lkd K .normal f' w' ds' else QKD E C fx lkd K (.exit j) f' w' ds')
   have hc:Nat.beq i j=Nat.beq j i:=by
    by_cases e:i=j
    . rw[e]
    . rw[Y9 e,Y9 (d5y e)]
   rw[hc]at he;cases hb:Nat.beq j i with
   |true=>rw[hb]at he;exact⟨st',ρ',Z',hr,hm,he⟩
   |false=>rw[hb]at he;exact⟨st',ρ',Z',hr,hm,he⟩
  |_=>exact he.elim
 |loop c ih =>
  intro C fx lkd st K ρ Z f w ds h hk hv;simp only[vd]at hv;cases hb:rng c with
  |false=>rw[hb,d4L]at hv;exact piece_ok hE hI h hk hv
  |true =>
   rw[hb,d4G]at hv;split at hv
   . exact hv.elim
   . rename_i a ha;obtain⟨I,m,h0,hb⟩:=hv;have hl:∀p∈without st.items (A8 E fx st a.vars)++lkd,p∈st.items++lkd:=fun p hp=>by
      rcases d4J.1 hp with hp|hp
      . exact d5a _ (d4Q.1 hp).1
      simp_all
     have hk0:Mk E C ρ Z w ((inn st (A8 E fx st a.vars)).items++(without st.items (A8 E fx st a.vars)++lkd)) ds:=hk.sub fun p hp=>by
      rcases d4J.1 hp with hp|hp
      . exact d5a _ (d4Q.1 hp).1
      simp_all
     obtain⟨new,ρ2,im,h1,h2,h3,h4⟩:=c1p h hl (h.enter a.keep (A8 E fx st a.vars)) hk0 h0 hb
     refine     c2J (fun k f' w' ds' => ∃ (new : E.St) (ρ2 :   o5) (Z2 : Nat -> Prop) (im : Prop × Nat), (im.1 -> vd inl an TL c (   p9 fx st a.keep ++ fx) (without st.items (   A8 E fx st a.vars) ++ lkd) new
           (a4s (p9 fx st a.keep) (without st.items (A8 E fx st a.vars)) K (fun st'=>rbP E fx st (p9 fx st a.keep++fx) st' a.vars (a1e a.vars I m) (fun im'=>im'.1/\im'.2<im.2))))/\im.1/\im.2=k/\Rel E (C.at ρ Z w) (p9 fx st a.keep++fx) (without st.items (A8 E fx st a.vars)++lkd) new ρ2 Z2 f' w'/\Mk E C ρ2 Z2 w' (new.items++(without st.items (A8 E fx st a.vars)++lkd)) ds') im.2 ⟨new,ρ2,Z,im,h2,h1,rfl,h3,h4⟩ ?_
     rintro k f' w' ds' ⟨new,ρ2,Z2,im,hbody,hi,rfl,hr,hm⟩;refine a5W (ih _ _ _ _ _ ρ2 Z2 f' w' ds' hr ⟨hm.nd,hm.is,hm.new,hm.ap⟩ (hbody hi)) fun e f2 w2 ds2 q=>?_;cases e with
     |normal =>
      obtain⟨st',ρ',Z',hr',hm',he⟩:=q;obtain⟨new2,ρ3,im2,g1,g2,g3,g4⟩:=c1p (ds:=ds2) h hl hr' ⟨hm'.nd,hm'.is,hm'.new,hm'.ap⟩ he hb;exact⟨im2.2,g1.2,new2,ρ3,Z',im2,g2,g1.1,rfl,g3,g4⟩
     |ret=>exact c1a h (by simp_all) q
     |exit i=>exact c1a h (by simp_all) q
     |_=>obtain⟨_,_,_,_,_,he⟩:=q;exact he.elim
 |rangeFunc g ps asg body _ _ =>
  intro C fx lkd st K ρ Z f w ds h hk hv;simp only[vd]at hv;split at hv
  . rename_i gf cs hg;split at hv
    . rename_i p a iti hps ha hcs;split at hv
      . rename_i itc hci;have⟨hc,hv⟩:=a0Q hv;simp only[d4k]at hc;obtain⟨I,pre,res,h0,hst,hbd,hv⟩:=hv;split at hv
        . rename_i ob xs ht;obtain⟨hob,hK⟩:=hv;have e:ps=#[p]:=by rw[<- d7x (xs:=ps),hps]
          subst e;refine range_ok hE hI TL h hk hg hcs hci hc.1.1.1.1.1.1 hc.1.1.1.1.1.2 hc.1.1.1.1.2 hc.1.1.1.2 hc.1.1.2 hc.1.2 hc.2 rfl h0 hst hbd ht hob ?_;grind
        . exact hv.elim
      simp_all
    simp_all
  simp_all
 |_=>intro C fx lkd st K ρ Z f w ds h hk hv;exact piece_ok hE hI h hk hv
def b9y(st:E.St)(r:ResultVar):Option E.SV:=match r with
 |.tmp t=>a4K st (.tmp t)
 |.cell a T=>(match lk st.slots a with
  |some (.ref id off)=>(match lk st.items id with
   |some (.own _ [v])=>(match E.a7o T with
    |some b=>bif !b && Nat.beq off 0 then some v else none
    |none=>none)
   |_=>none)
  |_=>none)
def resD_ok{n:Nat}{r:ResultVar}{s:E.SV}(h:Rel E C fx lkd st ρ Z f w)(e:b9y st r=some s):∃v,e7 E.N E.T ρ Z w v s/\∀a w1,Is a f n->F3 w w1->(a1b a.tmps r).run E.P w1=.ok v w1:=by
 cases r with
 |tmp t=>exact resS_ok h e
 |cell a0 T =>
  simp only[b9y]at e;split at e
  . rename_i id off hl;split at e
    . rename_i Ty v hi;split at e
      . rename_i b hA;have⟨h1,h2⟩:=i6 e;simp only[d4j]at h2;subst h2;simp only[d4k,d6s]at h1;have e0:=d4m h1.2;subst e0;rw[h1.1]at hA;have hr:=h.sl a0 _ hl;obtain⟨j,hj,_⟩:=x6 hi;obtain⟨L,cs,hL,hbs,ho,hrep⟩:=h.mem.holds (o6 (l2:=lkd) hj);have hL:ρ id=some L:=hL;have hp:f a0=.pointer (some ⟨L.b,0,none⟩):=by
         generalize f a0=u at hr;cases hr with|ref hL'=>simp_all
        obtain⟨v1,rfl,hv,_⟩:=hrep.a5Y;refine⟨v1,hv,fun a w1 hi' hs=>?_⟩;have hc:Cells w1 L.b 0 [v1]:=Cells.sim ho.all hs;have h0:=hc.cell (j:=0) (v:=v1) rfl;simp only[d5D]at h0;have this:(loadVar T ⟨L.b,0,none⟩).run E.P w1=.ok v1 w1:=by simp[loadVar,a2W hA,go_sem,load,Sem.run,h0]
        simp only[a1b];rw[hi'.get,hp];rw[d4n];simp only[asAddr,d5d,d4l];exact this
      . cases e
    . cases e
  . cases e
def a9i(inl:Inl E)(an:D1)(TL:b46 E YY)(fn:Func)(args:List E.SV)(its lkd:c7 E.N)(nx:Nat)(k:E.SV->c7 E.N->Nat->Prop):Prop:=match fn.body,fn.results.toList with
 |some c,[r]=>bif Nat.ble args.length fn.ntmps then vd inl ⟨fn.ntmps,an.loop,an.join⟩ TL c [] lkd ⟨number 0 args,[],its,nx⟩ ⟨fun st=>(match b9y st r with|some v=>k v st.items st.nx|none=>False),fun st=>(match b9y st r with|some v=>k v st.items st.nx|none=>False),[]⟩else False
 |_,_=>False
def vdFun_ok{fn:Func}{K:Nat}{args:List E.SV}{its:c7 E.N}{nx:Nat}{vs:List Value}(hE:c8 E)(hI:G4 E inl)(TL:b46 E YY)(hf:E.P.funcs[K]?=some fn){k:E.SV->c7 E.N->Nat->Prop}(hv:a9i inl an TL fn args its lkd nx k)(hm:Mem E C ρ Z w (its++lkd) nx)(hg:E.G.is Z w)(ha:e7 E.N E.T ρ Z w (.tuple vs.toArray) (.E8 args)):F7 E.P K vs w (b83 E C ρ Z w lkd k):=by
 unfold a9i at hv;split at hv
 . rename_i c r hc hrr;have⟨hb,hv⟩:=a0Q hv;have hle:Nat.ble vs.length fn.ntmps=true:=by rw[a3V ha];exact hb
   have h0:Rel E (C.at ρ Z w) [] lkd ⟨number 0 args,[],its,nx⟩ ρ Z (nth vs) w:=⟨fun k s e=>a5V (n:=0) ha k s (by simpa using e),fun p hp=>(by cases hp),fun k j b s e=>(by cases e),hm.down,Tn.refl _ _ _,hg⟩;have hw:=vd_ok (an:=⟨fn.ntmps,an.loop,an.join⟩) hE hI TL c _ _ _ _ _ ρ Z (nth vs) w [] h0 ⟨List.nodup_nil,fun _ h=>(by cases h),fun _ h=>(by cases h),fun _ h=>(by cases h)⟩ hv;refine c6W hf hc rfl hle (a5W hw fun e f' w' ds q=>?_);obtain⟨st,ρ',Z',hr,hk,he⟩:=q;have hs:=hr.Y6 hk;have fin:(match b9y st r with|some v=>k v st.items st.nx|none=>False)->∃v,b78 E.P fn fn.ntmps f' (Y6 w' ds) v/\b83 E C ρ Z w lkd k v (Y6 w' ds):=fun hk=>by
    split at hk
    . rename_i s hss;obtain⟨v,h1,h2⟩:=resD_ok (n:=fn.ntmps) hs hss;exact⟨v,fun a w1 hi hs=>a9p (by grind) (h2 a w1 hi hs),ρ',Z',s,st.items,st.nx,Mem.upC hm hs.mem,hs.tn,h1,hk⟩
    simp_all
   cases e with
   |normal=>exact⟨.inr rfl,hk.nd,hk.is,fin he⟩
   |ret=>exact⟨.inl rfl,hk.nd,hk.is,fin he⟩
   |exit i=>exact he.elim
   |_=>exact he.elim
 simp_all
def d1c{fn:Func}{K nx:Nat}{args:List E.SV}(hE:c8 E)(hI:G4 E inl)(TL:b46 E YY)(hf:E.P.funcs[K]?=some fn){k:VK}{x:k.den E.N}{ob:List Prop}(hp:args.all F1=true)(hv:a9i inl an TL fn args [] [] 0 (a1P E [k] (fun y=>y=x))):O8 E.P E.N E.T E.G K args nx ⟨ob,[],Z5 E nx k x,a2m E k x⟩:=
 ⟨fun ρ Z w vs hfr hz hg ha=>(vdFun_ok (C:=a4H (fun _=>none) Z w) hE hI TL hf hv (b2M (fun _ _=>rfl) hz) hg (K1 hp ha _)).mono fun v w' h=>by
  obtain⟨ρ',Z',s,its',nx',hx,hm,ht,hr,hk⟩:=h.pure;obtain⟨ρ3,os,t1,f1,s1,r1,o1⟩:=rb1_ok (lkd:=[]) (n2:=nx) (ρ2:=ρ) (os:=[]) (new:=[]) (by simpa using hm) hr (b9u hk) hfr .nil;rw[(a2C k x).1,d4U]at t1;rw[(a2C k x).2]at f1;refine⟨ρ3,Z',s1,f1,hm.zge,fun b hb=>?_,r1,b0q hm t1 (b3z o1) f1,trivial⟩;rcases hm.zle b hb with h|h|h
  . exact .inl h
  . cases h
  . exact .inr h⟩
def obQ(E:Env)(Q:E.N.O 0->Prop)(its:c7 E.N):Prop:=match lk its 0 with
 |some (.ob k _ x)=>if h:k=0 then Q (h ▸ x)else False
 |_=>False
def c6I{fn:Func}{K nx:Nat}{args:List E.SV}{itc:c7 E.N}{fd:Nat}{x y:E.N.O 0}(hE:c8 E)(hI:G4 E inl)(hf:E.P.funcs[K]?=some fn)(hv:i7 inl an fn args [(0,.ob 0 fd x)] itc nx (fun _ its _=>obQ E (fun z=>z=y) its)) :
  L8 E.P E.N E.T E.G K args ((0,.ob 0 fd x)::itc) nx (fun k=>∀fid n v,k v ((0,.ob 0 fid y)::itc) n):=fun k hk ρ Z w vs B hfr hs hg ha =>
 (vcFun_ok (C:=Ctx.gr ρ Z w B) hE hI hf hv ⟨hs,hfr,fun _ _ h=>h,fun _ h=>h,fun _ h=>.inl h⟩ hg ha).mono fun v w' ⟨ρ',Z',s,its',nx',hm,ht,hr,hq⟩=>by
  have hq:obQ E (fun z=>z=y) its':=hq;unfold obQ at hq;split at hq
  . rename_i k0 f' x' hl;split at hq
    . rename_i h0;subst h0;have hq:x'=y:=hq;subst hq;have hix:=a4c hl;have hlt:=A1 hix;have hm2:Mem E (Ctx.gr ρ Z w B) ρ' Z' w' ((0,.ob 0 f' x')::itc) nx':=hm.sel (fun _ _ h=>h) hm.fr (fun i=>if i=0 then b3K its' 0 else its'.length+(i-1)) (fun i j _ _ e=>by
       grind) fun i p hp=>by
       grind
      exact⟨ρ',Z',s,_,nx',hm2.sep,hm2.fr,hm2.ge,hm2.zge,hm2.zle,hr,hk f' nx' s⟩
    simp_all
  simp_all
end
end Go.Rx
namespace Go.Re
open Go Go.Wk Go.Wl Go.Rx
def b1R:∀(T y:List Int),goY (fun _ _=>true) y T=y++T
 |[],y=>by simp[goY]
 |t::r,y=>by unfold goY;rw[d4G,b1R r];simp
def a7O{xs:List Int}:J4 (fun _ _=>true) xs=false:=by unfold J4;cases xs.getLast? <;> rfl
def b6n{p:Int->Prop}{n:Nat}{res:List Int->Int->Bool}:∀(T y:List Int),y.length+T.length<=n->(∀t∈T,p t)->okY (fun y t=>p t/\y.length<=n) res y T
 |[],_,_,_=>trivial
 |t::r,y,hn,h=>⟨⟨h t (d5u ..),by rw[d4z]at hn;omega⟩,fun _=>b6n r _ (by rw[d4o,d6q];rw[d4z]at hn;omega) fun u hu=>h u (d5b _ hu)⟩
def a1Z{fr tw b t:Int}:∀{l:List Int},t∈a3a fr tw b l↔∃s∈l,t=b+s/\fr<=t/\t<tw
 |[]=>by simp[a3a]
 |s::r=>by
  by_cases hc:fr<=b+s/\b+s<tw
  . rw[b2t hc,d4B,a1Z];constructor
    . rintro(rfl|⟨u,hu,h⟩)
      . exact⟨s,d5u .., rfl,hc⟩
      . exact⟨u,d5b _ hu,h⟩
    . rintro⟨u,hu,h⟩;rcases d4B.1 hu with rfl|hu
      . exact .inl h.1
      . exact .inr ⟨u,hu,h⟩
  . rw[b5F hc,a1Z];constructor
    . rintro⟨u,hu,h⟩;exact⟨u,d5b _ hu,h⟩
    . rintro⟨u,hu,h⟩;rcases d4B.1 hu with rfl|hu
      . exact absurd (h.1 ▸ h.2) hc
      . exact⟨u,hu,h⟩
def a4y{fr tw b t:Int}{ss:List Int}(hs:inB 59 ss):∀{l:List Int},t∈a1f fr tw b ss l↔∃m∈l,∃s∈ss,t=b+m*60+s/\fr<=t/\t<tw
 |[]=>by simp[a1f]
 |m::r=>by
  have bd:∀s∈ss,0<=s/\s<=59:=fun s h=>by obtain⟨i,i0,i1,rfl⟩:=K5 h;exact hs i i0 i1
  have key:t∈a1f fr tw b ss (m::r)↔(∃s∈ss,t=b+m*60+s/\fr<=t/\t<tw)∨t∈a1f fr tw b ss r:=by
   by_cases hc:b+m*60+59<fr∨tw<=b+m*60
   . rw[b17 hc];refine⟨.inr,fun h=>h.resolve_left ?_⟩;rintro⟨s,hs,h1,h2,h3⟩;have:=bd s hs;omega
   . rw[b5u hc,d4J,a1Z]
  rw[key,a4y hs];constructor
  . rintro(h|⟨u,hu,h⟩)
    . exact⟨m,d5u .., h⟩
    . exact⟨u,d5b _ hu,h⟩
  . rintro⟨u,hu,h⟩;rcases d4B.1 hu with rfl|hu
    . exact .inl h
    . exact .inr ⟨u,hu,h⟩
def a7D{fr tw t:Int}{ms ss:List Int}(hm:inB 59 ms)(hs:inB 59 ss):∀{l:List Int},t∈a1J fr tw ms ss l↔∃h∈l,∃m∈ms,∃s∈ss,t=h*3600+m*60+s/\fr<=t/\t<tw
 |[]=>by simp[a1J]
 |h::r=>by
  have bd:∀s∈ss,0<=s/\s<=59:=fun s h=>by obtain⟨i,i0,i1,rfl⟩:=K5 h;exact hs i i0 i1
  have bm:∀s∈ms,0<=s/\s<=59:=fun s h=>by obtain⟨i,i0,i1,rfl⟩:=K5 h;exact hm i i0 i1
  have key:t∈a1J fr tw ms ss (h::r)↔(∃m∈ms,∃s∈ss,t=h*3600+m*60+s/\fr<=t/\t<tw)∨t∈a1J fr tw ms ss r:=by
   by_cases hc:h*3600+3599<fr∨tw<=h*3600
   . rw[a6O hc];refine⟨.inr,fun h=>h.resolve_left ?_⟩;rintro⟨m,hm,s,hs,h1,h2,h3⟩;have:=bd s hs;have:=bm m hm;omega
   . rw[b00 hc,d4J,a4y hs]
  rw[key,a7D hm hs];constructor
  . rintro(hh|⟨u,hu,hh⟩)
    . exact⟨h,d5u .., hh⟩
    . exact⟨u,d5b _ hu,hh⟩
  . rintro⟨u,hu,hh⟩;rcases d4B.1 hu with rfl|hu
    . exact .inl hh
    . exact .inr ⟨u,hu,hh⟩
def b1Z{s:Tm}{r:Rl}{fr tw t:Int}(hF:A3 s r):t∈a3q s r fr tw↔(∃h∈hoL s r,∃m∈miL s r,∃x∈seL s r,t=h*3600+m*60+x)/\fr<=t/\t<tw:=by
 unfold a3q;rw[a7D (b4n hF) (b3y hF)];constructor
 . rintro⟨h,hh,m,hm,x,hx,e,b⟩;exact⟨⟨h,hh,m,hm,x,hx,e⟩,b⟩
 . rintro⟨⟨h,hh,m,hm,x,hx,e⟩,b⟩;exact⟨h,hh,m,hm,x,hx,e,b⟩
def b1h{fr tw b:Int}:∀l:List Int,(a3a fr tw b l).length<=l.length
 |[]=>d4C 0
 |s::r=>by have:=b1h (fr:=fr) (tw:=tw) (b:=b) r;unfold a3a;split <;> simp only[d4z] <;> omega
def b1D{fr tw b:Int}{ss:List Int}(h:ss.length<=60):∀l:List Int,(a1f fr tw b ss l).length<=l.length*60
 |[]=>by rw[b1m];exact d5M _
 |m::r=>by have:=b1D (fr:=fr) (tw:=tw) (b:=b) h r;have:=b1h (fr:=fr) (tw:=tw) (b:=b+m*60) ss;unfold a1f;split <;> simp only[d4z,d4o] <;> omega
def b1C{fr tw:Int}{ms ss:List Int}(h:ss.length<=60)(hm:ms.length<=60):∀l:List Int,(a1J fr tw ms ss l).length<=l.length*3600
 |[]=>by rw[b2w];exact d5M _
 |x::r=>by
  have:=b1C (fr:=fr) (tw:=tw) h hm r;have h2:=b1D (fr:=fr) (tw:=tw) (b:=x*3600) h ms;have e:(x::r).length*3600=r.length*3600+3600:=by rw[d4z,d5x,d7o]
  rw[e];by_cases hc:x*3600+3599<fr∨tw<=x*3600
  . rw[a6O hc];exact d4v this (d8c _ _)
  . rw[b00 hc,d4o];have key:∀A B M X:Nat,A<=X->B<=M*60->M<=60->B+A<=X+3600:=fun A B M X h1 h2 h3=>by omega
    exact key _ _ _ _ this h2 hm
def b30{s:Tm}{r:Rl}{fr tw:Int}(hF:A3 s r):(a3q s r fr tw).length<=216000:=by have a:((hoL s r).length:Int)<=60:=S4 (q7.1 hF.rr).lists.ho.few (by decide);have b:((miL s r).length:Int)<=60:=S4 (q7.1 hF.rr).lists.mi.few (by decide);have c:((seL s r).length:Int)<=60:=S4 (q7.1 hF.rr).lists.se.few (by decide);have:=b1C (fr:=fr) (tw:=tw) (ms:=miL s r) (ss:=seL s r) (by omega) (by omega) (hoL s r);unfold a3q;omega
def a8m(s:Tm)(r:Rl)(day fr tw n:Int):List Int:=if a4l s r day n=true then(a3q s r (fr-(n-1)*86400) (tw-(n-1)*86400)).map (fun t=>(n-1)*86400+t)else []
def a5M(s:Tm)(r:Rl)(day fr tw:Int):Nat->Int->List Int
 |0,_=>[]
 |k+1,n=>a8m s r day fr tw n++a5M s r day fr tw k (n+1)
def b2C{s:Tm}{r:Rl}{day fr tw n:Int}(hF:A3 s r):(a8m s r day fr tw n).length<=216000:=by
 unfold a8m;split
 . rw[d5F];exact b30 hF
 . exact d5M _
def b08(s:Tm)(r:Rl)(day fr tw:Int):List Int:=a5M s r day fr tw ((tw+86399) / 86400-fr / 86400).toNat (fr / 86400+1)
def B4(s:Tm)(r:Rl)(day i:Int):List Int:=W3 r (b08 s r day (B8 r i) (B8 r (i+1)))
def b0f{n:Int}(h:0<=n):0<=nbP n/\nbP n<=315537897600:=by unfold nbP;split <;> omega
def X6{r:Rl}{i:Int}(h0:0<=i):0<=B8 r i/\B8 r i<=315537897600:=by
 have n1:=(a5T ⟨i,1,1⟩).1;have n2:=(a5T ⟨i / 12,i%12+1,1⟩).1;unfold B8;split
 . exact b0f n1
 split
 . exact b0f n2
 split
 . exact b0f (by omega)
 split
 . exact b0f h0
 split
 . omega
 split <;> omega
structure a6H(s:Tm)(r:Rl)(day fr tw n:Int)(acc:List Int):Prop where
 a:fr / 86400+1<=n
 b:n<=(tw+86399) / 86400+1∨n=fr / 86400+1
 c:(acc.length:Int)<=(n-fr / 86400-1)*216000
 d:acc++a5M s r day fr tw ((tw+86399) / 86400+1-n).toNat n=b08 s r day fr tw
section
variable{s:Tm}{r:Rl}{day fr tw n:Int}{acc:List Int}
def a6H.init:a6H s r day fr tw (fr / 86400+1) []:=⟨d4D _,.inr rfl,by simp;omega,by unfold b08;rw[d5r,show(tw+86399) / 86400+1-(fr / 86400+1)=(tw+86399) / 86400-fr / 86400 by omega]⟩
def a6H.step(h:a6H s r day fr tw n acc)(hF:A3 s r)(hn:(n-1)*86400<tw):a6H s r day fr tw (n+1) (acc++a8m s r day fr tw n):=by
 have hb:n<=(tw+86399) / 86400:=by omega
 have a:=h.a;have c:=h.c;have d:=h.d;have l:=b2C (day:=day) (fr:=fr) (tw:=tw) (n:=n) hF;refine⟨by omega,.inl (by omega),?_,?_⟩
 . rw[d4o];have:(n+1-fr / 86400-1)*216000=(n-fr / 86400-1)*216000+216000:=by omega
   omega
 . rw[show((tw+86399) / 86400+1-n).toNat=((tw+86399) / 86400+1-(n+1)).toNat+1 by omega]at d;unfold a5M at d;rw[d4K];exact d
def a6H.fin(h:a6H s r day fr tw n acc)(hn:¬(n-1)*86400<tw):acc=b08 s r day fr tw:=by have d:=h.d;rw[show((tw+86399) / 86400+1-n).toNat=0 by omega]at d;unfold a5M at d;rw[d4U]at d;exact d
def a6H.len(h:a6H s r day fr tw n acc)(f0:0<=fr)(f1:fr<=315537897600)(t1:tw<=315537897600):(acc.length:Int)<=1000000000000:=by
 have c:=h.c;have a:=h.a;rcases h.b with b|b
 . have:n-fr / 86400-1<=3652060:=by omega
   omega
 . have:n-fr / 86400-1=0:=by omega
   rw[this]at c;omega
end
def a7Q{s:Tm}{r:Rl}{h m t:Int}:∀{k:Nat},t∈b3e s r h m k↔∃x:Nat,x<k/\sB s r x/\t=3600*h+60*m+x
 |0=>by simp[b3e]
 |k+1=>by
  unfold b3e;rw[d4J,a7Q];constructor
  . rintro(⟨x,h1,h2⟩|h)
    . exact⟨x,by omega,h2⟩
    . split at h
      . rename_i hc;exact⟨k,by omega,hc,by simpa using h⟩
      . cases h
  . rintro⟨x,h1,h2,h3⟩;by_cases e:x=k
    . subst e;exact .inr (by rw[if_pos h2,h3];exact d4q.2 rfl)
    . exact .inl ⟨x,by omega,h2,h3⟩
def a6K{s:Tm}{r:Rl}{h t:Int}:∀{k:Nat},t∈b1b s r h k↔∃m:Nat,m<k/\mB s r m/\t∈b3e s r h m 60
 |0=>by simp[b1b]
 |k+1=>by
  unfold b1b;rw[d4J,a6K];constructor
  . rintro(⟨x,h1,h2⟩|h)
    . exact⟨x,by omega,h2⟩
    . split at h
      . rename_i hc;exact⟨k,by omega,hc,h⟩
      . cases h
  . rintro⟨x,h1,h2,h3⟩;by_cases e:x=k
    . subst e;exact .inr (by rw[if_pos h2];exact h3)
    . exact .inl ⟨x,by omega,h2,h3⟩
def b39{s:Tm}{r:Rl}{t:Int}:∀{k:Nat},t∈b42 s r k↔∃h:Nat,h<k/\hB s r h/\t∈b1b s r h 60
 |0=>by simp[b42]
 |k+1=>by
  unfold b42;rw[d4J,b39];constructor
  . rintro(⟨x,h1,h2⟩|h)
    . exact⟨x,by omega,h2⟩
    . split at h
      . rename_i hc;exact⟨k,by omega,hc,h⟩
      . cases h
  . rintro⟨x,h1,h2,h3⟩;by_cases e:x=k
    . subst e;exact .inr (by rw[if_pos h2];exact h3)
    . exact .inl ⟨x,by omega,h2,h3⟩
def b2j{s:Tm}{r:Rl}{t:Int}:t∈T5 s r↔∃h m x:Nat,(h<24/\hB s r h)/\(m<60/\mB s r m)/\(x<60/\sB s r x)/\t=3600*(h:Int)+60*m+x:=by
 unfold T5;rw[b39];constructor
 . rintro⟨h,h1,h2,h3⟩;obtain⟨m,m1,m2,m3⟩:=a6K.1 h3;obtain⟨x,x1,x2,x3⟩:=a7Q.1 m3;exact⟨h,m,x,⟨h1,h2⟩,⟨m1,m2⟩,⟨x1,x2⟩,x3⟩
 . rintro⟨h,m,x,⟨h1,h2⟩,⟨m1,m2⟩,⟨x1,x2⟩,x3⟩;exact⟨h,h1,h2,a6K.2 ⟨m,m1,m2,a7Q.2 ⟨x,x1,x2,x3⟩⟩⟩
def a7E{n:Nat}{x:Int}:x∈a8B n↔0<=x/\x<n:=by
 unfold a8B;rw[d5U];constructor
 . rintro⟨k,hk,rfl⟩;have:=d6Q.1 hk;show 0<=((k:Nat):Int)/\((k:Nat):Int)<n
   omega
 . rintro⟨h0,h1⟩;exact⟨x.toNat,d6Q.2 (by omega),by show((x.toNat:Nat):Int)=x;omega⟩
def b0y{l:List Int}{n h:Int}(hl:Y5 l 0 n false)(hh:h∈l):0<=h/\h<=n:=by obtain⟨i,i0,i1,rfl⟩:=K5 hh;have:=hl.ok i i0 i1;unfold OkN at this;simp only[d5m,false_and,if_false]at this;exact this
def b5y{s:Tm}{r:Rl}{h:Int}(hF:A3 s r):h∈hoL s r↔∃k:Nat,(k<24/\hB s r k)/\h=k:=by
 obtain⟨_,⟨a,b⟩,_⟩:=A9.1 hF.rt;have ho:=(q7.1 hF.rr).lists.ho;unfold hoL l7 hB;by_cases hc:0<(r.Hour.length:Int)
 . rw[if_pos hc];have h0:¬(r.Hour.length:Int)=0:=by omega
   constructor
   . intro hh;have:=b0y ho hh;exact⟨h.toNat,⟨by omega,fun e=>e.elim (fun e=>e.2 (by rw[a05];rw[show((h.toNat:Nat):Int)=h by omega];exact hh)) fun e=>h0 e.1.1⟩,by omega⟩
   . rintro⟨k,⟨_,h2⟩,rfl⟩;exact a05.1 (d4i.1 fun hn=>h2 (.inl ⟨hc,hn⟩))
 . rw[if_neg hc];have h0:(r.Hour.length:Int)=0:=by omega
   by_cases hf:3<r.j8
   . rw[if_pos (d4u hf),a7E];constructor
     . rintro⟨h1,h2⟩;exact⟨h.toNat,⟨by omega,fun e=>e.elim (fun e=>hc e.1) fun e=>absurd e.1.2 (by omega)⟩,by omega⟩
     . rintro⟨k,⟨h1,_⟩,rfl⟩;have:((Int.toNat 24:Nat):Int)=24:=rfl;omega
   . rw[if_neg (by simpa using hf),d4q];constructor
     . rintro rfl;exact⟨s.Hour.toNat,⟨by omega,fun e=>e.elim (fun e=>hc e.1) fun e=>e.2 (by omega)⟩,by omega⟩
     . rintro⟨k,⟨_,h2⟩,rfl⟩;exact d4i.1 fun hn=>h2 (.inr ⟨⟨h0,by omega⟩,hn⟩)
def b5D{s:Tm}{r:Rl}{h:Int}(hF:A3 s r):h∈miL s r↔∃k:Nat,(k<60/\mB s r k)/\h=k:=by
 obtain⟨_,_,⟨a,b⟩,_⟩:=A9.1 hF.rt;have ho:=(q7.1 hF.rr).lists.mi;unfold miL l7 mB;by_cases hc:0<(r.Minute.length:Int)
 . rw[if_pos hc];have h0:¬(r.Minute.length:Int)=0:=by omega
   constructor
   . intro hh;have:=b0y ho hh;exact⟨h.toNat,⟨by omega,fun e=>e.elim (fun e=>e.2 (by rw[a05];rw[show((h.toNat:Nat):Int)=h by omega];exact hh)) fun e=>h0 e.1.1⟩,by omega⟩
   . rintro⟨k,⟨_,h2⟩,rfl⟩;exact a05.1 (d4i.1 fun hn=>h2 (.inl ⟨hc,hn⟩))
 . rw[if_neg hc];have h0:(r.Minute.length:Int)=0:=by omega
   by_cases hf:4<r.j8
   . rw[if_pos (d4u hf),a7E];constructor
     . rintro⟨h1,h2⟩;have:((Int.toNat 60:Nat):Int)=60:=rfl;exact⟨h.toNat,⟨by omega,fun e=>e.elim (fun e=>hc e.1) fun e=>absurd e.1.2 (by omega)⟩,by omega⟩
     . rintro⟨k,⟨h1,_⟩,rfl⟩;have:((Int.toNat 60:Nat):Int)=60:=rfl;omega
   . rw[if_neg (by simpa using hf),d4q];constructor
     . rintro rfl;exact⟨s.Min.toNat,⟨by omega,fun e=>e.elim (fun e=>hc e.1) fun e=>e.2 (by omega)⟩,by omega⟩
     . rintro⟨k,⟨_,h2⟩,rfl⟩;exact d4i.1 fun hn=>h2 (.inr ⟨⟨h0,by omega⟩,hn⟩)
def b4Z{s:Tm}{r:Rl}{h:Int}(hF:A3 s r):h∈seL s r↔∃k:Nat,(k<60/\sB s r k)/\h=k:=by
 obtain⟨_,_,_,⟨a,b⟩,_⟩:=A9.1 hF.rt;have ho:=(q7.1 hF.rr).lists.se;unfold seL l7 sB;by_cases hc:0<(r.Second.length:Int)
 . rw[if_pos hc];have h0:¬(r.Second.length:Int)=0:=by omega
   constructor
   . intro hh;have:=b0y ho hh;exact⟨h.toNat,⟨by omega,.inl ⟨hc,by rw[a05];rw[show((h.toNat:Nat):Int)=h by omega];exact hh⟩⟩,by omega⟩
   . rintro⟨k,⟨_,h2⟩,rfl⟩;exact h2.elim (fun e=>a05.1 e.2) fun e=>absurd e.1 h0
 . rw[if_neg hc];have h0:(r.Second.length:Int)=0:=by omega
   by_cases hf:5<r.j8
   . rw[if_pos (d4u hf),a7E];constructor
     . rintro⟨h1,h2⟩;have:((Int.toNat 60:Nat):Int)=60:=rfl;exact⟨h.toNat,⟨by omega,.inr ⟨h0,.inl hf⟩⟩,by omega⟩
     . rintro⟨k,⟨h1,_⟩,rfl⟩;have:((Int.toNat 60:Nat):Int)=60:=rfl;omega
   . rw[if_neg (by simpa using hf),d4q];constructor
     . rintro rfl;exact⟨s.D5.toNat,⟨by omega,.inr ⟨h0,.inr (by omega)⟩⟩,by omega⟩
     . rintro⟨k,⟨_,h2⟩,rfl⟩;exact h2.elim (fun e=>absurd e.1 hc) fun e=>e.2.elim (fun e=>absurd e hf) id
def b2I{s:Tm}{r:Rl}{fr tw t:Int}(hF:A3 s r):t∈a3q s r fr tw↔t∈T5 s r/\fr<=t/\t<tw:=by
 rw[b1Z hF,b2j];constructor
 . rintro⟨⟨h,hh,m,hm,x,hx,e⟩,b⟩;obtain⟨k,hk,rfl⟩:=(b5y hF).1 hh;obtain⟨j,hj,rfl⟩:=(b5D hF).1 hm;obtain⟨i,hi,rfl⟩:=(b4Z hF).1 hx;exact⟨⟨k,j,i,hk,hj,hi,by omega⟩,b⟩
 . rintro⟨⟨k,j,i,hk,hj,hi,e⟩,b⟩;exact⟨⟨k,(b5y hF).2 ⟨k,hk,rfl⟩,j,(b5D hF).2 ⟨j,hj,rfl⟩,i,(b4Z hF).2 ⟨i,hi,rfl⟩,by omega⟩,b⟩
def a0t(res:List Int->Int->Bool):List Int->List Int->Bool->List Int×Bool
 |y,[],e=>(y,e)
 |y,t::T,e=>bif res y t then a0t res (y++[t]) T e else(y++[t],false)
structure a3Q(res:List Int->Int->Bool)(g:List Int×Bool)(y T:List Int)(e:Bool):Prop where
 a:a0t res y T e=g
section
variable{res:List Int->Int->Bool}{g:List Int×Bool}{y T:List Int}{e:Bool}{t:Int}
def a3Q.fin(h:a3Q res g y [] e):g=(y,e):=h.a.symm
def a3Q.go(h:a3Q res g y (t::T) e)(hr:res y t=true):a3Q res g (y++[t]) T e:=⟨by have a:=h.a;unfold a0t at a;rw[hr]at a;exact a⟩
def a3Q.stop(h:a3Q res g y (t::T) e)(hr:¬res y t=true):g=(y++[t],false):=by have a:=h.a;unfold a0t at a;rw[d4W]at hr;rw[hr]at a;exact a.symm
end
def a3t(r:Rl)(first tw G6:Int):Int->List Int->List Int×Int
 |c,[]=>([],c)
 |c,t::T=>if t<=first then a3t r first tw G6 c T else if(tw<=t∨G6<t)∨(0<r.Count/\r.Count<=c)then([],c)else(t::(a3t r first tw G6 (c+1) T).1,(a3t r first tw G6 (c+1) T).2)
def a0r(r:Rl)(tw G6 b c:Int):Prop:=((tw<=b∨G6<b)∨(0<r.Count/\r.Count<=c))∨315537897600<=b
instance (r:Rl) (tw G6 b c:Int):Decidable (a0r r tw G6 b c):=inferInstanceAs (Decidable (_∨_))
def a30(s:Tm)(r:Rl)(day first tw G6 i0:Int):Nat->Int->Int->List Int×Bool
 |0,k,c=>if a0r r tw G6 (B8 r (i0+k*r.Interval)) c then([],false)else([],true)
 |n+1,k,c=>if a0r r tw G6 (B8 r (i0+k*r.Interval)) c then([],false)else
  ((a3t r first tw G6 c (B4 s r day (i0+k*r.Interval))).1++(a30 s r day first tw G6 i0 n (k+1) (a3t r first tw G6 c (B4 s r day (i0+k*r.Interval))).2).1,
   (a30 s r day first tw G6 i0 n (k+1) (a3t r first tw G6 c (B4 s r day (i0+k*r.Interval))).2).2)
def P0(r:Rl):Int:=if 0<(r.e9.length:Int)then b8 (ix r.e9 0)else 315537897600
def K8(s:Tm)(r:Rl)(fr:Int):Int:=if r.Count=0/\b8 s<fr then max 0 ((l5 r (min fr 315537897599)-l5 r (b8 s)).tdiv r.Interval-1)else 0
def I5(s:Tm)(r:Rl)(day fr tw:Int):List Int×Bool:=
 ((if b8 s<tw then [b8 s]else [])++(a30 s r day (b8 s) tw (P0 r) (l5 r (b8 s)) (40000-K8 s r fr).toNat (K8 s r fr) 1).1,
  (a30 s r day (b8 s) tw (P0 r) (l5 r (b8 s)) (40000-K8 s r fr).toNat (K8 s r fr) 1).2)
section
variable{res:List Int->Int->Bool}{g:List Int×Bool}{y L:List Int}{s:Tm}{r:Rl}{day first tw G6 i0 k c t:Int}
structure a42(res:List Int->Int->Bool)(g:List Int×Bool)(s:Tm)(r:Rl)(day first tw G6 i0 k c:Int)(y:List Int):Prop where
 a:a3Q res g y (a30 s r day first tw G6 i0 (40000-k).toNat k c).1 (a30 s r day first tw G6 i0 (40000-k).toNat k c).2
structure a4d(res:List Int->Int->Bool)(g:List Int×Bool)(s:Tm)(r:Rl)(day first tw G6 i0 k c:Int)(L y:List Int):Prop where
 a:a3Q res g y ((a3t r first tw G6 c L).1++(a30 s r day first tw G6 i0 (40000-(k+1)).toNat (k+1) (a3t r first tw G6 c L).2).1) (a30 s r day first tw G6 i0 (40000-(k+1)).toNat (k+1) (a3t r first tw G6 c L).2).2
def a42.fin(h:a42 res g s r day first tw G6 i0 k c y)(he:a0r r tw G6 (B8 r (i0+k*r.Interval)) c):g=(y,false):=by have a:=h.a;generalize (40000-k).toNat=n at a;cases n <;> (unfold a30 at a;rw[if_pos he]at a;exact a.fin)
def a42.many(h:a42 res g s r day first tw G6 i0 k c y)(he:¬a0r r tw G6 (B8 r (i0+k*r.Interval)) c)(hk:40000<=k):g=(y,true):=by have a:=h.a;rw[show(40000-k).toNat=0 by omega]at a;unfold a30 at a;rw[if_neg he]at a;exact a.fin
def a42.enter(h:a42 res g s r day first tw G6 i0 k c y)(he:¬a0r r tw G6 (B8 r (i0+k*r.Interval)) c)(hk:¬40000<=k):a4d res g s r day first tw G6 i0 k c (B4 s r day (i0+k*r.Interval)) y:=by have a:=h.a;rw[show(40000-k).toNat=(40000-(k+1)).toNat+1 by omega]at a;unfold a30 at a;rw[if_neg he]at a;exact⟨a⟩
def a4d.nil(h:a4d res g s r day first tw G6 i0 k c [] y):a42 res g s r day first tw G6 i0 (k+1) c y:=⟨h.a⟩
def a4d.skip(h:a4d res g s r day first tw G6 i0 k c (t::L) y)(ht:t<=first):a4d res g s r day first tw G6 i0 k c L y:=by have a:=h.a;unfold a3t at a;rw[if_pos ht]at a;exact⟨a⟩
def a4d.leave(h:a4d res g s r day first tw G6 i0 k c (t::L) y)(ht:¬t<=first)(hb:(tw<=t∨G6<t)∨(0<r.Count/\r.Count<=c)):a42 res g s r day first tw G6 i0 (k+1) c y:=by have a:=h.a;unfold a3t at a;rw[if_neg ht,if_pos hb]at a;exact⟨a⟩
def a4d.one(h:a4d res g s r day first tw G6 i0 k c (t::L) y)(ht:¬t<=first)(hb:¬((tw<=t∨G6<t)∨(0<r.Count/\r.Count<=c))) :
  (res y t=true->a4d res g s r day first tw G6 i0 k (c+1) L (y++[t]))/\(¬res y t=true->g=(y++[t],false)):=by
 have a:=h.a;unfold a3t at a;rw[if_neg ht,if_neg hb]at a;exact⟨fun hr=>⟨a3Q.go a hr⟩,fun hr=>a3Q.stop a hr⟩
end
def b77{r:Rl}{l:List Int}:(W3 r l).length<=l.length:=by
 unfold W3;split
 . exact d4C _
 . exact a8J l 0
def b1J{s:Tm}{r:Rl}{day fr tw:Int}(hF:A3 s r):∀(k:Nat)(n:Int),(a5M s r day fr tw k n).length<=k*216000
 |0,_=>d5M _
 |k+1,n=>by have h1:=b1J (day:=day) (fr:=fr) (tw:=tw) hF k (n+1);have h2:=b2C (day:=day) (fr:=fr) (tw:=tw) (n:=n) hF;unfold a5M;rw[d4o,d5x,d7o];omega
def a2K{s:Tm}{r:Rl}{day i:Int}(hF:A3 s r)(h0:0<=i):((B4 s r day i).length:Int)<=1000000000000:=by
 have h1:=b77 (r:=r) (l:=b08 s r day (B8 r i) (B8 r (i+1)));have h2:=b1J (day:=day) (fr:=B8 r i) (tw:=B8 r (i+1)) hF ((B8 r (i+1)+86399) / 86400-B8 r i / 86400).toNat (B8 r i / 86400+1);obtain⟨a0,a1⟩:=X6 (r:=r) h0;obtain⟨b0,b1⟩:=X6 (r:=r) (i:=i+1) (by omega);unfold B4;unfold b08 at h1 ⊢;have h3:((B8 r (i+1)+86399) / 86400-B8 r i / 86400).toNat<=3652060:=by omega
 have h4:=d4H 216000 h3;omega
def etD(d:Dy):Dy:=Dy.mk d.Year d.Month d.Date
def j6(s:Tm):Tm:=Tm.mk (Dy.mk s.Day.Year s.Day.Month s.Day.Date) s.Hour s.Min s.D5 (decide (s.n9=true)) (decide (s.UTC=true))
def L3(r:Rl):Rl:=Rl.mk r.j8 r.Interval r.Count r.e9 r.Month r.p5 r.j9 r.j7 r.w6 r.Hour r.Minute r.Second r.x8 r.u6
def B3(d:Dy):etD d=d:=rfl
def x9(s:Tm):j6 s=s:=by unfold j6;simp only[d4p]
def A6(r:Rl):L3 r=r:=rfl
def a4q{r:Rl}{t:Int}(t0:0<=t)(t1:t<315537897600)(w0:0<=r.u6)(w1:r.u6<=6):0<=l5 r t/\l5 r t<=315537897600:=by
 obtain⟨a,b,c⟩:=c26 (r:=r) t0 t1 w0 w1;unfold l5;split
 . rename_i h;have:=c h;omega
 . omega
def d1y:l8:=.w 205 [] (.no 5)
def a7B(b:Bool):l8:=bif b then d1y else .nil
def a8q(r:Rl):List Int->Int->Bool:=fun y _=>decide ((y.length:Int)+1<r.Count)
def c2q(r:Rl)(g:List Int×Bool):Bool:=if r.Count<=(g.1.length:Int)∨g.2=true then g.2 else true
def a1p(s:Tm)(r:Rl)(day tw:Int):Bool:=
 if tw<=B8 r (l5 r (b8 s)+40000*r.Interval)∨315537897600<=B8 r (l5 r (b8 s)+40000*r.Interval)then false
 else if 0<(r.e9.length:Int)/\b8 (ix r.e9 0)<B8 r (l5 r (b8 s)+40000*r.Interval)then false
 else if 0<r.Count then c2q r (a0t (a8q r) [] (I5 s r day 0 (B8 r (l5 r (b8 s)+40000*r.Interval))).1 (I5 s r day 0 (B8 r (l5 r (b8 s)+40000*r.Interval))).2)
 else true
def a6i{r:Rl}{g:List Int×Bool}{fb e:Bool}{y:List Int}{n:Int}(h:c2q r g=fb)(hg:g=(y,e))(hn:(y.length:Int)=n):(r.Count<=n->fb=e)/\(e=true->fb=true)/\(¬r.Count<=n->e=false->fb=true):=by subst hg;unfold c2q at h;rw[hn]at h;refine⟨fun h1=>by rw[if_pos (.inl h1)]at h;exact h.symm,fun h1=>by rw[if_pos (.inr h1)]at h;exact h.symm.trans h1,fun h1 h2=>?_⟩;rw[if_neg (fun hh=>hh.elim h1 fun hh=>by rw[h2]at hh;cases hh)]at h;exact h.symm
def b2E{s a:Tm}{y:List Int}{t:Int}:frA s a (y++[t])=if b8 a<=t then frA s a y++[K3 t s]else frA s a y:=by
 rw[a61];show frA s a y++(if b8 a<=t then [K3 t s]else [])=_
 split
 . rfl
 . exact d4U _
def b5W{s a:Tm}{y:List Int}{t:Int}(h:b8 a<=t):frA s a (y++[t])=frA s a y++[K3 t s]:=by rw[b2E,if_pos h]
def c0K{s a:Tm}{y:List Int}{t:Int}(h:¬b8 a<=t):frA s a (y++[t])=frA s a y:=by rw[b2E,if_neg h]
def a4T(s a:Tm):List Int->Int->Bool:=fun y t=>decide (((frA s a (y++[t])).length:Int)<=1000)
def b4b(s:Tm)(r:Rl)(a b:Tm):List Int×Bool:=a0t (a4T s a) [] (I5 s r (w4 s.Day) (b8 a) (b8 b)).1 (I5 s r (w4 s.Day) (b8 a) (b8 b)).2
def b20(s a:Tm)(g:List Int×Bool):List Tm×l8:=if g.2=true then([],.no 5)else if 1000<((frA s a g.1).length:Int)then([],.no 16)else(frA s a g.1,.nil)
open Classical in
def L6(s:Tm)(r:Rl)(a b:Tm):List Tm×l8:=if b7L s r a b then([],.no 2)else if a1p s r (w4 s.Day) (b8 b)=true then([],.no 5)else b20 s a (b4b s r a b)
def a62:(l8.w 205 [] (.no 5)).is 5:=by decide
def a57:O3 (.w 205 [] (.no 5))=.no 5:=by unfold O3;rw[if_pos a62]
def a9A{s a:Tm}{g:List Int×Bool}{px:List Tm×l8}{y:List Int}{e:Bool}(h:b20 s a g=px)(hg:g=(y,e)):(e=true->px=([],.no 5))/\(e=false->(1000<((frA s a y).length:Int)->px=([],.no 16))/\(¬1000<((frA s a y).length:Int)->px=(frA s a y,.nil))):=by
 subst hg;unfold b20 at h;refine⟨fun he=>by rw[if_pos he]at h;exact h.symm,fun he=>⟨fun hl=>?_,fun hl=>?_⟩⟩
 . subst he;rw[if_neg d5i,if_pos hl]at h;exact h.symm
 . subst he;rw[if_neg d5i,if_neg hl]at h;exact h.symm
def b36{d n:Int}:-(d.natAbs:Int)<=d.tdiv n/\d.tdiv n<=d.natAbs:=by
 have h2:(d.tdiv n).natAbs<=d.natAbs:=by rw[Int.natAbs_tdiv];exact Nat.div_le_self _ _
 omega
def c4v{s:Tm}{r:Rl}{fr:Int}(hn:1<=r.Interval)(hd:∀x,0<=x->x<315537897600->0<=l5 r x/\l5 r x<=315537897600)(hf:0<=fr)(hs:0<=b8 s/\b8 s<315537897600):0<=K8 s r fr/\0<=K8 s r fr*r.Interval/\K8 s r fr*r.Interval<=315537897600:=by
 unfold K8;split
 . obtain⟨a0,a1⟩:=hd (b8 s) hs.1 hs.2;obtain⟨b0,b1⟩:=hd (min fr 315537897599) (by omega) (by omega);generalize l5 r (min fr 315537897599)=x at *;generalize l5 r (b8 s)=z at *;by_cases hz:(x-z).tdiv r.Interval-1<=0
   . rw[Int.max_eq_left hz];simp
   . rw[Int.max_eq_right (by omega)];have hpos:0<=x-z:=by
      rcases d7f (x-z) 0 with h|h
      . exfalso;have h2:(x-z).tdiv r.Interval<=0:=by
         have e:(x-z).tdiv r.Interval=-((z-x).tdiv r.Interval):=by rw[<- Int.neg_tdiv];congr 1;omega
         have:0<=(z-x).tdiv r.Interval:=Int.tdiv_nonneg (by omega) (by omega);omega
        omega
      . exact h
     rw[d4r hpos]at *;have h3:=d8h (x-z) (show r.Interval≠0 by omega);have h4:((x-z) / r.Interval-1)*r.Interval=(x-z) / r.Interval*r.Interval-r.Interval:=by rw[d8j,Int.one_mul]
     have h5:0<=((x-z) / r.Interval-1)*r.Interval:=d5K (by omega) (by omega);omega
 . simp
def dyS(y m d:Int):Tm:=⟨⟨y,m,d⟩,0,0,0,true,false⟩
instance (r:Rl):Decidable (b5m r):=by unfold b5m;infer_instance
instance (r:Rl):Decidable (b22 r):=by unfold b22;infer_instance
instance (r:Rl):Decidable (b8m r):=by unfold b8m;infer_instance
instance (m:Int) (d:Nt):Decidable (c0f m d):=by unfold c0f;infer_instance
instance (a b:Nt):Decidable (a5k a b):=by unfold a5k;infer_instance
def V2{lo hi:Int}{b:Bool}:Y5 [] lo hi b:=⟨fun i h0 h1=>absurd h1 (by simp;omega),fun i h0 h1=>absurd h1 (by simp;omega),by decide⟩
def b6H{f i c:Int}{u:List Tm}{d:List Nt}{w:Int}:b4h (Rl.mk f i c u [] [] [] [] d [] [] [] [] w):=⟨V2,V2,V2,V2,V2,V2,V2,V2⟩
def c1I{s a b:Tm}{r:Rl}{l:List Tm}(hF:A3 s r)(ha:o7 a=true)(hb:o7 b=true)(hf:a1p s r (w4 s.Day) (b8 b)=false)(hg:b20 s a (b4b s r a b)=(l,.nil)):L6 s r a b=(l,.nil):=by unfold L6;rw[if_neg (fun h=>h.elim (fun h=>h.elim (fun h=>h (L7.2 hF)) fun h=>h ha) fun h=>h hb),if_neg (by rw[hf];exact d5i),hg]
abbrev Up(l:List Int):Prop:=l.Pairwise (· < ·)
def d1K{l:List Int}(h:UpL l):Up l:=d5q.2 fun i j hi hj hij=>b1r h j i hij hj
def c6l(n:Nat):Up (a8B n):=by
 unfold a8B;refine List.pairwise_map.2 (List.pairwise_lt_range.imp fun h=>?_);show((_:Nat):Int)<((_:Nat):Int)
 omega
def a6B{l:List Int}{f:Bool}{own all:Int}(h:UpL l):Up (l7 l f own all):=by
 unfold l7;split
 . exact d1K h
 . split
   . exact c6l _
   . exact d5Z ..
def a9n{n x:Int}{l:List Int}(h:inB n l)(hx:x∈l):0<=x/\x<=n:=by obtain⟨i,i0,i1,rfl⟩:=K5 hx;exact h i i0 i1
def b0s{fr tw b:Int}:∀{l:List Int},Up l->Up (a3a fr tw b l)
 |[],_=>List.Pairwise.nil
 |s::r,h=>by
  obtain⟨h1,h2⟩:=d5f.1 h;unfold a3a;split
  . refine d5f.2 ⟨fun t ht=>?_,b0s h2⟩;obtain⟨u,hu,e,_⟩:=a1Z.1 ht;have:=h1 u hu;omega
  . exact b0s h2
def b0h{fr tw b:Int}{ss:List Int}(hs:inB 59 ss)(us:Up ss):∀{l:List Int},Up l->Up (a1f fr tw b ss l)
 |[],_=>List.Pairwise.nil
 |m::r,h=>by
  obtain⟨h1,h2⟩:=d5f.1 h;unfold a1f;split
  . exact b0h hs us h2
  . refine d6a.2 ⟨b0s us,b0h hs us h2,fun t ht u hu=>?_⟩;obtain⟨x,hx,e,_⟩:=a1Z.1 ht;obtain⟨m2,hm2,y,hy,e2,_⟩:=(a4y hs).1 hu;have:=h1 m2 hm2;have:=a9n hs hx;have:=a9n hs hy;omega
def a9X{fr tw:Int}{ms ss:List Int}(hm:inB 59 ms)(hs:inB 59 ss)(um:Up ms)(us:Up ss):∀{l:List Int},Up l->Up (a1J fr tw ms ss l)
 |[],_=>List.Pairwise.nil
 |m::r,h=>by
  obtain⟨h1,h2⟩:=d5f.1 h;unfold a1J;split
  . exact a9X hm hs um us h2
  . refine d6a.2 ⟨b0h hs us um,a9X hm hs um us h2,fun t ht u hu=>?_⟩;obtain⟨m1,hm1,x,hx,e,_⟩:=(a4y hs).1 ht;obtain⟨k,hk,m2,hm2,y,hy,e2,_⟩:=(a7D hm hs).1 hu;have:=h1 k hk;have:=a9n hs hx;have:=a9n hs hy;have:=a9n hm hm1;have:=a9n hm hm2;omega
def c39{s:Tm}{r:Rl}{fr tw:Int}(hF:A3 s r):Up (a3q s r fr tw):=by have L:=(q7.1 hF.rr).lists;exact a9X (b4n hF) (b3y hF) (a6B L.mi.up) (a6B L.se.up) (a6B L.ho.up)
def c21{s:Tm}{r:Rl}{c:Int}(h:c∈T5 s r):0<=c/\c<86400:=b59 24 (by omega) _ h
def c0u(s:Tm)(r:Rl)(day t:Int):Prop:=a4l s r day (t / 86400+1)=true/\t%86400∈T5 s r
def b1E{s:Tm}{r:Rl}{day fr tw n t:Int}(hF:A3 s r):t∈a8m s r day fr tw n↔(c0u s r day t/\t / 86400+1=n)/\fr<=t/\t<tw:=by
 unfold a8m c0u;constructor
 . intro h;split at h
   . rename_i hd;obtain⟨c,hc,rfl⟩:=d5U.1 h;obtain⟨h1,h2,h3⟩:=(b2I hF).1 hc;have:=c21 h1;have e1:((n-1)*86400+c) / 86400+1=n:=by omega
     have e2:((n-1)*86400+c)%86400=c:=by omega
     rw[e1,e2];exact⟨⟨⟨hd,h1⟩,rfl⟩,by omega,by omega⟩
   . cases h
 . rintro⟨⟨⟨h1,h2⟩,rfl⟩,h3,h4⟩;rw[if_pos h1];refine d5U.2 ⟨t%86400,(b2I hF).2 ⟨h2,by omega,by omega⟩,by omega⟩
def c2z{s:Tm}{r:Rl}{day fr tw n:Int}(hF:A3 s r):Up (a8m s r day fr tw n):=by
 unfold a8m;split
 . exact List.pairwise_map.2 ((c39 hF).imp fun h=>by omega)
 . exact List.Pairwise.nil
def a6y{s:Tm}{r:Rl}{day fr tw t:Int}(hF:A3 s r):∀{k:Nat}{n:Int},t∈a5M s r day fr tw k n↔(c0u s r day t/\n<=t / 86400+1/\t / 86400+1<n+k)/\fr<=t/\t<tw
 |0,n=>by
  unfold a5M;constructor
  . intro h;cases h
  . rintro⟨⟨_,h1,h2⟩,_⟩;omega
 |k+1,n=>by
  unfold a5M;rw[d4J,b1E hF,a6y hF];constructor
  . rintro(⟨⟨a,b⟩,c⟩|⟨⟨a,b⟩,c⟩)
    . exact⟨⟨a,by omega⟩,c⟩
    . exact⟨⟨a,by omega⟩,c⟩
  . rintro⟨⟨a,b⟩,c⟩;by_cases e:t / 86400+1=n
    . exact .inl ⟨⟨a,e⟩,c⟩
    . exact .inr ⟨⟨a,by omega⟩,c⟩
def b6x{s:Tm}{r:Rl}{day fr tw:Int}(hF:A3 s r):∀{k:Nat}{n:Int},Up (a5M s r day fr tw k n)
 |0,_=>List.Pairwise.nil
 |k+1,n=>by unfold a5M;refine d6a.2 ⟨c2z hF,b6x hF,fun t ht u hu=>?_⟩;have:=(b1E hF).1 ht;have:=(a6y hF).1 hu;omega
def c0o{s:Tm}{r:Rl}{day fr tw t:Int}(hF:A3 s r):t∈b08 s r day fr tw↔c0u s r day t/\fr<=t/\t<tw:=by
 unfold b08;rw[a6y hF];constructor
 . rintro⟨⟨a,_⟩,b⟩;exact⟨a,b⟩
 . rintro⟨a,b⟩;exact⟨⟨a,by omega⟩,b⟩
def c3n{s:Tm}{r:Rl}{day fr tw:Int}(hF:A3 s r):Up (b08 s r day fr tw):=b6x hF
def a4S{sp:List Int}{n:Int}:∀{l:List Int}{i:Int},(W6 sp n i l).Sublist l
 |[],_=>List.Sublist.slnil
 |t::l,i=>by
  rw[a15];split
  . exact List.Sublist.cons_cons _ a4S
  . exact List.Sublist.cons _ a4S
def b1y{r:Rl}{l:List Int}:(W3 r l).Sublist l:=by
 unfold W3;split
 . exact List.Sublist.refl _
 . exact a4S
def b0u{s:Tm}{r:Rl}{day i:Int}(hF:A3 s r):Up (B4 s r day i):=(c3n hF).sublist b1y
def W8{s:Tm}{r:Rl}{day i t:Int}(hF:A3 s r)(h:t∈B4 s r day i):c0u s r day t/\B8 r i<=t/\t<B8 r (i+1):=(c0o hF).1 (b1y.subset h)
structure LoP(r:Rl)(i:Int):Prop where
 a:0<=i
 y:r.j8=0->1<=i
 m:r.j8=1->12<=i
 d:r.j8=3->1<=i
def LoP.up{r:Rl}{i j:Int}(h:LoP r i)(hj:i<=j):LoP r j:=by obtain⟨a,b,c,d⟩:=h;exact⟨by omega,fun e=>by have:=b e;omega,fun e=>by have:=c e;omega,fun e=>by have:=d e;omega⟩
def a2e{y m:Int}(y0:1<=y)(y1:y<=9999)(m0:1<=m)(m1:m<=12):G3 ⟨y,m,1⟩:=by have:=b0c y0 y1 m0 m1;exact⟨d4D 1,by show(1:Int)<=D6 y m;omega⟩
def b12{d:Dy}{y m:Int}(h:G3 d)(y0:1<=y)(y1:y<=9999)(m0:1<=m)(m1:m<=12):L4 ⟨y,m,1⟩<=L4 d↔12*y+m<=12*d.Year+d.Month:=by
 have hr:=a2e y0 y1 m0 m1;obtain⟨a0,a1⟩:=a3y h;obtain⟨b0,b1⟩:=a3y hr;obtain⟨c0,c1,c2,c3,c4,c5⟩:=h.ym;have h2:=h.2;have b0:u4 y<L4 ⟨y,m,1⟩:=b0;have b1:L4 ⟨y,m,1⟩<=u4 (y+1):=b1;have e1:L4 ⟨y,m,1⟩=u4 y+S8 y m+1:=rfl;have e2:L4 d=u4 d.Year+S8 d.Year d.Month+d.Date:=rfl;rcases d6t y d.Year with hl|hl|hl
 . have:=E5 (show y+1<=d.Year by omega);constructor <;> intro <;> omega
 . subst hl;rcases d6t m d.Month with hm|hm|hm
   . have:=a3P y0 y1 m0 c3 hm;have:=b0c y0 y1 m0 m1;constructor <;> intro <;> omega
   . subst hm;constructor <;> intro <;> omega
   . have:=a3P y0 y1 c2 m1 hm;constructor <;> intro <;> omega
 . have:=E5 (show d.Year+1<=y by omega);constructor <;> intro <;> omega
def b0I{n t:Int}(h0:1<=n)(t1:t<315537897600):nbP n<=t↔n<=t / 86400+1:=by unfold nbP;split <;> omega
def a2w{r:Rl}{i t:Int}(hi:LoP r i)(t0:0<=t)(t1:t<315537897600):B8 r i<=t↔i<=l5 r t:=by
 obtain⟨hd,hn⟩:=of_ok (n:=t / 86400+1) (by omega) (by omega);obtain⟨c0,c1,c2,c3,_⟩:=hd.ym;have a:=hi.a;unfold B8 l5 a5B;generalize A5 (t / 86400+1)=D at *;by_cases f0:r.j8=0
 . have b:=hi.y f0;rw[if_pos f0,if_pos f0,if_neg (by omega)];by_cases hy:i<=9999
   . have hr:=a2e b hy (by decide:(1:Int)<=1) (by decide);have e:w4 ⟨i,1,1⟩=L4 ⟨i,1,1⟩:=by unfold w4;rw[if_pos hr]
     rw[e,b0I (Z3 hr).1 t1,<- hn,b12 hd b hy (by decide) (by decide)];constructor <;> intro <;> omega
   . have e:w4 ⟨i,1,1⟩=0:=by
       unfold w4;rw[if_neg fun h=>?_];have:i<=9999:=h.ym.2.1;omega
     rw[e];unfold nbP;rw[if_pos (.inl rfl)];constructor <;> intro <;> omega
 rw[if_neg f0,if_neg f0];by_cases f1:r.j8=1
 . have b:=hi.m f1;rw[if_pos f1,if_pos f1,if_pos f1];by_cases hy:i / 12<=9999
   . have hr:=a2e (y:=i / 12) (m:=i%12+1) (by omega) hy (by omega) (by omega);have e:w4 ⟨i / 12,i%12+1,1⟩=L4 ⟨i / 12,i%12+1,1⟩:=by unfold w4;rw[if_pos hr]
     rw[e,b0I (Z3 hr).1 t1,<- hn,b12 hd (by omega) hy (by omega) (by omega)];constructor <;> intro <;> omega
   . have e:w4 ⟨i / 12,i%12+1,1⟩=0:=by
       unfold w4;rw[if_neg fun h=>?_];have:i / 12<=9999:=h.ym.2.1;omega
     rw[e];unfold nbP;rw[if_pos (.inl rfl)];constructor <;> intro <;> omega
 rw[if_neg f1,if_neg f1,if_neg f1];by_cases f2:r.j8=2
 . rw[if_pos f2,if_pos f2,b0I (by omega) t1];constructor <;> intro <;> omega
 rw[if_neg f2,if_neg f2];by_cases f3:r.j8=3
 . have b:=hi.d f3;rw[if_pos f3,if_pos f3,b0I b t1];constructor <;> intro <;> omega
 rw[if_neg f3,if_neg f3];by_cases f4:r.j8=4
 . rw[if_pos f4,if_pos f4];constructor <;> intro <;> omega
 rw[if_neg f4,if_neg f4];by_cases f5:r.j8=5
 . rw[if_pos f5,if_pos f5];constructor <;> intro <;> omega
 rw[if_neg f5,if_neg f5];constructor <;> intro <;> omega
def Q2{r:Rl}{i j:Int}(hi:LoP r i)(hj:i<=j):B8 r i<=B8 r j:=by
 obtain⟨a0,a1⟩:=X6 (r:=r) hi.a;obtain⟨b0,b1⟩:=X6 (r:=r) (i:=j) (by have:=hi.a;omega);by_cases h:B8 r j<315537897600
 . exact(a2w hi b0 h).2 (Int.le_trans hj ((a2w (hi.up hj) b0 h).1 (d4D _)))
 . omega
def T7{r:Rl}{t:Int}(t0:0<=t)(t1:t<315537897600)(w0:0<=r.u6)(w1:r.u6<=6):LoP r (l5 r t):=by
 obtain⟨hd,hn⟩:=of_ok (n:=t / 86400+1) (by omega) (by omega);obtain⟨c0,c1,c2,c3,_⟩:=hd.ym;refine⟨(a4q t0 t1 w0 w1).1,fun f=>?_,fun f=>?_,fun f=>?_⟩
 . unfold l5 a5B;rw[if_pos f,if_neg (by omega)];omega
 . unfold l5 a5B;rw[if_neg (by omega),if_pos f,if_pos f];omega
 . unfold l5 a5B;rw[if_neg (by omega),if_neg (by omega),if_neg (by omega),if_pos f,if_neg (by omega)];omega
def a0I{r:Rl}{t u:Int}(t0:0<=t)(h:t<=u)(u1:u<315537897600)(w0:0<=r.u6)(w1:r.u6<=6):l5 r t<=l5 r u:=by have hl:=T7 (r:=r) (t:=t) t0 (by omega) w0 w1;have:=(a2w hl t0 (by omega)).2 (d4D _);exact(a2w hl (by omega) u1).1 (by omega)
def a1d(s:Tm)(r:Rl)(day i0:Int):Nat->Int->List Int
 |0,_=>[]
 |n+1,k=>B4 s r day (i0+k*r.Interval)++a1d s r day i0 n (k+1)
def R8(r:Rl)(c:Int)(l:List Int):List Int:=if 0<r.Count then l.take (r.Count-c).toNat else l
def PT(first tw G6 t:Int):Bool:=decide (first<t/\t<tw/\t<=G6)
def T0{first tw G6 t:Int}:PT first tw G6 t=true↔first<t/\t<tw/\t<=G6:=d4Z
def a6e{r:Rl}{c:Int}:R8 r c []=[]:=by unfold R8;split <;> simp
def c4D{r:Rl}{c:Int}{l:List Int}(h:0<r.Count)(h1:r.Count<=c):R8 r c l=[]:=by unfold R8;rw[if_pos h,show(r.Count-c).toNat=0 by omega,List.take_zero]
def b8G{r:Rl}{c:Int}{l:List Int}(h:¬0<r.Count):R8 r c l=l:=if_neg h
def c0j{r:Rl}{c t:Int}{l:List Int}(h:¬(0<r.Count/\r.Count<=c)):R8 r c (t::l)=t::R8 r (c+1) l:=by
 unfold R8;by_cases hc:0<r.Count
 . rw[if_pos hc,if_pos hc,show(r.Count-c).toNat=(r.Count-(c+1)).toNat+1 by omega,d7F]
 . rw[if_neg hc,if_neg hc]
def c3U{r:Rl}{c:Int}{A B:List Int}:R8 r c (A++B)=R8 r c A++R8 r (c+(R8 r c A).length) B:=by
 unfold R8;by_cases hc:0<r.Count
 . rw[if_pos hc,if_pos hc,if_pos hc,List.take_append,d4I];congr 2;omega
 . rw[if_neg hc,if_neg hc,if_neg hc]
def filter_nil{p:Int->Bool}{l:List Int}(h:∀t∈l,¬p t=true):l.filter p=[]:=List.filter_eq_nil_iff.2 h
def b0i{r:Rl}{first tw G6:Int}:∀{L:List Int}{c:Int},Up L ->
  a3t r first tw G6 c L=(R8 r c (L.filter (PT first tw G6)),c+(R8 r c (L.filter (PT first tw G6))).length)
 |[],c,_=>by rw[d8i,a6e];unfold a3t;simp
 |t::L,c,h=>by
  obtain⟨h1,h2⟩:=d5f.1 h;unfold a3t;by_cases hf:t<=first
  . rw[if_pos hf,d6v (by rw[T0];omega)];exact b0i h2
  rw[if_neg hf];by_cases hb:(tw<=t∨G6<t)∨(0<r.Count/\r.Count<=c)
  . have e:R8 r c ((t::L).filter (PT first tw G6))=[]:=by
      rcases hb with hb|hb
      . rw[filter_nil,a6e];intro u hu;have:t<=u:=by
         rcases d4B.1 hu with rfl|hu
         . exact d4D _
         . exact Int.le_of_lt (h1 u hu)
        rw[T0];omega
      . exact c4D hb.1 hb.2
    rw[if_pos hb,e];simp
  . rw[if_neg hb,d6k (T0.2 (by omega)),c0j (fun hh=>hb (.inr hh)),b0i h2,d4z];refine d7s rfl ?_;show c+1+_=_
    rw[Int.natCast_add];omega
section
variable{s:Tm}{r:Rl}{day first tw G6 i0 k c t:Int}{n:Nat}
def K7(hF:A3 s r):1<=r.Interval:=(q7.1 hF.rr).head.2.2.1
def wk_ok(hF:A3 s r):0<=r.u6/\r.u6<=6:=(q7.1 hF.rr).head.2.2.2.2.2.2
def a0q{a b I:Int}(hI:1<=I)(h:a<=b):a*I<=b*I:=d7z h (by omega)
def mul_succ{a I:Int}:(a+1)*I=a*I+I:=by rw[Int.add_mul,Int.one_mul]
def LoP.at(hl:LoP r (i0+k*r.Interval))(hI:1<=r.Interval){j:Int}(hj:k<=j):LoP r (i0+j*r.Interval):=by have:=a0q hI hj;exact hl.up (by omega)
def a0E:∀{n:Nat}{k:Int},t∈a1d s r day i0 n k↔∃j:Int,k<=j/\j<k+n/\t∈B4 s r day (i0+j*r.Interval)
 |0,k=>by
  unfold a1d;constructor
  . intro h;cases h
  . rintro⟨j,h1,h2,_⟩;omega
 |n+1,k=>by
  unfold a1d;rw[d4J,a0E];constructor
  . rintro(h|⟨j,h1,h2,h3⟩)
    . exact⟨k,by omega,by omega,h⟩
    . exact⟨j,by omega,by omega,h3⟩
  . rintro⟨j,h1,h2,h3⟩;by_cases e:j=k
    . subst e;exact .inl h3
    . exact .inr ⟨j,by omega,by omega,h3⟩
def a1U(hF:A3 s r){i:Int}(hl:LoP r i)(h:t∈B4 s r day i):t<315537897600:=by have:=(W8 hF h).2.2;have:=(X6 (r:=r) (i:=i+1) (by have:=hl.a;omega)).2;omega
def a6g(hF:A3 s r)(hl:LoP r (i0+k*r.Interval))(h:t∈a1d s r day i0 n k):B8 r (i0+k*r.Interval)<=t/\t<B8 r (i0+(k+n)*r.Interval)/\t<315537897600:=by obtain⟨j,h1,h2,h3⟩:=a0E.1 h;have hI:=K7 hF;have a:=a0q hI h1;have b:=a0q hI (show j+1<=k+n by omega);rw[mul_succ]at b;have hj:=hl.at hI h1;have c:=W8 hF h3;have d:=Q2 hl (show i0+k*r.Interval<=i0+j*r.Interval by omega);have e:=Q2 (hj.up (j:=i0+j*r.Interval+1) (by omega)) (show i0+j*r.Interval+1<=i0+(k+n)*r.Interval by omega);have f:=a1U hF hj h3;exact⟨by omega,by omega,f⟩
def b57(hF:A3 s r):∀{n:Nat}{k:Int},LoP r (i0+k*r.Interval)->Up (a1d s r day i0 n k)
 |0,_,_=>List.Pairwise.nil
 |n+1,k,hl=>by have hI:=K7 hF;have h2:LoP r (i0+(k+1)*r.Interval):=hl.at hI (by omega);unfold a1d;refine d6a.2 ⟨b0u hF,b57 hF h2,fun t ht u hu=>?_⟩;have a:=W8 hF ht;have b:=a6g hF h2 hu;have c:=Q2 (hl.up (j:=i0+k*r.Interval+1) (by omega)) (show i0+k*r.Interval+1<=i0+(k+1)*r.Interval by rw[mul_succ];omega);omega
def a0r.up{b b' c':Int}(h:a0r r tw G6 b c)(hb:b<=b')(hc:c<=c'):a0r r tw G6 b' c':=by unfold a0r at h ⊢;omega
def b64(hF:A3 s r):∀{n:Nat}{k c:Int},LoP r (i0+k*r.Interval) ->
  (a30 s r day first tw G6 i0 n k c).1=R8 r c ((a1d s r day i0 n k).filter (PT first tw G6)) /\
  ((a30 s r day first tw G6 i0 n k c).2=true↔¬a0r r tw G6 (B8 r (i0+(k+n)*r.Interval)) (c+(R8 r c ((a1d s r day i0 n k).filter (PT first tw G6))).length))
 |0,k,c,hl=>by
  have e:a1d s r day i0 0 k=[]:=rfl;rw[e,d8i,a6e,show k+((0:Nat):Int)=k by omega,show c+(([]:List Int).length:Int)=c by simp];unfold a30;by_cases he:a0r r tw G6 (B8 r (i0+k*r.Interval)) c
  . rw[if_pos he];exact⟨rfl,fun h=>absurd h d5i,fun h=>absurd he h⟩
  . rw[if_neg he];exact⟨rfl,fun _=>he,fun _=>rfl⟩
 |n+1,k,c,hl=>by
  have hI:=K7 hF;have h2:LoP r (i0+(k+1)*r.Interval):=hl.at hI (by omega);by_cases he:a0r r tw G6 (B8 r (i0+k*r.Interval)) c
  . have e:R8 r c ((a1d s r day i0 (n+1) k).filter (PT first tw G6))=[]:=by
      by_cases hc:0<r.Count/\r.Count<=c
      . exact c4D hc.1 hc.2
      . rw[filter_nil,a6e];intro u hu;have g:=a6g hF hl hu;unfold a0r at he;rw[T0];omega
    have a:=a0q hI (show k<=k+((n+1:Nat):Int) by omega);have m:=Q2 hl (show i0+k*r.Interval<=i0+(k+((n+1:Nat):Int))*r.Interval by omega);rw[e];unfold a30;rw[if_pos he];exact⟨rfl,fun h=>absurd h d5i,fun h=>absurd (he.up m (by show c<=c+((0:Nat):Int);omega)) h⟩
  . have ic:=b0i (r:=r) (first:=first) (tw:=tw) (G6:=G6) (c:=c) (b0u (day:=day) (i:=i0+k*r.Interval) hF);have ih:=b64 hF (n:=n) (k:=k+1) (c:=c+(R8 r c ((B4 s r day (i0+k*r.Interval)).filter (PT first tw G6))).length) h2;have ep:a1d s r day i0 (n+1) k=B4 s r day (i0+k*r.Interval)++a1d s r day i0 n (k+1):=rfl;unfold a30;rw[if_neg he,ic,ep,d6N,c3U,d4o];dsimp only;rw[ih.1];refine⟨rfl,ih.2.trans ?_⟩;have hn:∀a b:Nat,c+((a+b:Nat):Int)=c+a+b:=fun a b=>by omega
    rw[show k+1+(n:Int)=k+((n+1:Nat):Int) by omega,hn]
def X0{fr:Int}(hF:A3 s r)(h0:0<=K8 s r fr) :
  (I5 s r day fr tw).1=(if b8 s<tw then [b8 s]else [])++R8 r 1 ((a1d s r day (l5 r (b8 s)) (40000-K8 s r fr).toNat (K8 s r fr)).filter (PT (b8 s) tw (P0 r))) /\
  ((I5 s r day fr tw).2=true↔¬a0r r tw (P0 r) (B8 r (l5 r (b8 s)+(K8 s r fr+(40000-K8 s r fr).toNat)*r.Interval)) (1+(R8 r 1 ((a1d s r day (l5 r (b8 s)) (40000-K8 s r fr).toNat (K8 s r fr)).filter (PT (b8 s) tw (P0 r)))).length)):=by
 obtain⟨a,b⟩:=y7 hF.rt;have hw:=wk_ok hF;have hl:=T7 (r:=r) a b hw.1 hw.2;have hl:LoP r (l5 r (b8 s)+K8 s r fr*r.Interval):=hl.up (by have:=d5K h0 (show 0<=r.Interval by have:=K7 hF;omega);omega);obtain⟨h1,h2⟩:=b64 (day:=day) (first:=b8 s) (tw:=tw) (G6:=P0 r) hF (n:=(40000-K8 s r fr).toNat) (c:=1) hl;unfold I5;exact⟨by rw[h1],h2⟩
end
def b93:∀{l m:List Int},Up l->Up m->(∀t,t∈l↔t∈m)->l=m
 |[],[],_,_,_=>rfl
 |[],y::m,_,_,h=>absurd ((h y).2 (d5u ..)) (by simp)
 |x::l,[],_,_,h=>absurd ((h x).1 (d5u ..)) (by simp)
 |x::l,y::m,hl,hm,h=>by
  obtain⟨a1,a2⟩:=d5f.1 hl;obtain⟨b1,b2⟩:=d5f.1 hm;have e:x=y:=by
   rcases d4B.1 ((h x).1 (d5u ..))with e|e
   . exact e
   . rcases d4B.1 ((h y).2 (d5u ..))with e2|e2
     . exact e2.symm
     . have:=b1 x e;have:=a1 y e2;omega
  subst e;rw[b93 a2 b2 fun t=>⟨fun ht=>?_,fun ht=>?_⟩]
  . rcases d4B.1 ((h t).1 (d5b _ ht))with e|e
    . subst e;have:=a1 t ht;omega
    . exact e
  . rcases d4B.1 ((h t).2 (d5b _ ht))with e|e
    . subst e;have:=b1 t ht;omega
    . exact e
def geB(x t:Int):Bool:=decide (x<=t)
def ltB(x t:Int):Bool:=decide (t<x)
def a3C{x t:Int}:geB x t=true↔x<=t:=d4Z
def lt_iff{x t:Int}:ltB x t=true↔t<x:=d4Z
def b0G{s a:Tm}:∀{l:List Int},frA s a l=(l.filter (geB (b8 a))).map (fun t=>K3 t s)
 |[]=>rfl
 |t::l=>by
  show(if b8 a<=t then K3 t s::frA s a l else frA s a l)=_
  by_cases h:b8 a<=t
  . rw[if_pos h,d6k (a3C.2 h),b0G];rfl
  . rw[if_neg h,d6v (fun e=>h (a3C.1 e)),b0G]
def b8j{x:Int}:∀{l:List Int},Up l->l=l.filter (ltB x)++l.filter (geB x)
 |[],_=>rfl
 |t::l,h=>by
  obtain⟨a1,a2⟩:=d5f.1 h;by_cases hx:t<x
  . rw[d6k (lt_iff.2 hx),d6v (fun e=>by have:=a3C.1 e;omega),d5N,<- b8j a2]
  . have e:(t::l).filter (ltB x)=[]:=filter_nil fun u hu e=>by
      have:=lt_iff.1 e;rcases d4B.1 hu with rfl|hu
      . exact hx this
      . have:=a1 u hu;omega
    rw[e,d5r,d6Y.2];intro u hu;refine a3C.2 ?_;rcases d4B.1 hu with rfl|hu
    . omega
    . have:=a1 u hu;omega
def b2g{s a:Tm}{l m:List Int}:(frA s a l).length<=(frA s a (l++m)).length:=by rw[a61,d4o];omega
def a9V{s a:Tm}:∀{T y:List Int}{e:Bool},((frA s a (y++T)).length:Int)<=1000->a0t (a4T s a) y T e=(y++T,e)
 |[],y,e,_=>by unfold a0t;rw[d4U]
 |t::T,y,e,h=>by
  have e1:y++t::T=(y++[t])++T:=by simp
  rw[e1]at h ⊢;have:=b2g (s:=s) (a:=a) (l:=y++[t]) (m:=T);have hr:a4T s a y t=true:=d4u (by omega);unfold a0t;rw[hr];exact a9V h
def b2b{s a:Tm}:∀{T y:List Int}{e:Bool},((frA s a y).length:Int)<=1000->1000<((frA s a (y++T)).length:Int)->(a0t (a4T s a) y T e).2=false/\1000<((frA s a (a0t (a4T s a) y T e).1).length:Int)
 |[],y,e,h0,h=>by rw[d4U]at h;omega
 |t::T,y,e,h0,h=>by
  have e1:y++t::T=(y++[t])++T:=by simp
  rw[e1]at h;unfold a0t;by_cases hr:((frA s a (y++[t])).length:Int)<=1000
  . rw[show a4T s a y t=true from d4u hr];exact b2b hr h
  . rw[show a4T s a y t=false from d4F hr];exact⟨rfl,by show 1000<((frA s a (y++[t])).length:Int);omega⟩
abbrev a4Z(s:Tm)(r:Rl)(a b:Tm):List Int×Bool:=I5 s r (w4 s.Day) (b8 a) (b8 b)
structure b6e(s:Tm)(r:Rl)(a b:Tm):Prop where
 bad:¬b7L s r a b
 far:a1p s r (w4 s.Day) (b8 b)=false
 many:(a4Z s r a b).2=false
 few:((frA s a (a4Z s r a b).1).length:Int)<=1000
def b9h{s a b:Tm}{r:Rl}(h:b6e s r a b):L6 s r a b=(frA s a (a4Z s r a b).1,.nil):=by unfold L6 b4b;rw[if_neg h.bad,h.far,if_neg d5i,a9V (T:=(a4Z s r a b).1) (y:=[]) (e:=(a4Z s r a b).2) h.few];unfold b20;rw[h.many,if_neg d5i];exact if_neg (show ¬1000<((frA s a (a4Z s r a b).1).length:Int) by have:=h.few;omega)
def nr2:(l8.no 2).nr=2:=by decide
def nr5:(l8.no 5).nr=5:=by decide
def d2B:(l8.no 16).nr=16:=by decide
def a95{s a b:Tm}{r:Rl}:b6e s r a b∨((L6 s r a b).1=[]/\((L6 s r a b).2.nr=2∨(L6 s r a b).2.nr=5∨(L6 s r a b).2.nr=16)):=by
 by_cases h1:b7L s r a b
 . right;unfold L6;rw[if_pos h1];exact⟨rfl,.inl nr2⟩
 cases h2:a1p s r (w4 s.Day) (b8 b)with
 |true=>right;unfold L6;rw[if_neg h1,h2,if_pos rfl];exact⟨rfl,.inr (.inl nr5)⟩
 |false =>
 by_cases h4:((frA s a (a4Z s r a b).1).length:Int)<=1000
 . cases h3:(a4Z s r a b).2 with
   |true =>
    right;unfold L6 b4b;rw[if_neg h1,h2,if_neg d5i,a9V (T:=(a4Z s r a b).1) (y:=[]) (e:=(a4Z s r a b).2) h4];unfold b20;rw[h3,if_pos rfl];exact⟨rfl,.inr (.inl nr5)⟩
   |false=>exact .inl ⟨h1,h2,h3,h4⟩
 . right;obtain⟨q1,q2⟩:=b2b (s:=s) (a:=a) (T:=(a4Z s r a b).1) (y:=[]) (e:=(a4Z s r a b).2) (show((0:Nat):Int)<=1000 by decide) (by rw[d5r];omega);unfold L6 b4b;rw[if_neg h1,h2,if_neg d5i];unfold b20;rw[q1,if_neg d5i,if_pos q2];exact⟨rfl,.inr (.inr d2B)⟩
def exp_ok{s a b:Tm}{r:Rl}(h:(L6 s r a b).2.nr=0):b6e s r a b:=by
 rcases a95 (s:=s) (r:=r) (a:=a) (b:=b)with e|⟨_,e⟩
 . exact e
 . omega
def b5N{s a b:Tm}{r:Rl}:((L6 s r a b).1.length:Int)<=1000:=by
 rcases a95 (s:=s) (r:=r) (a:=a) (b:=b)with e|⟨e,_⟩
 . rw[b9h e];exact e.few
 . rw[e];decide
def b7r{s a b:Tm}{r:Rl}(h:¬b7L s r a b):A3 s r/\o7 a=true/\o7 b=true:=
 ⟨L7.1 (d4i.1 fun e=>h (.inl (.inl e))),d4i.1 fun e=>h (.inl (.inr e)),d4i.1 fun e=>h (.inr e)⟩
section
variable{s:Tm}{r:Rl}{day first tw G6 i0 k c t m fr:Int}{n:Nat}
def b0L{l:List Int}:(R8 r c l).Sublist l:=by
 unfold R8;split
 . exact List.take_sublist ..
 . exact List.Sublist.refl _
def b5C{x:Int}:∀{l:List Int}{n:Nat},Up l->(l.take n).filter (ltB x)=(l.filter (ltB x)).take n
 |[],n,_=>by simp
 |t::l,0,_=>by simp
 |t::l,n+1,h=>by
  obtain⟨a1,a2⟩:=d5f.1 h;rw[d7F];by_cases hx:t<x
  . rw[d6k (lt_iff.2 hx),d6k (lt_iff.2 hx),d7F,b5C a2]
  . have no:∀u∈l,¬ltB x u=true:=fun u hu e=>by have:=lt_iff.1 e;have:=a1 u hu;omega
    rw[d6v (fun e=>hx (lt_iff.1 e)),d6v (fun e=>hx (lt_iff.1 e)),filter_nil no,filter_nil fun u hu=>no u (d7B hu),List.take_nil]
def c7E{x:Int}{l:List Int}(h:Up l):(R8 r c l).filter (ltB x)=R8 r c (l.filter (ltB x)):=by
 unfold R8;split
 . exact b5C h
 . rfl
def d1Z{l:List Int}(h:m<=tw):(l.filter (PT first tw G6)).filter (ltB m)=l.filter (PT first m G6):=by rw[List.filter_filter];refine d7T fun t _=>?_;rw[d5X,d4k,lt_iff,T0,T0];omega
def c9a{first:Int}(h:m<=tw):(if first<tw then [first]else []).filter (ltB m)=if first<m then [first]else []:=by
 by_cases h1:first<m
 . rw[if_pos h1,if_pos (by omega),d6k (lt_iff.2 h1),d8i]
 . rw[if_neg h1];refine filter_nil fun t ht e=>?_;have e:=lt_iff.1 e;split at ht
   . cases d4q.1 ht;omega
   . cases ht
def W9(hF:A3 s r)(h0:0<=fr):0<=K8 s r fr/\(K8 s r fr=0∨(r.Count=0/\b8 s<fr/\B8 r (l5 r (b8 s)+K8 s r fr*r.Interval)<=fr)):=by
 obtain⟨a,b⟩:=y7 hF.rt;obtain⟨w0,w1⟩:=wk_ok hF;have hI:=K7 hF;have hz:=c4v (s:=s) (r:=r) (fr:=fr) hI (fun x x0 x1=>a4q x0 x1 w0 w1) h0 ⟨a,b⟩;refine⟨hz.1,?_⟩;by_cases hc:r.Count=0/\b8 s<fr
 . by_cases hk:K8 s r fr=0
   . exact .inl hk
   refine .inr ⟨hc.1,hc.2,?_⟩;have h2:K8 s r fr=max 0 ((l5 r (min fr 315537897599)-l5 r (b8 s)).tdiv r.Interval-1):=if_pos hc;have hm:=a0I (r:=r) (t:=b8 s) (u:=min fr 315537897599) a (by omega) (by omega) w0 w1;rw[d4r (by omega)]at h2;have h3:=d8h (l5 r (min fr 315537897599)-l5 r (b8 s)) (show r.Interval≠0 by omega);have h4:((l5 r (min fr 315537897599)-l5 r (b8 s)) / r.Interval-1)*r.Interval=(l5 r (min fr 315537897599)-l5 r (b8 s)) / r.Interval*r.Interval-r.Interval:=by rw[d8j,Int.one_mul]
   have h5:K8 s r fr=(l5 r (min fr 315537897599)-l5 r (b8 s)) / r.Interval-1:=by omega
   have hl:LoP r (l5 r (b8 s)+K8 s r fr*r.Interval):=(T7 (r:=r) a b w0 w1).up (by omega);have:=(a2w hl (t:=min fr 315537897599) (by omega) (by omega)).2 (by rw[h5,h4];omega);omega
 . exact .inl (if_neg hc)
def c3q(hF:A3 s r)(h0:0<=fr)(h:fr<=m):K8 s r fr<=K8 s r m:=by
 obtain⟨a,b⟩:=y7 hF.rt;obtain⟨w0,w1⟩:=wk_ok hF;have hI:=K7 hF;by_cases hc:r.Count=0/\b8 s<fr
 . have h1:K8 s r fr=max 0 ((l5 r (min fr 315537897599)-l5 r (b8 s)).tdiv r.Interval-1):=if_pos hc;have h2:K8 s r m=max 0 ((l5 r (min m 315537897599)-l5 r (b8 s)).tdiv r.Interval-1):=if_pos ⟨hc.1,by omega⟩;have hm:=a0I (r:=r) (t:=b8 s) (u:=min fr 315537897599) a (by omega) (by omega) w0 w1;have hm2:=a0I (r:=r) (t:=min fr 315537897599) (u:=min m 315537897599) (by omega) (by omega) (by omega) w0 w1;rw[d4r (by omega)]at h1 h2;have:=Int.ediv_le_ediv (show 0<r.Interval by omega) (show l5 r (min fr 315537897599)-l5 r (b8 s)<=l5 r (min m 315537897599)-l5 r (b8 s) by omega);omega
 . have h1:K8 s r fr=0:=if_neg hc;have:=(W9 hF (show 0<=m by omega)).1;omega
def a63(hF:A3 s r){k:Int}(h0:0<=k){n:Nat}:Up (a1d s r day (l5 r (b8 s)) n k):=by obtain⟨a,b⟩:=y7 hF.rt;obtain⟨w0,w1⟩:=wk_ok hF;have hI:=K7 hF;exact b57 hF ((T7 (r:=r) a b w0 w1).up (by have:=d5K h0 (show 0<=r.Interval by omega);omega))
def c1m(hF:A3 s r)(h0:0<=fr):Up (I5 s r day fr tw).1:=by
 have hk:=(W9 hF h0).1;rw[(X0 hF hk).1];refine d6a.2 ⟨by split;exact d5Z ..;exact List.Pairwise.nil,((a63 hF hk).filter _).sublist b0L,fun t ht u hu=>?_⟩;have h2:=T0.1 (d4Q.1 (b0L.subset hu)).2;split at ht
 . cases d4q.1 ht;omega
 . cases ht
def c6b(hF:A3 s r)(h0:0<=fr)(hm:m<=tw):(I5 s r day fr m).1=(I5 s r day fr tw).1.filter (ltB m)/\((I5 s r day fr tw).2=false->(I5 s r day fr m).2=false):=by
 have hk:=(W9 hF h0).1;obtain⟨a1,a2⟩:=X0 (day:=day) (tw:=m) hF hk;obtain⟨b1,b2⟩:=X0 (day:=day) (tw:=tw) hF hk;obtain⟨a,b⟩:=y7 hF.rt;obtain⟨w0,w1⟩:=wk_ok hF;have hI:=K7 hF;have hl:LoP r (l5 r (b8 s)+K8 s r fr*r.Interval):=(T7 (r:=r) a b w0 w1).up (by have:=d5K hk (show 0<=r.Interval by omega);omega);have hU:=a63 (day:=day) (n:=(40000-K8 s r fr).toNat) hF hk;have hin:=fun t ht=>a6g (t:=t) (day:=day) (n:=(40000-K8 s r fr).toNat) hF hl ht;rw[a1,b1];generalize a1d s r day (l5 r (b8 s)) (40000-K8 s r fr).toNat (K8 s r fr)=A at *;generalize B8 r (l5 r (b8 s)+(K8 s r fr+(40000-K8 s r fr).toNat)*r.Interval)=bb at *;refine⟨by rw[d6N,c9a hm,c7E (hU.filter _),d1Z hm],fun h=>?_⟩;rw[<- d4W,b2,d4i]at h;rw[<- d4W,a2,d4i];by_cases hb:m<=bb
 . unfold a0r;omega
 . have e:A.filter (PT (b8 s) m (P0 r))=A.filter (PT (b8 s) tw (P0 r)):=d7T fun t ht=>by
     have:=hin t ht;rw[d5X,T0,T0];omega
   rw[e];unfold a0r at h ⊢;omega
def c6f(hF:A3 s r)(h0:0<=fr)(hm:fr<=m):(I5 s r day m tw).1.filter (geB m)=(I5 s r day fr tw).1.filter (geB m)/\((I5 s r day fr tw).2=false->(I5 s r day m tw).2=false):=by
 have hk:=(W9 hF h0).1;obtain⟨hk2,hk3⟩:=W9 (fr:=m) hF (by omega);have hkm:=c3q hF h0 hm;obtain⟨a1,a2⟩:=X0 (day:=day) (tw:=tw) hF hk2;obtain⟨b1,b2⟩:=X0 (day:=day) (tw:=tw) hF hk;obtain⟨a,b⟩:=y7 hF.rt;obtain⟨w0,w1⟩:=wk_ok hF;have hI:=K7 hF;have U1:=a63 (day:=day) (n:=(40000-K8 s r fr).toNat) hF hk;have U2:=a63 (day:=day) (n:=(40000-K8 s r m).toNat) hF hk2;by_cases he:K8 s r m=K8 s r fr
 . rw[he]at a1 a2;refine⟨by rw[a1,b1],fun h=>?_⟩;rw[<- d4W,b2]at h;rw[<- d4W,a2];exact h
 have hc:=hk3.resolve_left (by omega);have nc:¬0<r.Count:=by omega
 have lo:∀j:Int,0<=j->LoP r (l5 r (b8 s)+j*r.Interval):=fun j hj=>(T7 (r:=r) a b w0 w1).up (by have:=d5K hj (show 0<=r.Interval by omega);omega);rw[b8G nc]at a1 b1;refine⟨?_,fun h=>?_⟩
 . rw[a1,b1,d6N,d6N];congr 1;refine b93 ((U2.filter _).filter _) ((U1.filter _).filter _) fun t=>?_;rw[d4Q,d4Q,d4Q,d4Q,a3C,a0E,a0E];have key:m<=t->((∃j:Int,K8 s r m<=j/\j<K8 s r m+(40000-K8 s r m).toNat/\t∈B4 s r day (l5 r (b8 s)+j*r.Interval))↔∃j:Int,K8 s r fr<=j/\j<K8 s r fr+(40000-K8 s r fr).toNat/\t∈B4 s r day (l5 r (b8 s)+j*r.Interval)):=fun hmt=>by
    constructor
    . rintro⟨j,j0,j1,hj⟩;exact⟨j,by omega,by omega,hj⟩
    . rintro⟨j,j0,j1,hj⟩;have hjk:K8 s r m<=j:=by
       rcases d7f j (K8 s r m)with hlt|hge
       . exfalso;have g:=(W8 hF hj).2.2;have u:=a0q hI (show j+1<=K8 s r m by omega);rw[mul_succ]at u;have:=Q2 ((lo j (by omega)).up (j:=l5 r (b8 s)+j*r.Interval+1) (by omega)) (show l5 r (b8 s)+j*r.Interval+1<=l5 r (b8 s)+K8 s r m*r.Interval by omega);omega
       . exact hge
      exact⟨j,hjk,by omega,hj⟩
   constructor
   . rintro⟨⟨h1,h2⟩,h3⟩;exact⟨⟨(key h3).1 h1,h2⟩,h3⟩
   . rintro⟨⟨h1,h2⟩,h3⟩;exact⟨⟨(key h3).2 h1,h2⟩,h3⟩
 . rw[<- d4W,b2,d4i]at h;rw[<- d4W,a2,d4i];have u:=a0q hI (show K8 s r fr+(40000-K8 s r fr).toNat<=K8 s r m+(40000-K8 s r m).toNat by omega);have:=Q2 (lo (K8 s r fr+(40000-K8 s r fr).toNat) (by omega)) (show l5 r (b8 s)+(K8 s r fr+(40000-K8 s r fr).toNat)*r.Interval<=l5 r (b8 s)+(K8 s r m+(40000-K8 s r m).toNat)*r.Interval by omega);unfold a0r at h ⊢;omega
end
def b15:∀{T y:List Int}{e:Bool},a0t (fun _ _=>true) y T e=(y++T,e)
 |[],y,e=>by unfold a0t;rw[d4U]
 |t::T,y,e=>by unfold a0t;rw[d4G,b15];simp
def b5G{res:List Int->Int->Bool}:∀{T y:List Int}{e:Bool},(a0t res y T e).1.length<=y.length+T.length
 |[],y,e=>by unfold a0t;simp
 |t::T,y,e=>by
  unfold a0t;cases res y t with
  |true =>
   have:=b5G (res:=res) (T:=T) (y:=y++[t]) (e:=e);rw[d4o]at this;simp only[d4z,d5s]at this ⊢;rw[d4G];omega
  |false=>simp
def c0g{s:Tm}{r:Rl}{day tw fr:Int}(hF:A3 s r)(h0:0<=fr)(h:a1p s r day tw=false):(I5 s r day fr tw).2=false:=by
 obtain⟨hk,hk1⟩:=W9 hF h0;obtain⟨a,b⟩:=y7 hF.rt;obtain⟨w0,w1⟩:=wk_ok hF;have hI:=K7 hF;have lo:∀j:Int,0<=j->LoP r (l5 r (b8 s)+j*r.Interval):=fun j hj=>(T7 (r:=r) a b w0 w1).up (by have:=d5K hj (show 0<=r.Interval by omega);omega);rw[<- d4W,(X0 (day:=day) (tw:=tw) hF hk).2,d4i];have u:=a0q hI (show 40000<=K8 s r fr+(40000-K8 s r fr).toNat by omega);have hb:=Q2 (lo 40000 (by decide)) (show l5 r (b8 s)+40000*r.Interval<=l5 r (b8 s)+(K8 s r fr+(40000-K8 s r fr).toNat)*r.Interval by omega);obtain⟨g0,g1⟩:=X6 (r:=r) (lo 40000 (by decide)).a;have hin:=fun t ht=>a6g (t:=t) (day:=day) (n:=40000) hF (lo 0 (by decide)) ht;unfold a1p at h;rw[show(0:Int)+((40000:Nat):Int)=40000 by omega]at hin;generalize B8 r (l5 r (b8 s)+40000*r.Interval)=b4 at *;by_cases h1:tw<=b4∨315537897600<=b4
 . unfold a0r;omega
 rw[if_neg h1]at h;by_cases h2:0<(r.e9.length:Int)/\b8 (ix r.e9 0)<b4
 . have e:P0 r=b8 (ix r.e9 0):=if_pos h2.1;unfold a0r;omega
 rw[if_neg h2]at h;by_cases h3:0<r.Count
 . rw[if_pos h3]at h;have hz:K8 s r fr=0:=hk1.resolve_right (by omega);have hz0:K8 s r 0=0:=(W9 hF (show(0:Int)<=0 by decide)).2.resolve_right (by omega);have e1:=(X0 (day:=day) (fr:=0) (tw:=b4) hF (by omega)).1;rw[hz0]at e1;rw[hz];have l1:=b5G (res:=a8q r) (T:=(I5 s r day 0 b4).1) (y:=[]) (e:=(I5 s r day 0 b4).2);unfold c2q at h;generalize a0t (a8q r) [] (I5 s r day 0 b4).1 (I5 s r day 0 b4).2=g at *;have hg:r.Count<=(g.1.length:Int):=by
    by_cases hh:r.Count<=(g.1.length:Int)∨g.2=true
    . rw[if_pos hh]at h;exact hh.resolve_right (by rw[h];decide)
    . rw[if_neg hh]at h;cases h
   rw[e1,d4o]at l1;have l2:(if b8 s<b4 then [b8 s]else []).length<=1:=by split <;> simp
   have e:(a1d s r day (l5 r (b8 s)) (40000-(0:Int)).toNat 0).filter (PT (b8 s) tw (P0 r))=(a1d s r day (l5 r (b8 s)) (40000-(0:Int)).toNat 0).filter (PT (b8 s) b4 (P0 r)):=d7T fun t ht=>by have:=hin t ht;rw[d5X,T0,T0];omega
   rw[e];rw[d5s]at l1;unfold a0r;omega
 . rw[if_neg h3]at h;cases h
def a2v(f:Int)(l:List Int):Int:=l.getLast?.getD f
def a8H{f t:Int}{l:List Int}:a2v f (l++[t])=t:=by unfold a2v;simp
def b6k{f x:Int}:∀{l:List Int},Up l->x∈l->(∀t∈l,t<=x)->a2v f l=x:=fun{l} hu hx hm=>by
 obtain⟨m,y,rfl⟩:∃m y,l=m++[y]:=by
  rcases List.eq_nil_or_concat l with rfl|⟨m,y,rfl⟩
  . cases hx
  . exact⟨m,y,by simp⟩
 rw[a8H];have h1:=hm y (by simp);rcases d4J.1 hx with h|h
 . have:=(d6a.1 hu).2.2 x h y (by simp);omega
 . exact(d4q.1 h).symm
def b0J{s:Tm}(h:a1c s):K3 (b8 s) s=s:=by
 obtain⟨hd,hh,hm,hs,hb⟩:=h;have hn:=Z3 hd;have e:b8 s=Y4 s:=if_pos ⟨hd,hh,hm,hs,hb⟩;have d1:Y4 s / 86400+1=L4 s.Day:=by unfold Y4;omega
 have d2:Y4 s%86400=s.Hour*3600+s.Min*60+s.D5:=by unfold Y4;omega
 rw[e];unfold K3;rw[if_neg,d1,d2,c7H hd]
 . have e1:(s.Hour*3600+s.Min*60+s.D5) / 3600=s.Hour:=by omega
   have e2:(s.Hour*3600+s.Min*60+s.D5) / 60%60=s.Min:=by omega
   have e3:(s.Hour*3600+s.Min*60+s.D5)%60=s.D5:=by omega
   rw[e1,e2,e3]
 . rintro(h|h|h)
   . unfold Y4 at h;omega
   . refine hb ⟨h.1,?_⟩;rcases h.2 with h|h
     . exact .inr h
     . left;omega
   . rw[d1]at h;omega
open Classical in
def Q8(s:Tm)(r:Rl)(a:Tm):Tm×Bool×l8:=
 if ¬G0 s r=true∨¬o7 a=true then(c2L,false,.no 2)else if a1p s r (w4 s.Day) (b8 a+1)=true then(c2L,false,.no 5)
 else if b8 a+1<=b8 s then(c2L,false,.nil)else(K3 (a2v (b8 s) (I5 s r (w4 s.Day) 0 (b8 a+1)).1) s,true,.nil)
open Classical in
def isP(s:Tm)(r:Rl)(t:Tm):Bool×l8:=if(Q8 s r t).2.2=.nil then(decide ((Q8 s r t).2.1=true/\(Q8 s r t).1=t),.nil)else(false,(Q8 s r t).2.2)
def a73(s:Tm)(r:Rl)(t:Tm):(Q8 s r t).2.2=.nil∨∃n,(Q8 s r t).2.2=.no n:=by
 unfold Q8
 (repeat' split)
 . exact .inr ⟨2,rfl⟩
 . exact .inr ⟨5,rfl⟩
 . exact .inl rfl
 . exact .inl rfl
def a6j{s:Tm}{r:Rl}{day tw t:Int}(hF:A3 s r)(hc:¬0<r.Count):t∈(I5 s r day 0 tw).1↔(t=b8 s/\b8 s<tw)∨(b8 s<t/\t<tw/\t<=P0 r)/\∃j:Int,0<=j/\j<40000/\t∈B4 s r day (l5 r (b8 s)+j*r.Interval):=by
 have hz0:K8 s r 0=0:=(W9 hF (show(0:Int)<=0 by decide)).2.resolve_right (by have:=(y7 hF.rt).1;omega);have e1:=(X0 (day:=day) (fr:=0) (tw:=tw) hF (by omega)).1;rw[hz0]at e1;rw[e1,b8G hc,d4J,d4Q,T0,a0E];have e2:t∈(if b8 s<tw then [b8 s]else [])↔t=b8 s/\b8 s<tw:=by
  split
  . rename_i h;rw[d4q];exact⟨fun e=>⟨e,h⟩,fun e=>e.1⟩
  . rename_i h;exact⟨fun e=>(by cases e),fun e=>absurd e.2 h⟩
 rw[e2];constructor
 . rintro(h|⟨⟨j,j0,j1,hj⟩,h⟩)
   . exact .inl h
   . exact .inr ⟨h,j,j0,by omega,hj⟩
 . rintro(h|⟨h,j,j0,j1,hj⟩)
   . exact .inl h
   . exact .inr ⟨⟨j,j0,by omega,hj⟩,h⟩
def d1E{s:Tm}{r:Rl}{day tw t j:Int}(hF:A3 s r)(hc:¬0<r.Count)(h:a1p s r day tw=false)(hj:0<=j)(ht:t∈B4 s r day (l5 r (b8 s)+j*r.Interval))(h1:t<tw)(h2:t<=P0 r):j<40000:=by
 obtain⟨a,b⟩:=y7 hF.rt;obtain⟨w0,w1⟩:=wk_ok hF;have hI:=K7 hF;have lo:∀j:Int,0<=j->LoP r (l5 r (b8 s)+j*r.Interval):=fun j hj=>(T7 (r:=r) a b w0 w1).up (by have:=d5K hj (show 0<=r.Interval by omega);omega);rcases d7f j 40000 with hh|hh
 . exact hh
 exfalso;have u:=a0q hI hh;have hb:=Q2 (lo 40000 (by decide)) (show l5 r (b8 s)+40000*r.Interval<=l5 r (b8 s)+j*r.Interval by omega);have g:=(W8 hF ht).2.1;have e:=a1U hF (lo j hj) ht;unfold a1p at h;generalize B8 r (l5 r (b8 s)+40000*r.Interval)=b4 at *;rw[if_neg (by omega)]at h;by_cases h3:0<(r.e9.length:Int)/\b8 (ix r.e9 0)<b4
 . have e:P0 r=b8 (ix r.e9 0):=if_pos h3.1;omega
 . rw[if_neg h3,if_neg hc]at h;cases h
structure DnI(s:Tm)(r:Rl)(day tl k:Int):Prop where
 a:∀t j:Int,0<=j->k<j->b8 s<t->t<tl->t∈B4 s r day (l5 r (b8 s)+j*r.Interval)->False
structure DcI(L:List Int)(fi tl x:Int):Prop where
 a:∀i:Int,x<i->i<L.length->¬(ix L i<tl/\fi<ix L i)
section
variable{s:Tm}{r:Rl}{day tl k tw:Int}
def DnI.init(hF:A3 s r)(h1:tl<=315537897600):DnI s r day tl ((l5 r (max 0 (tl-1))-l5 r (b8 s)).tdiv r.Interval):=⟨fun t j j0 hk h2 h3 ht=>by obtain⟨a,b⟩:=y7 hF.rt;obtain⟨w0,w1⟩:=wk_ok hF;have hI:=K7 hF;have lo:LoP r (l5 r (b8 s)+j*r.Interval):=(T7 (r:=r) a b w0 w1).up (by have:=d5K j0 (show 0<=r.Interval by omega);omega);have g:=(a2w lo (t:=t) (by omega) (by omega)).1 (W8 hF ht).2.1;have m:=a0I (r:=r) (t:=t) (u:=max 0 (tl-1)) (by omega) (by omega) (by omega) w0 w1;have m2:=a0I (r:=r) (t:=b8 s) (u:=max 0 (tl-1)) a (by omega) (by omega) w0 w1;rw[d4r (by omega)]at hk;have:=Int.le_ediv_of_mul_le (show 0<r.Interval by omega) (show j*r.Interval<=l5 r (max 0 (tl-1))-l5 r (b8 s) by omega);omega⟩
def DnI.step(h:DnI s r day tl k)(hc:DcI (B4 s r day (l5 r (b8 s)+k*r.Interval)) (b8 s) tl (-1)):DnI s r day tl (k-1):=⟨fun t j j0 hk h2 h3 ht=>by
 by_cases e:j=k
 . subst e;obtain⟨i,i0,i1,rfl⟩:=K5 ht;exact hc.a i (by omega) i1 ⟨h3,h2⟩
 . exact h.a t j j0 (by omega) h2 h3 ht⟩
def DnI.found{x:Int}(h:DnI s r day tl k)(hF:A3 s r)(nc:¬0<r.Count)(hf:a1p s r day tw=false)(hto:∀t,t<tl↔t<tw/\t<=P0 r)(k0:0<=k)
  (hc:DcI (B4 s r day (l5 r (b8 s)+k*r.Interval)) (b8 s) tl x) (x0:0<=x) (x1:x<(B4 s r day (l5 r (b8 s)+k*r.Interval)).length) (hx:ix (B4 s r day (l5 r (b8 s)+k*r.Interval)) x<tl/\b8 s<ix (B4 s r day (l5 r (b8 s)+k*r.Interval)) x) :
  a2v (b8 s) (I5 s r day 0 tw).1=ix (B4 s r day (l5 r (b8 s)+k*r.Interval)) x:=by
 obtain⟨a,b⟩:=y7 hF.rt;obtain⟨w0,w1⟩:=wk_ok hF;have hI:=K7 hF;have lo:∀j:Int,0<=j->LoP r (l5 r (b8 s)+j*r.Interval):=fun j hj=>(T7 (r:=r) a b w0 w1).up (by have:=d5K hj (show 0<=r.Interval by omega);omega);have hm:=a1j x0 x1;have ht:=(hto _).1 hx.1;refine b6k (c1m hF (d4D 0)) ((a6j hF nc).2 (.inr ⟨⟨hx.2,ht⟩,k,k0,d1E hF nc hf k0 hm ht.1 ht.2,hm⟩)) fun t h1=>?_;rcases(a6j hF nc).1 h1 with⟨rfl,_⟩|⟨⟨h2,h3⟩,j,j0,_,hj⟩
 . omega
 have h4:=(hto t).2 h3;rcases d6t j k with hl|rfl|hl
 . have g:=(W8 hF hj).2.2;have g2:=(W8 hF hm).2.1;have u:=a0q hI (show j+1<=k by omega);rw[mul_succ]at u;have:=Q2 ((lo j j0).up (j:=l5 r (b8 s)+j*r.Interval+1) (by omega)) (show l5 r (b8 s)+j*r.Interval+1<=l5 r (b8 s)+k*r.Interval by omega);omega
 . obtain⟨i,i0,i1,rfl⟩:=K5 hj;have hix:i<=x:=by
    rcases d7f x i with hh|hh
    . exact absurd ⟨h4,h2⟩ (hc.a i hh i1)
    . exact hh
   by_cases e:i=x
   . subst e;exact d4D _
   . have:=d5q.1 (b0u (day:=day) (i:=l5 r (b8 s)+j*r.Interval) hF) i.toNat x.toNat (by omega) (by omega) (by omega);rw[w8 (by omega),w8 (by omega)];omega
 . exact absurd hj (fun hj=>h.a t j j0 hl h2 h4 hj)
def DnI.none(h:DnI s r day tl k)(hF:A3 s r)(nc:¬0<r.Count)(hto:∀t,t<tl↔t<tw/\t<=P0 r)(h1:b8 s<tw)(hk:¬(0<=k/\b8 s<tl)):a2v (b8 s) (I5 s r day 0 tw).1=b8 s:=by
 refine b6k (c1m hF (d4D 0)) ((a6j hF nc).2 (.inl ⟨rfl,h1⟩)) fun t h1=>?_;rcases(a6j hF nc).1 h1 with⟨rfl,_⟩|⟨⟨h2,h3⟩,j,j0,_,hj⟩
 . exact d4D _
 . have h4:=(hto t).2 h3;exact absurd hj (fun hj=>h.a t j j0 (by omega) h2 h4 hj)
def a29(t:Tm):-1<=b8 t/\b8 t<315537897600:=by
 unfold b8;split
 . rename_i h;have:=a2f h;omega
 . omega
def b8y:O3 .nil=.nil:=by unfold O3;rw[if_neg (by decide)]
end
structure AtP(s:Tm)(u:Int):Prop where
 a:0<=u
 b:u<315537897600
 c:s.n9=true->s.UTC=false/\u%86400=0
structure AtR(s t:Tm)(u:Int):Prop where
 rt:o7 t=true
 se:b8 t=u
 ba:t.n9=s.n9
 ut:t.UTC=s.UTC
def atS_ok{s:Tm}{u:Int}(h:AtP s u):AtR s (K3 u s) u:=by
 obtain⟨a,b,c⟩:=h;have hb:¬(s.n9=true/\(s.UTC=true∨u%86400≠0)):=fun⟨h1,h2⟩=>by
  obtain⟨c1,c2⟩:=c h1;rcases h2 with h2|h2
  . rw[c1]at h2;cases h2
  . exact h2 c2
 have e:K3 u s=⟨A5 (u / 86400+1),u%86400 / 3600,u%86400 / 60%60,u%86400%60,s.n9,s.UTC⟩:=by
  unfold K3;rw[if_neg];rintro(h|h|h)
  . omega
  . exact hb h
  . omega
 obtain⟨d1,d2⟩:=of_ok (n:=u / 86400+1) (by omega) (by omega);have hr:a1c ⟨A5 (u / 86400+1),u%86400 / 3600,u%86400 / 60%60,u%86400%60,s.n9,s.UTC⟩:=by
  refine⟨d1,⟨?_,?_⟩,⟨?_,?_⟩,⟨?_,?_⟩,?_⟩
  . show 0<=u%86400 / 3600;omega
  . show u%86400 / 3600<=23;omega
  . show 0<=u%86400 / 60%60;omega
  . show u%86400 / 60%60<=59;omega
  . show 0<=u%86400%60;omega
  . show u%86400%60<=59;omega
  . rintro⟨h1,h2⟩;have h1:s.n9=true:=h1;obtain⟨c1,c2⟩:=c h1;rcases h2 with((h2|h2)|h2)|h2
    . have h2:u%86400 / 3600≠0:=h2;omega
    . have h2:u%86400 / 60%60≠0:=h2;omega
    . have h2:u%86400%60≠0:=h2;omega
    . have h2:s.UTC=true:=h2;rw[c1]at h2;cases h2
 rw[e];refine⟨A9.2 hr,?_,rfl,rfl⟩;have e2:b8 ⟨A5 (u / 86400+1),u%86400 / 3600,u%86400 / 60%60,u%86400%60,s.n9,s.UTC⟩=Y4 ⟨A5 (u / 86400+1),u%86400 / 3600,u%86400 / 60%60,u%86400%60,s.n9,s.UTC⟩:=if_pos hr;rw[e2];show(L4 (A5 (u / 86400+1))-1)*86400+u%86400 / 3600*3600+u%86400 / 60%60*60+u%86400%60=u
 rw[d2];omega
def b3s{s:Tm}{r:Rl}(hF:A3 s r)(hb:s.n9=true):s.UTC=false/\s.Hour=0/\s.Min=0/\s.D5=0:=by obtain⟨_,_,_,_,h⟩:=A9.1 hF.rt;have h:¬(((s.Hour≠0∨s.Min≠0)∨s.D5≠0)∨s.UTC=true):=fun e=>h ⟨hb,e⟩;refine⟨?_,by omega,by omega,by omega⟩;rw[<- d4W];exact fun e=>h (.inr e)
def b9V{s:Tm}{r:Rl}{c:Int}(hF:A3 s r)(hb:s.n9=true)(h:c∈T5 s r):c=0:=by
 obtain⟨k,m,x,⟨_,h1⟩,⟨_,h2⟩,⟨_,h3⟩,e⟩:=b2j.1 h;obtain⟨_,b1,b2,b3⟩:=b3s hF hb;obtain⟨f,l1,l2,l3⟩:=hF.ba hb;unfold hB at h1;unfold mB at h2;unfold sB at h3;have e1:(k:Int)=0:=by
  rcases d6t (k:Int) 0 with q|q|q
  . omega
  . exact q
  . exact absurd (.inr ⟨⟨l1,by omega⟩,by omega⟩) h1
 have e2:(m:Int)=0:=by
  rcases d6t (m:Int) 0 with q|q|q
  . omega
  . exact q
  . exact absurd (.inr ⟨⟨l2,by omega⟩,by omega⟩) h2
 have e3:(x:Int)=0:=by
  rcases h3 with h3|h3
  . omega
  . rcases h3.2 with q|q
    . omega
    . omega
 omega
section
variable{s:Tm}{r:Rl}{day t u tw fr:Int}
def c1M(hF:A3 s r){i:Int}(hl:LoP r i)(h:t∈B4 s r day i):AtP s t/\l5 r t=i:=by
 obtain⟨⟨_,h2⟩,h3,h4⟩:=W8 hF h;have h5:=a1U hF hl h;have h0:=(X6 (r:=r) hl.a).1;refine⟨⟨by omega,h5,fun hb=>⟨(b3s hF hb).1,b9V hF hb h2⟩⟩,?_⟩;have a:=(a2w hl (t:=t) (by omega) h5).1 h3;have b:¬i+1<=l5 r t:=fun e=>by have:=(a2w (hl.up (j:=i+1) (by omega)) (t:=t) (by omega) h5).2 e;omega
 omega
def c07(hF:A3 s r):AtP s (b8 s):=by obtain⟨a,b⟩:=y7 hF.rt;refine⟨a,b,fun hb=>?_⟩;obtain⟨h0,h1,h2,h3⟩:=b3s hF hb;have e:b8 s=Y4 s:=if_pos (A9.1 hF.rt);refine⟨h0,?_⟩;rw[e];unfold Y4;rw[h1,h2,h3];omega
structure c6g(s:Tm)(r:Rl)(day tw t:Int):Prop where
 a:AtP s t
 b:t<tw
 c:t=b8 s∨b8 s<t/\∃j:Int,0<=j/\t∈B4 s r day (l5 r (b8 s)+j*r.Interval)
def c9c(hF:A3 s r)(h0:0<=fr)(h:t∈(I5 s r day fr tw).1):c6g s r day tw t:=by
 obtain⟨a,b⟩:=y7 hF.rt;obtain⟨w0,w1⟩:=wk_ok hF;have hI:=K7 hF;have lo:∀j:Int,0<=j->LoP r (l5 r (b8 s)+j*r.Interval):=fun j hj=>(T7 (r:=r) a b w0 w1).up (by have:=d5K hj (show 0<=r.Interval by omega);omega);have hk:=(W9 hF h0).1;rw[(X0 (day:=day) (tw:=tw) hF hk).1]at h;rcases d4J.1 h with h|h
 . split at h
   . rename_i hlt;cases d4q.1 h;exact⟨c07 hF,hlt,.inl rfl⟩
   . cases h
 . obtain⟨h1,h2⟩:=d4Q.1 (b0L.subset h);have h2:=T0.1 h2;obtain⟨j,j0,_,hj⟩:=a0E.1 h1;exact⟨(c1M hF (lo j (by omega)) hj).1,h2.2.1,.inr ⟨h2.1,j,by omega,hj⟩⟩
def c6g.ge(h:c6g s r day tw t):b8 s<=t:=by rcases h.c with e|e <;> omega
end
end Go.Re
namespace Go.Proofs.YtapnoejokajcoaaGreatDoor
open Go Go.Wk Go.Wl Go.Rx Go.Re Go.Li Go.Qu 
def a2b:Value:=.iface 177 (.agg #[.pointer (some ⟨4,43,none⟩)])
def Gl:a1l where
 is:=fun Z w=>(Z 0/\Z 1)/\1<w.heap.size/\w.cell? ⟨0,0,none⟩=some a2b/\∃m:Int,w.cell? ⟨1,0,none⟩=some (.int .i64 m)
 H8:=fun{Z Z' B w w'} ⟨⟨z0,z1⟩,hs,he,m,hm⟩ x hB hZ=>by
  have c:∀b o,b<=1->Z b->w'.cell? ⟨b,o,none⟩=w.cell? ⟨b,o,none⟩:=fun b o hb hz=>by unfold World.cell?;rw[x.block b (by omega) (fun hm=>by have:=hB b hm hz;omega)]
  exact⟨⟨hZ 0 z0 (by omega),hZ 1 z1 (by omega)⟩,d5L hs x.size,by rw[c 0 0 (by omega) z0];exact he,m,by rw[c 1 0 (by omega) z1];exact hm⟩
def c7K(t:Nat):Option ((k:Nat)×U.O k):=bif Nat.beq t 257 then some ⟨1,([]:y8)⟩else none
def yoF(x:ClX Tryz.prog)(a:List (SV U)):Option (OR U 0):=match a with|[.int .i64 t]=>some ⟨[ClX.pre x t],[],I0 (ClX.res x t),ClX.put x t⟩|_=>none
def yoC:OC U:=⟨0,yoF⟩
def yoF_ok(x:ClX Tryz.prog)(args:List (SV U))(r:OR U 0)(hr:yoF x args=some r)(ho:p8 r.ob)(D:Nat->Prop)(Z:Nat->Prop)(w:World)(vs:List Value)(b:Nat)(F:List Nat)(hz:∀b,Z b->b<w.heap.size)(hF:∀b∈F,¬Z b)(hob:(obY Tryz.prog b).is Z w x F)(ha:e7 U eT (fun _=>none) D w (.tuple vs.toArray) (.E8 args)) :
  a0m Tryz.prog b vs w (fun v w'=>∃F',(obY Tryz.prog b).is Z w' r.x F'/\b3W w w' F F'/\e7 U eT (fun _=>none) (fun _=>False) w' v r.r/\p8 r.hy):=by
 unfold yoF at hr;split at hr
 . rename_i t;cases hr;obtain⟨v1,vr,rfl,h1,ha⟩:=e7.u7 ha;obtain rfl:=c83 ha;cases h1 with|int hi =>
   exact(x.1.step Z w b F x.2 t hz hF hob ho.1 (hi rfl)).mono fun v w' ⟨e,F',h1,h2⟩=>⟨F',h1,h2,by subst e;exact ClX.bl,trivial⟩
 . cases hr
def E0:Env:={ P:=Tryz.prog,N:=U,T:=eT,ty:=tyU,zob:=c7K,L5:=fun _=>none,T4:=fun _=>false,obc:=fun _=>none,inl:=fun _=>none,G:=Gl,wrc:=fun _=>none,rws:=fun t=>Nat.beq t 234,yl:=some yoC }
def E0_ok:c8 E0:=by
 refine⟨by kernel_rfl,fun t k x h=>by
  have h:c7K t=some ⟨k,x⟩:=h;unfold c7K at h;cases hb:Nat.beq t 257 with
  |false=>rw[hb]at h;cases h
  |true =>
   rw[hb]at h;cases h;have e:=d4m hb;subst e;exact⟨.agg #[.pointer none,.slice none 0 0],by kernel_rfl,fun Z w b ho=>b9D ho⟩,fun K h=>?_,fun K fn h=>?_,fun K f args nx c h=>?_,fun K f args nx c h=>?_,fun K o x args r h=>?_,fun K o a x r h=>?_,fun K h=>?_,fun K o args its r h=>?_,fun K h=>?_,fun K C args its q h=>?_,fun o x args r h hr ho=>?_⟩ <;> first|(cases h;done)|skip
 cases h;exact fun Z D w vs b F hz _ hF hob _ ha=>yoF_ok x args r hr ho D Z w vs b F hz (fun b hb=>(hF b hb).1) hob ha
def U5{ρ:o5}{Z:Nat->Prop}{w:World}{cs:List Value}(h:e7 U eT ρ Z w (.tuple cs.toArray) (.E8 [])):cs=[]:=by generalize e:Value.tuple cs.toArray=u at h;cases h with|L0=>simpa using e
def a4a{w w1 w2:World}{B:List Nat}(hs:F3 w w1)(h:Ext B w1 w2):Ext B w w2:=by obtain⟨k,rfl⟩:=hs;exact⟨h.os,h.tape,h.output,h.size,h.block⟩
def b2x{K:Nat}{args:List (SV U)}{q:Q1 U}(h:∀(D:Nat->Prop)(w:World)(vs:List Value),e7 U eT (fun _=>none) D w (.tuple vs.toArray) (.E8 args)->∃v,(∀w',e7 U eT (fun _=>none) (fun _=>False) w' v q.v)/\p8 q.hy/\∀w1,F3 w w1->Calls Tryz.prog K vs.toArray w1 fun e w'=>e=.returned v/\Ext [] w1 w'):A0 E0 K args ⟨q.ob,q.hy,q.v,[]⟩:=
 fun D w vs _ _ ha w1 hs=>by obtain⟨v,hr,hy,hc⟩:=h D w vs ha;exact(hc w1 hs).mono fun e w2 ⟨h1,h2⟩=>⟨v,w2,h1,F3.refl _,a4a hs h2,hr w2,hy⟩
def b4s(w:World)(o:Obj)(k:Nat)(hk:k<w.heap.size):(w.alloc o).heap[k]?=w.heap[k]? := by
 show(w.heap.push o)[k]?=_
 rw[d6h,if_neg (by omega)]
def a0C{w:World}{B:List Nat}(o:Obj):Ext B w (w.alloc o):=⟨rfl,rfl,rfl,(by show w.heap.size<=(w.heap.push o).size;rw[d6m];omega),fun k hk _=>b4s w o k hk⟩
def CvL(ρ:o5)(Z:Nat->Prop)(w:World):List (SV U)->List (SV U)->Prop
 |[],[]=>True
 |s::r,s'::r'=>(∀v,e7 U eT ρ Z w v s->e7 U eT ρ Z w v s')/\CvL ρ Z w r r'
 |_,_=>False
def N6{ρ:o5}{Z:Nat->Prop}{w:World}:∀(a b:List (SV U)) (v:Value),CvL ρ Z w a b->e7 U eT ρ Z w v (.E8 a)->e7 U eT ρ Z w v (.E8 b)
 |[],[],_,_,h=>h
 |[],_::_,_,hc,_=>hc.elim
 |_::_,[],_,hc,_=>hc.elim
 |s::r,s'::r',v,hc,h=>by
  generalize e:SV.E8 (s::r)=q at h;cases h with
  |I6 ha hr=>cases e;exact .I6 (hc.1 _ ha) (N6 r r' _ hc.2 hr)
  |_=>cases e
def a1i{ρ:o5}{Z:Nat->Prop}{w:World}{v:Value}{ls:List (SV U)}{x:Tm}(e:y26.bk (.agg ls)=some x)(h:e7 U eT ρ Z w v (.agg ls)):e7 U eT ρ Z w v (.agg [.int .i64 x.Day.Year,.int .i64 x.Day.Month,.int .i64 x.Day.Date,.int .i64 x.Hour,.int .i64 x.Min,.int .i64 x.D5,I0 x.n9,I0 x.UTC]):=by obtain⟨cs,rfl,hl⟩:=h.E1;exact y26.sv_ok (y26.bk_ok (s:=.agg ls) hl e)
def a6J{ρ:o5}{Z:Nat->Prop}{w:World}{v:Value}{ls:List (SV U)}{x:Rl}(e:y64.bk (.agg ls)=some x)(h:e7 U eT ρ Z w v (.agg ls)):e7 U eT ρ Z w v (.agg [.int .i64 x.j8,.int .i64 x.Interval,.int .i64 x.Count,.sl (N:=U) 26 x.e9,.sl (N:=U) 3 x.Month,.sl (N:=U) 3 x.p5,.sl (N:=U) 3 x.j9,.sl (N:=U) 3 x.j7,.sl (N:=U) 240 x.w6,.sl (N:=U) 3 x.Hour,.sl (N:=U) 3 x.Minute,.sl (N:=U) 3 x.Second,.sl (N:=U) 3 x.x8,.int .i64 x.u6]):=by obtain⟨cs,rfl,hl⟩:=h.E1;exact y64.sv_ok (y64.bk_ok (s:=.agg ls) hl e)
def F3.cell{w w1:World}(h:F3 w w1)(a:Addr):w1.cell? a=w.cell? a:=by obtain⟨k,rfl⟩:=h;rfl
def P5.b5n{w:World}{b:Nat}{T:TypeId}{cs:List Value}(h:P5 w b T cs)(o:Nat):w.cell? ⟨b,o,none⟩=cs[o]? := by unfold P5 at h;simp[World.cell?,h]
def cIs(a:List (SV U)):Option (Q1 U):=match a with|[.err e,.err (.no n)]=>some ⟨[],[],.bl (e.is n) inferInstance⟩|_=>none
def cIs_ok(args:List (SV U))(q:Q1 U)(h:cIs args=some q)(_:p8 q.ob):A0 E0 33 args ⟨q.ob,q.hy,q.v,[]⟩:=by
 unfold cIs at h;split at h
 . rename_i e n;cases h;refine b2x fun D w vs ha=>⟨.bool (decide (e.is n)),fun _=>.bl,trivial,fun w1 hs=>?_⟩;have same:∀{b:Bool},(Calls Tryz.prog 33 vs.toArray w1 fun e w'=>e=.returned (.bool b)/\w'=w1)->Calls Tryz.prog 33 vs.toArray w1 fun e w'=>e=.returned (.bool b)/\Ext [] w1 w':=fun h=>h.mono fun _ _ ⟨a,b⟩=>⟨a,by subst b;exact Ext.refl _ _⟩;obtain⟨v1,r1,rfl,h1,ha⟩:=e7.u7 ha;obtain⟨v2,r2,rfl,h2,ha⟩:=e7.u7 ha;obtain rfl:=U5 ha;cases h1 with|err h1 =>
   cases h2 with|err h2 =>
   cases h2 with|no hn =>
   cases h1 with
   |nil =>
    have e:decide (l8.is .nil n)=false:=d4F (by simp[l8.is,l8.num]);rw[e];exact same (c6C n w1)
   | @no a ha' =>
    have e:decide (l8.is (.no a) n)=decide (a=n):=d5c.2 (by simp[l8.is,l8.num]);rw[e];exact same (b8l a n w1)
   | @fault b a m hz ho ha' hm h0=>exact absurd rfl h0
   | @w t k s m ht hm hk =>
    obtain⟨rfl,rfl⟩:=c5Y ht;have e:decide (l8.is (.w 205 s (.no m)) n)=decide (m=n):=d5c.2 (by simp[l8.is,l8.num]);rw[e];exact(c2d (sv s) m n w1).mono fun _ _ ⟨a,o,b⟩=>⟨a,by subst b;exact a0C _⟩
   | @p t S b s m ht hz ho hm =>
    have e:decide (l8.is (.p t s m) n)=decide (m=n):=d5c.2 (by simp[l8.is,l8.num]);rw[e];rcases b9T ht with⟨rfl,rfl⟩|⟨rfl,rfl⟩
    . exact same (c3g b m n w1 (by rw[F3.cell hs,P5.b5n ho];rfl))
    . exact same (c3I b m n w1 (by rw[F3.cell hs,P5.b5n ho];rfl))
 . cases h
def b4P{ρ:o5}{Z:Nat->Prop}{w:World}{b:Bool}{p:Prop}{d:Decidable p}(h:b=@decide p d):e7 U eT ρ Z w (.bool b) (.bl p d):=by rw[h];exact .bl
def asB:l8->Bool
 |.nil=>true
 |.no _=>true
 |.p t _ _=>t == 105
 |_=>false
def wAs:WC U:=⟨113,67,fun a x=>match a with|.err e=>some ⟨[asB e=true],[],.bl (e.num.isSome=true) inferInstance,e.num.getD x⟩|_=>none⟩
def wAs_ok(a:SV U)(x:Int)(r:WR U)(h:wAs.C a x=some r)(hob:p8 r.ob):c1w E0 63 wAs a x r:=by
 unfold wAs at h;simp only at h;split at h
 . rename_i e;cases h;have hob:asB e=true:=hob.1;intro D w v b _ _ hg hv ho hx w1 hs;have hs':=hs;obtain⟨k,rfl⟩:=hs';have hg1:{ w with drawn:=k }.cell? ⟨0,0,none⟩=some a2b:=hg.2.2.1;have ht0:{ w with drawn:=k }.cell? ⟨b,0,none⟩=some (.int .i64 x):=by rw[F3.cell hs,P5.b5n ho];rfl
   have hf0:{ w with drawn:=k }.frozen? ⟨b,0,none⟩=false:=by unfold P5 at ho;simp[World.frozen?,ho]
   have hit:∀(m:Int)(W:World),Ext [] { w with drawn:=k } W->P5 (W.setCell ⟨b,0,none⟩ (.int .i64 m)) b 67 [.int .i64 m]/\Ext [b] w (W.setCell ⟨b,0,none⟩ (.int .i64 m)):=fun m W hW=>by have ho1:P5 { w with drawn:=k } b 67 [.int .i64 x]:=ho;have ho2:=ho1.ext hW (by simp);obtain⟨k1,k2,_⟩:=P5.setCell ho2 0 (.int .i64 m);exact⟨k1,a4a hs (hW.trans k2 (fun _ h=>by cases h) (fun _ h=>.inl h))⟩
   have al:∀(W:World)(o1 o2 o3 o4:Obj),Ext [] W ((((W.alloc o1).alloc o2).alloc o3).alloc o4):=fun W o1 o2 o3 o4=>(((a0C (B:=[]) o1).tr (a0C o2)).tr (a0C o3)).tr (a0C o4);cases hv with|err hv =>
   cases hv with
   |nil=>exact d5p (c7o _ _) fun _ w2 ⟨h1,h2⟩=>⟨_,w2,h1,F3.refl _,by subst h2;exact⟨a4a hs (Ext.refl _ _),ho,hx,b4P rfl,trivial⟩⟩
   | @no m hm =>
    refine d5p (c7w m ⟨b,0,none⟩ (.int .i64 x) _ hg1 ht0 hf0) fun _ w2 ⟨h1,h2⟩=>⟨_,w2,h1,F3.refl _,?_⟩;subst h2;obtain⟨k1,k2⟩:=hit m _ (al _ _ _ _ _);exact⟨k2,k1,hm,b4P rfl,trivial⟩
   | @p t S c s m ht hz hc hm =>
    have ht2:t=105:=by simpa[asB]using hob
    rcases b9T ht with⟨_,rfl⟩|⟨e,_⟩
    . subst ht2;refine d5p (b7K c m ⟨b,0,none⟩ (.int .i64 x) _ (by rw[F3.cell hs,P5.b5n hc];rfl) hg1 ht0 hf0) fun _ w2 ⟨h1,h2⟩=>⟨_,w2,h1,F3.refl _,?_⟩;subst h2;obtain⟨k1,k2⟩:=hit m _ (al _ _ _ _ _);exact⟨k2,k1,hm,b4P rfl,trivial⟩
    . omega
   |_=>cases hob
 . cases h
def N0:Env:=(E0.c38 63 wAs).A7 33 cIs
def N0_ok:c8 N0:=(E0_ok.c38 Tryz.call63 wAs_ok).A7 Tryz.call33 cIs_ok
def H0:Nat->Option (GD U):=noH
def H0_ok:∀K o args its S,H0 K=some o->o.C args its=some S->L8 Tryz.prog U eT Gl K args its (2*its.length) S:=noH_ok
def a7g{ρ:o5}{Z:Nat->Prop}{w:World}{v:Value}{ls:List (SV U)}{x:G9}(e:y28.bk (.agg ls)=some x)(h:e7 U eT ρ Z w v (.agg ls)):e7 U eT ρ Z w v (.agg [.int .i64 x.Time.Day.Year,.int .i64 x.Time.Day.Month,.int .i64 x.Time.Day.Date,.int .i64 x.Time.Hour,.int .i64 x.Time.Min,.int .i64 x.Time.D5,I0 x.Time.n9,I0 x.Time.UTC,.str x.I3]):=by obtain⟨cs,rfl,hl⟩:=h.E1;exact y28.sv_ok (y28.bk_ok (s:=.agg ls) hl e)
def b2X{ρ:o5}{Z:Nat->Prop}{w:World}{v:Value}{ls:List (SV U)}{x:Alm}(e:b8U.bk (.agg ls)=some x)(h:e7 U eT ρ Z w v (.agg ls)):e7 U eT ρ Z w v (.agg [.str x.Action,.int .i64 x.S3,.sl (N:=U) 86 x.Extra]):=by obtain⟨cs,rfl,hl⟩:=h.E1;exact b8U.sv_ok (b8U.bk_ok (s:=.agg ls) hl e)
def b1o{ρ:o5}{Z:Nat->Prop}{w:World}{v:Value}{ls:List (SV U)}{x:Obv}(e:b6I.bk (.agg ls)=some x)(h:e7 U eT ρ Z w v (.agg ls)):e7 U eT ρ Z w v (.agg [.str x.Name,.int .i64 x.Start.Day.Year,.int .i64 x.Start.Day.Month,.int .i64 x.Start.Day.Date,.int .i64 x.Start.Hour,.int .i64 x.Start.Min,.int .i64 x.Start.D5,I0 x.Start.n9,I0 x.Start.UTC,.int .i64 x.a8D,.int .i64 x.To,.sl (N:=U) 64 x.b9]):=by obtain⟨cs,rfl,hl⟩:=h.E1;exact b6I.sv_ok (b6I.bk_ok (s:=.agg ls) hl e)
def b3C{ρ:o5}{Z:Nat->Prop}{w:World}{v:Value}{ls:List (SV U)}{x:V5}(e:y92.bk (.agg ls)=some x)(h:e7 U eT ρ Z w v (.agg ls)):e7 U eT ρ Z w v (.agg [.str x.ID,.sl (N:=U) 101 x.D7]):=by obtain⟨cs,rfl,hl⟩:=h.E1;exact y92.sv_ok (y92.bk_ok (s:=.agg ls) hl e)
def a7L{ρ:o5}{Z:Nat->Prop}{w:World}{v:Value}{ls:List (SV U)}{x:E3}(e:y38.bk (.agg ls)=some x)(h:e7 U eT ρ Z w v (.agg ls)):e7 U eT ρ Z w v (.agg [.str x.Kind,.str x.UID,.sl (N:=U) 92 x.c9,.int .i64 x.Main.Start.Time.Day.Year,.int .i64 x.Main.Start.Time.Day.Month,.int .i64 x.Main.Start.Time.Day.Date,.int .i64 x.Main.Start.Time.Hour,.int .i64 x.Main.Start.Time.Min,.int .i64 x.Main.Start.Time.D5,I0 x.Main.Start.Time.n9,I0 x.Main.Start.Time.UTC,.str x.Main.Start.I3,.sl (N:=U) 28 x.Main.End,.sl (N:=U) 3 x.Main.Span,.sl (N:=U) 64 x.Main.b9,.sl (N:=U) 28 x.Main.p4,.sl (N:=U) 28 x.Main.q8,.sl (N:=U) 28 x.Main.p7,.sl (N:=U) 136 x.Main.v7,.sl (N:=U) 86 x.Main.Extra,.sl (N:=U) 35 x.Over,.sl (N:=U) 86 x.Extra]):=by obtain⟨cs,rfl,hl⟩:=h.E1;exact y38.sv_ok (y38.bk_ok (s:=.agg ls) hl e)
def rbo:AR U eT Bool:=rB (E:=E0)
def r28:AR U eT G9:=y28.r (fun _=>⟨_,rfl⟩) (fun _=>rfl)
def d2M:AR U eT Obv:=b6I.r (fun _=>⟨_,rfl⟩) (fun _=>rfl)
def r92:AR U eT V5:=y92.r (fun _=>⟨_,rfl⟩) (fun _=>rfl)
def r35:AR U eT R2:=y35.r (fun _=>⟨_,rfl⟩) (fun _=>rfl)
def r38:AR U eT E3:=y38.r (fun _=>⟨_,rfl⟩) (fun _=>rfl)
def r48:AR U eT Ins:=y48.r (fun _=>⟨_,rfl⟩) (fun _=>rfl)
def r86:AR U eT J8:=y86.r (fun _=>⟨_,rfl⟩) (fun _=>rfl)
def r26:AR U eT Tm:=y26.r (fun _=>⟨_,rfl⟩) (fun _=>rfl)
def r64:AR U eT Rl:=y64.r (fun _=>⟨_,rfl⟩) (fun _=>rfl)
attribute [local irreducible] i7
def d1I:Nat->D1:=fun|92=>⟨42,nn,nn⟩|_=>⟨0,nn,nn⟩
def Vgl(y:Int)(m:Int)(Q:Int->Prop):Prop:=
(bR (y<1∨9999<y) (Q 0) ((bR (m=2) ((4:Int)≠0/\(y.tmod (4:Int)=0->(100:Int)≠0)/\(y.tmod (4:Int)=0/\¬y.tmod (100:Int)≠0->(400:Int)≠0)/\(bR (y.tmod (4:Int)=0/\(y.tmod (100:Int)≠0∨y.tmod (400:Int)=0)) (Q 29) (Q 28))) ((bR (m=1) ((bR (m=1) (Q 31) ((bR (m=4) (Q 30) ((bR (m=6) (Q 30) ((bR (m=9) ((bR (m=9) (Q 30) (Q 0))) ((bR (m=11) (Q 30) (Q 0))))))))))) ((bR (m=3) ((bR (m=3) (Q 31) ((bR (m=4) (Q 30) ((bR (m=6) (Q 30) ((bR (m=9) ((bR (m=9) (Q 30) (Q 0))) ((bR (m=11) (Q 30) (Q 0))))))))))) ((bR (m=5) ((bR (m=5) (Q 31) ((bR (m=4) (Q 30) ((bR (m=6) (Q 30) ((bR (m=9) ((bR (m=9) (Q 30) (Q 0))) ((bR (m=11) (Q 30) (Q 0))))))))))) ((bR (m=7) ((bR (m=7) (Q 31) ((bR (m=4) (Q 30) ((bR (m=6) (Q 30) ((bR (m=9) ((bR (m=9) (Q 30) (Q 0))) ((bR (m=11) (Q 30) (Q 0))))))))))) ((bR (m=8) ((bR (m=8) (Q 31) ((bR (m=4) (Q 30) ((bR (m=6) (Q 30) ((bR (m=9) ((bR (m=9) (Q 30) (Q 0))) ((bR (m=11) (Q 30) (Q 0))))))))))) ((bR (m=10) ((bR (m=10) (Q 31) ((bR (m=4) (Q 30) ((bR (m=6) (Q 30) ((bR (m=9) ((bR (m=9) (Q 30) (Q 0))) ((bR (m=11) (Q 30) (Q 0))))))))))) ((bR (m=12) (Q 31) ((bR (m=4) (Q 30) ((bR (m=6) (Q 30) ((bR (m=9) ((bR (m=9) (Q 30) (Q 0))) ((bR (m=11) (Q 30) (Q 0))))))))))))))))))))))))))
set_option maxHeartbeats 2000000 in
def pgl(y:Int)(m:Int)  : Vgl y m (fun y0=>y0=D6 y m):=by
 unfold Vgl;refine⟨fun h=>by unfold D6;rw[if_pos h],fun h=>?_⟩;have e4:y.tmod 4=y%4:=d4Y (by omega);have e100:y.tmod 100=y%100:=d4Y (by omega);have e400:y.tmod 400=y%400:=d4Y (by omega);rw[e4,e100,e400]
 repeat' (first|intro _|apply And.intro)
 all_goals (first|omega|(unfold D6;(repeat' split) <;> omega))
def cgl(a:List (SV U)):Option (Q1 U):=match a with|[.int .i64 y,.int .i64 m]=>some ⟨[],[],.int .i64 (D6 y m)⟩|_=>none
def Ngl:Env:=N0.A7 92 cgl
def Ngl_ok:c8 Ngl:=N0_ok.A7 Tryz.call92 fun(args:List (SV U)) (q:Q1 U) (h:cgl args=some q) ho=>by
 unfold cgl at h;split at h
 . rename_i y m;cases h;exact H6 (an:=d1I 92) N0_ok (inlHN_ok N0_ok H0_ok d1I 2) Tryz.func92 (k:=.int .i64) (x:=D6 y m) trivial (kc (pgl y m ) (by kernel_rfl)) 0
 . cases h
def c8s:Nat->D1:=fun|136=>⟨16,nn,nn⟩|_=>⟨0,nn,nn⟩
def Vgf(a:Int)(b:Int)(Q:Int->Prop):Prop:=
b≠0/\c6 (a.tdiv b)/\b≠0/\(bR (a.tmod b<0) (c6 (a.tdiv b-1)/\Q (a.tdiv b-1)) (Q (a.tdiv b)))
def b7X(a:Int){b:Int}(h:0<b):a.tdiv b=a / b+(if a.tmod b<0 then 1 else 0)/\True:=by
 refine⟨?_,trivial⟩;have h1:=Int.tdiv_mul_add_tmod a b;have h2:=Int.ediv_mul_add_emod a b;have h3:=Int.emod_nonneg a (show b≠0 by omega);have h4:=Int.emod_lt_of_pos a h;have h5:a.tmod b<b:=Int.tmod_lt_of_pos a h;have h6:-b<a.tmod b:=Int.lt_tmod_of_pos a h;by_cases hc:a.tmod b<0
 . rw[if_pos hc];have e:(a.tdiv b-a / b)*b=a%b-a.tmod b:=by rw[d8j];omega
   have g1:0<(a.tdiv b-a / b)*b:=by omega
   have g2:(a.tdiv b-a / b)*b<2*b:=by omega
   have g3:0<a.tdiv b-a / b:=Int.pos_of_mul_pos_left g1 (by omega);have g4:a.tdiv b-a / b<2:=d6U g2 (by omega);omega
 . rw[if_neg hc];have e:(a.tdiv b-a / b)*b=a%b-a.tmod b:=by rw[d8j];omega
   have g1:-b<(a.tdiv b-a / b)*b:=by omega
   have g2:(a.tdiv b-a / b)*b<b:=by omega
   have g3:-1<a.tdiv b-a / b:=d6U (a:=b) (by omega) (by omega);have g4:a.tdiv b-a / b<1:=d6U (a:=b) (by omega) (by omega);omega
def pgf(a:Int)(b:Int)(h0:0<b)(h1:b<=100000)(h2:c6 (a / b))(h3:c6 (a / b+1)):Vgf a b (fun y0=>y0=a / b):=by
 unfold Vgf;obtain⟨q0,q1⟩:=b7X a h0;have i1:c6 (a.tdiv b):=by
  rw[q0];split
  . exact h3
  . rw[Int.add_zero];exact h2
 refine⟨by omega,i1,by omega,fun h=>?_,fun h=>?_⟩
 . have e:a.tdiv b-1=a / b:=by rw[q0,if_pos h];omega
   rw[e];exact⟨h2,rfl⟩
 . rw[q0,if_neg h];omega
def Ngf:Env:=Ngl.kL 136 (rI.c (rI.c .n)) (.int .i64) (fun y=>[0<y.2.1,y.2.1<=100000,c6 (y.1 / y.2.1),c6 (y.1 / y.2.1+1)]) (fun y=>y.1 / y.2.1)
def Ngf_ok:c8 Ngf:=Ngl_ok.kL Tryz.call136 Tryz.func136 (inlHN_ok Ngl_ok H0_ok c8s 2) (an:=c8s 136) (fun _ _=>trivial) fun y ho=>kc (pgf y.1 y.2.1 ho.1 ho.2.1 ho.2.2.1 ho.2.2.2.1) (by kernel_rfl)
def d1G:Nat->D1:=fun|209=>⟨9,nn,nn⟩|_=>⟨0,nn,nn⟩
def Vgw(n:Int)(Q:Int->Prop):Prop:=
(7:Int)≠0/\c6 (n.tmod (7:Int)+7)/\(7:Int)≠0/\c6 ((n.tmod (7:Int)+7).tmod (7:Int)+6)/\(7:Int)≠0/\Q (((n.tmod (7:Int)+7).tmod (7:Int)+6).tmod 7)
def pgw(n:Int)  : Vgw n (fun y0=>y0=wdS n):=by
 unfold Vgw wdS;have h1:n.tmod 7=n%7∨n.tmod 7=n%7-7/\n%7≠0:=by have h1:=Int.tdiv_mul_add_tmod n 7;have h5:n.tmod 7<7:=Int.tmod_lt_of_pos n (by decide);have h6:-7<n.tmod 7:=Int.lt_tmod_of_pos n (by decide);omega
 have e1:(n.tmod 7+7).tmod 7=(n.tmod 7+7)%7:=d4Y (by omega);have e2:((n.tmod 7+7).tmod 7+6).tmod 7=((n.tmod 7+7).tmod 7+6)%7:=d4Y (by omega);rw[e2,e1];exact⟨by decide,⟨by omega,by omega⟩,by decide,⟨by omega,by omega⟩,by decide,by omega⟩
def Ngw:Env:=Ngf.kL 209 (rI.c .n) (.int .i64) (fun _=>[]) (fun y=>wdS y.1)
def Ngw_ok:c8 Ngw:=Ngf_ok.kL Tryz.call209 Tryz.func209 (inlHN_ok Ngf_ok H0_ok d1G 2) (an:=d1G 209) (fun _ _=>trivial) fun y ho=>kc (pgw y.1 ) (by kernel_rfl)
def d0D:Nat->D1:=fun|135=>⟨74,nn,fun|8=>some ⟨[2],[.slot 0 (.int .i64),.slot 3 (.int .i64),.slot 4 (.int .i64)]⟩|12=>some ⟨[2],[.slot 0 (.int .i64),.slot 3 (.int .i64),.slot 4 (.int .i64),.slot 5 (.int .i64),.slot 6 (.int .i64)]⟩|14=>some ⟨[2],[.slot 0 (.int .i64),.slot 7 (.int .i64),.slot 8 (.int .i64)]⟩|_=>none⟩|_=>⟨0,nn,nn⟩
def b90(n:Int):=bif false then max (((n+305).tmod 146097).tdiv 36524) 3 else min (((n+305).tmod 146097).tdiv 36524) 3
def b94(x:Int):=bif false then max ((x.tmod 1461).tdiv 365) 3 else min ((x.tmod 1461).tdiv 365) 3
def Vgo(n:Int)(Q:Dy->Prop):Prop:=
(bR (n<1∨3652059<n) (Q (Dy.mk 0 0 0)) (c6 (n+305)/\(146097:Int)≠0/\c6 ((n+305).tdiv 146097)/\(146097:Int)≠0/\(36524:Int)≠0/\c6 (((n+305).tmod 146097).tdiv 36524)/\∃(J:Int->Int->Int->Prop),(c6 ((b90 n)*36524)/\c6 ((n+305).tmod (146097:Int)-(b90 n)*36524)/\J ((n+305).tmod (146097:Int)-(b90 n)*36524) ((n+305).tdiv 146097) (b90 n))/\∀(x x_1 x_2:Int),J x x_1 x_2->(1461:Int)≠0/\c6 (x.tdiv 1461)/\(1461:Int)≠0/\(365:Int)≠0/\c6 ((x.tmod 1461).tdiv 365)/\∃(J:Int->Int->Int->Int->Int->Prop),(c6 ((b94 x)*365)/\c6 (x.tmod (1461:Int)-(b94 x)*365)/\J (x.tmod (1461:Int)-(b94 x)*365) x_1 x_2 (x.tdiv 1461) (b94 x))/\∀(x x_3 x_4 x_5 x_6:Int),J x x_3 x_4 x_5 x_6->c6 ((400:Int)*x_3)/\c6 ((100:Int)*x_4)/\c6 ((400:Int)*x_3+100*x_4)/\c6 ((4:Int)*x_5)/\c6 ((400:Int)*x_3+100*x_4+4*x_5)/\c6 ((400:Int)*x_3+100*x_4+4*x_5+x_6)/\∃(J:Int->Int->Int->Prop),(c6 ((5:Int)*x)/\c6 ((5:Int)*x+2)/\(153:Int)≠0/\c6 (((5:Int)*x+2).tdiv 153)/\J x ((400:Int)*x_3+100*x_4+4*x_5+x_6) (((5:Int)*x+2).tdiv 153))/\∀(x x_7 x_8:Int),J x x_7 x_8->c6 ((153:Int)*x_8)/\c6 ((153:Int)*x_8+2)/\(5:Int)≠0/\c6 (((153:Int)*x_8+2).tdiv 5)/\c6 (x-((153:Int)*x_8+2).tdiv 5)/\c6 (x-((153:Int)*x_8+2).tdiv (5:Int)+1)/\c6 (x_8+3)/\(bR (12<x_8+3) (c6 (x_8+3-12)/\c6 (x_7+1)/\Q (Dy.mk (x_7+1) (x_8+3-12) (x-((153:Int)*x_8+2).tdiv (5:Int)+1))) (Q (Dy.mk x_7 (x_8+3) (x-((153:Int)*x_8+2).tdiv (5:Int)+1))))))
set_option maxHeartbeats 2000000 in
def pgo(n:Int)  : Vgo n (fun y0=>y0=A5 n):=by
 unfold Vgo b94 b90;have b0:∀a b:Int,(bif false then max a b else min a b)=min a b:=fun _ _=>rfl;refine⟨fun h=>by unfold A5;rw[if_pos h],fun h=>?_⟩;have eo:A5 n=ofN (n+305):=by unfold A5;rw[if_neg h]
 rw[eo];obtain⟨⟨r1,r2⟩,⟨r3,r4⟩,⟨r5,r6⟩,⟨r7,r8⟩,r9,r10⟩:=d3X (n+305);have hN:0<=n+305/\n+305<=3652364:=by omega
 generalize n+305=N at *;have t1:N.tdiv 146097=N / 146097:=d4r (by omega);have t2:N.tmod 146097=N%146097:=d4Y (by omega);have t3:(N%146097).tdiv 36524=N%146097 / 36524:=d4r (by omega);have t4:(o2 N).tdiv 1461=o2 N / 1461:=d4r (by omega);have t5:(o2 N).tmod 1461=o2 N%1461:=d4Y (by omega);have t6:(o2 N%1461).tdiv 365=o2 N%1461 / 365:=d4r (by omega);have t7:(5*o4 N+2).tdiv 153=(5*o4 N+2) / 153:=d4r (by omega);have t8:(153*om N+2).tdiv 5=(153*om N+2) / 5:=d4r (by omega);rw[t1,t2,t3,b0];refine⟨⟨by omega,by omega⟩,by decide,⟨by omega,by omega⟩,by decide,by decide,⟨by omega,by omega⟩,fun a b c=>a=o2 N/\b=N / 146097/\c=oh N,⟨⟨by omega,by omega⟩,⟨by omega,by omega⟩,rfl,rfl,rfl⟩,?_⟩;rintro _ _ _ ⟨rfl,rfl,rfl⟩;rw[t4,t5,t6,b0];refine⟨by decide,⟨by omega,by omega⟩,by decide,by decide,⟨by omega,by omega⟩,fun a b c d e=>a=o4 N/\b=N / 146097/\c=oh N/\d=o2 N / 1461/\e=oo N,⟨⟨by omega,by omega⟩,⟨by omega,by omega⟩,rfl,rfl,rfl,rfl,rfl⟩,?_⟩;rintro _ _ _ _ _ ⟨rfl,rfl,rfl,rfl,rfl⟩;rw[t7];refine⟨⟨by omega,by omega⟩,⟨by omega,by omega⟩,⟨by omega,by omega⟩,⟨by omega,by omega⟩,⟨by omega,by omega⟩,⟨by omega,by omega⟩,fun a b c=>a=o4 N/\b=oy N/\c=om N,⟨⟨by omega,by omega⟩,⟨by omega,by omega⟩,by decide,⟨by omega,by omega⟩,rfl,rfl,rfl⟩,?_⟩;rintro _ _ _ ⟨rfl,rfl,rfl⟩;have hy:0<=oy N/\oy N<=20000:=by unfold oy;omega
 rw[t8];refine⟨⟨by omega,by omega⟩,⟨by omega,by omega⟩,by decide,⟨by omega,by omega⟩,⟨by omega,by omega⟩,⟨by omega,by omega⟩,⟨by omega,by omega⟩,fun h=>⟨⟨by omega,by omega⟩,⟨by omega,by omega⟩,?_⟩,fun h=>?_⟩
 . unfold ofN;rw[if_pos h]
 . unfold ofN;rw[if_neg h]
def Ngo:Env:=Ngw.kL 135 (rI.c .n) (.val 24) (fun _=>[]) (fun y=>A5 y.1)
def Ngo_ok:c8 Ngo:=Ngw_ok.kL Tryz.call135 Tryz.func135 (inlHN_ok Ngw_ok H0_ok d0D 2) (an:=d0D 135) (fun y ho=>⟨_,_,rfl,rfl,rfl⟩) fun y ho=>kc (pgo y.1 ) (by kernel_rfl)
def d2q:Nat->D1:=fun|51=>⟨16,nn,nn⟩|_=>⟨0,nn,nn⟩
def Vgr(d:Dy)(Q:Bool->Prop):Prop:=
Q (decide (1<=d.Date/\d.Date<=D6 d.Year d.Month))
def pgr(d:Dy)  : Vgr d (fun y0=>y0=D3 d):=by unfold Vgr;rfl
def d3w(d:Dy):Q1 U:=⟨[],[],I0 (D3 d)⟩
def cgr(a:List (SV U)):Option (Q1 U):=match a with|[.agg [.int .i64 d0,.int .i64 d1,.int .i64 d2]]=>some (d3w (⟨d0,d1,d2⟩))|_=>none
def Ngr:Env:=Ngo.A7 51 cgr
def Ngr_ok:c8 Ngr:=Ngo_ok.A7 Tryz.call51 fun(args:List (SV U)) (q:Q1 U) (h:cgr args=some q) ho=>by
 unfold cgr at h;split at h
 . rename_i d0 d1 d2;cases h;exact H6 (an:=d2q 51) Ngo_ok (inlHN_ok Ngo_ok H0_ok d2q 2) Tryz.func51 (k:=.bool) (x:=D3 (⟨d0,d1,d2⟩:Dy)) trivial (kc (pgr (⟨d0,d1,d2⟩) ) (by kernel_rfl)) 0
 . cases h
def c8O:Nat->D1:=fun|94=>⟨33,nn,nn⟩|_=>⟨0,nn,nn⟩
def c6h(y:Int)(m:Int)(d:Int):=(365:Int)*(y-1)+(y-1) / (4:Int)-(y-1) / (100:Int)+(y-1) / (400:Int)+((153:Int)*(m+12-3)+2).tdiv (5:Int)+d-306
def c6r(y:Int)(m:Int)(d:Int):=(365:Int)*y+y / (4:Int)-y / (100:Int)+y / (400:Int)+((153:Int)*(m-3)+2).tdiv (5:Int)+d-306
def Vgc(y:Int)(m:Int)(d:Int)(Q:Int->Prop):Prop:=
(bR (m<3) (c6 (y-1)/\c6 (m+12)/\c6 ((365:Int)*(y-1))/\(0:Int)<4/\(4:Int)<=100000/\c6 ((y-1) / (4:Int))/\c6 ((y-1) / (4:Int)+1)/\c6 ((365:Int)*(y-1)+(y-1) / (4:Int))/\(0:Int)<100/\(100:Int)<=100000/\c6 ((y-1) / (100:Int))/\c6 ((y-1) / (100:Int)+1)/\c6 ((365:Int)*(y-1)+(y-1) / (4:Int)-(y-1) / (100:Int))/\(0:Int)<400/\(400:Int)<=100000/\c6 ((y-1) / (400:Int))/\c6 ((y-1) / (400:Int)+1)/\c6 ((365:Int)*(y-1)+(y-1) / (4:Int)-(y-1) / (100:Int)+(y-1) / (400:Int))/\c6 (m+12-3)/\c6 ((153:Int)*(m+12-3))/\c6 ((153:Int)*(m+12-3)+2)/\(5:Int)≠0/\c6 (((153:Int)*(m+12-3)+2).tdiv 5)/\c6 ((365:Int)*(y-1)+(y-1) / (4:Int)-(y-1) / (100:Int)+(y-1) / (400:Int)+((153:Int)*(m+12-3)+2).tdiv 5)/\c6 ((365:Int)*(y-1)+(y-1) / (4:Int)-(y-1) / (100:Int)+(y-1) / (400:Int)+((153:Int)*(m+12-3)+2).tdiv (5:Int)+d)/\c6 (c6h y m d)/\Q (c6h y m d)) (c6 ((365:Int)*y)/\(0:Int)<4/\(4:Int)<=100000/\c6 (y / (4:Int))/\c6 (y / (4:Int)+1)/\c6 ((365:Int)*y+y / (4:Int))/\(0:Int)<100/\(100:Int)<=100000/\c6 (y / (100:Int))/\c6 (y / (100:Int)+1)/\c6 ((365:Int)*y+y / (4:Int)-y / (100:Int))/\(0:Int)<400/\(400:Int)<=100000/\c6 (y / (400:Int))/\c6 (y / (400:Int)+1)/\c6 ((365:Int)*y+y / (4:Int)-y / (100:Int)+y / (400:Int))/\c6 (m-3)/\c6 ((153:Int)*(m-3))/\c6 ((153:Int)*(m-3)+2)/\(5:Int)≠0/\c6 (((153:Int)*(m-3)+2).tdiv 5)/\c6 ((365:Int)*y+y / (4:Int)-y / (100:Int)+y / (400:Int)+((153:Int)*(m-3)+2).tdiv 5)/\c6 ((365:Int)*y+y / (4:Int)-y / (100:Int)+y / (400:Int)+((153:Int)*(m-3)+2).tdiv (5:Int)+d)/\c6 (c6r y m d)/\Q (c6r y m d)))
set_option maxHeartbeats 2000000 in
def pgc(y:Int)(m:Int)(d:Int)(y0:-100000<=y)(y1:y<=100000)(m0:1<=m)(m1:m<=12)(d0:-100000<=d)(d1:d<=100000):Vgc y m d (fun y0=>y0=I7 y m d):=by
 unfold Vgc c6r c6h I7;have t1:(153*(m+12-3)+2).tdiv 5=(153*(m+12-3)+2) / 5:=d4r (by omega);refine⟨fun h=>?_,fun h=>?_⟩
 . rw[t1,if_pos h]
   repeat' apply And.intro
   all_goals first|rfl|omega
 . have t2:(153*(m-3)+2).tdiv 5=(153*(m-3)+2) / 5:=d4r (by omega);rw[t2,if_neg h]
   repeat' apply And.intro
   all_goals first|rfl|omega
def cgc(a:List (SV U)):Option (Q1 U):=match a with|[.int .i64 y,.int .i64 m,.int .i64 d]=>some ⟨[-100000<=y,y<=100000,1<=m,m<=12,-100000<=d,d<=100000],[],.int .i64 (I7 y m d)⟩|_=>none
def Ngc:Env:=Ngr.A7 94 cgc
def Ngc_ok:c8 Ngc:=Ngr_ok.A7 Tryz.call94 fun(args:List (SV U)) (q:Q1 U) (h:cgc args=some q) ho=>by
 unfold cgc at h;split at h
 . rename_i y m d;cases h;exact H6 (an:=c8O 94) Ngr_ok (inlHN_ok Ngr_ok H0_ok c8O 2) Tryz.func94 (k:=.int .i64) (x:=I7 y m d) trivial (kc (pgc y m d ho.1 ho.2.1 ho.2.2.1 ho.2.2.2.1 ho.2.2.2.2.1 ho.2.2.2.2.2.1) (by kernel_rfl)) 0
 . cases h
def d0s:Nat->D1:=fun|93=>⟨7,nn,nn⟩|_=>⟨0,nn,nn⟩
def Vgt(d:Dy)(Q:l8->Prop):Prop:=
(bR (¬D3 (Dy.mk d.Year d.Month d.Date)=true) (Q (l8.no 3)) (Q l8.nil))
def S5(d:Dy):l8:=if G3 d then .nil else .no 3
def b1Q(d:Dy):S5 d=.nil∨∃n,S5 d=.no n:=by
 unfold S5;split
 . exact .inl rfl
 . exact .inr ⟨3,rfl⟩
def pgt(d:Dy)  : Vgt d (fun y0=>y0=S5 d):=by
 unfold Vgt S5;refine⟨fun h=>?_,fun h=>?_⟩
 . rw[if_neg (fun hr=>h (H7.2 hr))]
 . rw[if_pos (H7.1 (d4i.1 h))]
def d2v(d:Dy):Q1 U:=⟨[],[],.err (S5 d)⟩
def cgt(a:List (SV U)):Option (Q1 U):=match a with|[.agg [.int .i64 d0,.int .i64 d1,.int .i64 d2]]=>some (d2v (⟨d0,d1,d2⟩))|_=>none
def Ngt:Env:=Ngc.A7 93 cgt
def Ngt_ok:c8 Ngt:=Ngc_ok.A7 Tryz.call93 fun(args:List (SV U)) (q:Q1 U) (h:cgt args=some q) ho=>by
 unfold cgt at h;split at h
 . rename_i d0 d1 d2;cases h;exact H6 (an:=d0s 93) Ngc_ok (inlHN_ok Ngc_ok H0_ok d0s 2) Tryz.func93 (k:=.err) (x:=S5 (⟨d0,d1,d2⟩:Dy)) (b1Q _) (kc (pgt (⟨d0,d1,d2⟩) ) (by kernel_rfl)) 0
 . cases h
def d0M:Nat->D1:=fun|53=>⟨14,nn,nn⟩|_=>⟨0,nn,nn⟩
def Vgn(d:Dy)(Q:Int->Prop):Prop:=
(bR ((S5 (Dy.mk d.Year d.Month d.Date)).is 3) (Q 0) ((-100000:Int)<=d.Year/\d.Year<=100000/\1<=d.Month/\d.Month<=12/\(-100000:Int)<=d.Date/\d.Date<=100000/\Q (I7 d.Year d.Month d.Date)))
def b25{d:Dy}:(S5 d).is 3↔¬G3 d:=by
 unfold S5;split
 . rename_i h;exact⟨fun h'=>by simp[l8.is,l8.num]at h',fun h'=>absurd h h'⟩
 . rename_i h;exact⟨fun _=>h,fun _=>rfl⟩
def b26{d:Dy}:S5 d≠l8.nil↔¬G3 d:=by
 unfold S5;split
 . rename_i h;exact⟨fun h'=>absurd rfl h',fun h'=>absurd h h'⟩
 . rename_i h;exact⟨fun _=>h,fun _ h'=>by cases h'⟩
def pgn(d:Dy)  : Vgn d (fun y0=>y0=w4 d):=by
 unfold Vgn w4;refine⟨fun h=>?_,fun h=>?_⟩
 . rw[if_neg (b25.1 h)]
 . have hr:G3 d:=d4i.1 fun hn=>h (b25.2 hn);obtain⟨y0,y1,m0,m1,d0,d1⟩:=hr.ym;rw[if_pos hr];exact⟨by omega,by omega,m0,m1,by omega,by omega,a2L m0 m1⟩
def d3J(d:Dy):Q1 U:=⟨[],[],.int .i64 (w4 d)⟩
def cgn(a:List (SV U)):Option (Q1 U):=match a with|[.agg [.int .i64 d0,.int .i64 d1,.int .i64 d2]]=>some (d3J (⟨d0,d1,d2⟩))|_=>none
def Ngn:Env:=Ngt.A7 53 cgn
def Ngn_ok:c8 Ngn:=Ngt_ok.A7 Tryz.call53 fun(args:List (SV U)) (q:Q1 U) (h:cgn args=some q) ho=>by
 unfold cgn at h;split at h
 . rename_i d0 d1 d2;cases h;exact H6 (an:=d0M 53) Ngt_ok (inlHN_ok Ngt_ok H0_ok d0M 2) Tryz.func53 (k:=.int .i64) (x:=w4 (⟨d0,d1,d2⟩:Dy)) trivial (kc (pgn (⟨d0,d1,d2⟩) ) (by kernel_rfl)) 0
 . cases h
def c9D:Nat->D1:=fun|194=>⟨13,nn,nn⟩|_=>⟨0,nn,nn⟩
def Vgy(d:Dy)(Q:Int->Prop):Prop:=
(bR (S5 (Dy.mk d.Year d.Month d.Date)≠l8.nil) (Q 0) (((-100000:Int)<=d.Year/\d.Year<=100000/\(1:Int)<=1/\(1:Int)<=12/\(-100000:Int)<=1/\(1:Int)<=100000)/\c6 (w4 (Dy.mk d.Year d.Month d.Date)-I7 d.Year 1 1)/\c6 (w4 (Dy.mk d.Year d.Month d.Date)-I7 d.Year 1 (1:Int)+1)/\Q (w4 (Dy.mk d.Year d.Month d.Date)-I7 d.Year 1 (1:Int)+1)))
def pgy(d:Dy)  : Vgy d (fun y0=>y0=ydS d):=by
 unfold Vgy ydS;refine⟨fun h=>?_,fun h=>?_⟩
 . rw[if_neg (b26.1 h)]
 . have hr:G3 d:=d4i.1 fun hn=>h (b26.2 hn);obtain⟨y0,y1,m0,m1,d0,d1⟩:=hr.ym;obtain⟨n0,n1⟩:=Z3 hr;have a0:=E5 (show(0:Int)<=d.Year by omega);have a1:=E5 (show d.Year<=10000 by omega);have a2:u4 0=-366:=by decide
   have a3:u4 10000=3652059:=by decide
   have e:I7 d.Year 1 1=u4 d.Year+1:=by rw[a2L (by decide) (by decide)];unfold S8;rw[if_pos (by decide)];omega
   have en:w4 (Dy.mk d.Year d.Month d.Date)=L4 d:=by
    show w4 d=L4 d
    unfold w4;rw[if_pos hr]
   rw[if_pos hr,e,en];exact⟨⟨by omega,by omega,by decide,by decide,by decide,by decide⟩,⟨by omega,by omega⟩,⟨by omega,by omega⟩,by omega⟩
def d3b(d:Dy):Q1 U:=⟨[],[],.int .i64 (ydS d)⟩
def cgy(a:List (SV U)):Option (Q1 U):=match a with|[.agg [.int .i64 d0,.int .i64 d1,.int .i64 d2]]=>some (d3b (⟨d0,d1,d2⟩))|_=>none
def Ngy:Env:=Ngn.A7 194 cgy
def Ngy_ok:c8 Ngy:=Ngn_ok.A7 Tryz.call194 fun(args:List (SV U)) (q:Q1 U) (h:cgy args=some q) ho=>by
 unfold cgy at h;split at h
 . rename_i d0 d1 d2;cases h;exact H6 (an:=c9D 194) Ngn_ok (inlHN_ok Ngn_ok H0_ok c9D 2) Tryz.func194 (k:=.int .i64) (x:=ydS (⟨d0,d1,d2⟩:Dy)) trivial (kc (pgy (⟨d0,d1,d2⟩) ) (by kernel_rfl)) 0
 . cases h
def c9U:Nat->D1:=fun|206=>⟨16,nn,nn⟩|_=>⟨0,nn,nn⟩
def Vgb(y:Int)(f:Int)(Q:Int->Prop):Prop:=
(-100000:Int)<=y/\y<=100000/\(1:Int)<=1/\(1:Int)<=12/\(-100000:Int)<=4/\(4:Int)<=100000/\c6 (wdS (I7 y 1 4)-f)/\c6 (wdS (I7 y 1 4)-f+7)/\(7:Int)≠0/\c6 (I7 y 1 (4:Int)-(wdS (I7 y 1 4)-f+7).tmod 7)/\Q (I7 y 1 (4:Int)-(wdS (I7 y 1 4)-f+7).tmod 7)
def pgb(y:Int)(f:Int)(y0:0<=y)(y1:y<=10000)(f0:0<=f)(f1:f<=6):Vgb y f (fun y0=>y0=I2 y f):=by
 unfold Vgb I2;have e:I7 y 1 4=u4 y+4:=by rw[a2L (by decide) (by decide)];unfold S8;rw[if_pos (by decide)];omega
 have w0:0<=wdS (u4 y+4)/\wdS (u4 y+4)<=6:=by unfold wdS;omega
 have a0:=E5 (show(0:Int)<=y by omega);have a1:=E5 (show y<=10000 by omega);have a2:u4 0=-366:=by decide
 have a3:u4 10000=3652059:=by decide
 rw[e];generalize wdS (u4 y+4)=w at w0 ⊢;have t:(w-f+7).tmod 7=(w-f+7)%7:=d4Y (by omega);rw[t];refine⟨by omega,by omega,by decide,by decide,by decide,by decide,⟨by omega,by omega⟩,⟨by omega,by omega⟩,by decide,⟨by omega,by omega⟩,rfl⟩
def cgb(a:List (SV U)):Option (Q1 U):=match a with|[.int .i64 y,.int .i64 f]=>some ⟨[0<=y,y<=10000,0<=f,f<=6],[],.int .i64 (I2 y f)⟩|_=>none
def Ngb:Env:=Ngy.A7 206 cgb
def Ngb_ok:c8 Ngb:=Ngy_ok.A7 Tryz.call206 fun(args:List (SV U)) (q:Q1 U) (h:cgb args=some q) ho=>by
 unfold cgb at h;split at h
 . rename_i y f;cases h;exact H6 (an:=c9U 206) Ngy_ok (inlHN_ok Ngy_ok H0_ok c9U 2) Tryz.func206 (k:=.int .i64) (x:=I2 y f) trivial (kc (pgb y f ho.1 ho.2.1 ho.2.2.1 ho.2.2.2.1) (by kernel_rfl)) 0
 . cases h
def d1g:Nat->D1:=fun|192=>⟨49,nn,nn⟩|_=>⟨0,nn,nn⟩
def Vgk(n:Int)(f:Int)(Q:Int->Int->Prop):Prop:=
(bR (((n<1∨3652059<n)∨f<0)∨6<f) (Q 0 0) (c6 ((A5 n).Year+1)/\0<=(A5 n).Year+1/\(A5 n).Year+1<=10000/\0<=f/\f<=6/\(bR (I2 ((A5 n).Year+1) f<=n) (c6 ((A5 n).Year+1)/\0<=(A5 n).Year+1/\(A5 n).Year+1<=10000/\0<=f/\f<=6/\c6 (n-I2 ((A5 n).Year+1) f)/\(7:Int)≠0/\c6 ((n-I2 ((A5 n).Year+1) f).tdiv 7)/\c6 ((n-I2 ((A5 n).Year+1) f).tdiv (7:Int)+1)/\Q ((A5 n).Year+1) ((n-I2 ((A5 n).Year+1) f).tdiv (7:Int)+1)) (0<=(A5 n).Year/\(A5 n).Year<=10000/\0<=f/\f<=6/\(bR (n<I2 (A5 n).Year f) (c6 ((A5 n).Year-1)/\0<=(A5 n).Year-1/\(A5 n).Year-1<=10000/\0<=f/\f<=6/\c6 (n-I2 ((A5 n).Year-1) f)/\(7:Int)≠0/\c6 ((n-I2 ((A5 n).Year-1) f).tdiv 7)/\c6 ((n-I2 ((A5 n).Year-1) f).tdiv (7:Int)+1)/\Q ((A5 n).Year-1) ((n-I2 ((A5 n).Year-1) f).tdiv (7:Int)+1)) (0<=(A5 n).Year/\(A5 n).Year<=10000/\0<=f/\f<=6/\c6 (n-I2 (A5 n).Year f)/\(7:Int)≠0/\c6 ((n-I2 (A5 n).Year f).tdiv 7)/\c6 ((n-I2 (A5 n).Year f).tdiv (7:Int)+1)/\Q (A5 n).Year ((n-I2 (A5 n).Year f).tdiv (7:Int)+1)))))))
set_option maxHeartbeats 2000000 in
def pgk(n:Int)(f:Int)  : Vgk n f (fun y0 y1=>y0=(Q4 n f).1/\y1=(Q4 n f).2):=by
 unfold Vgk Q4;refine⟨fun h=>by rw[if_pos h];exact⟨rfl,rfl⟩,fun h=>?_⟩;rw[if_neg h];obtain⟨hr,hn⟩:=of_ok (n:=n) (by omega) (by omega);obtain⟨y0,y1,_⟩:=hr.ym;have hi:=a3y hr;rw[hn]at hi;unfold wkY;generalize (A5 n).Year=y at *;obtain⟨q0,q1⟩:=a2q (y+1) f;obtain⟨q2,q3⟩:=a2q y f;obtain⟨q4,q5⟩:=a2q (y-1) f;obtain⟨r0,r1⟩:=Q5 (y:=y+1) (by omega) (by omega);obtain⟨r2,r3⟩:=Q5 (y:=y) (by omega) (by omega);obtain⟨r4,r5⟩:=Q5 (y:=y-1) (by omega) (by omega);have hs:=a1u (y-1);rw[show y-1+1=y by omega]at hs;have hs2:u4 (y-1)+365<=u4 y:=by split at hs <;> omega
 refine⟨⟨by omega,by omega⟩,by omega,by omega,by omega,by omega,fun h1=>?_,fun h1=>?_⟩
 . have t:(n-I2 (y+1) f).tdiv 7=(n-I2 (y+1) f) / 7:=d4r (by omega);rw[if_pos h1,t];exact⟨⟨by omega,by omega⟩,by omega,by omega,by omega,by omega,⟨by omega,by omega⟩,by decide,⟨by omega,by omega⟩,⟨by omega,by omega⟩,rfl,rfl⟩
 . rw[if_neg h1];refine⟨by omega,by omega,by omega,by omega,fun h2=>?_,fun h2=>?_⟩
   . have t:(n-I2 (y-1) f).tdiv 7=(n-I2 (y-1) f) / 7:=d4r (by omega);rw[if_pos h2,t];exact⟨⟨by omega,by omega⟩,by omega,by omega,by omega,by omega,⟨by omega,by omega⟩,by decide,⟨by omega,by omega⟩,⟨by omega,by omega⟩,rfl,rfl⟩
   . have t:(n-I2 y f).tdiv 7=(n-I2 y f) / 7:=d4r (by omega);rw[if_neg h2,t];exact⟨by omega,by omega,by omega,by omega,⟨by omega,by omega⟩,by decide,⟨by omega,by omega⟩,⟨by omega,by omega⟩,rfl,rfl⟩
def Ngk:Env:=Ngb.kM 192 (rI.c (rI.c .n)) (.int .i64) (.int .i64) (fun _=>[]) (fun y=>((Q4 y.1 y.2.1).1:Int)) (fun y=>((Q4 y.1 y.2.1).2:Int))
def Ngk_ok:c8 Ngk:=Ngb_ok.kM Tryz.call192 Tryz.func192 (inlHN_ok Ngb_ok H0_ok d1g 2) (an:=d1g 192) (fun _ _=>trivial) (fun _ _=>trivial) fun y ho=>kc (pgk y.1 y.2.1 ) (by kernel_rfl)
def d2f:Nat->D1:=fun|193=>⟨28,nn,nn⟩|_=>⟨0,nn,nn⟩
def Vgm(y:Int)(f:Int)(Q:Int->Prop):Prop:=
(bR (((y<1∨9999<y)∨f<0)∨6<f) (Q 0) (c6 (y+1)/\0<=y+1/\y+1<=10000/\0<=f/\f<=6/\0<=y/\y<=10000/\0<=f/\f<=6/\c6 (I2 (y+1) f-I2 y f)/\(7:Int)≠0/\c6 ((I2 (y+1) f-I2 y f).tdiv 7)/\Q ((I2 (y+1) f-I2 y f).tdiv 7)))
def pgm(y:Int)(f:Int)  : Vgm y f (fun y0=>y0=a03 y f):=by
 unfold Vgm a03;refine⟨fun h=>by rw[if_pos h],fun h=>?_⟩;rw[if_neg h];obtain⟨q0,q1⟩:=a2q (y+1) f;obtain⟨q2,q3⟩:=a2q y f;obtain⟨r0,r1⟩:=Q5 (y:=y+1) (by omega) (by omega);obtain⟨r2,r3⟩:=Q5 (y:=y) (by omega) (by omega);have hs:=a1u y;have hs2:u4 y+365<=u4 (y+1):=by split at hs <;> omega
 have t:(I2 (y+1) f-I2 y f).tdiv 7=(I2 (y+1) f-I2 y f) / 7:=d4r (by omega);rw[t];exact⟨⟨by omega,by omega⟩,by omega,by omega,by omega,by omega,by omega,by omega,by omega,by omega,⟨by omega,by omega⟩,by decide,⟨by omega,by omega⟩,rfl⟩
def cgm(a:List (SV U)):Option (Q1 U):=match a with|[.int .i64 y,.int .i64 f]=>some ⟨[],[],.int .i64 (a03 y f)⟩|_=>none
def Ngm:Env:=Ngk.A7 193 cgm
def Ngm_ok:c8 Ngm:=Ngk_ok.A7 Tryz.call193 fun(args:List (SV U)) (q:Q1 U) (h:cgm args=some q) ho=>by
 unfold cgm at h;split at h
 . rename_i y f;cases h;exact H6 (an:=d2f 193) Ngk_ok (inlHN_ok Ngk_ok H0_ok d2f 2) Tryz.func193 (k:=.int .i64) (x:=a03 y f) trivial (kc (pgm y f ) (by kernel_rfl)) 0
 . cases h
def d2t:Env:=Ngm.z6 52 Tryz.f52
def NI52_ok:c8 d2t:=Ngm_ok.z6 Tryz.call52 Tryz.func52
def d0a:Nat->D1:=fun|24=>⟨42,nn,nn⟩|52=>⟨12,nn,nn⟩|_=>⟨0,nn,nn⟩
def Vwr(t:Tm)(Q:Bool->Prop):Prop:=
(bR (t.n9=true/\(((t.Hour≠0∨t.Min≠0)∨t.D5≠0)∨t.UTC=true)) (Q false) ((bR (D3 (Dy.mk t.Day.Year t.Day.Month t.Day.Date)=true) ((bR (0<=t.Hour/\t.Hour<=23) ((bR (0<=t.Min/\t.Min<=59) (Q (decide (0<=t.D5/\t.D5<=59))) (Q false))) (Q false))) (Q false))))
def pwr(t:Tm)  : Vwr t (fun y0=>y0=o7 t):=by
 unfold Vwr;have e:(Dy.mk t.Day.Year t.Day.Month t.Day.Date)=t.Day:=rfl;rw[e];refine⟨fun h=>?_,fun h=>⟨fun hd=>⟨fun hh=>⟨fun hm=>?_,fun hm=>?_⟩,fun hh=>?_⟩,fun hd=>?_⟩⟩
 . exact(d4F fun hr=>hr.2.2.2.2 h).symm
 . by_cases hs:0<=t.D5/\t.D5<=59
   . rw[d4u hs];exact(d4u ⟨H7.1 hd,hh,hm,hs,h⟩).symm
   . rw[d4F hs];exact(d4F fun hr=>hs hr.2.2.2.1).symm
 . exact(d4F fun hr=>hm hr.2.2.1).symm
 . exact(d4F fun hr=>hh hr.2.1).symm
 . exact(d4F fun hr=>hd (H7.2 hr.1)).symm
def Nwr:Env:=d2t.kL 24 (r26.c .n) (.bool) (fun _=>[]) (fun y=>o7 y.1)
def Nwr_ok:c8 Nwr:=NI52_ok.kL Tryz.call24 Tryz.func24 (inlHN_ok NI52_ok H0_ok d0a 2) (an:=d0a 24) (fun _ _=>trivial) fun y ho=>kc (pwr y.1 ) (by kernel_rfl)
def d1A:Nat->D1:=fun|25=>⟨22,nn,nn⟩|_=>⟨0,nn,nn⟩
def b4o(t:Tm):=w4 (Dy.mk t.Day.Year t.Day.Month t.Day.Date)-1
def Vws(t:Tm)(Q:Int->Prop):Prop:=
(bR (¬o7 (Tm.mk (Dy.mk t.Day.Year t.Day.Month t.Day.Date) t.Hour t.Min t.D5 (decide (t.n9=true)) (decide (t.UTC=true)))=true) (Q (-1:Int)) (c6 (b4o t)/\c6 ((b4o t)*86400)/\c6 (t.Hour*3600)/\c6 ((b4o t)*86400+t.Hour*3600)/\c6 (t.Min*60)/\c6 ((b4o t)*86400+t.Hour*3600+t.Min*60)/\c6 ((b4o t)*86400+t.Hour*3600+t.Min*60+t.D5)/\Q ((b4o t)*86400+t.Hour*3600+t.Min*60+t.D5)))
def pws(t:Tm)  : Vws t (fun y0=>y0=b8 t):=by
 unfold Vws b4o b8;simp only[d4p];refine⟨fun h=>by rw[if_neg (fun hr=>h (A9.2 hr))],fun h=>?_⟩;have hr:a1c t:=A9.1 (d4i.1 h);have hrg:=a2f hr;rw[if_pos hr];obtain⟨hd,hh,hm,hs,_⟩:=hr;obtain⟨n0,n1⟩:=Z3 hd;have en:w4 (Dy.mk t.Day.Year t.Day.Month t.Day.Date)=L4 t.Day:=by
  show w4 t.Day=L4 t.Day
  unfold w4;rw[if_pos hd]
 rw[en];unfold Y4 at *;exact⟨⟨by omega,by omega⟩,⟨by omega,by omega⟩,⟨by omega,by omega⟩,⟨by omega,by omega⟩,⟨by omega,by omega⟩,⟨by omega,by omega⟩,⟨by omega,by omega⟩,rfl⟩
def Nws:Env:=Nwr.kL 25 (r26.c .n) (.int .i64) (fun _=>[]) (fun y=>b8 y.1)
def Nws_ok:c8 Nws:=Nwr_ok.kL Tryz.call25 Tryz.func25 (inlHN_ok Nwr_ok H0_ok d1A 2) (an:=d1A 25) (fun _ _=>trivial) fun y ho=>kc (pws y.1 ) (by kernel_rfl)
def c9y:Nat->D1:=fun|90=>⟨46,nn,nn⟩|_=>⟨0,nn,nn⟩
def b4c(n:Int):=A5 (n.tdiv (86400:Int)+1)
def Vwa(n:Int)(t:Tm)(Q:Tm->Prop):Prop:=
((¬n<0/\t.n9=true)/\¬t.UTC=true->(86400:Int)≠0)/\(bR (n<0∨t.n9=true/\(t.UTC=true∨n.tmod (86400:Int)≠0)) (Q (Tm.mk (Dy.mk 0 0 0) 0 0 0 false false)) ((86400:Int)≠0/\c6 (n.tdiv 86400)/\c6 (n.tdiv (86400:Int)+1)/\(bR ((b4c n).Year=0/\(b4c n).Month=0/\(b4c n).Date=0/\True) (Q (Tm.mk (Dy.mk 0 0 0) 0 0 0 false false)) ((86400:Int)≠0/\(3600:Int)≠0/\c6 ((n.tmod 86400).tdiv 3600)/\(60:Int)≠0/\c6 ((n.tmod 86400).tdiv 60)/\(60:Int)≠0/\(60:Int)≠0/\Q (Tm.mk (Dy.mk (b4c n).Year (b4c n).Month (b4c n).Date) ((n.tmod 86400).tdiv 3600) (((n.tmod 86400).tdiv 60).tmod 60) ((n.tmod 86400).tmod 60) (decide (t.n9=true)) (decide (t.UTC=true)))))))
def pwa(n:Int)(t:Tm)(hn:n<=9000000000000000000):Vwa n t (fun y0=>y0=K3 n t):=by
 unfold Vwa b4c K3;simp only[d4p];refine⟨fun _=>by decide,fun h=>?_,fun h=>?_⟩
 . by_cases h0:n<0
   . rw[if_pos (.inl h0)]
   . have e:n.tmod 86400=n%86400:=d4Y (by omega);rw[e]at h;rw[if_pos (.inr (.inl (h.resolve_left h0)))]
 . have h0:¬n<0:=fun h'=>h (.inl h');have e1:n.tdiv 86400=n / 86400:=d4r (by omega);have e2:n.tmod 86400=n%86400:=d4Y (by omega);have e3:(n%86400).tdiv 3600=n%86400 / 3600:=d4r (by omega);have e4:(n%86400).tdiv 60=n%86400 / 60:=d4r (by omega);have e5:(n%86400 / 60).tmod 60=n%86400 / 60%60:=d4Y (by omega);have e6:(n%86400).tmod 60=n%86400%60:=d4Y (by omega);rw[e2]at h;rw[e1,e2,e3,e4,e5,e6];by_cases hl:3652059<n / 86400+1
   . have eo:A5 (n / 86400+1)=⟨0,0,0⟩:=by unfold A5;rw[if_pos (.inr hl)]
     rw[if_pos (.inr (.inr hl)),eo];exact⟨by decide,⟨by omega,by omega⟩,⟨by omega,by omega⟩,fun _=>rfl,fun hh=>absurd ⟨rfl,rfl,rfl,trivial⟩ hh⟩
   . obtain⟨hr,_⟩:=of_ok (n:=n / 86400+1) (by omega) (by omega);obtain⟨y0,_⟩:=hr.ym
     rw [if_neg (by rintro (h' | h' | h')
                    . exact h0 h'
                    . exact h (.inr h')
                    . exact hl h')]
     exact⟨by decide,⟨by omega,by omega⟩,⟨by omega,by omega⟩,fun hz=>absurd hz.1 (by omega),fun _=>⟨by decide,by decide,⟨by omega,by omega⟩,by decide,⟨by omega,by omega⟩,by decide,by decide,rfl⟩⟩
def Nwa:Env:=Nws.kL 90 (rI.c (r26.c .n)) (.val 26) (fun y=>[y.1<=9000000000000000000]) (fun y=>K3 y.1 y.2.1)
def Nwa_ok:c8 Nwa:=Nws_ok.kL Tryz.call90 Tryz.func90 (inlHN_ok Nws_ok H0_ok c9y 2) (an:=c9y 90) (fun y ho=>⟨_,_,rfl,rfl,rfl⟩) fun y ho=>kc (pwa y.1 y.2.1 ho.1) (by kernel_rfl)
end Go.Proofs.YtapnoejokajcoaaGreatDoor
