/- 45 texts, one behind the other. -/
import Derived.Test.YtapnoejokajcoaaGreatDoorW3
import Derived.Test.YtapnoejokajcoaaGreatDoorW1
import Derived.Lib.SlicesCompact
import Derived.RangeFuncRecord
import Derived.Test.YtapnoejokajcoaaGreatDoorWEr
import Derived.Test.YtapnoejokajcoaaGreatDoorWEs
set_option linter.defProp false
set_option linter.unusedVariables false
set_option linter.unusedSimpArgs false
set_option maxRecDepth 100000
noncomputable section
def d4S:=@Classical.not_not
def d4Z:=@Bool.decide_eq_true
def d5I:=@List.pairwise_cons
def d5L:=@Int.tmod_eq_emod_of_nonneg
def d5N:=@decide_eq_decide
def d5R:=@Bool.false_ne_true
def d5b:=@Int.tdiv_eq_ediv_of_nonneg
def d6L:=@Bool.eq_iff_iff
def d6P:=@List.any_eq_true
def d6T:=@List.drop_eq_nil_of_le
def d6U:=@Array.getElem?_push
def d6Y:=@List.filter_cons_of_pos
def d6b:=@List.length_nil
def d6o:=@Int.mul_nonneg
def d6p:=@List.length_singleton
def d6u:=@List.take_succ_eq_append_getElem
def d7A:=@Iff.rfl
def d7F:=@List.mergeSort_of_pairwise
def d7G:=@Int.lt_of_mul_lt_mul_right
def d7M:=@List.length_set
def d7S:=@Int.tmod_lt_of_pos
def d7U:=@Int.mul_le_mul
def d7a:=@Array.size_push
def d7b:=@Array.getElem?_eq_some_iff
def d7f:=@List.filter_cons_of_neg
def d7g:=@List.getElem_map
def d7s:=@Go.World.putObj_heap_other
def d7v:=@List.map_append
def d7w:=@Nat.not_lt
def d7x:=@List.filter_append
def d7y:=@Go.World.putObj_size
def d7z:=@List.mem_range
def d8A:=@Int.lt_tmod_of_pos
def d8G:=@Bool.eq_false_iff
def d8H:=@List.foldl_append
def d8I:=@List.filter_congr
def d8Q:=@List.ext_getElem
def d8R:=@Nat.le_add_right
def d8X:=@Int.ediv_mul_le
def d8Y:=@List.filter_nil
def d8Z:=@Int.sub_mul
def d8o:=@List.mem_of_mem_take
def d8s:=@List.take_succ_cons
def d8v:=@Bool.and_false
namespace Go.Rx
open Go Go.Wk Go.Wl
structure AR(N:B8)(T:N6)(α:Type) where
 rd:SV N->Option α
 sv:α->SV N
 ok:∀{ρ:p4}{Z:Nat->Prop}{w:World}{v:Value}{s:SV N}{x:α},rd s=some x->e7 N T ρ Z w v s->e7 N T ρ Z w v (sv x)
 pu:∀x,F7 (sv x)=true
structure AL(N:B8)(T:N6)(α:Type) where
 rd:List (SV N)->Option α
 sv:α->List (SV N)
 ok:∀{ρ:p4}{Z:Nat->Prop}{w:World}{v:Value}{s:List (SV N)}{x:α},rd s=some x->e7 N T ρ Z w v (.F5 s)->e7 N T ρ Z w v (.F5 (sv x))
 pu:∀x,(sv x).all F7=true
section
variable{N:B8}{T:N6}{α β:Type}
def AL.n:AL N T Unit where
 rd|[]=>some ()|_=>none
 sv _:=[]
 ok {_ _ _ _ s _} h r:=by cases s with|nil=>exact r|cons=>cases h
 pu _:=rfl
def AR.c(r:AR N T α)(l:AL N T β):AL N T (α×β) where
 rd|s::q=>(r.rd s).bind fun x=>(l.rd q).bind fun y=>some (x,y)|[]=>none
 sv y:=r.sv y.1::l.sv y.2
 ok {ρ Z w v s y} h hr:=by
  cases s with
  |nil=>cases h
  |cons a q =>
   obtain⟨x,h1,h⟩:=d5j.1 h;obtain⟨z,h2,h⟩:=d5j.1 h;cases h;generalize e:SV.F5 (a::q)=u at hr;cases hr with
   |I8 ha hr=>cases e;exact .I8 (r.ok h1 ha) (l.ok h2 hr)
   |_=>cases e
 pu y:=by rw[d6S,r.pu,l.pu];rfl
def rI:AR N T Int where
 rd|.int .i64 x=>some x|_=>none
 sv x:=.int .i64 x
 ok {_ _ _ _ s _} h r:=by
  cases s with
  |int k y=>cases k <;> cases h;exact r
  |_=>cases h
 pu _:=rfl
def rS:AR N T z6 where
 rd|.str x=>some x|_=>none
 sv x:=.str x
 ok {_ _ _ _ s _} h r:=by
  cases s with
  |str y=>cases h;exact r
  |_=>cases h
 pu _:=rfl
def rE:AR N T o6 where
 rd|.err x=>some x|_=>none
 sv x:=.err x
 ok {_ _ _ _ s _} h r:=by
  cases s with
  |err y=>cases h;exact r
  |_=>cases h
 pu _:=rfl
def rY:AR N T UInt8 where
 rd|.byte x=>some x|_=>none
 sv x:=.byte x
 ok {_ _ _ _ s _} h r:=by
  cases s with
  |byte y=>cases h;exact r
  |_=>cases h
 pu _:=rfl
def rL(t:Nat):AR N T (List (N.U t)) where
 rd|.sl t' l=>if h:t'=t then some (h ▸ l)else none|_=>none
 sv x:=.sl t x
 ok {_ _ _ _ s _} h r:=by
  cases s with
  |sl t' l =>
   simp only at h;split at h
   . rename_i e;subst e;cases h;exact r
   . cases h
  |_=>cases h
 pu _:=rfl
def TyI.r{t:Nat}(y:TyI N T t)(h1:∀x,∃l,y.sv x=.agg l)(h2:∀x,F7 (y.sv x)=true):AR N T (N.U t) where
 rd|.agg l=>y.bk (.agg l)|_=>none
 sv:=y.sv
 ok {ρ _ _ _ s x} h r:=by
  cases s with
  |agg l =>
   obtain⟨cs,rfl,hl⟩:=r.E5;obtain⟨q,e1⟩:=h1 x;have:=y.sv_ok (ρ:=ρ) (y.bk_ok (s:=.agg l) hl h);rw[e1]at this ⊢;exact this
  |_=>cases h
 pu:=h2
end
section
variable{E:Env}{A:Type}
def rB:AR E.N E.T Bool where
 rd:=b07
 sv x:=I4 x
 ok h r:=a3M h r
 pu _:=rfl
def Env.kL(E:Env)(K:Nat)(L:AL E.N E.T A)(k:VK)(ob:A->List Prop)(x:A->k.den E.N):Env:=E.B3 K fun args=>(L.rd args).bind fun a=>some ⟨ob a,[],a06 E 0 k (x a)⟩
def Env.kM(E:Env)(K:Nat)(L:AL E.N E.T A)(k1 k2:VK)(ob:A->List Prop)(x1:A->k1.den E.N)(x2:A->k2.den E.N):Env:=E.B3 K fun args=>(L.rd args).bind fun a=>some ⟨ob a,[],.F5 [a06 E 0 k1 (x1 a),a06 E 0 k2 (x2 a)]⟩
def Env.kC(E:Env)(K:Nat)(L:AL E.N E.T A)(k:VK)(ob:A->List Prop)(x:A->k.den E.N):Env:=E.a0K K fun args nx=>(L.rd args).bind fun a=>some ⟨ob a,[],a06 E nx k (x a),a2q E k (x a)⟩
def Env.kD(E:Env)(K:Nat)(L:AL E.N E.T A)(k1 k2:VK)(ob:A->List Prop)(x1:A->k1.den E.N)(x2:A->k2.den E.N):Env:=E.a0K K fun args nx=>(L.rd args).bind fun a=>some ⟨ob a,[],.F5 [a06 E nx k1 (x1 a),a06 E nx k2 (x2 a)],a2q E k1 (x1 a)⟩
def c8.kL(h:c8 E){K:Nat}(hc:a0y E.P K){fn:Func}(hf:E.P.funcs[K]?=some fn){inl:Inl E}(hI:H6 E inl){an:D3}{L:AL E.N E.T A}{k:VK}{ob:A->List Prop}{x:A->k.den E.N}(hb:∀a,q9 (ob a)->bare E k (x a))(hv:∀a,q9 (ob a)->j4 inl an fn (L.sv a) [] [] 0 (a1R E [k] (fun y=>y=x a))):c8 (E.kL K L k ob x):=h.B3 hc fun args q e ho=>by obtain⟨a,h1,h2⟩:=d5j.1 e;cases h2;exact A4.conv (I1 h hI hf (hb a ho) (hv a ho) 0) fun D w vs hr=>L.ok h1 hr
def c8.kM(h:c8 E){K:Nat}(hc:a0y E.P K){fn:Func}(hf:E.P.funcs[K]?=some fn){inl:Inl E}(hI:H6 E inl){an:D3}{L:AL E.N E.T A}{k1 k2:VK}{ob:A->List Prop}{x1:A->k1.den E.N}{x2:A->k2.den E.N}(hb:∀a,q9 (ob a)->bare E k1 (x1 a))(hb2:∀a,q9 (ob a)->bare E k2 (x2 a))(hv:∀a,q9 (ob a)->j4 inl an fn (L.sv a) [] [] 0 (a1R E [k1,k2] (fun y z=>y=x1 a/\z=x2 a))):c8 (E.kM K L k1 k2 ob x1 x2):=h.B3 hc fun args q e ho=>by obtain⟨a,h1,h2⟩:=d5j.1 e;cases h2;exact A4.conv (c4C h hI hf (hb a ho) (hb2 a ho) (hv a ho) 0) fun D w vs hr=>L.ok h1 hr
def c8.kC(h:c8 E){K:Nat}(hc:a0y E.P K){fn:Func}(hf:E.P.funcs[K]?=some fn){inl:Inl E}(hI:H6 E inl){an:D3}{L:AL E.N E.T A}{k:VK}{ob:A->List Prop}{x:A->k.den E.N}(hv:∀a,q9 (ob a)->j4 inl an fn (L.sv a) [] [] 0 (a1R E [k] (fun y=>y=x a))):c8 (E.kC K L k ob x):=h.a0K hc fun args nx c e hp ho=>by obtain⟨a,h1,h2⟩:=d5j.1 e;cases h2;exact P8.a3O (d1d h hI hf (L.pu a) (hv a ho)) fun ρ Z w v hr=>L.ok h1 hr
def c8.kD(h:c8 E){K:Nat}(hc:a0y E.P K){fn:Func}(hf:E.P.funcs[K]?=some fn){inl:Inl E}(hI:H6 E inl){an:D3}{L:AL E.N E.T A}{k1 k2:VK}{ob:A->List Prop}{x1:A->k1.den E.N}{x2:A->k2.den E.N}(h2:∀a,a2q E k2 (x2 a)=[])(hv:∀a,q9 (ob a)->j4 inl an fn (L.sv a) [] [] 0 (a1R E [k1,k2] (fun y z=>y=x1 a/\z=x2 a))):c8 (E.kD K L k1 k2 ob x1 x2):=h.a0K hc fun args nx c e hp ho=>by obtain⟨a,h1,h3⟩:=d5j.1 e;cases h3;exact P8.a3O (c7u h hI hf (h2 a) (L.pu a) (hv a ho)) fun ρ Z w v hr=>L.ok h1 hr
end
end Go.Rx
namespace Go.Re
open Go.Wl
def a5s(a b:Nt):Prop:=a.Day<b.Day∨a.Day=b.Day/\a.N<b.N
instance:∀a b,Decidable (a5s a b):=fun _ _=>inferInstanceAs (Decidable (_∨_))
def a1X(l:List Int):Int:=if(l.length:Int)=0 then 1 else(l.length:Int)
def OkN(lo hi:Int)(b:Bool)(n:Int):Prop:=if(b=true/\n<0)/\-hi<=n then lo<=-n/\-n<=hi else lo<=n/\n<=hi
structure Z7(l:List Int)(lo hi:Int)(b:Bool):Prop where
 ok:∀i:Int,0<=i->i<l.length->OkN lo hi b (ix l i)
 up:∀i:Int,0<i->i<l.length->ix l (i-1)<ix l i
 few:(l.length:Int)<=24
def Y3{α:Type}[Inhabited α]{l:List α}{i:Int}(h0:0<=i)(h1:i<l.length):ix l i∈l:=by
 have h:i.toNat<l.length:=by omega
 rw[s8 h];exact d6j h
def c0f(L:List Int):Bool:=L.all fun n=>decide (n<=60)
def b9u{L:List Int}(h:∀j:Int,0<=j->j<L.length->ix L j<=60):c0f L=true:=d5D.2 fun n hn=>by obtain⟨k,hk,e⟩:=d5w hn;have:=h k (by omega) (by omega);rw[s8 (by omega)]at this;have e:L[(k:Int).toNat]'(by omega)=n:=e;rw[e]at this;exact d5e this
def c2w{L:List Int}{j:Int}(h0:0<=j)(h1:j<L.length)(h:60<ix L j):c0f L=false:=by
 cases e:c0f L with
 |false=>rfl
 |true =>
  have:=d5Q (d5D.1 e _ (Y3 h0 h1));omega
def F9(r:Rl):Bool:=c0f [(r.Month.length:Int),r.q7.length,r.l9.length,r.j9.length,r.w9.length,r.Hour.length,r.Minute.length,r.Second.length,r.y6.length,r.e9.length]
end Go.Re
section
namespace Go.Re
open Go.Wl
open Go.Rx (c6)
def N1(r:Rl):Int:=if r.l6=1 then 5 else if r.l6=0/\(r.q7.length:Int)=0 then 53 else 0
def c0R(m:Int)(d:Nt):Prop:=0<=d.Day/\d.Day<=6/\d.N<=m/\-m<=d.N
def b5O(r:Rl):Prop:=0<=r.l6/\r.l6<=6/\1<=r.Interval/\r.Interval<=9999/\0<=r.Count/\r.Count<=9999/\0<=r.v8/\r.v8<=6
def b9M(r:Rl):Prop:=(r.e9.length:Int)<=1/\((r.e9.length:Int)=1->r.Count<=0/\p9 (ix r.e9 0)=true)
structure b4G(r:Rl):Prop where
 mo:Z7 r.Month 1 12 false
 wn:Z7 r.q7 1 53 true
 yd:Z7 r.l9 1 366 true
 md:Z7 r.j9 1 31 true
 ho:Z7 r.Hour 0 23 false
 mi:Z7 r.Minute 0 59 false
 se:Z7 r.Second 0 59 false
 sp:Z7 r.y6 1 366 true
structure c6b(l:List Nt)(m:Int):Prop where
 ok:∀i:Int,0<=i->i<l.length->c0R m (ix l i)
 up:∀i:Int,0<i->i<l.length->a5s (ix l (i-1)) (ix l i)
def b2l(r:Rl):Prop:=¬(((r.l6≠0/\0<(r.q7.length:Int))∨((1<=r.l6/\r.l6<=3)/\0<(r.l9.length:Int)))∨r.l6=2/\0<(r.j9.length:Int))
def b8Q(r:Rl):Prop:=(0<(r.Month.length:Int)+r.q7.length+r.l9.length+r.j9.length+r.w9.length+r.Hour.length+r.Minute.length+r.Second.length∨(r.y6.length:Int)=0)/\a1X r.Hour*a1X r.Minute*a1X r.Second<=48
structure b49(r:Rl):Prop where
 head:b5O r
 H8:b9M r
 lists:b4G r
 few:(r.w9.length:Int)<=24
 days:c6b r.w9 (N1 r)
 fit:b2l r
 some:b8Q r
open Classical in
def N5(r:Rl):Bool:=decide (b49 r)
open Classical in
def s7{r:Rl}:N5 r=true↔b49 r:=by unfold N5;exact d5M
def x9{r:Rl}(h:¬b49 r):N5 r=false:=by
 cases e:N5 r with
 |true=>exact absurd (s7.1 e) h
 |false=>rfl
def c2q{L:List Int}(h:c0f L=true){n:Int}(hn:n∈L):n<=60:=d5Q (d5D.1 h n hn)
structure d4l(r:Rl):Prop where
 mo:(r.Month.length:Int)<=60
 wn:(r.q7.length:Int)<=60
 yd:(r.l9.length:Int)<=60
 md:(r.j9.length:Int)<=60
 dy:(r.w9.length:Int)<=60
 ho:(r.Hour.length:Int)<=60
 mi:(r.Minute.length:Int)<=60
 se:(r.Second.length:Int)<=60
 sp:(r.y6.length:Int)<=60
 ti:(r.e9.length:Int)<=60
def fewR_ok{r:Rl}(h:F9 r=true):d4l r:=by unfold F9 at h;constructor <;> exact c2q h (by simp)
def a6Z{l:List Int}:(a1X l=1/\(l.length:Int)=0)∨(a1X l=(l.length:Int)/\1<=(l.length:Int)):=by
 unfold a1X;by_cases h:(l.length:Int)=0
 . rw[if_pos h];omega
 . rw[if_neg h];omega
def b95{a b:Int}(h0:1<=a)(h1:a<=3600)(h2:1<=b)(h3:b<=60):1<=a*b/\a*b<=216000:=by
 constructor
 . have:=d7U h0 h2 (by decide) (by omega);omega
 . have:=d7U h1 h3 (by omega) (by decide);omega
def c9H{a b c:Int}(ha:1<=a/\a<=60)(hb:1<=b/\b<=60)(hc:1<=c/\c<=60):c6 (a*b)/\c6 (a*b*c):=by
 have h1:1<=a*b:=by have:=d7U ha.1 hb.1 (by decide) (by omega);omega
 have h2:a*b<=3600:=by have:=d7U ha.2 hb.2 (by omega) (by decide);omega
 have h3:=b95 h1 h2 hc.1 hc.2;exact⟨⟨by omega,by omega⟩,⟨by omega,by omega⟩⟩
structure a1t(l:List Nt)(m:Int)(x:Int):Prop where
 ok:∀i:Int,0<=i->i<x->c0R m (ix l i)
 up:∀i:Int,0<i->i<x->a5s (ix l (i-1)) (ix l i)
def a1t.nil{l:List Nt}{m:Int}:a1t l m 0:=⟨fun i a b=>by omega,fun i a b=>by omega⟩
def a1t.step{l:List Nt}{m x:Int}(h:a1t l m x)(h1:c0R m (ix l x))(h2:0<x->a5s (ix l (x-1)) (ix l x)):a1t l m (x+1):=by
 constructor
 . intro i a b;by_cases e:i=x
   . subst e;exact h1
   . exact h.ok i a (by omega)
 . intro i a b;by_cases e:i=x
   . subst e;exact h2 a
   . exact h.up i a (by omega)
def a1t.done{l:List Nt}{m x:Int}(h:a1t l m x)(hx:¬x<l.length):c6b l m:=⟨fun i a b=>h.ok i a (by omega),fun i a b=>h.up i a (by omega)⟩
end Go.Re
end
section
namespace Go.Re
open Go.Wl
open Go.Rx (c6)
def M4(l:List Int)(n:Int):Bool:=decide (n∈l)
def W3{l:List Int}{n:Int}:M4 l n=true↔n∈l:=by unfold M4;exact d5M
def L6{α:Type}[Inhabited α]{l:List α}{x:α}(h:x∈l):∃i:Int,0<=i/\i<l.length/\ix l i=x:=by obtain⟨k,hk,e⟩:=d5w h;refine⟨k,by omega,by omega,?_⟩;rw[s8 (by omega)];exact e
def b8Y{l:List Int}{n i:Int}(h0:0<=i)(h1:i<l.length)(h:ix l i=n):M4 l n=true:=W3.2 (h ▸ Y3 h0 h1)
def c3b{l:List Int}{n:Int}(h:∀i:Int,0<=i->i<l.length->ix l i≠n):M4 l n=false:=d5q fun hm=>by obtain⟨i,h0,h1,e⟩:=L6 hm;exact h i h0 h1 e
def Q9(a b:List Int):Bool:=decide (a=b)
def c2G{a b:List Int}(hl:a.length=b.length)(h:∀i:Int,0<=i->i<a.length->ix a i=ix b i):a=b:=d8Q hl fun i h1 h2=>by have:=h i (by omega) (by omega);rw[s8 (by omega),s8 (by omega)]at this;exact this
def a3L(l:List Int)(n all:Int):Bool:=M4 l n || M4 l (n-all-1)
def a3q(l:List Int)(n all:Int):Bool:=decide ((l.length:Int)=0) || a3L l n all
def a6z(x y:Int):Int:=if x<y then -1 else if y<x then 1 else 0
def a3N(a b:Nt):Int:=if a6z a.Day b.Day≠0 then a6z a.Day b.Day else a6z a.N b.N
def a7E{a b:Nt}:0<=a3N a b↔¬a5s a b:=by
 unfold a3N a6z a5s;by_cases h1:a.Day<b.Day
 . simp[h1]
 . by_cases h2:b.Day<a.Day
   . simp[h1,h2];omega
   . have e:a.Day=b.Day:=by omega
     by_cases h3:a.N<b.N
     . simp[e,h3]
     . by_cases h4:b.N<a.N
       . simp[e,h3,h4]
       . simp[e,h3,h4]
open Classical in
def c15(r:Rl):Bool:=decide (b2l r)
open Classical in
def c4N{r:Rl}(h:b2l r):true=c15 r:=(d5e h).symm
open Classical in
def c60{r:Rl}(h:¬b2l r):false=c15 r:=(d5q h).symm
def O1(l:List Int):List Int:=Lib.compact (srt l)
def UpL(l:List Int):Prop:=∀i:Int,0<i->i<l.length->ix l (i-1)<ix l i
def b1L{l:List Int}(h:UpL l):∀(j i:Nat)(hi:i<j)(hj:j<l.length),l[i]'(by omega)<l[j]:=by
 intro j
 induction j with
 |zero=>intro i hi;omega
 |succ j ih =>
  intro i hi hj;have h1:=h (j+1:Nat) (by omega) (by omega);have e:((j+1:Nat):Int)-1=(j:Int):=by omega
  rw[e,s8 (by omega),s8 (by omega)]at h1;have h1:l[j]<l[j+1]:=h1;by_cases e:i=j
  . subst e;exact h1
  . have:=ih i (by omega) (by omega);omega
def compact_all{l:List Int}(h:∀j,j<l.length->Lib.keeps l.toArray j=true):Lib.compact l=l:=by
 unfold Lib.compact Lib.compactUpTo;rw[d7I.2 fun j hj=>h j (d7z.1 hj)];apply d8Q
 . simp
 . intro i h1 h2;simp[h2]
def b0b{l:List Int}(h:(Lib.compact l).length=l.length):∀j,j<l.length->Lib.keeps l.toArray j=true:=by
 unfold Lib.compact Lib.compactUpTo at h;rw[d6h]at h;have h2:((List.range l.length).filter (Lib.keeps l.toArray)).length=(List.range l.length).length:=by rw[h,List.length_range]
 have:=List.length_filter_eq_length_iff.1 h2;exact fun j hj=>this j (d7z.2 hj)
def a9K{l:List Int}{j:Nat}(hj:j<l.length):Lib.keeps l.toArray j=true↔(j=0∨ix l ((j:Int)-1)≠ix l j):=by
 unfold Lib.keeps;by_cases h0:j=0
 . subst h0;simp
 . have e1:l.toArray[j]! = ix l j:=by
     rw[s8 (by omega)];simp[hj]
   have e2:l.toArray[j-1]! = ix l ((j:Int)-1):=by
    rw[s8 (by omega)];have:((j:Int)-1).toNat=j-1:=by omega
    simp only[this];have hj1:j-1<l.length:=by omega
    simp[hj1]
   rw[e1,e2,d5M];exact⟨fun h=>h.imp id fun h e=>h e.symm,fun h=>h.imp id fun h e=>h e.symm⟩
def c0p{l:List Int}(h:UpL l):srt l=l:=by unfold srt;apply d7F;rw[d5H];intro i j hi hj hij;have:=b1L h j i hij hj;exact d5e (by omega)
def a7u{l:List Int}:l=O1 l↔UpL l:=by
 constructor
 . intro h;have hlen:(Lib.compact (srt l)).length=(srt l).length:=by
    rw[a2M];exact congrArg List.length h.symm
   have hk:=b0b hlen;have hs:srt l=l:=by have:=compact_all hk;unfold O1 at h;rw[this]at h;exact h.symm
   rw[hs]at hk;have hp:=c8m l;rw[hs]at hp;intro i h0 h1;have k1:=(a9K (l:=l) (j:=i.toNat) (by omega)).1 (hk i.toNat (by omega));have e:((i.toNat:Nat):Int)=i:=by omega
   rw[e]at k1;have k2:ix l (i-1)<=ix l i:=by rw[s8 (by omega),s8 (by omega)];exact d5H.1 hp _ _ (by omega) (by omega) (by omega)
   rcases k1 with k1|k1
   . omega
   . omega
 . intro h;unfold O1;rw[c0p h,compact_all];intro j hj;refine(a9K hj).2 ?_;by_cases h0:j=0
   . exact .inl h0
   . right;have:=h j (by omega) (by omega);omega
end Go.Re
end
namespace Go.Re
open Go Go.Wk Go.Wl Go.Rx
def b3p(lo hi:Int)(b:Bool)(n:Int):Prop:=(lo<=n/\n<=hi)∨(b=true/\n<=-lo)/\-hi<=n
instance (lo hi:Int) (b:Bool) (n:Int):Decidable (b3p lo hi b n):=by unfold b3p;infer_instance
def a1B(l:List Int)(lo hi:Int)(b:Bool):Bool:=l.any fun n=>decide (¬b3p lo hi b n)
def b3a{l:List Int}{lo hi:Int}{b:Bool}{i:Int}(h0:0<=i)(h1:i<l.length)(h:¬b3p lo hi b (ix l i)):a1B l lo hi b=true:=d6P.2 ⟨_,Y3 h0 h1,d5e h⟩
def b5R{l:List Int}{lo hi:Int}{b:Bool}(h:∀i:Int,0<=i->i<l.length->b3p lo hi b (ix l i)):a1B l lo hi b=false:=by
 cases hb:a1B l lo hi b with
 |false=>rfl
 |true =>
  obtain⟨n,hn,hd⟩:=d6P.1 hb;obtain⟨i,h0,h1,rfl⟩:=L6 hn;exact absurd (h i h0 h1) (d5Q hd)
def may_ok{lo hi:Int}{b:Bool}{n:Int}(h0:0<=lo):b3p lo hi b n↔OkN lo hi b n:=by
 unfold b3p OkN;cases b with
 |false=>simp
 |true =>
  simp only[true_and];split <;> constructor <;> intro h <;> omega
def b2x{l:List Int}{lo hi:Int}{b:Bool}(h0:0<=lo):Z7 l lo hi b↔((l.length:Int)<=24/\l=O1 l)/\a1B l lo hi b=false:=by
 constructor
 . intro h;exact⟨⟨h.few,a7u.2 h.up⟩,b5R fun i a c=>(may_ok h0).2 (h.ok i a c)⟩
 . rintro⟨⟨h1,h2⟩,h3⟩;refine⟨fun i a c=>(may_ok h0).1 (d4S.1 fun hn=>?_),a7u.1 h2,h1⟩;rw[b3a a c hn]at h3;cases h3
section
variable{l:List Int}{lo hi:Int}{b:Bool}
def a5B(h:24<(l.length:Int)):¬Z7 l lo hi b:=fun r=>by have:=r.few;omega
def a5v(h:False∨¬Q9 l (O1 l)=true):¬Z7 l lo hi b:=fun r=>h.elim id fun h=>h (d5e (a7u.2 r.up))
def a5D(h0:0<=lo)(h:False∨a1B l lo hi b=true):¬Z7 l lo hi b:=fun r=>h.elim id fun h=>by rw[((b2x h0).1 r).2]at h;cases h
def a5x(h0:0<=lo)(h1:¬24<(l.length:Int))(h2:¬(False∨¬Q9 l (O1 l)=true))(h3:¬(False∨a1B l lo hi b=true)):Z7 l lo hi b:=
 (b2x h0).2 ⟨⟨by omega,d5Q (d4S.1 fun hn=>h2 (.inr hn))⟩,by
  cases hb:a1B l lo hi b with
  |false=>rfl
  |true=>exact absurd (.inr hb) h3⟩
def a7T(l:List Int):max 1 (l.length:Int)=a1X l:=by unfold a1X;split <;> omega
end
def c1p{p:Prop}[Decidable p]{b:Bool}(h:p↔b=true):decide p=b:=d6L.2 (d5M.trans h)
structure A3(s:Tm)(r:Rl):Prop where
 rt:p9 s=true
 rr:N5 r=true
 un:0<(r.e9.length:Int)->(((ix r.e9 0).o7=true↔s.o7=true)/\((ix r.e9 0).UTC=true↔s.UTC=true))
 ba:s.o7=true->r.l6<=3/\(r.Hour.length:Int)=0/\(r.Minute.length:Int)=0/\(r.Second.length:Int)=0
open Classical in
def G3(s:Tm)(r:Rl):Bool:=decide (A3 s r)
open Classical in
def J7{s:Tm}{r:Rl}:G3 s r=true↔A3 s r:=by unfold G3;exact d5M
def b5w{s:Tm}{r:Rl}(h:¬A3 s r):false=G3 s r:=by
 cases e:G3 s r with
 |true=>exact absurd (J7.1 e) h
 |false=>rfl
def a1K(r:Rl)(t:Int):Int:=
 if r.l6=0 then(A7 (t / 86400+1)).Year else if r.l6=1 then 12*(A7 (t / 86400+1)).Year+(A7 (t / 86400+1)).Month
 else if r.l6=2 then(t / 86400+1+6-r.v8) / 7 else if r.l6=3 then t / 86400+1 else if r.l6=4 then t / 3600 else if r.l6=5 then t / 60 else t
def l8(r:Rl)(t:Int):Int:=a1K r t-(if r.l6=1 then 1 else 0)
def nbP(n:Int):Int:=if n=0∨3652059<n then 315537897600 else(n-1)*86400
def C2(r:Rl)(i:Int):Int:=
 if r.l6=0 then nbP (u9 ⟨i,1,1⟩)else if r.l6=1 then nbP (u9 ⟨i / 12,i%12+1,1⟩)else if r.l6=2 then nbP (max 1 (7*i-6+r.v8))
 else if r.l6=3 then nbP i else if r.l6=4 then min i 87649416*3600 else if r.l6=5 then min i 5258964960*60 else min i 315537897600
def a5Z(d:Dy):0<=u9 d/\u9 d<=3652059:=by
 unfold u9;split
 . rename_i h;have:=a03 h;omega
 . omega
def b6l(n:Int):(0<=(A7 n).Year/\(A7 n).Year<=9999)/\(0<=(A7 n).Month/\(A7 n).Month<=12)/\0<=(A7 n).Date/\(A7 n).Date<=31:=by
 by_cases h:n<1∨3652059<n
 . have e:A7 n=⟨0,0,0⟩:=by unfold A7;rw[if_pos h]
   rw[e];exact⟨by decide,by decide,by decide⟩
 . obtain⟨h1,_⟩:=of_ok (n:=n) (by omega) (by omega);obtain⟨a,b,c,d,e,f⟩:=h1.ym;exact⟨⟨by omega,b⟩,⟨by omega,d⟩,by omega,f⟩
def a2C(y f:Int):Int:=if a0g y f=0 then 1 else a0g y f
def atW(r:Rl)(n:Int):Int:=if r.l6=1∨0<(r.Month.length:Int)then(A7 n).Date else ydS (A7 n)
def a5R(r:Rl)(n:Int):Int:=if r.l6=1∨0<(r.Month.length:Int)then E1 (A7 n).Year (A7 n).Month else ydS ⟨(A7 n).Year,12,31⟩
def WdP(r:Rl)(n:Int)(x:Nt):Prop:=x.Day=wdS n/\((x.N=0∨x.N=1+(atW r n-1) / 7) ∨ -x.N=1+(a5R r n-atW r n) / 7)
instance (r:Rl) (n:Int) (x:Nt):Decidable (WdP r n x):=by unfold WdP;infer_instance
def wdB(r:Rl)(n:Int):Bool:=r.w9.any fun x=>decide (WdP r n x)
def a1a(s:Tm)(r:Rl)(dy n:Int):Prop:=
 if 0<(r.q7.length:Int)then wdS n=wdS dy
 else ¬(((r.l6<=1/\(A7 n).Date≠s.Day.Date)∨((r.l6=0/\(r.Month.length:Int)=0)/\(A7 n).Month≠s.Day.Month)))/\(r.l6≠2∨wdS n=wdS dy)
instance (s:Tm) (r:Rl) (dy n:Int):Decidable (a1a s r dy n):=by unfold a1a;infer_instance
def a3K(s:Tm)(r:Rl)(dy n:Int):Bool:=
 (((decide ((r.Month.length:Int)=0) || M4 r.Month (A7 n).Month) && a3q r.q7 (R3 n r.v8).2 (a2C (R3 n r.v8).1 r.v8)) && (a3q r.l9 (ydS (A7 n)) (ydS ⟨(A7 n).Year,12,31⟩) && a3q r.j9 (A7 n).Date (E1 (A7 n).Year (A7 n).Month))) &&
 (if 0<(r.w9.length:Int)then wdB r n else if 0<(r.l9.length:Int)∨0<(r.j9.length:Int)then true else decide (a1a s r dy n))
def c9C(n f:Int):-1000000<=(R3 n f).2/\(R3 n f).2<=1000000:=by
 unfold R3;split
 . exact⟨by decide,by decide⟩
 . show -1000000<=(n-I7 (wkY n f) f) / 7+1/\_
   obtain⟨⟨y0,y1⟩,_⟩:=b6l n;have hy:0-1<=wkY n f/\wkY n f<=10000:=by unfold wkY;split;omega;split <;> omega
   have b:=a2u (wkY n f) f;have a0:=E9 (show -1<=wkY n f by omega);have a1:=E9 (show wkY n f<=10000 by omega);have a2:v7 (-1)=-731:=by decide
   have a3:v7 10000=3652059:=by decide
   show -1000000<=(n-I7 (wkY n f) f) / 7+1/\(n-I7 (wkY n f) f) / 7+1<=1000000
   omega
def c8u(y f:Int):-1000000<=a2C y f/\a2C y f<=1000000:=by
 unfold a2C;have h:-1000000<=a0g y f/\a0g y f<=1000000:=by
  unfold a0g;split
  . omega
  . have b:=a2u y f;have c:=a2u (y+1) f;have a0:=R4 (y:=y) (by omega) (by omega);have a1:=R4 (y:=y+1) (by omega) (by omega);omega
 split <;> omega
def b6L(d:Dy):-5000000<=ydS d/\ydS d<=5000000:=by
 unfold ydS;split
 . rename_i h;obtain⟨y0,y1,_⟩:=h.ym;have a:=a03 h;have b:=R4 (y:=d.Year) (by omega) (by omega);omega
 . omega
def b69(y m:Int):0<=E1 y m/\E1 y m<=31:=by unfold E1;(repeat' split) <;> omega
def c4g{r:Rl}{n i:Int}(h0:0<=i)(h1:i<r.w9.length)(h:WdP r n (ix r.w9 i)):true=wdB r n:=(d6P.2 ⟨_,Y3 h0 h1,d5e h⟩).symm
def c8C{r:Rl}{n:Int}(h:∀i:Int,0<=i->i<r.w9.length->¬WdP r n (ix r.w9 i)):false=wdB r n:=by
 cases hb:wdB r n with
 |false=>rfl
 |true =>
  obtain⟨x,hx,hd⟩:=d6P.1 hb;obtain⟨i,h0,h1,rfl⟩:=L6 hx;exact absurd (d5Q hd) (h i h0 h1)
def c8I(r:Rl)(n:Int):0<=atW r n+5000000/\atW r n<=5000000/\0<=a5R r n+5000000/\a5R r n<=5000000:=by have a:=b6L (A7 n);have b:=b6L ⟨(A7 n).Year,12,31⟩;have c:=b69 (A7 n).Year (A7 n).Month;obtain⟨_,_,d⟩:=b6l n;unfold atW a5R;split <;> omega
def yd_ok{n:Int}(h0:1<=n)(h1:n<=3652059):1<=ydS (A7 n)/\ydS (A7 n)<=ydS ⟨(A7 n).Year,12,31⟩:=by
 obtain⟨hr,hn⟩:=of_ok h0 h1;obtain⟨y0,y1,m0,m1,_⟩:=hr.ym;have i1:=a3H hr;have hr2:G8 ⟨(A7 n).Year,12,31⟩:=by
  refine⟨show(1:Int)<=31 by decide,?_⟩;show(31:Int)<=E1 (A7 n).Year 12
  unfold E1;rw[if_neg (by omega),if_neg (by decide)];decide
 have e1:ydS (A7 n)=M3 (A7 n)-v7 (A7 n).Year:=by unfold ydS;rw[if_pos hr]
 have e2:ydS ⟨(A7 n).Year,12,31⟩=T7 (A7 n).Year 12+31:=by
  unfold ydS;rw[if_pos hr2];show v7 (A7 n).Year+T7 (A7 n).Year 12+31-v7 (A7 n).Year=_
  omega
 have:=b8M (A7 n).Year;omega
def at_ok{r:Rl}{n:Int}(h0:1<=n)(h1:n<=3652059):1<=atW r n/\atW r n<=a5R r n:=by
 obtain⟨hr,hn⟩:=of_ok h0 h1;have a:=yd_ok h0 h1;unfold atW a5R;split
 . exact hr
 . exact a
def b13{l:List Int}{n a:Int}(h:0<(l.length:Int)/\¬Re.a3L l n a=true):a3q l n a=false:=by unfold a3q;rw[d5q (by omega),d8C];exact d8G.2 h.2
def a4F{l:List Int}{n a:Int}(h:¬(0<(l.length:Int)/\¬Re.a3L l n a=true)):a3q l n a=true:=by
 unfold a3q;rw[d5V,d5M];by_cases h0:(l.length:Int)=0
 . exact .inl h0
 . exact .inr (d4S.1 fun hn=>h ⟨by omega,hn⟩)
def b4e(r:Rl)(m:Int):Bool:=decide ((r.Month.length:Int)=0) || M4 r.Month m
def c8d{r:Rl}{m:Int}(h:0<(r.Month.length:Int)/\¬M4 r.Month m=true):b4e r m=false:=by unfold b4e;rw[d5q (by omega),d8C];exact d8G.2 h.2
def c3w{r:Rl}{m:Int}(h:¬(0<(r.Month.length:Int)/\¬M4 r.Month m=true)):b4e r m=true:=by
 unfold b4e;rw[d5V,d5M];by_cases h0:(r.Month.length:Int)=0
 . exact .inl h0
 . exact .inr (d4S.1 fun hn=>h ⟨by omega,hn⟩)
section
variable{s:Tm}{r:Rl}{dy n:Int}
abbrev wkB(r:Rl)(n:Int):Bool:=a3q r.q7 (R3 n r.v8).2 (a2C (R3 n r.v8).1 r.v8)
abbrev ydB(r:Rl)(n:Int):Bool:=a3q r.l9 (ydS (A7 n)) (ydS ⟨(A7 n).Year,12,31⟩)
abbrev mdB(r:Rl)(n:Int):Bool:=a3q r.j9 (A7 n).Date (E1 (A7 n).Year (A7 n).Month)
def b9N(s:Tm)(r:Rl)(dy n:Int):Bool:=if 0<(r.w9.length:Int)then wdB r n else if 0<(r.l9.length:Int)∨0<(r.j9.length:Int)then true else decide (a1a s r dy n)
def a7B:a3K s r dy n=(((b4e r (A7 n).Month && wkB r n) && (ydB r n && mdB r n)) && b9N s r dy n):=rfl
def d2k(h:b4e r (A7 n).Month=false):false=a3K s r dy n:=by rw[a7B,h];rfl
def c96(h:wkB r n=false):false=a3K s r dy n:=by rw[a7B,h,d8v];rfl
def c90(h:ydB r n=false):false=a3K s r dy n:=by rw[a7B,h,Bool.false_and,d8v];rfl
def d2M(h:mdB r n=false):false=a3K s r dy n:=by rw[a7B,h,d8v,d8v];rfl
def c3k(h1:b4e r (A7 n).Month=true)(h2:wkB r n=true)(h3:ydB r n=true)(h4:mdB r n=true):a3K s r dy n=b9N s r dy n:=by rw[a7B,h1,h2,h3,h4];rfl
end
def P4{l:List Int}{i:Int}(h0:0<=i)(h1:i<l.length):l.drop i.toNat=ix l i::l.drop (i+1).toNat:=by
 have h:i.toNat<l.length:=by omega
 rw[d6E h,s8 h,show(i+1).toNat=i.toNat+1 by omega]
def X6(sp:List Int)(len:Int):Int->List Int->List Int
 |_,[]=>[]
 |i,t::r=>if M4 sp (i+1)=true∨M4 sp (i-len)=true then t::X6 sp len (i+1) r else X6 sp len (i+1) r
def b87{sp:List Int}{n i:Int}:X6 sp n i []=[]:=rfl
def a1e{sp:List Int}{n i t:Int}{r:List Int}:X6 sp n i (t::r)=if M4 sp (i+1)=true∨M4 sp (i-n)=true then t::X6 sp n (i+1) r else X6 sp n (i+1) r:=rfl
def X2(r:Rl)(l:List Int):List Int:=if(r.y6.length:Int)=0 then l else X6 r.y6 l.length 0 l
structure a1D(sp:List Int)(l x:List Int)(i:Int):Prop where
 a:0<=i
 b:i<=l.length
 c:(x.length:Int)<=i
 d:x++X6 sp l.length i (l.drop i.toNat)=X6 sp l.length 0 l
def a1D.init{sp l:List Int}:a1D sp l [] 0:=⟨d5o 0,by omega,by simp,by simp⟩
def a1D.yes{sp l x:List Int}{i:Int}(h:a1D sp l x i)(hi:i<l.length)(hp:M4 sp (i+1)=true∨M4 sp (i-l.length)=true):a1D sp l (x++[ix l i]) (i+1):=by have d:=h.d;rw[P4 h.a hi,a1e,if_pos hp]at d;exact⟨by have:=h.a;omega,by omega,by have:=h.c;simp only[d4Y,d5h,d6b];omega,by rw[<- d];simp⟩
def a1D.no{sp l x:List Int}{i:Int}(h:a1D sp l x i)(hi:i<l.length)(hp:¬(M4 sp (i+1)=true∨M4 sp (i-l.length)=true)):a1D sp l x (i+1):=by have d:=h.d;rw[P4 h.a hi,a1e,if_neg hp]at d;exact⟨by have:=h.a;omega,by omega,by have:=h.c;omega,d⟩
def a1D.fin{sp l x:List Int}{i:Int}(h:a1D sp l x i)(hi:¬i<l.length):x=X6 sp l.length 0 l:=by have d:=h.d;rw[d6T (by omega),b87]at d;rw[<- d,d5C]
def a8O(n:Nat):List Int:=(List.range n).map Int.ofNat
def n9(l:List Int)(fr:Bool)(own all:Int):List Int:=if 0<(l.length:Int)then l else if fr=true then a8O all.toNat else [own]
def a61(n:Nat):(a8O n).length=n:=by unfold a8O;simp
structure a9b(n:Nat)(x:List Int)(i:Int):Prop where
 a:0<=i
 b:i<=n
 c:x.length=n
 d:∀j:Nat,(j:Int)<i->x[j]?=some (j:Int)
def a9b.step{n:Nat}{x:List Int}{i:Int}(h:a9b n x i)(hi:i<n):a9b n (x.set i.toNat i) (i+1):=by
 have ha:=h.a;refine⟨by omega,by omega,by rw[d7M];exact h.c,fun j hj=>?_⟩;by_cases e:j=i.toNat
 . subst e;rw[d5J (by rw[h.c];omega)];congr 1;omega
 . rw[d5W (d6l e)];exact h.d j (by omega)
def a9b.fin{n:Nat}{x:List Int}{i:Int}(h:a9b n x i)(hi:¬i<n):x=a8O n:=by
 have hb:=h.b;refine d8a fun j=>?_;by_cases hj:j<n
 . rw[h.d j (by omega)];unfold a8O;simp[hj]
 . rw[d6V (by rw[h.c];omega),d6V (by rw[a61];omega)]
def hB(s:Tm)(r:Rl)(h:Int):Prop:=¬((0<(r.Hour.length:Int)/\¬M4 r.Hour h=true)∨((r.Hour.length:Int)=0/\r.l6<=3)/\h≠s.Hour)
def mB(s:Tm)(r:Rl)(m:Int):Prop:=¬((0<(r.Minute.length:Int)/\¬M4 r.Minute m=true)∨((r.Minute.length:Int)=0/\r.l6<=4)/\m≠s.Min)
def sB(s:Tm)(r:Rl)(x:Int):Prop:=(0<(r.Second.length:Int)/\M4 r.Second x=true)∨(r.Second.length:Int)=0/\(5<r.l6∨x=s.D8)
instance (s:Tm) (r:Rl) (h:Int):Decidable (hB s r h):=by unfold hB;infer_instance
instance (s:Tm) (r:Rl) (h:Int):Decidable (mB s r h):=by unfold mB;infer_instance
instance (s:Tm) (r:Rl) (h:Int):Decidable (sB s r h):=by unfold sB;infer_instance
def b3z(s:Tm)(r:Rl)(h m:Int):Nat->List Int
 |0=>[]
 |k+1=>b3z s r h m k++if sB s r k then [3600*h+60*m+(k:Int)]else []
def b1v(s:Tm)(r:Rl)(h:Int):Nat->List Int
 |0=>[]
 |k+1=>b1v s r h k++if mB s r k then b3z s r h k 60 else []
def b4q(s:Tm)(r:Rl):Nat->List Int
 |0=>[]
 |k+1=>b4q s r k++if hB s r k then b1v s r k 60 else []
def R9(s:Tm)(r:Rl):List Int:=b4q s r 24
def c2F{r:Rl}{t:Int}(t0:0<=t)(t1:t<315537897600)(w0:0<=r.v8)(w1:r.v8<=6):0<=a1K r t/\a1K r t<=315537897600/\(r.l6=1->13<=a1K r t):=by
 obtain⟨h1,_⟩:=of_ok (n:=t / 86400+1) (by omega) (by omega);obtain⟨a,b,c,d,_⟩:=h1.ym;unfold a1K;split
 . omega
 split
 . omega
 split
 . omega
 split
 . omega
 split
 . omega
 split <;> omega
def y7{s:Tm}(h:p9 s=true):0<=b8 s/\b8 s<315537897600:=by have hr:=A8.1 h;have:=a2h hr;unfold b8;rw[if_pos hr];omega
def b9w{r:Rl}{k:Int}(hR:N5 r=true)(k0:0<=k)(k1:k<=40000):0<=k*r.Interval/\k*r.Interval<=399960000:=by obtain⟨_,_,i0,i1,_⟩:=(s7.1 hR).head;have a:=d6o k0 (show 0<=r.Interval by omega);have b:=d7U k1 i1 (show 0<=r.Interval by omega) (by omega:(0:Int)<=40000);omega
def P3(e:o6):o6:=if e.is 5 then .no 5 else .nil
def b5g(e:o6):P3 e=.nil∨∃n,P3 e=.no n:=by
 unfold P3;split
 . exact .inr ⟨5,rfl⟩
 . exact .inl rfl
def c7D(s:Tm)(r:Rl)(x:Int):Bool:=(decide (0<=a1K r x-a1K r (b8 s)/\(a1K r x-a1K r (b8 s))%r.Interval=0) && a3K s r (u9 s.Day) (x / 86400+1)) && M4 (R9 s r) (x%86400)
def d4g(s:Tm)(r:Rl)(t:Tm):Prop:=((¬G3 s r=true∨¬p9 t=true)∨¬(t.o7=true↔s.o7=true))∨¬(t.UTC=true↔s.UTC=true)
open Classical in
def c9w(s:Tm)(r:Rl)(t:Tm):Bool:=if d4g s r t then false else c7D s r (b8 t)
structure Ws where
 T:List Int
 C:List Int
 run:List Int
 now:Int
def flW(r:Rl)(w:Ws):Ws:=⟨w.T++X2 r w.run,w.C++List.replicate (X2 r w.run).length (w.now.tdiv r.Interval),[],w.now⟩
def a5W(s:Tm)(r:Rl)(t:Int):Int:=a1K r t-a1K r (b8 s)
def b3q(s:Tm)(r:Rl)(t:Int):Prop:=a5W s r t<0∨(a5W s r t).tmod r.Interval≠0
instance (s:Tm) (r:Rl) (t:Int):Decidable (b3q s r t):=inferInstanceAs (Decidable (_∨_))
def stW(s:Tm)(r:Rl)(w:Ws)(t:Int):Ws:=
 if b3q s r t then w else if a5W s r t≠w.now then⟨(flW r w).T,(flW r w).C,[t],a5W s r t⟩else⟨w.T,w.C,w.run++[t],w.now⟩
def dyW(s:Tm)(r:Rl)(n:Int):List Int:=if a3K s r (u9 s.Day) n=true then(R9 s r).map fun c=>86400*(n-1)+c else []
def spW(s:Tm)(r:Rl)(a:Int):Nat->List Int
 |0=>[]
 |k+1=>spW s r a k++dyW s r (a+k)
def wsW(s:Tm)(r:Rl)(l:List Int):Ws:=l.foldl (stW s r) ⟨[],[],[],-1⟩
section
variable{s:Tm}{r:Rl}
def c8E{w:Ws}{t:Int}(h:b3q s r t):stW s r w t=w:=by unfold stW;rw[if_pos h]
def c7S{w:Ws}{t:Int}(h:¬b3q s r t)(h1:a5W s r t≠w.now):stW s r w t=⟨(flW r w).T,(flW r w).C,[t],a5W s r t⟩:=by unfold stW;rw[if_neg h,if_pos h1]
def c9d{w:Ws}{t:Int}(h:¬b3q s r t)(h1:¬a5W s r t≠w.now):stW s r w t=⟨w.T,w.C,w.run++[t],w.now⟩:=by unfold stW;rw[if_neg h,if_neg h1]
def c2Z{l:List Int}{t:Int}:wsW s r (l++[t])=stW s r (wsW s r l) t:=by unfold wsW;rw[d8H];rfl
def a8W{sp:List Int}{n:Int}:∀(l:List Int)(i:Int),(X6 sp n i l).length<=l.length
 |[],_=>d5m 0
 |t::l,i=>by
  have:=a8W (sp:=sp) (n:=n) l (i+1);rw[a1e];split
  . simpa using this
  . exact Nat.le_succ_of_le this
def b5N{h m:Int}(h0:0<=h)(h1:h<24)(m0:0<=m)(m1:m<60):∀(k:Nat),k<=60->∀c∈b3z s r h m k,0<=c/\c<86400
 |0,_,c,hc=>by cases hc
 |k+1,hk,c,hc=>by
  unfold b3z at hc;rcases d5t.1 hc with hc|hc
  . exact b5N h0 h1 m0 m1 k (by omega) c hc
  . split at hc
    . cases d5a.1 hc;omega
    . cases hc
def b5q{h:Int}(h0:0<=h)(h1:h<24):∀(k:Nat),k<=60->∀c∈b1v s r h k,0<=c/\c<86400
 |0,_,c,hc=>by cases hc
 |k+1,hk,c,hc=>by
  unfold b1v at hc;rcases d5t.1 hc with hc|hc
  . exact b5q h0 h1 k (by omega) c hc
  . split at hc
    . exact b5N h0 h1 (by omega) (by omega) 60 (by omega) c hc
    . cases hc
def b5z:∀(k:Nat),k<=24->∀c∈b4q s r k,0<=c/\c<86400
 |0,_,c,hc=>by cases hc
 |k+1,hk,c,hc=>by
  unfold b4q at hc;rcases d5t.1 hc with hc|hc
  . exact b5z k (by omega) c hc
  . split at hc
    . exact b5q (by omega) (by omega) 60 (by omega) c hc
    . cases hc
def dnW(s:Tm)(r:Rl)(n i:Int):List Int:=((R9 s r).take i.toNat).map fun c=>86400*(n-1)+c
def d3O{n:Int}:dnW s r n 0=[]:=by unfold dnW;rfl
def c42{n i:Int}(h0:0<=i)(h1:i<(R9 s r).length):dnW s r n (i+1)=dnW s r n i++[86400*(n-1)+ix (R9 s r) i]:=by
 have h:i.toNat<(R9 s r).length:=by omega
 unfold dnW;rw[show(i+1).toNat=i.toNat+1 by omega,d6u h,d7v,s8 h];rfl
structure WhI(s:Tm)(r:Rl)(tw A D:Int)(w:Ws)(n:Int):Prop where
 a:A<=n
 a1:1<=A
 b:n<=3652060
 c:n=A∨86400*(n-2)<tw+86400*D
 w0:-1<=w.now
 w1:w.now<=400000000000
 e:w=wsW s r (spW s r A (n-A).toNat)
structure WdI(s:Tm)(r:Rl)(A n:Int)(w:Ws)(i:Int):Prop where
 i0:0<=i
 i1:i<=(R9 s r).length
 a:A<=n
 w0:-1<=w.now
 w1:w.now<=400000000000
 e:w=wsW s r (spW s r A (n-A).toNat++dnW s r n i)
structure FlI(r:Rl)(T C run:List Int)(now:Int)(X Y:List Int)(j:Int):Prop where
 j0:0<=j
 j1:j<=(X2 r run).length
 x:X=T++(X2 r run).take j.toNat
 y:Y=C++List.replicate j.toNat (now.tdiv r.Interval)
 lx:(X.length:Int)=T.length+j
 ly:(Y.length:Int)=C.length+j
def c2H{A n:Int}(h:A<=n):spW s r A (n+1-A).toNat=spW s r A (n-A).toNat++dyW s r n:=by
 rw[show(n+1-A).toNat=(n-A).toNat+1 by omega];show spW s r A (n-A).toNat++dyW s r (A+((n-A).toNat:Int))=_
 rw[show A+((n-A).toNat:Int)=n by omega]
def WhI.no{tw A D n:Int}{w:Ws}(h:WhI s r tw A D w n)(hd:¬a3K s r (u9 s.Day) n=true)(hn:n<=3652059/\86400*(n-1)<tw+86400*D):WhI s r tw A D w (n+1):=
 ⟨by have:=h.a;omega,h.a1,by omega,.inr (by omega),h.w0,h.w1,by rw[c2H h.a,show dyW s r n=[] by unfold dyW;rw[if_neg hd],d5C];exact h.e⟩
def WhI.day{tw A D n:Int}{w:Ws}(h:WhI s r tw A D w n):WdI s r A n w 0:=
 ⟨d5o 0,by omega,h.a,h.w0,h.w1,by rw[d3O,d5C];exact h.e⟩
def WdI.step{A n i:Int}{w w2:Ws}(h:WdI s r A n w i)(hi:i<(R9 s r).length)(he:stW s r w (86400*(n-1)+ix (R9 s r) i)=w2)(h0:-1<=w2.now)(h1:w2.now<=400000000000):WdI s r A n w2 (i+1):=
 ⟨by have:=h.i0;omega,by omega,h.a,h0,h1,by rw[c42 h.i0 hi,<- d5x,c2Z,<- h.e,he]⟩
def WdI.out{A n i:Int}{w:Ws}(h:WdI s r A n w i)(hi:i<(R9 s r).length)(ho:b3q s r (86400*(n-1)+ix (R9 s r) i)):WdI s r A n w (i+1):=
 h.step hi (c8E ho) h.w0 h.w1
def WdI.on{A n i now:Int}{T C run:List Int}(h:WdI s r A n ⟨T,C,run,now⟩ i)(hi:i<(R9 s r).length)(ho:¬b3q s r (86400*(n-1)+ix (R9 s r) i))(hk:¬a5W s r (86400*(n-1)+ix (R9 s r) i)≠now) :
  WdI s r A n ⟨T,C,run++[86400*(n-1)+ix (R9 s r) i],now⟩ (i+1):=
 h.step hi (c9d ho hk) h.w0 h.w1
def WdI.new{A n i now:Int}{T C run X Y:List Int}(h:WdI s r A n ⟨T,C,run,now⟩ i)(hi:i<(R9 s r).length)(ho:¬b3q s r (86400*(n-1)+ix (R9 s r) i))(hk:a5W s r (86400*(n-1)+ix (R9 s r) i)≠now)
  (hp:-1<=a5W s r (86400*(n-1)+ix (R9 s r) i)/\a5W s r (86400*(n-1)+ix (R9 s r) i)<=400000000000)
  (hf:X=T++X2 r run/\Y=C++List.replicate (X2 r run).length (now.tdiv r.Interval)) :
  WdI s r A n ⟨X,Y,[86400*(n-1)+ix (R9 s r) i],a5W s r (86400*(n-1)+ix (R9 s r) i)⟩ (i+1):=by
 obtain⟨rfl,rfl⟩:=hf;exact h.step hi (c7S ho hk) hp.1 hp.2
def FlI.step{T C run X Y:List Int}{now j:Int}(h:FlI r T C run now X Y j)(hj:j<(X2 r run).length):FlI r T C run now (X++[ix (X2 r run) j]) (Y++[now.tdiv r.Interval]) (j+1):=by
 have h0:=h.j0;have hl:j.toNat<(X2 r run).length:=by omega
 have lx:=h.lx;have ly:=h.ly;refine⟨by omega,by omega,?_,?_,by simp only[d4Y,d5h,d6b];omega,by simp only[d4Y,d5h,d6b];omega⟩
 . rw[show(j+1).toNat=j.toNat+1 by omega,d6u hl,<- d5x,<- h.x,s8 hl]
 . rw[show(j+1).toNat=j.toNat+1 by omega,List.replicate_succ',<- d5x,<- h.y]
end
structure Al where
 n:Int
 k:Int
 out:List Int
def c3i(s:Tm)(r:Rl)(n t:Int):Prop:=(t<=b8 s∨0<(r.e9.length:Int)/\b8 (ix r.e9 0)<t)∨0<r.Count/\r.Count<=n
instance (s:Tm) (r:Rl) (n t:Int):Decidable (c3i s r n t):=inferInstanceAs (Decidable (_∨_))
def stA(s:Tm)(r:Rl)(tw:Int)(w:Al)(t c:Int):Al:=
 if c3i s r w.n t then w else⟨w.n+1,if c<40000 then w.k+1 else w.k,if t<tw then w.out++[t]else w.out⟩
def alA(s:Tm)(r:Rl)(tw:Int)(T C:List Int):Nat->Al
 |0=>⟨1,1,if b8 s<tw then [b8 s]else []⟩
 |i+1=>stA s r tw (alA s r tw T C i) (ix T i) (ix C i)
section
variable{s:Tm}{r:Rl}
structure AlI(s:Tm)(r:Rl)(tw:Int)(T C:List Int)(n k:Int)(out:List Int)(i:Int):Prop where
 i0:0<=i
 i1:i<=T.length
 n0:1<=n/\n<=i+1
 k0:1<=k/\k<=i+1
 o:(out.length:Int)<=i+1
 e:(⟨n,k,out⟩:Al)=alA s r tw T C i.toNat
def b6P{tw:Int}{T C:List Int}{i:Int}(h:0<=i):alA s r tw T C (i+1).toNat=stA s r tw (alA s r tw T C i.toNat) (ix T i) (ix C i):=by
 rw[show(i+1).toNat=i.toNat+1 by omega];show stA s r tw _ (ix T (i.toNat:Int)) (ix C (i.toNat:Int))=_
 rw[show((i.toNat:Nat):Int)=i by omega]
def AlI.off{tw n k i:Int}{T C out:List Int}(h:AlI s r tw T C n k out i)(hi:i<T.length)(ho:c3i s r n (ix T i)):AlI s r tw T C n k out (i+1):=by have a:=h.i0;have b:=h.n0;have c:=h.k0;have d:=h.o;refine⟨by omega,by omega,by omega,by omega,by omega,?_⟩;rw[b6P a,<- h.e];unfold stA;dsimp only;rw[if_pos ho]
def AlI.on{tw n k k2 i:Int}{T C out o2:List Int}(h:AlI s r tw T C n k out i)(hi:i<T.length)(ho:¬c3i s r n (ix T i))(hk:k2=if ix C i<40000 then k+1 else k)(h2:o2=if ix T i<tw then out++[ix T i]else out):AlI s r tw T C (n+1) k2 o2 (i+1):=by
 have a:=h.i0;have b:=h.n0;have c:=h.k0;have d:=h.o;refine⟨by omega,by omega,by omega,by rw[hk];split <;> omega,?_,?_⟩
 . rw[h2];split
   . simp only[d4Y,d5h,d6b];omega
   . omega
 rw[b6P a,<- h.e];unfold stA;dsimp only;rw[if_neg ho,hk,h2]
end
def frA(s a:Tm):List Int->List Tm
 |[]=>[]
 |t::l=>if b8 a<=t then L4 t s::frA s a l else frA s a l
def a6a{s a:Tm}:∀(l m:List Int),frA s a (l++m)=frA s a l++frA s a m
 |[],_=>rfl
 |t::l,m=>by
  show(if b8 a<=t then L4 t s::frA s a (l++m)else frA s a (l++m))=(if b8 a<=t then L4 t s::frA s a l else frA s a l)++_
  rw[a6a l m];split <;> rfl
structure ExI(s a:Tm)(l:List Int)(x:List Tm)(i:Int):Prop where
 i0:0<=i
 i1:i<=l.length
 lx:(x.length:Int)<=i
 e:x=frA s a (l.take i.toNat)
def ExI.tk{l:List Int}{i:Int}(h0:0<=i)(h1:i<l.length):l.take (i+1).toNat=l.take i.toNat++[ix l i]:=by
 have h:i.toNat<l.length:=by omega
 rw[show(i+1).toNat=i.toNat+1 by omega,d6u h,s8 h]
def ExI.no{s a:Tm}{l:List Int}{x:List Tm}{i:Int}(h:ExI s a l x i)(hi:i<l.length)(hy:¬b8 a<=ix l i):ExI s a l x (i+1):=by
 have h0:=h.i0;have h1:=h.lx;refine⟨by omega,by omega,by omega,?_⟩;rw[ExI.tk h0 hi,a6a,<- h.e];show _=_++(if b8 a<=ix l i then _ else _)
 rw[if_neg hy];exact(d5C _).symm
def b8g(s:Tm)(r:Rl)(a b:Tm):Prop:=(¬G3 s r=true∨¬p9 a=true)∨¬p9 b=true
def c3l:Tm:=⟨⟨0,0,0⟩,0,0,0,false,false⟩
def c9V{a t:Tm}:((a.Day.Year=t.Day.Year/\a.Day.Month=t.Day.Month/\a.Day.Date=t.Day.Date/\True)/\a.Hour=t.Hour/\a.Min=t.Min/\a.D8=t.D8/\(a.o7=true↔t.o7=true)/\(a.UTC=true↔t.UTC=true)/\True)↔a=t:=by
 obtain⟨⟨y,m,d⟩,h,i,s,b,u⟩:=a;obtain⟨⟨y',m',d'⟩,h',i',s',b',u'⟩:=t;constructor
 . rintro⟨⟨h1,h2,h3,_⟩,h4,h5,h6,h7,h8,_⟩;dsimp only at h1 h2 h3 h4 h5 h6 h7 h8;rw[h1,h2,h3,h4,h5,h6,d6L.2 h7,d6L.2 h8]
 . intro h;rw[h];exact⟨⟨rfl,rfl,rfl,trivial⟩,rfl,rfl,rfl,d7A,d7A,trivial⟩
def goY(res:List Int->Int->Bool):List Int->List Int->List Int
 |y,[]=>y
 |y,t::r=>bif res y t then goY res (y++[t]) r else y++[t]
def okY(pre:List Int->Int->Prop)(res:List Int->Int->Bool):List Int->List Int->Prop
 |_,[]=>True
 |y,t::r=>pre y t/\(res y t=true->okY pre res (y++[t]) r)
structure GoI(pre:List Int->Int->Prop)(res:List Int->Int->Bool)(g y T:List Int):Prop where
 a:goY res y T=g
 b:okY pre res y T
section
variable{pre:List Int->Int->Prop}{res:List Int->Int->Bool}{g y T:List Int}{t:Int}
def GoI.fin(h:GoI pre res g y []):y=g:=h.a
def GoI.may(h:GoI pre res g y (t::T)):pre y t:=h.b.1
def GoI.stop(h:GoI pre res g y (t::T))(hr:¬res y t=true):y++[t]=g:=by have a:=h.a;unfold goY at a;rw[d5E]at hr;rw[hr]at a;exact a
def GoI.go(h:GoI pre res g y (t::T))(hr:res y t=true):GoI pre res g (y++[t]) T:=by have a:=h.a;unfold goY at a;rw[hr]at a;exact⟨a,h.b.2 hr⟩
end
def a3g(fr tw b:Int):List Int->List Int
 |[]=>[]
 |s::r=>if fr<=b+s/\b+s<tw then(b+s)::a3g fr tw b r else a3g fr tw b r
def a1n(fr tw b:Int)(ss:List Int):List Int->List Int
 |[]=>[]
 |m::r=>if b+m*60+59<fr∨tw<=b+m*60 then a1n fr tw b ss r else a3g fr tw (b+m*60) ss++a1n fr tw b ss r
def a1M(fr tw:Int)(ms ss:List Int):List Int->List Int
 |[]=>[]
 |h::r=>if h*3600+3599<fr∨tw<=h*3600 then a1M fr tw ms ss r else a1n fr tw (h*3600) ss ms++a1M fr tw ms ss r
def hoL(s:Tm)(r:Rl):List Int:=n9 r.Hour (decide (3<r.l6)) s.Hour 24
def miL(s:Tm)(r:Rl):List Int:=n9 r.Minute (decide (4<r.l6)) s.Min 60
def seL(s:Tm)(r:Rl):List Int:=n9 r.Second (decide (5<r.l6)) s.D8 60
def a3x(s:Tm)(r:Rl)(fr tw:Int):List Int:=a1M fr tw (miL s r) (seL s r) (hoL s r)
section
variable{fr tw b s m h:Int}{r ms ss:List Int}
def c1J:a3g fr tw b []=[]:=rfl
def b2M(hc:fr<=b+s/\b+s<tw):a3g fr tw b (s::r)=(b+s)::a3g fr tw b r:=if_pos hc
def b67(hc:¬(fr<=b+s/\b+s<tw)):a3g fr tw b (s::r)=a3g fr tw b r:=if_neg hc
def b1G:a1n fr tw b ss []=[]:=rfl
def b1r(hc:b+m*60+59<fr∨tw<=b+m*60):a1n fr tw b ss (m::r)=a1n fr tw b ss r:=if_pos hc
def b5W(hc:¬(b+m*60+59<fr∨tw<=b+m*60)):a1n fr tw b ss (m::r)=a3g fr tw (b+m*60) ss++a1n fr tw b ss r:=if_neg hc
def b2P:a1M fr tw ms ss []=[]:=rfl
def a6W(hc:h*3600+3599<fr∨tw<=h*3600):a1M fr tw ms ss (h::r)=a1M fr tw ms ss r:=if_pos hc
def b0l(hc:¬(h*3600+3599<fr∨tw<=h*3600)):a1M fr tw ms ss (h::r)=a1n fr tw (h*3600) ss ms++a1M fr tw ms ss r:=if_neg hc
end
def inB(n:Int)(l:List Int):Prop:=∀i:Int,0<=i->i<l.length->0<=ix l i/\ix l i<=n
def a4T{l:List Int}{f:Bool}{own all n:Int}(hl:∀i:Int,0<=i->i<l.length->OkN 0 n false (ix l i))(h0:0<=own)(h1:own<=n)(ha:0<=all)(hn:all<=n+1):inB n (n9 l f own all):=by
 intro i i0 i1;unfold n9 at i1 ⊢;by_cases hc:0<(l.length:Int)
 . rw[if_pos hc]at i1 ⊢;have:=hl i i0 i1;unfold OkN at this;simp only[d5Y,false_and,if_false]at this;exact this
 . rw[if_neg hc]at i1 ⊢;cases f with
   |true =>
    rw[if_pos rfl]at i1 ⊢;rw[a61]at i1;rw[s8 (by rw[a61];omega)];unfold a8O;simp only[d7g,List.getElem_range];show 0<=((i.toNat:Nat):Int)/\((i.toNat:Nat):Int)<=n
    omega
   |false =>
    rw[if_neg (by decide)]at i1 ⊢;have:i=0:=by simp at i1;omega
    subst this;exact⟨h0,h1⟩
def c73{s:Tm}{r:Rl}(h:A3 s r):inB 23 (hoL s r):=by obtain⟨_,⟨a,b⟩,_⟩:=A8.1 h.rt;exact a4T (s7.1 h.rr).lists.ho.ok a b (by decide) (by decide)
def b4M{s:Tm}{r:Rl}(h:A3 s r):inB 59 (miL s r):=by obtain⟨_,_,⟨a,b⟩,_⟩:=A8.1 h.rt;exact a4T (s7.1 h.rr).lists.mi.ok a b (by decide) (by decide)
def b3S{s:Tm}{r:Rl}(h:A3 s r):inB 59 (seL s r):=by obtain⟨_,_,_,⟨a,b⟩,_⟩:=A8.1 h.rt;exact a4T (s7.1 h.rr).lists.se.ok a b (by decide) (by decide)
def T0{l:List Int}{f:Bool}{own all:Int}(hl:(l.length:Int)<=24)(ha:all<=60):((n9 l f own all).length:Int)<=60:=by
 unfold n9;split
 . omega
 . split
   . rw[a61];omega
   . simp
end Go.Re
namespace Go.Rx
open Go Go.Wk Go.Wl
def mark(D:Nat):Deferred:={ target:=.collected D,args:=#[] }
def marks(ds:List Nat):List Deferred:=ds.map mark
abbrev QD:=Exit->Fr->World->List Nat->Prop
def d2L(n:Nat)(Q:QD):Exit->Act->World->Prop:=fun e a w1=>∃f w ds,Is a f n/\a.defers=marks ds/\F8 w w1/\Q e f w ds
def WD(P:Program)(n:Nat)(c:Code)(Q:QD)(f:Fr)(w:World)(ds:List Nat):Prop:=
 ∀a w1,Is a f n->a.defers=marks ds->F8 w w1->c.wpIn (P6 none) 0 P (d2L n Q) a w1
def c5h(next:Fr->World->List Nat->Prop)(Q:QD):QD
 |.normal,f,w,ds=>next f w ds
 |e,f,w,ds=>Q e f w ds
def c1E(id:Nat)(Q:QD):QD
 |.exit j,f,w,ds=>bif Nat.beq j id then Q .normal f w ds else Q (.exit j) f w ds
 |e,f,w,ds=>Q e f w ds
section
variable{P:Program}{n:Nat}{Q:QD}{f:Fr}{w:World}{ds:List Nat}
def d0i{c:Code}{Q0:Exit->Fr->World->Prop}(h:W P n c Q0 f w)(hq:∀e f' w',Q0 e f' w'->Q e f' w' ds):WD P n c Q f w ds:=fun a w1 ha hd hs =>
 d6Q (h a w1 ha hs none) fun _ _ _ ⟨g,v,hg,hd',hv,q⟩=>⟨g,v,ds,hg,hd'.trans hd,hv,hq _ _ _ q⟩
def a63{c:Code}{Q':QD}(h:WD P n c Q f w ds)(hq:∀e f w ds,Q e f w ds->Q' e f w ds):WD P n c Q' f w ds:=fun a w1 ha hd hs =>
 d6Q (h a w1 ha hd hs) fun _ _ _ ⟨g,v,d,h1,h2,h3,q⟩=>⟨g,v,d,h1,h2,h3,hq _ _ _ _ q⟩
def c6n{x y:Code}(h:WD P n x (c5h (WD P n y Q) Q) f w ds):WD P n (.seq x y) Q f w ds:=fun a w1 ha hd hs =>
 wpIn_seq (d6Q (h a w1 ha hd hs) fun e a' w' ⟨g,v,d,hg,hd,hv,q⟩=>by cases e <;> first|exact q a' w' hg hd hv|exact⟨g,v,d,hg,hd,hv,q⟩)
def c1D{id:Nat}{c:Code}(h:WD P n c (c1E id Q) f w ds):WD P n (.block id c) Q f w ds:=fun a w1 ha hd hs =>
 wpIn_block (d6Q (h a w1 ha hd hs) fun e a' w' ⟨g,v,d,hg,hd,hv,q⟩=>by
  cases e with
  |exit j =>
   simp only[Exit.inBlock];unfold c1E at q;by_cases hj:j=id
   . subst hj;simp only[d7h,d5r]at q;rw[if_pos rfl];exact⟨g,v,d,hg,hd,hv,q⟩
   . simp only[a02 hj,d5y]at q;rw[if_neg hj];exact⟨g,v,d,hg,hd,hv,q⟩
  |_=>exact⟨g,v,d,hg,hd,hv,q⟩)
def c3j{c:Code}(I:Nat->Fr->World->List Nat->Prop)(m:Nat)(h0:I m f w ds)
  (round:∀m f w ds,I m f w ds->WD P n c (c5h (fun f' w' ds'=>∃m',m'<m/\I m' f' w' ds') Q) f w ds):WD P n (.loop c) Q f w ds:=by
 intro a w1 ha hd hs
 classical
 let X:Nat->Act->World->Prop:=fun m a w1=>∃f w ds,Is a f n/\a.defers=marks ds/\F8 w w1/\I m f w ds
 let J:Act->World->Prop:=fun a w1=>∃m,X m a w1
 let μ:Act->World->Nat:=fun a w1=>if h:∃m,X m a w1 then Classical.choose (S8 h)else 0
 have mu:∀a w1,J a w1->X (μ a w1) a w1/\∀k,X k a w1->μ a w1<=k:=fun a w1 h=>by grind
 refine wpIn_loop J μ ⟨m,f,w,ds,ha,hd,hs,h0⟩ ?_;intro a w1 hJ;obtain⟨f,w,ds,hf,hds,hw,hI⟩:=(mu a w1 hJ).1;refine d6Q (round _ f w ds hI a w1 hf hds hw) ?_;intro e a' w' ⟨g,v,d,hg,hd,hv,q⟩;cases e with
 |normal =>
  obtain⟨m',hlt,hI'⟩:=q;have hx:X m' a' w':=⟨g,v,d,hg,hd,hv,hI'⟩;exact⟨⟨m',hx⟩,Nat.lt_of_le_of_lt ((mu a' w' ⟨m',hx⟩).2 m' hx) hlt⟩
 |_=>exact⟨g,v,d,hg,hd,hv,q⟩
def rcL(fn:FuncId)(tm:Array Value)(ps:Array Tmp)(asg body:Code)(D:Nat)(st:LoopState)(pe:Option Code):Loop:=
 { state:=st,pending:=pe,fn,tmps:=tm,params:=ps,assign:=asg,body,defers:=D }
def a4j{w1:World}(hs:F8 w w1)(r:Nat)(o:Obj):F8 (w.putObj r o) (w1.putObj r o):=by obtain⟨k,rfl⟩:=hs;exact⟨k,rfl⟩
def a8V{w1:World}(hs:F8 w w1)(o:Obj):F8 (w.alloc o) (w1.alloc o):=by obtain⟨k,rfl⟩:=hs;exact⟨k,rfl⟩
def a1A(w:World)(fn:FuncId)(tm:Array Value)(ps:Array Tmp)(asg body:Code):World:=(w.alloc (.deferred (some []))).alloc (.loop (rcL fn tm ps asg body w.heap.size .ready none))
def c1Q{g:Operand}{ps:Array Tmp}{asg body:Code}{gf:Nat}{lb:List Value}(hg:ev f g=.func (.func gf) #[] lb.toArray)(eg:∀args w,(callFunc gf args).run P w=.ok (.enter gf args) w)
  (h:∀(fn:FuncId)(tm:Array Value),Is { tmps:=tm,defers:=[] } f n ->
   G2 P gf (.func (.yield (w.heap.size+1)) #[] #[]::lb) (a1A w fn tm ps asg body) (fun _ w2=>∃st pe,st≠.busy/\w2.heap[w.heap.size+1]?=some (.loop (rcL fn tm ps asg body w.heap.size st pe)) /\
    ((pe=none/\Q .normal f (w2.putObj (w.heap.size+1) (.loop (rcL fn tm ps asg body w.heap.size .exhausted pe))) (w.heap.size::ds)) ∨
     (pe=some .ret/\Q .ret f (w2.putObj (w.heap.size+1) (.loop (rcL fn tm ps asg body w.heap.size .exhausted pe))) (w.heap.size::ds))))):WD P n (.rangeFunc g ps asg body) Q f w ds:=by
 intro a w1 ha hd hs;have hsz:w1.heap.size=w.heap.size:=by rw[hs.heap]
 refine wpIn_rangeFunc fun fn _=>?_;obtain⟨W1,hW1⟩:∃W1,(w1.alloc (.deferred (some []))).alloc (.loop { state:=.ready,pending:=none,fn,tmps:=a.tmps,params:=ps,assign:=asg,body,defers:=w1.heap.size })=W1:=⟨_,rfl⟩;refine⟨w1.heap.size+1,[{ target:=.collected w1.heap.size,args:=#[] }],W1,{ target:=.fn (.func gf) lb.toArray,args:=#[.func (.yield (w1.heap.size+1)) #[] #[]] },W1,gf,#[.func (.yield (w1.heap.size+1)) #[] #[]]++lb.toArray,W1,by rw[<- hW1];exact run_enterLoop_outer _ _ _ _ _,?_,?_,?_,fun h=>(by cases h),?_⟩
 . have e:a.eval g=.func (.func gf) #[] lb.toArray:=by rw[ha.eval];exact hg
   simp only[resolve,e];simp[go_sem]
 . intro f' _;trivial
 . simp[invoke,go_sem,eg]
 . have hi:Is { tmps:=a.tmps,defers:=[] } f n:=⟨ha.size,ha.get⟩;have hc:=h fn a.tmps hi;have hS:F8 (a1A w fn a.tmps ps asg body) W1:=by
    rw[<- hW1,hsz];exact a8V (a8V hs _) _
   have hc:=hc _ hS;have ea:(Value.func (.yield (w.heap.size+1)) #[] #[]::lb).toArray=#[.func (.yield (w1.heap.size+1)) #[] #[]]++lb.toArray:=by rw[hsz];simp
   rw[ea]at hc;refine a69 (d6d hc ?_);rintro e w3 ⟨v,w2,rfl,hs2,st,pe,hb,hl,hq⟩;have hl3:w3.heap[w1.heap.size+1]?=some (.loop (rcL fn a.tmps ps asg body w.heap.size st pe)):=by rw[hs2.heap,hsz];exact hl
   have hend:=run_endLoop (P:=P) hl3 hb;have hs3:F8 (w2.putObj (w.heap.size+1) (.loop (rcL fn a.tmps ps asg body w.heap.size .exhausted pe))) (w3.putObj (w1.heap.size+1) (.loop (rcL fn a.tmps ps asg body w.heap.size .exhausted pe))):=by rw[hsz];exact a4j hs2 _ _
   have hdd:([{ target:=.collected w1.heap.size,args:=#[] }]:List Deferred)++a.defers=marks (w.heap.size::ds):=by rw[hd,hsz];rfl
   rcases hq with⟨rfl,hq⟩|⟨rfl,hq⟩
   . exact⟨none,_,hend,f,_,_,⟨ha.size,ha.get⟩,hdd,hs3,hq⟩
   . exact⟨some .ret,_,hend,wpIn_ret ⟨f,_,_,⟨ha.size,ha.get⟩,hdd,hs3,hq⟩⟩
def b1M{l:Nat}{fn:FuncId}{tm:Array Value}{p:Tmp}{asg body:Code}{D:Nat}{v:Value}{R:Value->World->Prop}(hl:w.heap[l]?=some (.loop (rcL fn tm #[p] asg body D .ready none)))(hi:Is { tmps:=tm,defers:=[] } f n)(hp:Nat.blt p n=true)
  (h:W P n asg (b6S (fun f2 w2=>w2.heap[l]?=some (.loop (rcL fn tm #[p] asg body D .ready none))/\W P n body (fun e _ w3=>w3.heap[l]?=some (.loop (rcL fn tm #[p] asg body D .busy none)) /\
   ((e=.normal/\R (.bool true) (w3.putObj l (.loop (rcL fn tm #[p] asg body D .ready none))))∨(e=.ret/\R (.bool false) (w3.putObj l (.loop (rcL fn tm #[p] asg body D .done (some .ret)))))))
    f2 (w2.putObj l (.loop (rcL fn tm #[p] asg body D .busy none)))) (fun _ _ _=>False)) (D5 f p v) w):a0w P l [v] w R:=by
 intro w1 hs;have hl1:w1.heap[l]?=some (.loop (rcL fn tm #[p] asg body D .ready none)):=by rw[hs.heap];exact hl
 refine⟨fn,_,asg,body,run_yield (P:=P) (args:=[v].toArray) hl1 rfl,roundIn_of_wpIn trivial ?_⟩;have ht:((#[p]:Array Tmp).zip [v].toArray).foldl (fun tmps (x:Tmp×Value)=>tmps.setIfInBounds x.1 x.2) tm=tm.setIfInBounds p v:=by simp
 have hip:Is { tmps:=((#[p]:Array Tmp).zip [v].toArray).foldl (fun tmps (x:Tmp×Value)=>tmps.setIfInBounds x.1 x.2) tm,defers:=[] } (D5 f p v) n:=by rw[ht];exact hi.put (G4 hp) v
 refine d6Q (h _ w1 hip hs (some l)) ?_;rintro e a2 w2 ⟨f2,w2',hi2,hd2,hs2,q⟩;cases e with
 |normal =>
  obtain⟨hl2,hb⟩:=q;have hl2':w2.heap[l]?=some (.loop (rcL fn tm #[p] asg body D .ready none)):=by rw[hs2.heap];exact hl2
  refine⟨_,run_beginRound (P:=P) hl2' rfl,?_⟩;refine d6Q (hb a2 _ hi2 (a4j hs2 _ _) (some l)) ?_;rintro e a3 w3 ⟨f3,w3',hi3,hd3,hs3,hl3,q⟩;have hl3':w3.heap[l]?=some (.loop (rcL fn tm #[p] asg body D .busy none)):=by rw[hs3.heap];exact hl3
  rcases q with⟨rfl,q⟩|⟨rfl,q⟩
  . exact⟨_,_,run_endRound (P:=P) none hl3',_,_,rfl,a4j hs3 _ _,q⟩
  . exact⟨_,_,run_endRound (P:=P) (some .ret) hl3',_,_,rfl,a4j hs3 _ _,q⟩
 |_=>exact q.elim
def Z8:World->List Nat->World
 |w,[]=>w
 |w,D::ds=>Z8 (w.putObj D (.deferred none)) ds
def a4n{fn:Func}{R:Ending->World->Prop}{tm:Array Value}:∀(ds:List Nat)(w:World),ds.Nodup->(∀D∈ds,w.heap[D]?=some (.deferred (some [])))->(∃v,(results fn tm).run P (Z8 w ds)=.ok v (Z8 w ds)/\R (.returned v) (Z8 w ds))->LeavesInM (P6 none) 0 P fn tm R (marks ds) .returning w
 |[],_,_,_,h=>h
 |D::ds,w,hn,hd,h=>by refine⟨(by simp_all),.inl ⟨D,_,rfl,run_takeDeferred (hd D (d5P ..)),?_⟩⟩;refine a4n ds _ (d8n.1 hn).2 (fun D' h'=>?_) h;have hne:D'≠D:=fun e=>(d8n.1 hn).1 (e ▸ h');rw[d7s hne];simp_all
def a8R{w1:World}:∀(ds:List Nat)(w:World)(w1:World),F8 w w1->F8 (Z8 w ds) (Z8 w1 ds)
 |[],_,_,h=>h
 |_::ds,_,_,h=>a8R (w1:=w1) ds _ _ (a4j h _ _)
def c7s{K:FuncId}{fn:Func}{c:Code}{args:List Value}{R:Value->World->Prop}(hf:P.funcs[K]?=some fn)(hb:fn.body=some c)(hn:fn.ntmps=n)(hs:Nat.ble args.length n=true)
  (h:WD P n c (fun e f w ds=>(e=.ret∨e=.normal)/\ds.Nodup/\(∀D∈ds,w.heap[D]?=some (.deferred (some [])))/\∃v,b7C P fn n f (Z8 w ds) v/\R v (Z8 w ds)) (nth args) w []):G2 P K args w R:=by
 subst hn;intro w1 hw;refine(callsIn_wide (n:=0)).1 (callsIn_of_wp_marks hf hb trivial (d6Q (h _ w1 (b2O args _ (d5X hs)) rfl hw) ?_));rintro e a w2 ⟨f,w',ds,hi,hd,hv,he,hnd,hm,v,hr,hR⟩;have key:LeavesInM (P6 none) 0 P fn a.tmps (fun e w2=>∃v w',e=.returned v/\F8 w' w2/\R v w') a.defers .returning w2:=by rw[hd];have hss:=a8R (w1:=w1) ds w' w2 hv;refine a4n ds w2 hnd (fun D hD=>by rw[hv.heap];exact hm D hD) ⟨v,hr a _ hi hss,v,_,rfl,hss,hR⟩
 rcases he with rfl|rfl <;> exact key
end
def Sep.stay{B0:List Nat}{w0 w w':World}{Z:Nat->Prop}{l:List It}{B F:List Nat}(hs:Sep B0 w0 Z w l)(hx:Ext B w w')(hB:∀b∈B,b<w.heap.size->(∀t∈l,b ∉ t.F)/\¬Z b)(hO:∀t∈l,t.O=F)(hF:∀t∈l,∀b∈t.F,b∈F):Sep F w' Z w' l:=by refine⟨Ext.refl _ _,fun b hb=>d6z (hs.zlt b hb) hx.size,fun k t hk=>?_,hs.apart⟩;have hm:t∈l:=d5c hk;have ok:=hs.ok k t hk;refine⟨ok.I3 Z Z B w w' ok.holds hx (fun b hb h=>?_) (fun _ h=>h),ok.I3,fun b hb=>d6z (ok.lt b hb) hx.size,ok.O2,fun b hb=>.inl (by grind),fun b hb=>by simp_all⟩;grind
section
variable{E:Env}{C C0:Ctx}{ρ ρ' ρb:p4}{Z Z' Zb:Nat->Prop}{w w' wb:World}{its its' lkd:c7 E.N}{nx nb:Nat}{fx:n5 E.N}{st:E.St}{f fb:Fr}
def B7(E:Env)(ρ:p4)(its:c7 E.N):List Nat:=its.flatMap fun p=>u4 E.N ρ p.1 p.2
def s9{b:Nat}:b∈B7 E ρ its↔∃p∈its,b∈u4 E.N ρ p.1 p.2:=by unfold B7;simp_all
def a4Z{B0:List Nat}{t:It}:t∈u7 E.N E.T ρ B0 its↔∃p∈its,t=C9 E.N E.T ρ B0 p.1 p.2:=by unfold u7;grind
def Mem.okp(hm:Mem E C ρ Z w its nx){p:Nat×Item E.N}(hp:p∈its):(C9 E.N E.T ρ C.B0 p.1 p.2).Ok C.B0 C.w0 Z w:=by obtain⟨k,hk⟩:=d5T hp;exact hm.sep.ok k _ (j6 hk)
def a8i{B0 B1:List Nat}{w0:World}(hs:Sep B0 w0 Z w (u7 E.N E.T ρ B0 its))(hx:∀p∈its,∀b∈u4 E.N ρ p.1 p.2,b∈B1∨w.heap.size<=b):Sep B1 w Z w (u7 E.N E.T ρ B1 its):=by
 refine⟨Ext.refl _ _,hs.zlt,fun k t hk=>?_,fun j k s t hj hk hne=>?_⟩
 . obtain⟨p,hp,rfl⟩:=o8 hk;have ok:=hs.ok k _ (j6 hp);refine⟨ok.holds,u5,ok.lt,ok.O2,fun b hb=>?_,fun b hb=>hb⟩;rcases hx p (d5c hp) b hb with h|h
   . exact .inl h
   omega
 . obtain⟨p,hp,rfl⟩:=o8 hj;obtain⟨q,hq,rfl⟩:=o8 hk;exact fun b hb hb'=>hs.apart j k (C9 E.N E.T ρ B0 p.1 p.2) (C9 E.N E.T ρ B0 q.1 q.2) (j6 hp) (j6 hq) hne b hb hb'
def Ctx.gr(ρ0:p4)(Z:Nat->Prop)(w:World)(B:List Nat):Ctx:=⟨ρ0,Z,w,B,w⟩
def Mem.c27{B:List Nat}(hm:Mem E C ρ Z w its nx)(hx:Ext B w w')(hB:∀b∈B,b<w.heap.size->b ∉ B7 E ρ its/\¬Z b){ρ0:p4}(h0:∀i L,ρ0 i=some L->ρ i=some L):Mem E (Ctx.gr ρ0 Z w' (B7 E ρ its)) ρ Z w' its nx:=by
 have h1:Sep (B7 E ρ its) w Z w (u7 E.N E.T ρ (B7 E ρ its) its):=a8i hm.sep fun p hp b hb=>.inl (s9.2 ⟨p,hp,hb⟩);refine⟨Sep.stay h1 hx (fun b hb hlt=>⟨fun t ht hbt=>?_,(hB b hb hlt).2⟩) (fun t ht=>?_) (fun t ht b hb=>?_),hm.fr,h0,fun _ h=>h,fun _ h=>.inl h⟩
 . obtain⟨p,hp,rfl⟩:=a4Z.1 ht;exact(hB b hb hlt).1 (s9.2 ⟨p,hp,hbt⟩)
 . obtain⟨p,hp,rfl⟩:=a4Z.1 ht;rfl
 . obtain⟨p,hp,rfl⟩:=a4Z.1 ht;exact s9.2 ⟨p,hp,hb⟩
def Mem.base(hm:Mem E C ρ Z w its nx):Mem E (Ctx.gr ρ Z w (B7 E ρ its)) ρ Z w its nx:=hm.c27 (B:=[]) (Ext.refl _ _) (fun _ h=>by cases h) (fun _ _ h=>h)
def Mem.b0M{ib:c7 E.N}(hb:Mem E C ρb Zb wb ib nb)(hm:Mem E (Ctx.gr ρb Zb wb (B7 E ρb ib)) ρ Z w its nx):Mem E C ρ Z w its nx:=by
 have hB:∀x∈B7 E ρb ib,x∈C.B0∨C.w0.heap.size<=x:=fun x hx=>by obtain⟨p,hp,h⟩:=s9.1 hx;exact(hb.okp hp).org x h
 have hsz:=hb.sep.ext.size;refine⟨⟨hb.sep.ext.trans hm.sep.ext (fun x hx=>.inl hx) hB,hm.sep.zlt,fun k t hk=>?_,fun j k s t hj hk hne=>?_⟩,hm.fr,fun i L e=>hm.ge i L (hb.ge i L e),fun b h=>hm.zge b (hb.zge b h),fun b h=>?_⟩
 . obtain⟨p,hp,rfl⟩:=o8 hk;have ok:=hm.sep.ok k _ (j6 hp);refine⟨ok.holds,u5,ok.lt,ok.O2,fun b hb'=>?_,fun b hb=>hb⟩;rcases ok.org b hb' with h|h
   . exact hB b h
   . exact .inr (d5f hsz h)
 . obtain⟨p,hp,rfl⟩:=o8 hj;obtain⟨q,hq,rfl⟩:=o8 hk;exact fun b hb1 hb2=>hm.sep.apart j k (C9 E.N E.T ρ _ p.1 p.2) (C9 E.N E.T ρ _ q.1 q.2) (j6 hp) (j6 hq) hne b hb1 hb2
 . rcases hm.zle b h with h|h|h
   . exact hb.zle b h
   . exact .inr (hB b h)
   . exact .inr (.inr (d5f hsz h))
def Mem.quiet{B:List Nat}(hm:Mem E C ρ Z w its nx)(hx:Ext B w w')(hB:∀b∈B,b<w.heap.size->b ∉ B7 E ρ its/\¬Z b/\C.w0.heap.size<=b):Mem E C ρ Z w' its nx:=by
 have hsz:=hm.sep.ext.size;refine⟨⟨hm.sep.ext.trans hx (fun x hx=>.inl hx) (fun x hx=>?_),fun b hb=>d6z (hm.sep.zlt b hb) hx.size,fun k t hk=>?_,hm.sep.apart⟩,hm.fr,hm.ge,hm.zge,hm.zle⟩
 . grind
 . obtain⟨p,hp,rfl⟩:=o8 hk;have ok:=hm.sep.ok k _ (j6 hp);refine⟨u5 Z Z B w w' ok.holds hx (fun b hb h=>?_) (fun _ h=>h),u5,fun b hb=>d6z (ok.lt b hb) hx.size,ok.O2,ok.org,ok.a5L⟩;rcases d5B b w.heap.size with h1|h1
   . rcases h with h|h
     . exact absurd (s9.2 ⟨p,d5c hp,h⟩) (hB b hb h1).1
     simp_all
   . exact h1
def TnW(Z:Nat->Prop)(w:World)(Z':Nat->Prop)(w':World):Prop:=Tn (fun _=>none) Z w (fun _=>none) Z' w'
def TnW.of(h:Tn ρ Z w ρ' Z' w'):TnW Z w Z' w':=⟨fun _ _ h=>h,h.z,h.ext⟩
def TnW.tn(h:TnW Z w Z' w')(hρ:∀i L,ρ i=some L->ρ' i=some L):Tn ρ Z w ρ' Z' w':=⟨hρ,h.z,h.ext⟩
def TnW.tr{Z1:Nat->Prop}{w1:World}(h:TnW Z w Z1 w1)(k:TnW Z1 w1 Z' w'):TnW Z w Z' w':=Tn.trans h k
def TnW.q{B:List Nat}(hx:Ext B w w')(hB:∀b∈B,b<w.heap.size->¬Z b):TnW Z w Z w':=⟨fun _ _ h=>h,fun _ h _=>h,B,hx,fun b hb hz=>by grind⟩
def Rel.base(h:Rel E C fx lkd st ρ Z f w):Rel E (Ctx.gr ρ Z w (B7 E ρ (st.items++lkd))) fx lkd st ρ Z f w:=⟨h.sl,h.fx,h.gs,h.mem.base,Tn.refl _ _ _,h.a4g⟩
def Rel.b0M{lkd':c7 E.N}{fx':n5 E.N}{st':E.St}{f':Fr}(hb:Rel E C fx lkd st ρb Zb fb wb)(h:Rel E (Ctx.gr ρb Zb wb (B7 E ρb (st.items++lkd))) fx' lkd' st' ρ Z f' w):Rel E C fx' lkd' st' ρ Z f' w:=⟨h.sl,h.fx,h.gs,hb.mem.b0M h.mem,hb.tn.trans h.tn,hb.g⟩
structure Mk(E:Env)(C:Ctx)(ρ:p4)(Z:Nat->Prop)(w:World)(its:c7 E.N)(ds:List Nat):Prop where
 nd:ds.Nodup
 is:∀D∈ds,w.heap[D]?=some (.deferred (some []))
 new:∀D∈ds,C.w0.heap.size<=D
 ap:∀D∈ds,D ∉ B7 E ρ its/\¬Z D
def Mk.lt{ds:List Nat}(h:Mk E C ρ Z w its ds):∀D∈ds,D<w.heap.size:=fun D hD=>(d7b.1 (h.is D hD)).1
def Mk.go{ds:List Nat}(h:Mk E C ρ Z w its ds)(hm:Mem E (Ctx.gr ρb Z w (B7 E ρ its)) ρ' Z' w' its' nx):Mk E C ρ' Z' w' its' ds:=by
 refine⟨h.nd,fun D hD=>?_,h.new,fun D hD=>⟨fun hf=>?_,fun hz=>?_⟩⟩
 . rw[hm.sep.ext.block D (h.lt D hD) (h.ap D hD).1];exact h.is D hD
 . obtain⟨p,hp,hb⟩:=s9.1 hf;have hlt:=h.lt D hD;rcases(hm.okp hp).org D hb with h1|h1
   . exact(h.ap D hD).1 h1
   . exact absurd h1 (Nat.not_le.2 hlt)
 . have hlt:=h.lt D hD;rcases hm.zle D hz with h1|h1|h1
   . exact(h.ap D hD).2 h1
   . exact(h.ap D hD).1 h1
   . exact absurd h1 (Nat.not_le.2 hlt)
def Mk.sub{ds:List Nat}(h:Mk E C ρ Z w its ds)(hs:∀p∈its',p∈its):Mk E C ρ Z w its' ds:=⟨h.nd,h.is,h.new,fun D hD=>⟨fun hf=>by obtain⟨p,hp,hb⟩:=s9.1 hf;exact(h.ap D hD).1 (s9.2 ⟨p,hs p hp,hb⟩),(h.ap D hD).2⟩⟩
def QKD(E:Env)(C:Ctx)(fx:n5 E.N)(lkd:c7 E.N)(K:Ks E):QD:=fun e f w ds=>∃st ρ Z,Rel E C fx lkd st ρ Z f w/\Mk E C ρ Z w (st.items++lkd) ds/\b8m K e st
def piece_ok{inl:Inl E}{an:D3}(hE:c8 E)(hI:H6 E inl){c:Code}{K:Ks E}{ds:List Nat}(h:Rel E C fx lkd st ρ Z f w)(hk:Mk E C ρ Z w (st.items++lkd) ds)(hv:vc inl an c fx lkd st K):WD E.P an.n c (QKD E C fx lkd K) f w ds:=
 d0i (vc_ok hE hI c _ fx lkd st K ρ Z f w h.base hv) fun _ _ _ ⟨st',ρ',Z',hr,he⟩=>⟨st',ρ',Z',h.b0M hr,hk.go hr.mem,he⟩
def a9x:∀(ds:List Nat)(w:World),Ext ds w (Z8 w ds)
 |[],w=>Ext.refl _ _
 |D::ds,w=>by refine Ext.trans (B1:=[D]) (B2:=ds) (b:=w.putObj D (.deferred none)) ⟨rfl,rfl,rfl,by simp_all,fun b _ hb=>d7s (by simp_all)⟩ (a9x ds _) (fun x hx=>.inl (by simp_all)) (fun x hx=>.inl (d5v _ hx))
def Rel.Z8{ds:List Nat}(h:Rel E C fx lkd st ρ Z f w)(hk:Mk E C ρ Z w (st.items++lkd) ds):Rel E C fx lkd st ρ Z f (Go.Rx.Z8 w ds):=by have hx:=a9x ds w;have ht:TnW Z w Z (Go.Rx.Z8 w ds):=TnW.q hx fun b hb _=>(hk.ap b hb).2;exact⟨fun k s e=>(ht.tn (fun _ _ h=>h)).rep (h.sl k s e),fun p hp=>(ht.tn (fun _ _ h=>h)).rep (h.fx p hp),fun k j b s e=>⟨fun hb=>(ht.tn (fun _ _ h=>h)).rep ((h.gs k j b s e).1 hb),(h.gs k j b s e).2⟩,h.mem.quiet hx fun b hb _=>⟨(hk.ap b hb).1,(hk.ap b hb).2,hk.new b hb⟩,h.tn.trans (ht.tn (fun _ _ h=>h)),h.g⟩
def b6J{keep:List Nat}{vs:List LV}{lkd':c7 E.N}{st':E.St}{α:Type}{g:Cur E.N α vs}{Kα:α->Prop}{K:α->E.St->Prop}(h0:Rel E C0 fx lkd st ρb Zb fb wb)(hl:∀p∈lkd',p∈st.items++lkd)
  (h:Rel E C (s5 fx st keep++fx) lkd' st' ρ Z f w) (hρ:∀i L,ρb i=some L->ρ i=some L) (hC:∀i L,C.ρ0 i=some L->ρb i=some L) (hv:rbP E fx st (s5 fx st keep++fx) st' vs g Kα) (hK:Q2 E fx st vs g ⟨[],[],[],st.nx⟩ K) :
  ∃new ρ2 a,Kα a/\K a new/\Rel E C (s5 fx st keep++fx) lkd' new ρ2 Z f w/\∀i L,ρb i=some L->ρ2 i=some L:=by
 unfold rbP at hv;cases hb:b3t E fx st (s5 fx st keep++fx) st' vs with
 |false=>simp_all
 |true =>
  rw[hb,d5r]at hv;unfold b3t at hb;simp only[d4U]at hb;obtain⟨hd,hr⟩:=hb;split at hv
  . rename_i a ha;have hbase:∀s id off,w8 fx st s=.ref id off->∃L,ρb id=some L:=fun s id off e=>by
     have:=h0.slot s;rw[e]at this;generalize fb s=u at this;cases this with
     |ref hL=>simp_all
    have hbA:∀s id,b1x (w8 fx st s)=some id∨obN (w8 fx st s)=some id->∃L,ρb id=some L:=fun s id e=>by
     have:=h0.slot s;generalize w8 fx st s=x at e this;generalize fb s=u at this;rcases e with e|e
     . cases this with
       |acc hL=>cases e;simp_all
       |a3d hL _ _ _ _ _=>cases e;simp_all
       |_=>cases e
     . cases this with
       |ref hL=>cases e;simp_all
       |yld hL=>cases e;simp_all
       |mp hL=>cases e;simp_all
       |_=>cases e
    obtain⟨new,ρ2,os,hF,hp,hk⟩:=rbAll_ok (fun s id e=>h0.a8l e) hbase hbA hρ h vs g a ⟨[],[],[],st.nx⟩ ρb [] ha (a7f hr) ⟨.nil,h0.mem.fr,fun _ _ h=>h,fun k s e=>(by cases e),rfl⟩ K hK;have hnd:(os.filterMap id).Nodup:=hp.nodup_iff.2 (by simpa using J6 hd);refine⟨new,ρ2,a,hv,hk,⟨hF.sl,fun p hp=>?_,fun k j b s e=>(by rw[hF.gs]at e;cases e),?_,⟨fun i L e=>hF.sub i L (hC i L e),h.tn.z,h.tn.ext⟩,h.g⟩,hF.sub⟩
    . have r1:=h.fx p hp;have r2:∃v,e7 E.N E.T ρb Zb wb v p.2:=by
       rcases d5t.1 hp with hp|hp
       . simp only[s5,d6A]at hp;obtain⟨s,_,rfl⟩:=hp;exact⟨_,h0.slot s⟩
       . exact⟨_,h0.fx p hp⟩
      obtain⟨v,r2⟩:=r2;exact e7.sub (e7.lower r1 r2 hρ) hF.sub
    . refine Mem.b02 h.mem (fun p hp=>?_) hF.tg hnd hF.fr (fun i L e=>hF.sub i L (hC i L e));obtain⟨k,hk⟩:=d5T hp;have e1:holds E.N E.T ρ p.1 Z w p.2:=h.mem.holds (k:=st'.items.length+k) (by grind);obtain⟨k2,hk2⟩:=d5T (hl p hp);have e2:holds E.N E.T ρb p.1 Zb wb p.2:=h0.mem.holds hk2;obtain⟨a1,a2⟩:=a5r e1 e2 hρ;obtain⟨b1,b2⟩:=P7 hF.sub a1;simp_all
  simp_all
end
structure YE(E:Env) where
 yo:ClX E.P->E.N.O 0
 is:∀(b:Nat)(Z:Nat->Prop)(w:World)(x:ClX E.P)(F:List Nat),((E.N.oj 0).ob b).is Z w (yo x) F↔(obY E.P b).is Z w x F
def K2(res:List Int->Int->Bool)(xs:List Int):Bool:=match xs.getLast? with|none=>false|some t=>!res xs.dropLast t
def b7S{res:List Int->Int->Bool}{xs:List Int}{t:Int}:K2 res (xs++[t])=!res xs t:=by simp[K2]
def stA(b:Bool):LoopState:=bif b then .done else .ready
def stP(b:Bool):Option Code:=bif b then some .ret else none
def c6o(L:Nat)(r:Loop):It:=⟨[L],[L],fun _ w=>w.heap[L]?=some (.loop r)⟩
def a8Y{L:Nat}{r:Loop}:(c6o L r).W9:=fun Z Z' B w w' h hx hB _=>by
 have h:w.heap[L]?=some (.loop r):=h;have hlt:=(d7b.1 h).1;show w'.heap[L]?=_
 rw[hx.block L hlt (fun hm=>absurd (hB L hm (.inl (d5a.2 rfl))) (Nat.not_le.2 hlt))];exact h
def Sep.c92{w w':World}{Z:Nat->Prop}{l:List It}{B F:List Nat}(hs:Sep F w Z w l)(hx:Ext B w w')(hB:∀b∈B,b<w.heap.size->b ∉ F/\¬Z b):Sep F w' Z w' l:=by
 refine⟨Ext.refl _ _,fun b hb=>d6z (hs.zlt b hb) hx.size,fun k t hk=>?_,hs.apart⟩;have ok:=hs.ok k t hk;have hO:∀b∈t.F,b∈t.O:=fun b hb=>by
  rcases ok.org b hb with h|h
  . exact h
  . exact absurd (ok.lt b hb) (d7w.2 h)
 refine⟨ok.I3 Z Z B w w' ok.holds hx (fun b hb h=>?_) (fun _ h=>h),ok.I3,fun b hb=>d6z (ok.lt b hb) hx.size,ok.O2,fun b hb=>.inl (hO b hb),ok.a5L⟩;rcases d5B b w.heap.size with h1|h1
 . rcases h with h|h
   . exact absurd (ok.a5L b (hO b h)) (hB b hb h1).1
   simp_all
 . exact h1
def a1f(w:World)(L:Nat)(o:Obj):Ext [L] w (w.putObj L o):=⟨rfl,rfl,rfl,by simp_all,fun b _ hb=>d7s (by simp_all)⟩
section
variable{E:Env}{fx:n5 E.N}{st:E.St}
def a2m{nm:List Nat}{α:Type}{G:α->Nat->c7 E.N->List E.SV->Prop}:∀(ks:List TK)(f:tcD E.N α ks)(nx:Nat)(its:c7 E.N)(acc:List E.SV),a4h E nm ks nx its acc f G->∀Y,G (a1C ks f Y) (a0Q E nm ks nx its acc Y).1 (a0Q E nm ks nx its acc Y).2.1 (a0Q E nm ks nx its acc Y).2.2
 |[],_,_,_,_,h,_=>h
 |.v k::r,f,_,_,_,h,Y=>a2m r (f Y.1) _ _ _ (h Y.1) Y.2
 |.to _::r,f,_,_,_,h,Y=>a2m r f _ _ _ h Y
 |.a0n::r,f,_,_,_,h,Y=>a2m r f _ _ _ h Y
 |.any::r,f,_,_,_,h,Y=>a2m r f _ _ _ h Y
def a8u{nm:List Nat}{α:Type}{G:α->Nat->c7 E.N->Prop}:∀(ps:List TP)(f:tpD E.N α ps)(i nx:Nat)(its:c7 E.N),a7r E nm ps i nx its f G->∀Y,G (a0N ps f Y) (a5E E nm ps i nx its Y).1 (a5E E nm ps i nx its Y).2
 |[],_,_,_,_,h,_=>h
 |.own _ T ks::r,f,i,nx,its,h,Y=>a8u r _ _ _ _ (a2m ks f nx its [] h Y.1) Y.2
 |.ob _ k::r,f,i,nx,its,h,Y=>a8u r (f Y.1) _ _ _ (h Y.1) Y.2
def a65{α:Type}{d:α}{G:α->E.St->Prop}:∀(vs:List LV)(f:Cur E.N α vs)(new:E.St),a3R vs=true->Q2 E fx st vs f new G->∀Y,G (a4v d vs f Y) (b2e E fx st vs Y new)
 |[],_,_,_,h,_=>h
 |.slot s k::r,f,new,ho,h,Y=>a65 r (f Y.1) _ ho (h Y.1) Y.2
 |.tree ss ps::r,f,new,ho,h,Y=>a65 r (a0N ps f Y.1) _ ho (a8u ps f 0 _ _ h Y.1) Y.2
 |.own _ _::_,_,_,ho,_,_=>by cases ho
 |.ob _ _::_,_,_,ho,_,_=>by cases ho
 |.cont _ _::_,_,_,ho,_,_=>by cases ho
 |.unr _::_,_,_,ho,_,_=>by cases ho
def b5j:List LV->Bool
 |[]=>true
 |v::r=>(match v with|.tree ss _=>ss.isEmpty|_=>false) && b5j r
def O5(E:Env)(fx:n5 E.N)(st:E.St)(vs:List LV)(Y:vC E.N vs):E.St:=b2e E fx st vs Y ⟨[],[],[],st.nx⟩
def a7R:∀(vs:List LV)(Y:vC E.N vs)(new:E.St),b5j vs=true->(b2e E fx st vs Y new).slots=new.slots
 |[],_,_,_=>rfl
 |v::r,Y,new,h=>by
  unfold b5j at h;simp only[d4U]at h;obtain⟨h1,h2⟩:=h;cases v with
  |tree ss ps =>
   have h1:ss.isEmpty=true:=h1;have e:ss=[]:=d8N.1 h1;subst e;exact a7R r Y.2 _ h2
  |_=>cases h1
def a96{vs:List LV}(Y:vC E.N vs)(h:b5j vs=true):(O5 E fx st vs Y).slots=[]:=a7R vs Y _ h
end
section
variable{E:Env}{C0:Ctx}{ρ:p4}{Z:Nat->Prop}{w:World}{lkd:c7 E.N}{fx:n5 E.N}{st:E.St}{f:Fr}{inl:Inl E}{an:D3}
def JY(E:Env)(fx:n5 E.N)(st:E.St)(vs:List LV)(rest:c7 E.N)(L:Nat)(rec:LoopState->Option Code->Loop)(I:List Int->Cur E.N Prop vs)(res:List Int->Int->Bool)(ρ:p4)(Z:Nat->Prop)(w:World)(Zc:Nat->Prop)(wc:World)(xs:List Int)(F:List Nat):Prop:=
 ∃(Y:vC E.N vs)(ρj:p4)(Zj:Nat->Prop),a4v False vs (I xs) Y/\(∀i,(O5 E fx st vs Y).nx<=i->ρj i=none)/\(∀i Lo,ρ i=some Lo->ρj i=some Lo)/\(∀b,Zj b->Zc b∨b∈F)/\(∀b∈F,b<wc.heap.size)/\TnW Z w Zj wc /\
  Sep F wc Zj wc (c6o L (rec (stA (K2 res xs)) (stP (K2 res xs)))::u7 E.N E.T ρj F ((O5 E fx st vs Y).items++rest))
variable{vs:List LV}{rest:c7 E.N}{L:Nat}{I:List Int->Cur E.N Prop vs}{res:List Int->Int->Bool}{pre:List Int->Int->Prop}{keep:List Nat}{p:Nat}{asg body:Code}{fn D:Nat}{tm:Array Value}
def c4n{rec:LoopState->Option Code->Loop}{xs:List Int}{F:List Nat}:It.W9 ⟨F,[],fun Zc wc=>JY E fx st vs rest L rec I res ρ Z w Zc wc xs F⟩:=by
 intro Z1 Z2 B w1 w2 h hx hB hZ;obtain⟨Y,ρj,Zj,hY,hfr,hsub,hZj,hlt,htn,hs⟩:=h;have hB':∀b∈B,b<w1.heap.size->b ∉ F/\¬Zj b:=fun b hb h1=>by grind
 refine⟨Y,ρj,Zj,hY,hfr,hsub,fun b hb=>?_,fun b hb=>d6z (hlt b hb) hx.size,htn.tr (TnW.q hx fun b hb h1=>(hB' b hb h1).2),Sep.c92 hs hx hB'⟩;grind
def c1F{C:Ctx}{ρ1:p4}{Z1:Nat->Prop}{w1 w2:World}{st1:E.St}{f1:Fr}{fx1:n5 E.N}{lk1:c7 E.N}{B:List Nat}(h:Rel E C fx1 lk1 st1 ρ1 Z1 f1 w1)(hx:Ext B w1 w2)(hB:∀b∈B,b<w1.heap.size->b ∉ B7 E ρ1 (st1.items++lk1)/\¬Z1 b):Rel E (Ctx.gr C.ρ0 Z1 w2 (B7 E ρ1 (st1.items++lk1))) fx1 lk1 st1 ρ1 Z1 f1 w2:=by have ht:Tn ρ1 Z1 w1 ρ1 Z1 w2:=(TnW.q hx fun b hb h1=>(hB b hb h1).2).tn (fun _ _ h=>h);exact⟨fun k s e=>ht.rep (h.sl k s e),fun q hq=>ht.rep (h.fx q hq),fun k j b s e=>⟨fun hb=>ht.rep ((h.gs k j b s e).1 hb),(h.gs k j b s e).2⟩,h.mem.c27 hx hB h.mem.ge,⟨h.mem.ge,fun _ h _=>h,[],Ext.refl _ _,fun _ h=>by cases h⟩,a1s.turn h.a4g ht⟩
def round_ok(hE:c8 E)(hI:H6 E inl)(h:Rel E C0 fx lkd st ρ Z f w)(hrest:∀q∈rest,q∈st.items++lkd)(hns:b5j vs=true)(hok:a3R vs=true)(hp:Nat.blt p an.n=true)(hpf:∀q∈s5 fx st keep++fx,q.1≠p)
  (hst:∀xs t,pre xs t->K2 res xs=false)
  (hv:∀xs t,c6 t->pre xs t->Q2 E fx st vs (I xs) ⟨[],[],[],st.nx⟩ (fun x new=>x->vc inl an asg (s5 fx st keep++fx) rest ⟨(p,.int .i64 t)::new.slots,[],new.items,new.nx⟩
   ⟨fun st1=>vc inl an body (s5 fx st keep++fx) rest st1 ⟨fun st'=>res xs t=true/\rbP E fx st (s5 fx st keep++fx) st' vs (I (xs++[t])) id,fun st'=>res xs t=false/\rbP E fx st (s5 fx st keep++fx) st' vs (I (xs++[t])) id,[]⟩,fun _=>False,[]⟩))
  (hi:Is { tmps:=tm,defers:=[] } f an.n) (Zc:Nat->Prop) (wc:World) (F:List Nat) (xs:List Int) (t:Int) (hz:∀b,Zc b->b<wc.heap.size) (hF:∀b∈F,¬Zc b) (hJ:JY E fx st vs rest L (rcL fn tm #[p] asg body D) I res ρ Z w Zc wc xs F) (hpre:pre xs t) (hin:c6 t) :
  a0w E.P L [.int .i64 t] wc (fun v w'=>v=.bool (res xs t)/\∃F',JY E fx st vs rest L (rcL fn tm #[p] asg body D) I res ρ Z w Zc w' (xs++[t]) F'/\b4j wc w' F F'):=by
 classical
 obtain⟨Y,ρj,Zj,hY,hfr,hsub,hZj,hlt,htn,hs⟩:=hJ;have hsb:=hst xs t hpre;rw[hsb]at hs;have hrec:wc.heap[L]?=some (.loop (rcL fn tm #[p] asg body D .ready none)):=hs.at 0 rfl;have hLlt:L<wc.heap.size:=(d7b.1 hrec).1;have hLF:L∈F:=(hs.ok 0 _ rfl).a5L L (d5a.2 rfl);have hLZ:¬Zj L:=hs.nz 0 rfl L (d5a.2 rfl);have hLf:L ∉ B7 E ρj ((O5 E fx st vs Y).items++rest):=fun hm=>by obtain⟨q,hq,hb⟩:=s9.1 hm;obtain⟨k,hk⟩:=d5T hq;exact hs.apart 0 (k+1) _ (C9 E.N E.T ρj F q.1 q.2) rfl (by rw[d5F];exact j6 hk) (by omega) L (d5a.2 rfl) hb
 have hfF:∀b∈B7 E ρj ((O5 E fx st vs Y).items++rest),b∈F:=fun b hm=>by
  obtain⟨q,hq,hb⟩:=s9.1 hm;obtain⟨k,hk⟩:=d5T hq;have ok:=hs.ok (k+1) (C9 E.N E.T ρj F q.1 q.2) (by rw[d5F];exact j6 hk);rcases ok.org b hb with h1|h1
  . exact h1
  . exact absurd (ok.lt b hb) (d7w.2 h1)
 have hm0:Mem E (Ctx.gr ρ Zj wc F) ρj Zj wc ((O5 E fx st vs Y).items++rest) (O5 E fx st vs Y).nx:=⟨hs.drop,hfr,hsub,fun _ h=>h,fun _ h=>.inl h⟩;have hm:=hm0.c27 (B:=[]) (Ext.refl _ _) (fun _ h=>by cases h) hsub;have hT:Tn ρ Z w ρj Zj wc:=htn.tn hsub;have hr0:Rel E (Ctx.gr ρ Zj wc (B7 E ρj ((O5 E fx st vs Y).items++rest))) (s5 fx st keep++fx) rest ⟨(p,.int .i64 t)::(O5 E fx st vs Y).slots,[],(O5 E fx st vs Y).items,(O5 E fx st vs Y).nx⟩ ρj Zj (D5 f p (.int .i64 t)) wc:=by
  refine⟨fun k s e=>?_,fun q hq=>?_,fun k j b s e=>(by cases e),hm,⟨hsub,fun _ h _=>h,[],Ext.refl _ _,fun _ h=>by cases h⟩,a1s.turn h.a4g hT⟩
  . have e:lk ((p,.int .i64 t)::(O5 E fx st vs Y).slots) k=some s:=e;rw[K7]at e;by_cases hk:p=k
    . rw[if_pos hk]at e;cases e;subst hk;rw[W8,if_pos rfl];exact .int fun _=>hin
    . rw[if_neg hk,a96 Y hns]at e;cases e
  . rw[W8,if_neg (hpf q hq)];refine hT.rep ?_;rcases d5t.1 hq with hq|hq
    . simp only[s5,d6A]at hq;obtain⟨s,_,rfl⟩:=hq;exact h.slot s
    . exact h.fx q hq
 have hvc:=a65 (d:=False) vs (I xs) _ hok (hv xs t hin hpre) Y hY;refine b1M hrec hi hp (a2s (vc_ok hE hI asg _ _ _ _ _ ρj Zj _ wc hr0 hvc) fun e f2 w2 q=>?_);obtain⟨st1,ρ1,Z1,hr1,he1⟩:=q;cases e with
 |normal =>
  have he1:vc inl an body (s5 fx st keep++fx) rest st1 ⟨fun st'=>res xs t=true/\rbP E fx st (s5 fx st keep++fx) st' vs (I (xs++[t])) id,fun st'=>res xs t=false/\rbP E fx st (s5 fx st keep++fx) st' vs (I (xs++[t])) id,[]⟩:=he1;have hx1:Ext (B7 E ρj ((O5 E fx st vs Y).items++rest)) wc w2:=hr1.mem.sep.ext;have hL2:w2.heap[L]?=some (.loop (rcL fn tm #[p] asg body D .ready none)):=by rw[hx1.block L hLlt hLf];exact hrec
  refine⟨hL2,?_⟩;have hLf1:L ∉ B7 E ρ1 (st1.items++rest):=fun hm=>by
   obtain⟨q,hq,hb⟩:=s9.1 hm;rcases(hr1.mem.okp hq).org L hb with h1|h1
   . exact hLf h1
   . exact absurd hLlt (d7w.2 h1)
  have hLZ1:¬Z1 L:=fun hz=>by
   rcases hr1.mem.zle L hz with h1|h1|h1
   . exact hLZ h1
   . exact hLf h1
   . exact absurd hLlt (d7w.2 h1)
  have hr2:=c1F hr1 (a1f w2 L (.loop (rcL fn tm #[p] asg body D .busy none))) (fun b hb _=>by simp_all);refine a2s (vc_ok hE hI body _ _ _ _ _ ρ1 Z1 f2 _ hr2 he1) fun e f3 w3 q=>?_;obtain⟨st',ρ',Z',hr',he'⟩:=q;have hx3:Ext (B7 E ρ1 (st1.items++rest)) (w2.putObj L (.loop (rcL fn tm #[p] asg body D .busy none))) w3:=hr'.mem.sep.ext;have hLlt2:L<w2.heap.size:=(d7b.1 hL2).1;have hLlt2':L<(w2.putObj L (.loop (rcL fn tm #[p] asg body D .busy none))).heap.size:=by rw[d7y];exact hLlt2
  have hL3:w3.heap[L]?=some (.loop (rcL fn tm #[p] asg body D .busy none)):=by rw[hx3.block L hLlt2' hLf1];exact World.putObj_heap_same hLlt2
  have hLlt3:L<w3.heap.size:=(d7b.1 hL3).1;have fin:∀b:Bool,res xs t=b->rbP E fx st (s5 fx st keep++fx) st' vs (I (xs++[t])) id->(Value.bool b=.bool (res xs t)/\∃F',JY E fx st vs rest L (rcL fn tm #[p] asg body D) I res ρ Z w Zc (w3.putObj L (.loop (rcL fn tm #[p] asg body D (stA (!b)) (stP (!b))))) (xs++[t]) F'/\b4j wc (w3.putObj L (.loop (rcL fn tm #[p] asg body D (stA (!b)) (stP (!b))))) F F'):=by
   intro b hb hrb;obtain⟨new,ρ2,a,ha,⟨Y',e1,e2⟩,hr3,hsub2⟩:=b6J (K:=fun x new=>∃Y,x=a4v False vs (I (xs++[t])) Y/\new=O5 E fx st vs Y) h hrest hr' hr'.mem.ge (fun _ _ h=>h) hrb (a43 (d:=False) vs _ _ hok fun Y=>⟨Y,rfl,rfl⟩);subst e2;have hLf2:L ∉ B7 E ρ2 ((O5 E fx st vs Y').items++rest):=fun hm=>by
    obtain⟨q,hq,hb⟩:=s9.1 hm;rcases(hr3.mem.okp hq).org L hb with h1|h1
    . exact hLf1 h1
    . exact absurd hLlt2' (d7w.2 h1)
   have hLZ2:¬Z' L:=fun hz=>by
    rcases hr3.mem.zle L hz with h1|h1|h1
    . exact hLZ1 h1
    . exact hLf1 h1
    . exact absurd hLlt2' (d7w.2 h1)
   have hm4:=hr3.mem.c27 (a1f w3 L (.loop (rcL fn tm #[p] asg body D (stA (!b)) (stP (!b))))) (fun b' hb' _=>by simp_all) hr3.mem.ge;have hs1:w2.heap.size<=w3.heap.size:=by have:=hx3.size;rw[d7y]at this;exact this
   have hs0:=hx1.size
   let ex:=(List.range w3.heap.size).filter fun b=>decide (Z' b/\¬Zc b)
   have hex:∀b,b∈ex↔b<w3.heap.size/\Z' b/\¬Zc b:=fun b=>by simp[ex]
   -- old feet
   have org1:∀b∈B7 E ρ1 (st1.items++rest),b∈F∨wc.heap.size<=b:=fun b hb=>by
    obtain⟨q,hq,hb⟩:=s9.1 hb;rcases(hr1.mem.okp hq).org b hb with h1|h1
    . exact .inl (hfF b h1)
    . exact .inr h1
   have org2:∀b∈B7 E ρ2 ((O5 E fx st vs Y').items++rest),b∈F∨wc.heap.size<=b:=fun b hb=>by
    obtain⟨q,hq,hb⟩:=s9.1 hb;rcases(hr3.mem.okp hq).org b hb with h1|h1
    . exact org1 b h1
    . have h1:(w2.putObj L (.loop (rcL fn tm #[p] asg body D .busy none))).heap.size<=b:=h1;rw[d7y]at h1;omega
   have orgZ:∀b,Z' b->Zc b∨b∈F∨wc.heap.size<=b:=fun b hz=>by
    rcases hr3.mem.zle b hz with h1|h1|h1
    . rcases hr1.mem.zle b h1 with h1|h1|h1
      . rcases hZj b h1 with h1|h1
        all_goals simp_all
      . exact .inr (.inl (hfF b h1))
      . exact .inr (.inr h1)
    . exact .inr (org1 b h1)
    . have h1:(w2.putObj L (.loop (rcL fn tm #[p] asg body D .busy none))).heap.size<=b:=h1;rw[d7y]at h1;omega
   have ltf:∀b∈B7 E ρ2 ((O5 E fx st vs Y').items++rest),b<w3.heap.size:=fun b hb=>by obtain⟨q,hq,hb⟩:=s9.1 hb;exact(hr3.mem.okp hq).lt b hb
   refine⟨by rw[hb],L::(B7 E ρ2 ((O5 E fx st vs Y').items++rest)++ex),⟨Y',ρ2,Z',e1 ▸ ha,hr3.mem.fr,hsub2,fun b hb=>?_,fun b hb=>?_,?_,?_⟩,?_,fun b hb=>?_⟩
   . by_cases hc:Zc b
     . exact .inl hc
     . exact .inr (d5v _ (d6H _ ((hex b).2 ⟨hr3.mem.sep.zlt b hb,hb,hc⟩)))
   . rw[d7y];grind
   . exact(((htn.tr (TnW.of hr1.tn)).tr (TnW.q (a1f w2 L _) fun b hb _=>by simp_all)).tr (TnW.of hr3.tn)).tr (TnW.q (a1f w3 L _) fun b hb _=>by simp_all)
   . have es:K2 res (xs++[t])=!b:=by rw[b7S,hb]
     rw[es];have h5:Sep (L::(B7 E ρ2 ((O5 E fx st vs Y').items++rest)++ex)) (w3.putObj L (.loop (rcL fn tm #[p] asg body D (stA (!b)) (stP (!b))))) Z' (w3.putObj L (.loop (rcL fn tm #[p] asg body D (stA (!b)) (stP (!b))))) (u7 E.N E.T ρ2 (L::(B7 E ρ2 ((O5 E fx st vs Y').items++rest)++ex)) ((O5 E fx st vs Y').items++rest)):=
      a8i hm4.sep fun q hq b hb=>.inl (d5v _ (d5S _ (s9.2 ⟨q,hq,hb⟩)))
     refine Sep.d2A h5 ?_ a8Y (fun b' hb'=>?_) (fun b' hb'=>?_) rfl (fun b' hb'=>?_) (fun k s hk b' hb' hbs=>?_)
     . exact World.putObj_heap_same hLlt3
     . have hb':b'∈[L]:=hb';simp_all
     . have hb':b'∈[L]:=hb';simp_all
     . have hb':b'∈[L]:=hb';simp_all
     . have hb':b'∈[L]:=hb';rw[d5a]at hb';subst hb';obtain⟨q,hq,rfl⟩:=o8 hk;exact hLf2 (s9.2 ⟨q,d5c hq,hbs⟩)
   . refine Ext.trans (B1:=F) (B2:=F) (b:=w3) ?_ ((a1f w3 L _).mono fun x hx=>by simp_all) (fun x hx=>.inl hx) (fun x hx=>.inl hx);refine Ext.trans (B1:=F) (B2:=B7 E ρ1 (st1.items++rest)) (b:=w2.putObj L (.loop (rcL fn tm #[p] asg body D .busy none))) ?_ hx3 (fun x hx=>.inl hx) org1;exact Ext.trans (B1:=B7 E ρj ((O5 E fx st vs Y).items++rest)) (B2:=[L]) (b:=w2) hx1 (a1f w2 L _) (fun x hx=>.inl (hfF x hx)) (fun x hx=>by simp_all)
   . grind
  cases e with
  |normal=>exact⟨hL3,.inl ⟨rfl,fin true he'.1 he'.2⟩⟩
  |ret=>exact⟨hL3,.inr ⟨rfl,fin false he'.1 he'.2⟩⟩
  |_=>exact he'.elim
 |_=>exact he1.elim
end
def a7Y{N:B8}:List (SV N)->Option (List Nat)
 |[]=>some []
 |v::r=>match v with
  |.ref id off=>bif Nat.beq off 0 then(match a7Y r with|some l=>some (id::l)|none=>none)else none
  |_=>none
def c1K{N:B8}(its:c7 N):Nat->List Nat->Option (c7 N)
 |_,[]=>some []
 |n,id::r=>match lk its id with
  |some (.own T cells)=>bif cells.all F7 then(match c1K its (n+1) r with|some l=>some ((n,.own T cells)::l)|none=>none)else none
  |_=>none
def b6n{N:B8}:Nat->Nat->List (SV N)
 |_,0=>[]
 |n,m+1=>.ref n 0::b6n (n+1) m
structure b4v(E:Env)(Y:YE E) where
 f:Nat->List E.SV->c7 E.N->(List Int->Int->Prop)->(List Int->Int->Bool)->Option (Prop×List Int)
 ok:∀K cs its pre res ob xs,f K cs its pre res=some (ob,xs)->ob->(∀args w,(callFunc K args).run E.P w=.ok (.enter K args) w)/\∀c:Cl E.P,c.pre=pre->c.res=res ->
  M6 E.P E.N E.T E.G K (.yld 0::cs) ((0,.ob 0 (its.length+1) (Y.yo (c,[])))::its) (2*(its.length+1)) (fun k=>∀fid n v,k v ((0,.ob 0 fid (Y.yo (c,xs)))::its) n)
section
variable{E:Env}{ρ ρ':p4}{Z:Nat->Prop}{w e:World}{its:c7 E.N}
def a9f:∀(ids:List Nat)(n:Nat)(itc:c7 E.N),c1K its n ids=some itc->itc.length=ids.length/\∀j q,itc[j]?=some q->∃id T cells,ids[j]?=some id/\lk its id=some (.own T cells)/\cells.all F7=true/\q=(n+j,.own T cells)
 |[],n,itc,h=>by cases h;exact⟨rfl,fun j q hq=>by simp at hq⟩
 |id::r,n,itc,h=>by
  unfold c1K at h;split at h
  . rename_i T cells hl;have⟨h1,h2⟩:=j3 h;split at h2
    . rename_i l hr;cases h2;obtain⟨g1,g2⟩:=a9f r (n+1) l hr;refine⟨by simp[g1],fun j q hq=>?_⟩;cases j with
      |zero=>simp at hq;exact⟨id,T,cells,rfl,hl,h1,by rw[<- hq];rfl⟩
      |succ j =>
       obtain⟨id',T',cells',a1,a2,a3,a4⟩:=g2 j q (by simpa using hq);exact⟨id',T',cells',by simpa using a1,a2,a3,by rw[a4];congr 1;omega⟩
    . cases h2
  . cases h
def b1U{ρc:p4}:∀(cs:List E.SV)(ids:List Nat)(vs:List Value)(n:Nat),a7Y cs=some ids->e8 E.N E.T ρ Z w vs cs->(∀j id,ids[j]?=some id->ρc (n+j)=ρ id)->e7 E.N E.T ρc Z e (.tuple vs.toArray) (.F5 (b6n n ids.length))
 |[],ids,vs,n,h,hr,_=>by cases h;rw[e8.A1 hr];exact .M0
 |v::cs,ids,vs,n,h,hr,hc=>by
  unfold a7Y at h;split at h
  . rename_i id off;have⟨h1,h2⟩:=j3 h;split at h2
    . rename_i l hl;cases h2;have:=d4W h1;subst this;obtain⟨v1,r,rfl,g1,_,g2⟩:=hr.cons_inv;cases g1 with
      |ref hL =>
       exact .I8 (.ref (by have:=hc 0 id rfl;rw[d6r]at this;rw[this];exact hL)) (b1U cs l r (n+1) hl g2 fun j id' hj=>by rw[show n+1+j=n+(j+1) by omega];exact hc (j+1) id' (by simpa using hj))
    . cases h2
  . cases h
def b6k{id:Nat}{x y:Item E.N}(hd:distinct (its.map (·.1))=true)(h1:lk its id=some x)(h2:(id,y)∈its):y=x:=by
 have hn:=J6 hd;obtain⟨i,hi,_⟩:=x8 h1;obtain⟨j,hj⟩:=d5T h2;have e1:(its.map (·.1))[i]?=some id:=by simp[hi]
 have e2:(its.map (·.1))[j]?=some id:=by simp[hj]
 have hlt:i<(its.map (·.1)).length:=A5 e1;have:i=j:=(List.getElem?_inj hlt hn).1 (e1.trans e2.symm);subst this;rw[hi]at hj;cases hj;rfl
end
section
variable{E:Env}{C:Ctx}{ρ:p4}{Z:Nat->Prop}{w:World}{lkd:c7 E.N}{fx:n5 E.N}{st:E.St}{f:Fr}{inl:Inl E}{an:D3}{YY:YE E}{ds:List Nat}
variable{vs:List LV}{I:List Int->Cur E.N Prop vs}{res:List Int->Int->Bool}{pre:List Int->Int->Prop}{keep ids iti:List Nat}{p:Nat}{asg body:Code}{K:Ks E}{g:Operand}{gf:Nat}{cs:List E.SV}{itc:c7 E.N}{ob:Prop}{xs:List Int}
def b3x(w:World)(fn:FuncId)(tm:Array Value)(ps:Array Tmp)(asg body:Code):Ext [] w (a1A w fn tm ps asg body):=by
 have h1:∀(w:World)(o:Obj),Ext [] w (w.alloc o):=fun w o=>⟨rfl,rfl,rfl,by show w.heap.size<=(w.heap.push o).size;rw[d7a];omega,fun k hk _=>by
  show(w.heap.push o)[k]?=_
  rw[d6U,if_neg (by omega)]⟩
 exact(h1 w _).tr (h1 _ _)
def b0Y(w:World)(fn:FuncId)(tm:Array Value)(ps:Array Tmp)(asg body:Code):(a1A w fn tm ps asg body).heap.size=w.heap.size+2:=by
 show((w.heap.push _).push _).size=_
 rw[d7a,d7a]
def b7w(w:World)(fn:FuncId)(tm:Array Value)(ps:Array Tmp)(asg body:Code):(a1A w fn tm ps asg body).heap[w.heap.size+1]?=some (.loop (rcL fn tm ps asg body w.heap.size .ready none)):=by
 show((w.heap.push _).push _)[w.heap.size+1]?=_
 rw[d6U,if_pos (by rw[d7a])]
def b7U(w:World)(fn:FuncId)(tm:Array Value)(ps:Array Tmp)(asg body:Code):(a1A w fn tm ps asg body).heap[w.heap.size]?=some (.deferred (some [])):=by
 show((w.heap.push _).push _)[w.heap.size]?=_
 rw[d6U,if_neg (by rw[d7a];omega),d6U,if_pos rfl]
def range_ok(hE:c8 E)(hI:H6 E inl)(TL:b4v E YY)(h:Rel E C fx lkd st ρ Z f w)(hk:Mk E C ρ Z w (st.items++lkd) ds)(hg:evS fx lkd st [] g=.clo gf cs)(hcs:a7Y cs=some iti)(hci:c1K st.items 1 iti=some itc)
  (hp:Nat.blt p an.n=true) (hdi:distinct iti=true) (hds:distinct (st.items.map (·.1))=true) (hns:b5j vs=true) (hok:a3R vs=true) (hni:iti.all (fun i=>!ids.elem i)=true) (hpf:(s5 fx st keep++fx).all (fun q=>!Nat.beq q.1 p)=true)
  (hids:ids=B4 E fx st vs)
  (h0:rbP E fx st (s5 fx st keep++fx) (inn st ids) vs (I []) id) (hst:∀xs t,pre xs t->K2 res xs=false)
  (hv:∀xs t,c6 t->pre xs t->Q2 E fx st vs (I xs) ⟨[],[],[],st.nx⟩ (fun x new=>x->vc inl an asg (s5 fx st keep++fx) (without (without st.items ids) iti++lkd) ⟨(p,.int .i64 t)::new.slots,[],new.items,new.nx⟩
   ⟨fun st1=>vc inl an body (s5 fx st keep++fx) (without (without st.items ids) iti++lkd) st1 ⟨fun st'=>res xs t=true/\rbP E fx st (s5 fx st keep++fx) st' vs (I (xs++[t])) id,fun st'=>res xs t=false/\rbP E fx st (s5 fx st keep++fx) st' vs (I (xs++[t])) id,[]⟩,fun _=>False,[]⟩))
  (ht:TL.f gf (b6n 1 iti.length) itc pre res=some (ob,xs)) (hob:ob)
  (hK:Q2 E fx st vs (I xs) ⟨[],[],[],st.nx⟩ (fun x new=>x->(bif K2 res xs then K.r else K.n) ⟨new.slots++s5 fx st keep,[],new.items++without st.items ids,new.nx⟩)) :
  WD E.P an.n (.rangeFunc g #[p] asg body) (QKD E C fx lkd K) f w ds:=by
 have hR:=h.base;obtain⟨new,ρ2,a,ha,⟨Y0,e1,e2⟩,h2⟩:=rbP_ok (K:=fun x new=>∃Y,x=a4v False vs (I []) Y/\new=O5 E fx st vs Y) hR (hR.enter keep ids) h0 (a43 (d:=False) vs _ _ hok fun Y=>⟨Y,rfl,rfl⟩);subst e2;have hm2:Mem E (Ctx.gr ρ Z w (B7 E ρ (st.items++lkd))) ρ2 Z w ((O5 E fx st vs Y0).items++(without st.items ids++lkd)) (O5 E fx st vs Y0).nx:=h2.mem;have hsub2:∀i L,ρ i=some L->ρ2 i=some L:=hm2.ge;generalize hWi:without st.items ids=Wi at *;generalize hrest:without Wi iti++lkd=rest at *;have hWsub:∀q∈Wi,q∈st.items:=fun q hq=>by rw[<- hWi]at hq;exact(d5u.1 hq).1
 have hrsub:∀q∈rest,q∈st.items++lkd:=fun q hq=>by
  rw[<- hrest]at hq;rcases d5t.1 hq with hq|hq
  . exact d5S _ (hWsub q (d5u.1 hq).1)
  . exact d6H _ hq
 have perm:∀A:c7 E.N,(A++(Wi++lkd)).Perm ((A++rest)++within Wi iti):=fun A=>by rw[<- hrest,d5x A];refine List.Perm.append_left A ?_;have:=(a1q Wi iti).append_right lkd;refine this.trans ?_;rw[d5x];exact List.perm_append_comm
 have hmp:=hm2.perm (perm (O5 E fx st vs Y0).items)
 -- the parts that the function is led to
 obtain⟨hlen,hcan⟩:=a9f iti 1 itc hci;have hndi:=J6 hdi;have inI:∀j id,iti[j]?=some id->∃T cells L,lk st.items id=some (.own T cells)/\cells.all F7=true/\itc[j]?=some (1+j,.own T cells)/\ρ id=some L/\L.bs=[L.b]/\(id,Item.own T cells)∈st.items:=fun j id hj=>by
  have hlt:j<itc.length:=by rw[hlen];exact A5 hj
  obtain⟨id',T,cells,a1,a2,a3,a4⟩:=hcan j _ (d5i hlt);rw[hj]at a1;cases a1;obtain⟨k,hk',_⟩:=x8 a2;obtain⟨L,_,hL,hbs,_⟩:=h.mem.holds (p5 (l2:=lkd) hk');exact⟨T,cells,L,a2,a3,by rw[d5i hlt,a4],hL,hbs,d5c hk'⟩
 have inW:∀q∈within Wi iti,∃(j:Nat)(T:Nat)(cells:List E.SV)(L:Loc),iti[j]?=some q.1/\q.2=.own T cells/\cells.all F7=true/\itc[j]?=some (1+j,.own T cells)/\ρ q.1=some L/\L.bs=[L.b]/\q∈st.items:=fun q hq=>by obtain⟨q1,q2⟩:=q;obtain⟨hq1,hq2⟩:=d5u.1 hq;obtain⟨j,hj⟩:=d5T (List.elem_iff.1 hq2);obtain⟨T,cells,L,b1,b2,b3,b4,b5,_⟩:=inI j q1 hj;exact⟨j,T,cells,L,hj,b6k hds b1 (hWsub _ hq1),b2,b3,b4,b5,hWsub _ hq1⟩
 -- the closure
 have hre:=h.ev Z5.nil g;rw[hg]at hre;generalize hgv:Wk.ev f g=gv at hre;cases hre with| @clo _ lb _ hrl =>
 have hrl:e8 E.N E.T ρ Z w lb cs:=hrl;obtain⟨heg,hgen⟩:=TL.ok _ _ _ _ _ _ _ ht hob;refine c1Q (lb:=lb) hgv heg fun fn tm hi=>?_;have hxe:=b3x w fn tm #[p] asg body;have hse:=b0Y w fn tm #[p] asg body;have hL0:=b7w w fn tm #[p] asg body;have hD0:=b7U w fn tm #[p] asg body;generalize a1A w fn tm #[p] asg body=ew at hxe hse hL0 hD0 ⊢;have hzw:∀b,Z b->b<w.heap.size:=h.mem.sep.zlt;have hlt2:∀(b:Nat)(its:c7 E.N),(∀q∈its,q∈(O5 E fx st vs Y0).items++(Wi++lkd))->b∈B7 E ρ2 its->b<w.heap.size:=fun b its hs hb=>by obtain⟨q,hq,hb⟩:=s9.1 hb;exact(hm2.okp (hs q hq)).lt b hb
 -- the client's own parts
 have hl1:∀q∈(O5 E fx st vs Y0).items++rest,q∈(O5 E fx st vs Y0).items++(Wi++lkd):=fun q hq=>(perm _).mem_iff.2 (d5S _ hq);have hmJ:Mem E (Ctx.gr ρ Z ew (B7 E ρ2 ((O5 E fx st vs Y0).items++rest))) ρ2 Z ew ((O5 E fx st vs Y0).items++rest) (O5 E fx st vs Y0).nx:=
  (hmp.sel (its':=(O5 E fx st vs Y0).items++rest) (nx':=(O5 E fx st vs Y0).nx) (fun _ _ h=>h) hmp.fr (fun i=>i) (fun _ _ _ _ h=>h) fun i q hq=>p5 hq).c27 hxe (fun _ h=>by cases h) hsub2
 generalize hF0:(w.heap.size+1)::B7 E ρ2 ((O5 E fx st vs Y0).items++rest)=F0;have hLn:w.heap.size+1 ∉ B7 E ρ2 ((O5 E fx st vs Y0).items++rest):=fun hm=>absurd (hlt2 _ _ hl1 hm) (by omega);have hF0m:∀b,b∈F0↔b=w.heap.size+1∨b∈B7 E ρ2 ((O5 E fx st vs Y0).items++rest):=fun b=>by rw[<- hF0,d5k]
 have hJ0:JY E fx st vs rest (w.heap.size+1) (rcL fn tm #[p] asg body w.heap.size) I res ρ Z w Z ew [] F0:=by
  refine⟨Y0,ρ2,Z,e1 ▸ ha,hm2.fr,hsub2,fun b hb=>.inl hb,fun b hb=>?_,TnW.q hxe (fun _ h=>by cases h),?_⟩
  . rcases(hF0m b).1 hb with rfl|hb
    . omega
    . have:=hlt2 _ _ hl1 hb;omega
  . have h5:Sep F0 ew Z ew (u7 E.N E.T ρ2 F0 ((O5 E fx st vs Y0).items++rest)):=a8i hmJ.sep fun q hq b hb=>.inl ((hF0m b).2 (.inr (s9.2 ⟨q,hq,hb⟩)));refine Sep.d2A h5 hL0 a8Y (fun b hb=>?_) (fun b hb hz=>?_) rfl (fun b hb=>?_) (fun k s hk b hb hbs=>?_)
    . have hb:b∈[w.heap.size+1]:=hb;rw[d5a]at hb;omega
    . have hb:b∈[w.heap.size+1]:=hb;rw[d5a]at hb;have:=hzw b hz;omega
    . have hb:b∈[w.heap.size+1]:=hb;rw[d5a]at hb;exact(hF0m b).2 (.inl hb)
    . have hb:b∈[w.heap.size+1]:=hb;rw[d5a]at hb;subst hb;obtain⟨q,hq,rfl⟩:=o8 hk;exact hLn (s9.2 ⟨q,d5c hq,hbs⟩)
 have hpf':∀q∈s5 fx st keep++fx,q.1≠p:=fun q hq e=>by have:=d5D.1 hpf q hq;rw[e,d7h]at this;cases this
 let c : Cl E.P := { J := fun b Zc wc xs F => b = w.heap.size + 1 /\ JY E fx st vs rest (w.heap.size + 1) (rcL fn tm #[p] asg body w.heap.size) I res ρ Z w Zc wc xs F
                     I3:=fun Z1 Z2 B w1 w2 hh hx hB hZ=>⟨hh.1,c4n Z1 Z2 B w1 w2 hh.2 hx hB hZ⟩
                     lt:=fun hh=>by obtain⟨_,_,_,_,_,_,_,_,hl,_⟩:=hh;exact hl
                     pre:=pre,res:=res
                     step:=fun Zc wc b F xs t hz hF hJ hpre hin=>by obtain⟨rfl,hJ⟩:=hJ;exact(round_ok hE hI hR hrsub hns hok hp hpf' hst hv hi Zc wc F xs t hz hF hJ hpre hin).mono fun v w' ⟨a,F',b,d⟩=>⟨a,F',⟨rfl,b⟩,d⟩ }
 have hG:=hgen c rfl rfl
 let ρc:p4:=fun i=>if i=0 then some ⟨w.heap.size+1,none,0,0,[]⟩else if i=itc.length+1 then some ⟨w.heap.size+1,none,0,0,F0⟩else(match iti[i-1]? with|some id=>ρ id|none=>none)
 have hc0:ρc 0=some ⟨w.heap.size+1,none,0,0,[]⟩:=rfl;have hcf:ρc (itc.length+1)=some ⟨w.heap.size+1,none,0,0,F0⟩:=by simp[ρc]
 have hcj:∀j id,iti[j]?=some id->ρc (1+j)=ρ id:=fun j id hj=>by
  have:=A5 hj;have e1:¬(1+j=0):=by omega
  have e2:¬(1+j=itc.length+1):=by omega
  simp only[ρc];rw[if_neg e1,if_neg e2,show 1+j-1=j by omega,hj]
 generalize hFI:B7 E ρ (within Wi iti)=FI;have hFIm:∀j id L,iti[j]?=some id->ρ id=some L->(∃T cells,lk st.items id=some (.own T cells))->L.bs=[L.b]->L.b∈FI/\L.b∈B7 E ρ (st.items++lkd)/\L.b<w.heap.size/\¬Z L.b/\L.b ∉ B7 E ρ2 ((O5 E fx st vs Y0).items++rest):=fun j id L hj hL ⟨T,cells,hl⟩ hbs=>by
  obtain⟨k,hk',_⟩:=x8 hl;have hmem:(id,Item.own T cells)∈st.items:=d5c hk';have hWm:(id,Item.own T cells)∈Wi:=by rw[<- hWi];exact d5u.2 ⟨hmem,d5D.1 hni id (d5c hj)⟩
  have hw:(id,Item.own T cells)∈within Wi iti:=d5u.2 ⟨hWm,d7Q (d5c hj)⟩;have hb:L.b∈u4 E.N ρ id (.own T cells):=by rw[u6 hL,hbs];exact d5a.2 rfl
  have hb2:L.b∈u4 E.N ρ2 id (.own T cells):=by rw[u6 (hsub2 _ _ hL),hbs];exact d5a.2 rfl
  have ok:=h.mem.okp (d5S lkd hmem);refine⟨by rw[<- hFI];exact s9.2 ⟨_,hw,hb⟩,s9.2 ⟨_,d5S _ hmem,hb⟩,ok.lt _ hb,ok.O2 _ hb,fun hf=>?_⟩;obtain⟨q,hq,hqb⟩:=s9.1 hf;obtain⟨k1,hk1⟩:=d5T hq;obtain⟨k2,hk2⟩:=d5T hw;have hk1':=A5 hk1;have hk2':(((O5 E fx st vs Y0).items++rest)++within Wi iti)[((O5 E fx st vs Y0).items++rest).length+k2]?=some (id,Item.own T cells):=by rw[d5d (d8R _ _),d6M];exact hk2
  exact hmp.sep.apart k1 (((O5 E fx st vs Y0).items++rest).length+k2) (C9 E.N E.T ρ2 _ q.1 q.2) (C9 E.N E.T ρ2 _ id (.own T cells)) (j6 (p5 hk1)) (j6 hk2') (by omega) L.b hqb hb2
 have hsepI:Sep (F0++FI) ew Z ew (u7 E.N E.T ρc (F0++FI) itc):=by
  refine⟨Ext.refl _ _,fun b hb=>by have:=hzw b hb;omega,fun k t hk'=>?_,fun k1 k2 t1 t2 hk1 hk2 hne b hb1 hb2=>?_⟩
  . obtain⟨q,hq,rfl⟩:=o8 hk';obtain⟨id,T,cells,b1,b2,b3,rfl⟩:=hcan k q hq;obtain⟨T',cells',L,d1,d2,d3,d4,d5,d6⟩:=inI k id b1;rw[b2]at d1;cases d1;obtain⟨m1,m2,m3,m4,m5⟩:=hFIm k id L b1 d4 ⟨T,cells,b2⟩ d5;have hcl:ρc (1+k)=some L:=by rw[hcj k id b1];exact d4
    have hft:∀b,b∈u4 E.N ρc (1+k) (.own T cells)->b=L.b:=fun b hb=>by rw[u6 hcl,d5]at hb;exact d5a.1 hb
    obtain⟨k',hk'',_⟩:=x8 b2;have hh:holds E.N E.T ρ id Z w (.own T cells):=h.mem.holds (p5 (l2:=lkd) hk'');have hh:=(u5 (N:=E.N) (T:=E.T) (ρ:=ρ) (B0:=[]) (id:=id) (i:=.own T cells)) Z Z [] w ew hh hxe (fun _ h=>by cases h) (fun _ h=>h);obtain⟨L',cs',hL',hbs',ho,hr⟩:=hh;rw[d4]at hL';cases hL';exact⟨⟨L,cs',hcl,d5,ho,a9t b3 hr _⟩,u5,fun b hb=>by rw[hft b hb];omega,fun b hb=>by rw[hft b hb];exact m4,fun b hb=>.inl (by rw[hft b hb];exact d6H _ m1),fun b hb=>hb⟩
  . obtain⟨q1,hq1,rfl⟩:=o8 hk1;obtain⟨q2,hq2,rfl⟩:=o8 hk2;obtain⟨id1,T1,c1,b1,b2,b3,rfl⟩:=hcan k1 q1 hq1;obtain⟨id2,T2,c2,g1,g2,g3,rfl⟩:=hcan k2 q2 hq2;obtain⟨_,_,L1,_,_,_,d4,d5,_⟩:=inI k1 id1 b1;obtain⟨_,_,L2,_,_,_,f4,f5,_⟩:=inI k2 id2 g1;have hb1:b∈u4 E.N ρc (1+k1) (.own T1 c1):=hb1;have hb2:b∈u4 E.N ρc (1+k2) (.own T2 c2):=hb2;rw[u6 (show ρc (1+k1)=some L1 by rw[hcj k1 id1 b1];exact d4)]at hb1;rw[u6 (show ρc (1+k2)=some L2 by rw[hcj k2 id2 g1];exact f4)]at hb2;have hid:id1≠id2:=fun e=>by
     subst e;exact hne ((List.getElem?_inj (A5 b1) hndi).1 (b1.trans g1.symm))
    obtain⟨i1,hi1,_⟩:=x8 b2;obtain⟨i2,hi2,_⟩:=x8 g2;refine h.mem.sep.apart i1 i2 (C9 E.N E.T ρ _ id1 (.own T1 c1)) (C9 E.N E.T ρ _ id2 (.own T2 c2)) (j6 (p5 (l2:=lkd) hi1)) (j6 (p5 (l2:=lkd) hi2)) (fun e=>?_) b (by show b∈u4 E.N ρ id1 (.own T1 c1);rw[u6 d4];exact hb1) (by show b∈u4 E.N ρ id2 (.own T2 c2);rw[u6 f4];exact hb2);subst e;rw[hi1]at hi2;cases hi2;exact hid rfl
 have hF0Z:∀b∈F0,¬Z b:=fun b hb hz=>by
  rcases(hF0m b).1 hb with rfl|hb
  . have:=hzw _ hz;omega
  . obtain⟨q,hq,hb⟩:=s9.1 hb;exact(hm2.okp (hl1 q hq)).O2 b hb hz
 have hfob:u4 E.N ρc 0 (.ob 0 (itc.length+1) (YY.yo (c,[])))=F0:=by rw[F1 hcf]
 have hsep:Sep (F0++FI) ew Z ew (u7 E.N E.T ρc (F0++FI) ((0,.ob 0 (itc.length+1) (YY.yo (c,[])))::itc)):=by
  refine⟨Ext.refl _ _,hsepI.zlt,fun k t hk'=>?_,fun k1 k2 t1 t2 hk1 hk2 hne b hb1 hb2=>?_⟩
  . cases k with
    |succ k=>exact hsepI.ok k t hk'
    |zero =>
     cases hk';refine⟨⟨_,_,hc0,hcf,(YY.is _ _ _ _ _).2 ⟨rfl,hJ0⟩⟩,u5,fun b hb=>?_,fun b hb=>?_,fun b hb=>.inl ?_,fun b hb=>hb⟩
     . have hb:b∈u4 E.N ρc 0 (.ob 0 (itc.length+1) (YY.yo (c,[]))):=hb;rw[hfob]at hb;obtain⟨_,_,_,_,_,_,_,hl,_⟩:=hJ0;exact hl b hb
     . have hb:b∈u4 E.N ρc 0 (.ob 0 (itc.length+1) (YY.yo (c,[]))):=hb;rw[hfob]at hb;exact hF0Z b hb
     . have hb:b∈u4 E.N ρc 0 (.ob 0 (itc.length+1) (YY.yo (c,[]))):=hb;rw[hfob]at hb;exact d5S _ hb
  . have key:∀(k:Nat)(t:It)(b:Nat),(u7 E.N E.T ρc (F0++FI) itc)[k]?=some t->b∈F0->b∈t.F->False:=fun k t b hk' hb hbt=>by
      obtain⟨q,hq,rfl⟩:=o8 hk';obtain⟨id,T,cells,b1,b2,b3,rfl⟩:=hcan k q hq;obtain⟨_,_,L,_,_,_,d4,d5,_⟩:=inI k id b1;obtain⟨m1,m2,m3,m4,m5⟩:=hFIm k id L b1 d4 ⟨T,cells,b2⟩ d5;have hbt:b∈u4 E.N ρc (1+k) (.own T cells):=hbt;rw[u6 (show ρc (1+k)=some L by rw[hcj k id b1];exact d4),d5,d5a]at hbt;subst hbt;rcases(hF0m _).1 hb with e|hb
      . omega
      . exact m5 hb
    cases k1 with
    |zero =>
     cases k2 with
     |zero=>exact hne rfl
     |succ k2 =>
      cases hk1;have hb1:b∈u4 E.N ρc 0 (.ob 0 (itc.length+1) (YY.yo (c,[]))):=hb1;rw[hfob]at hb1;exact key k2 t2 b hk2 hb1 hb2
    |succ k1 =>
     cases k2 with
     |zero =>
      cases hk2;have hb2:b∈u4 E.N ρc 0 (.ob 0 (itc.length+1) (YY.yo (c,[]))):=hb2;rw[hfob]at hb2;exact key k1 t1 b hk1 hb2 hb1
     |succ k2=>exact hsepI.apart k1 k2 t1 t2 hk1 hk2 (by omega) b hb1 hb2
 have hrun:=hG (fun _ it _=>∃fid,it=(0,.ob 0 fid (YY.yo (c,xs)))::itc) (fun fid _ _=>⟨fid,rfl⟩) ρc Z ew (.func (.yield (w.heap.size+1)) #[] #[]::lb) (F0++FI) (fun i hi'=>by
   have e1:¬(i=0):=by omega
   have e2:¬(i=itc.length+1):=by omega
   simp only[ρc];rw[if_neg e1,if_neg e2,d6V (by omega)]) hsep
  (a1s.turn h.a4g ((TnW.q hxe (fun _ h=>by cases h)).tn (ρ:=fun _=>none) (ρ':=fun _=>none) (fun _ _ h=>h)))
  (.I8 (.yld hc0) (b1U cs iti lb 1 hcs hrl hcj))
 refine hrun.mono fun v w2 ⟨ρ',Z2,s,its',nx',hs2,hfr2,hsc,hZ12,hZ21,_,fid,hits⟩=>?_;subst hits
 -- what the client has then
 obtain⟨L',Lf',hL',hLf',hJ⟩:=hs2.at 0 (t:=C9 E.N E.T ρ' (F0++FI) 0 (.ob 0 fid (YY.yo (c,xs)))) rfl;have hL'':=hsc _ _ hc0;rw[hL'']at hL';cases hL';have hJ:=(YY.is _ _ _ _ _).1 hJ;obtain⟨_,Y,ρj,Zj,hY,hfrj,hsubj,hZj,hlt,htn,hsJ⟩:=hJ;generalize hF2:Lf'.bs=F2 at *;have hfoot2:∀b∈F2,b∈(C9 E.N E.T ρ' (F0++FI) 0 (.ob 0 fid (YY.yo (c,xs)))).F:=fun b hb=>by
  show b∈u4 E.N ρ' 0 (.ob 0 fid (YY.yo (c,xs)))
  rw[F1 hLf',hF2];exact hb
 have hF2Z:∀b∈F2,¬Z2 b:=fun b hb=>hs2.nz 0 rfl b (hfoot2 b hb);have hBo:∀b∈F0++FI,b∈B7 E ρ (st.items++lkd)∨b=w.heap.size+1:=fun b hb=>by
  rcases d5t.1 hb with hb|hb
  . rcases(hF0m b).1 hb with rfl|hb
    . exact .inr rfl
    . obtain⟨q,hq,hb⟩:=s9.1 hb;rcases(hm2.okp (hl1 q hq)).org b hb with h1|h1
      . exact .inl h1
      . exact absurd ((hm2.okp (hl1 q hq)).lt b hb) (d7w.2 h1)
  . rw[<- hFI]at hb;obtain⟨q,hq,hb⟩:=s9.1 hb;obtain⟨_,_,_,_,_,_,_,_,_,_,hm'⟩:=inW q hq;exact .inl (s9.2 ⟨q,d5S _ hm',hb⟩)
 have hF2o:∀b∈F2,b∈F0++FI∨w.heap.size+2<=b:=fun b hb=>by
  rcases(hs2.ok 0 _ rfl).org b (hfoot2 b hb)with h1|h1
  . exact .inl h1
  . rw[hse]at h1;exact .inr h1
 have hext:Ext (B7 E ρ (st.items++lkd)) w w2:=Ext.trans hxe hs2.ext (fun _ h=>by cases h) (fun b hb=>by
  rcases hBo b hb with h1|h1
  . exact .inl h1
  . exact .inr (by omega))
 have hrec:=hsJ.at 0 (t:=c6o (w.heap.size+1) _) rfl;have hrec:w2.heap[w.heap.size+1]?=some (.loop (rcL fn tm #[p] asg body w.heap.size (stA (K2 res xs)) (stP (K2 res xs)))):=hrec;have hJF:∀q∈(O5 E fx st vs Y).items++rest,∀b∈u4 E.N ρj q.1 q.2,b∈F2/\b≠w.heap.size+1:=fun q hq b hb=>by
  obtain⟨k,hk'⟩:=d5T hq;have ok:=hsJ.ok (k+1) (C9 E.N E.T ρj F2 q.1 q.2) (by rw[d5F];exact j6 hk');refine⟨?_,fun e=>?_⟩
  . rcases ok.org b hb with h1|h1
    . exact h1
    . exact absurd (ok.lt b hb) (d7w.2 h1)
  . exact hsJ.apart 0 (k+1) _ (C9 E.N E.T ρj F2 q.1 q.2) rfl (by rw[d5F];exact j6 hk') (by omega) b (by rw[e];exact d5a.2 rfl) hb
 have hLF2:w.heap.size+1∈F2:=(hsJ.ok 0 _ rfl).a5L _ (d5a.2 rfl);have hLZj:¬Zj (w.heap.size+1):=hsJ.nz 0 rfl _ (d5a.2 rfl)
 -- the iterator's parts then
 have itAt:∀j id,iti[j]?=some id->∃T cells L cs',lk st.items id=some (.own T cells)/\cells.all F7=true/\ρ id=some L/\L.bs=[L.b]/\Q5 w2 L.b T cs'/\e8 E.N E.T ρ' Z2 w2 cs' cells/\¬Z2 L.b/\L.b ∉ F2/\L.b<w.heap.size/\L.b∈B7 E ρ (st.items++lkd):=fun j id hj=>by
  obtain⟨T,cells,L,d1,d2,d3,d4,d5,_⟩:=inI j id hj;obtain⟨m1,m2,m3,m4,m5⟩:=hFIm j id L hj d4 ⟨T,cells,d1⟩ d5;have hcl:ρ' (1+j)=some L:=hsc _ _ (by rw[hcj j id hj];exact d4);have hat:(u7 E.N E.T ρ' (F0++FI) ((0,.ob 0 fid (YY.yo (c,xs)))::itc))[j+1]?=some (C9 E.N E.T ρ' (F0++FI) (1+j) (.own T cells)):=j6 (p:=(1+j,.own T cells)) (by rw[d5F];exact d3);obtain⟨L1,cs',hL1,_,ho,hr⟩:=hs2.at (j+1) hat;rw[hcl]at hL1;cases hL1;have hbf:L.b∈u4 E.N ρ' (1+j) (.own T cells):=by rw[u6 hcl,d5];exact d5a.2 rfl
  exact⟨T,cells,L,cs',d1,d2,d4,d5,ho,hr,hs2.nz (j+1) hat _ hbf,fun hb=>hs2.apart 0 (j+1) _ _ rfl hat (by omega) _ (hfoot2 _ hb) hbf,m3,m2⟩
 have inW2:∀q∈within Wi iti,∃L,ρ q.1=some L/\L.bs=[L.b]/\¬Z2 L.b/\¬Zj L.b/\L.b ∉ F2/\L.b<w.heap.size/\L.b∈B7 E ρ (st.items++lkd)/\(∀b,b∈u4 E.N ρj q.1 q.2->b=L.b)/\(∀b,b∈u4 E.N ρj q.1 q.2↔b∈u4 E.N ρ2 q.1 q.2)/\holds E.N E.T ρj q.1 (fun b=>Z2 b∨Zj b) w2 q.2:=fun q hq=>by
  obtain⟨j,T,cells,L,b1,b2,b3,b4,b5,b6,b7⟩:=inW q hq;obtain⟨T',cells',L1,cs',d1,d2,d4,d5,ho,hr,z1,z2,z3,z4⟩:=itAt j q.1 b1;rw[b5]at d4;cases d4;have hq2:q.2=.own T' cells':=b6k hds d1 b7;rw[b2]at hq2;cases hq2;have hzj:¬Zj L.b:=fun hz=>by
   rcases hZj _ hz with h1|h1
   . exact z1 h1
   . exact z2 h1
  refine⟨L,b5,b6,z1,hzj,z2,z3,z4,fun b hb=>?_,fun b=>?_,?_⟩
  . rw[b2,u6 (hsubj _ _ b5),b6]at hb;exact d5a.1 hb
  . rw[b2,u6 (hsubj _ _ b5),u6 (hsub2 _ _ b5)]
  . rw[b2];exact⟨L,cs',hsubj _ _ b5,b6,ho,(a9t b3 hr ρj).I3 (Ext.refl [] w2) (fun _ h=>by cases h) (fun b h _=>.inl h) (fun _ _ h=>h)⟩
 have hmF:Mem E (Ctx.gr ρ Z w (B7 E ρ (st.items++lkd))) ρj (fun b=>Z2 b∨Zj b) w2 (((O5 E fx st vs Y).items++rest)++within Wi iti) (O5 E fx st vs Y).nx:=by
  refine⟨⟨hext,fun b hb=>?_,fun k t hk'=>?_,fun k1 k2 t1 t2 hk1 hk2 hne b hb1 hb2=>?_⟩,hfrj,hsubj,fun b hb=>.inl (hZ12 b hb),fun b hb=>?_⟩
  . rcases hb with hb|hb
    . exact hs2.zlt b hb
    . exact hsJ.zlt b hb
  . obtain⟨q,hq,rfl⟩:=o8 hk';rcases d5B k ((O5 E fx st vs Y).items++rest).length with hlt'|hge
    . rw[d5l hlt']at hq;have ok:=hsJ.ok (k+1) (C9 E.N E.T ρj F2 q.1 q.2) (by rw[d5F];exact j6 hq);have hJq:=hJF q (d5c hq);refine⟨u5 (N:=E.N) (T:=E.T) (ρ:=ρj) (B0:=F2) (id:=q.1) (i:=q.2) Zj _ [] w2 w2 ok.holds (Ext.refl _ _) (fun _ h=>by cases h) (fun b h=>.inr h),u5,ok.lt,fun b hb hz=>?_,fun b hb=>?_,fun b hb=>hb⟩
      . rcases hz with hz|hz
        . exact hF2Z b (hJq b hb).1 hz
        . exact ok.O2 b hb hz
      . rcases hF2o b (hJq b hb).1 with h1|h1
        . rcases hBo b h1 with h1|h1
          . exact .inl h1
          . exact absurd h1 (hJq b hb).2
        . exact .inr (by show w.heap.size<=b;omega)
    . rw[d5d hge]at hq;obtain⟨L,b5,b6,z1,zj,z2,z3,z4,hft,_,hh⟩:=inW2 q (d5c hq);refine⟨hh,u5,fun b hb=>?_,fun b hb hz=>?_,fun b hb=>.inl ?_,fun b hb=>hb⟩
      . rw[hft b hb];exact d6z z3 hext.size
      . rw[hft b hb]at hz;rcases hz with hz|hz
        . exact z1 hz
        . exact zj hz
      . rw[hft b hb];exact z4
  . obtain⟨q1,hq1,rfl⟩:=o8 hk1;obtain⟨q2,hq2,rfl⟩:=o8 hk2;have hb1:b∈u4 E.N ρj q1.1 q1.2:=hb1;have hb2:b∈u4 E.N ρj q2.1 q2.2:=hb2;rcases d5B k1 ((O5 E fx st vs Y).items++rest).length with h1|h1
    . rw[d5l h1]at hq1;rcases d5B k2 ((O5 E fx st vs Y).items++rest).length with h2'|h2'
      . rw[d5l h2']at hq2;exact hsJ.apart (k1+1) (k2+1) (C9 E.N E.T ρj F2 q1.1 q1.2) (C9 E.N E.T ρj F2 q2.1 q2.2) (by rw[d5F];exact j6 hq1) (by rw[d5F];exact j6 hq2) (by omega) b hb1 hb2
      . rw[d5d h2']at hq2;obtain⟨L,_,_,_,_,z2,_,_,hft,_⟩:=inW2 q2 (d5c hq2);exact z2 (hft b hb2 ▸ (hJF q1 (d5c hq1) b hb1).1)
    . rw[d5d h1]at hq1;rcases d5B k2 ((O5 E fx st vs Y).items++rest).length with h2'|h2'
      . rw[d5l h2']at hq2;obtain⟨L,_,_,_,_,z2,_,_,hft,_⟩:=inW2 q1 (d5c hq1);exact z2 (hft b hb1 ▸ (hJF q2 (d5c hq2) b hb2).1)
      . rw[d5d h2']at hq2;obtain⟨_,_,_,_,_,_,_,_,_,hf1,_⟩:=inW2 q1 (d5c hq1);obtain⟨_,_,_,_,_,_,_,_,_,hf2,_⟩:=inW2 q2 (d5c hq2);have l1:=A5 hq1;have l2:=A5 hq2;exact hmp.sep.apart (((O5 E fx st vs Y0).items++rest).length+(k1-((O5 E fx st vs Y).items++rest).length)) (((O5 E fx st vs Y0).items++rest).length+(k2-((O5 E fx st vs Y).items++rest).length)) (C9 E.N E.T ρ2 _ q1.1 q1.2) (C9 E.N E.T ρ2 _ q2.1 q2.2)
         (j6 (by rw[d5d (by omega),d6M];exact hq1)) (j6 (by rw[d5d (by omega),d6M];exact hq2)) (by omega) b ((hf1 b).1 hb1) ((hf2 b).1 hb2)
  . have z2:∀b,Z2 b->Z b∨b∈B7 E ρ (st.items++lkd)∨w.heap.size<=b:=fun b hz=>by
      rcases hZ21 b hz with h1|h1|h1
      . exact .inl h1
      . rcases hBo b h1 with h1|h1
        . exact .inr (.inl h1)
        . exact .inr (.inr (by omega))
      . exact .inr (.inr (by omega))
    rcases hb with hb|hb
    . exact z2 b hb
    . rcases hZj b hb with h1|h1
      . exact z2 b h1
      . rcases hF2o b h1 with h1|h1
        . rcases hBo b h1 with h1|h1
          . exact .inr (.inl h1)
          . exact .inr (.inr (by show w.heap.size<=b;omega))
        . exact .inr (.inr (by show w.heap.size<=b;omega))
 have hmW:=hmF.perm (perm (O5 E fx st vs Y).items).symm;have hLf:w.heap.size+1 ∉ B7 E ρj ((O5 E fx st vs Y).items++(Wi++lkd))/\¬(Z2 (w.heap.size+1)∨Zj (w.heap.size+1)):=by
  refine⟨fun hm=>?_,fun hz=>?_⟩
  . obtain⟨q,hq,hb⟩:=s9.1 hm;rcases d5t.1 ((perm _).mem_iff.1 hq)with hq|hq
    . exact(hJF q hq _ hb).2 rfl
    . obtain⟨L,_,_,_,_,_,z3,_,hft,_⟩:=inW2 q hq;have:=hft _ hb;omega
  . rcases hz with hz|hz
    . exact hF2Z _ hLF2 hz
    . exact hLZj hz
 have fin:∀pe:Option Code,QKD E C fx lkd K (match K2 res xs with|true=>.ret|false=>.normal) f (w2.putObj (w.heap.size+1) (.loop (rcL fn tm #[p] asg body w.heap.size .exhausted pe))) (w.heap.size::ds):=fun pe=>by
  have hxp:=a1f w2 (w.heap.size+1) (.loop (rcL fn tm #[p] asg body w.heap.size .exhausted pe));have hD2:w2.heap[w.heap.size]?=some (.deferred (some [])):=by
   rw[hs2.ext.block _ (by omega) (fun hb=>?_)];exact hD0;rcases hBo _ hb with h1|h1
   . obtain⟨q,hq,hb⟩:=s9.1 h1;have:=(h.mem.okp hq).lt _ hb;omega
   . omega
  have hmQ:=hmW.quiet hxp (fun b hb _=>by rw[d5a]at hb;subst hb;exact⟨hLf.1,hLf.2,by show w.heap.size<=_;omega⟩);have hT:Tn ρ Z w ρj (fun b=>Z2 b∨Zj b) (w2.putObj (w.heap.size+1) (.loop (rcL fn tm #[p] asg body w.heap.size .exhausted pe))):=by refine⟨hsubj,fun b hb _=>.inl (hZ12 b hb),B7 E ρ (st.items++lkd),hext.trans hxp (fun x hx=>.inl hx) (fun x hx=>by rw[d5a]at hx;subst hx;exact .inr (by omega)),fun b hb hz=>?_⟩;obtain⟨q,hq,hb⟩:=s9.1 hb;exact absurd hz ((h.mem.okp hq).O2 b hb)
  have hslots:(O5 E fx st vs Y).slots=[]:=a96 Y hns;have hrel:Rel E C fx lkd ⟨(O5 E fx st vs Y).slots++s5 fx st keep,[],(O5 E fx st vs Y).items++Wi,(O5 E fx st vs Y).nx⟩ ρj (fun b=>Z2 b∨Zj b) f (w2.putObj (w.heap.size+1) (.loop (rcL fn tm #[p] asg body w.heap.size .exhausted pe))):=by
   refine⟨fun k s e=>?_,fun q hq=>hT.rep (h.fx q hq),fun k j b s e=>(by cases e),?_,h.tn.trans hT,h.g⟩
   . have e:lk ((O5 E fx st vs Y).slots++s5 fx st keep) k=some s:=e;rw[hslots,d6a]at e;obtain⟨i,hi',_⟩:=x8 e;have:=d5c hi';simp only[s5,d6A]at this;obtain⟨s',_,e'⟩:=this;cases e';exact hT.rep (h.slot k)
   . show Mem E C ρj _ _ (((O5 E fx st vs Y).items++Wi)++lkd) _
     rw[d5x];exact h.mem.b0M hmQ
  have hmk:Mk E C ρj (fun b=>Z2 b∨Zj b) (w2.putObj (w.heap.size+1) (.loop (rcL fn tm #[p] asg body w.heap.size .exhausted pe))) (((O5 E fx st vs Y).items++Wi)++lkd) (w.heap.size::ds):=by
   have hold:=hk.go hmQ;rw[d5x];refine⟨d8n.2 ⟨fun hd=>absurd (hk.lt _ hd) (Nat.lt_irrefl _),hk.nd⟩,fun D hD=>?_,fun D hD=>?_,fun D hD=>?_⟩
   . rcases d5k.1 hD with rfl|hD
     . rw[d7s (by omega)];exact hD2
     . exact hold.is D hD
   . rcases d5k.1 hD with rfl|hD
     . exact h.mem.sep.ext.size
     . exact hold.new D hD
   . rcases d5k.1 hD with rfl|hD
     . have hnB:w.heap.size ∉ F0++FI:=fun hb=>by
         rcases hBo _ hb with h1|h1
         . obtain⟨q,hq,hb⟩:=s9.1 h1;have:=(h.mem.okp hq).lt _ hb;omega
         . omega
       have hnF:w.heap.size ∉ F2:=fun hb=>by
        rcases hF2o _ hb with h1|h1
        . exact hnB h1
        . omega
       have hnZ:¬Z2 w.heap.size:=fun hz=>by
        rcases hZ21 _ hz with h1|h1|h1
        . have:=hzw _ h1;omega
        . exact hnB h1
        . omega
       refine⟨fun hm=>?_,fun hz=>?_⟩
       . obtain⟨q,hq,hb⟩:=s9.1 hm;rcases d5t.1 ((perm _).mem_iff.1 hq)with hq|hq
         . exact hnF (hJF q hq _ hb).1
         . obtain⟨L,_,_,_,_,_,z3,_,hft,_⟩:=inW2 q hq;have:=hft _ hb;omega
       . rcases hz with hz|hz
         . exact hnZ hz
         . rcases hZj _ hz with h1|h1
           . exact hnZ h1
           . exact hnF h1
     . exact hold.ap D hD
  have hKY:=a65 (d:=False) vs (I xs) _ hok hK Y hY;refine⟨_,_,_,hrel,hmk,?_⟩;have hKY:(bif K2 res xs then K.r else K.n) ⟨(O5 E fx st vs Y).slots++s5 fx st keep,[],(O5 E fx st vs Y).items++Wi,(O5 E fx st vs Y).nx⟩:=hKY;cases hb:K2 res xs with
  |true=>rw[hb]at hKY;exact hKY
  |false=>rw[hb]at hKY;exact hKY
 refine⟨stA (K2 res xs),stP (K2 res xs),?_,hrec,?_⟩
 . cases K2 res xs <;> (intro e;cases e)
 . have hfin:=fin (stP (K2 res xs));cases hb:K2 res xs with
   |true=>rw[hb]at hfin;exact .inr ⟨rfl,hfin⟩
   |false=>rw[hb]at hfin;exact .inl ⟨rfl,hfin⟩
end
def rng:Code->Bool
 |.rangeFunc _ _ _ _=>true
 |.seq a b=>rng a || rng b
 |.block _ c=>rng c
 |.loop c=>rng c
 |_=>false
def a0Z{b:Bool}{p:Prop}(h:bif b then p else False):b=true/\p:=by simp_all
section
variable{E:Env}{YY:YE E}
def vd(inl:Inl E)(an:D3)(TL:b4v E YY):Code->n5 E.N->c7 E.N->E.St->Ks E->Prop
 |.seq a b,fx,lkd,st,K=>bif rng a || rng b then vd inl an TL a fx lkd st ⟨fun st=>vd inl an TL b fx lkd st K,K.r,K.e⟩else vc inl an (.seq a b) fx lkd st K
 |.block i c,fx,lkd,st,K=>vd inl an TL c fx lkd st ⟨K.n,K.r,(i,K.n)::K.e⟩
 |.loop c,fx,lkd,st,K=>bif rng c then(match(first c).bind an.loop with
  |none=>False
  |some a=>∃(I:Cur E.N Prop a.vars)(m:Cur E.N Nat a.vars),
    rbP E fx st (s5 fx st a.keep++fx) (inn st (B4 E fx st a.vars)) a.vars (a1m a.vars I m) (fun im=>im.1) /\
    Q2 E fx st a.vars (a1m a.vars I m) ⟨[],[],[],st.nx⟩ (fun im new=>im.1 ->
     vd inl an TL c (s5 fx st a.keep++fx) (without st.items (B4 E fx st a.vars)++lkd) new
      (a4A (s5 fx st a.keep) (without st.items (B4 E fx st a.vars)) K (fun st'=>rbP E fx st (s5 fx st a.keep++fx) st' a.vars (a1m a.vars I m) (fun im'=>im'.1/\im'.2<im.2)))))else vc inl an (.loop c) fx lkd st K
 |.rangeFunc g ps asg body,fx,lkd,st,K=>(match evS fx lkd st [] g with
  |.clo gf cs=>(match ps.toList,(first body).bind an.loop,a7Y cs with
   |[p],some a,some iti=>(match c1K st.items 1 iti with
    |some itc=>bif Nat.blt p an.n && distinct iti && distinct (st.items.map (·.1)) && b5j a.vars && a3R a.vars && iti.all (fun i=>!(B4 E fx st a.vars).elem i) && (s5 fx st a.keep++fx).all (fun q=>!Nat.beq q.1 p)then
      ∃(I:List Int->Cur E.N Prop a.vars)(pre:List Int->Int->Prop)(res:List Int->Int->Bool),
       rbP E fx st (s5 fx st a.keep++fx) (inn st (B4 E fx st a.vars)) a.vars (I []) id /\
       (∀xs t,pre xs t->K2 res xs=false) /\
       (∀xs t,c6 t->pre xs t->Q2 E fx st a.vars (I xs) ⟨[],[],[],st.nx⟩ (fun x new=>x->vc inl an asg (s5 fx st a.keep++fx) (without (without st.items (B4 E fx st a.vars)) iti++lkd) ⟨(p,.int .i64 t)::new.slots,[],new.items,new.nx⟩
        ⟨fun st1=>vc inl an body (s5 fx st a.keep++fx) (without (without st.items (B4 E fx st a.vars)) iti++lkd) st1 ⟨fun st'=>res xs t=true/\rbP E fx st (s5 fx st a.keep++fx) st' a.vars (I (xs++[t])) id,fun st'=>res xs t=false/\rbP E fx st (s5 fx st a.keep++fx) st' a.vars (I (xs++[t])) id,[]⟩,fun _=>False,[]⟩)) /\
       (match TL.f gf (b6n 1 iti.length) itc pre res with
       |some (ob,xs)=>ob/\Q2 E fx st a.vars (I xs) ⟨[],[],[],st.nx⟩ (fun x new=>x->(K2 res xs=true->K.r ⟨new.slots++s5 fx st a.keep,[],new.items++without st.items (B4 E fx st a.vars),new.nx⟩)/\(K2 res xs=false->K.n ⟨new.slots++s5 fx st a.keep,[],new.items++without st.items (B4 E fx st a.vars),new.nx⟩))
       |none=>False)else False
    |none=>False)
   |_,_,_=>False)
  |_=>False)
 |c,fx,lkd,st,K=>vc inl an c fx lkd st K
variable{C:Ctx}{ρ ρb:p4}{Z Zb:Nat->Prop}{w wb:World}{lkd:c7 E.N}{fx:n5 E.N}{st st':E.St}{f fb:Fr}{inl:Inl E}{an:D3}{ds:List Nat}
def c21{keep:List Nat}{vs:List LV}{lkd':c7 E.N}{α:Type}{g:Cur E.N α vs}{Kα:α->Prop}{K:α->E.St->Prop}(h:Rel E C fx lkd st ρb Zb fb wb)(hl:∀p∈lkd',p∈st.items++lkd)
  (h':Rel E (C.at ρb Zb wb) (s5 fx st keep++fx) lkd' st' ρ Z f w) (hk:Mk E C ρ Z w (st'.items++lkd') ds) (hv:rbP E fx st (s5 fx st keep++fx) st' vs g Kα) (hK:Q2 E fx st vs g ⟨[],[],[],st.nx⟩ K) :
  ∃new ρ2 a,Kα a/\K a new/\Rel E (C.at ρb Zb wb) (s5 fx st keep++fx) lkd' new ρ2 Z f w/\Mk E C ρ2 Z w (new.items++lkd') ds:=by
 have hg:=c1F h' (Ext.refl [] w) (fun _ h=>by cases h);obtain⟨new,ρ2,a,h1,h2,h3,h4⟩:=b6J h hl hg h'.mem.ge (fun _ _ h=>h) hv hK;refine⟨new,ρ2,a,h1,h2,⟨h3.sl,h3.fx,h3.gs,?_,⟨h4,h'.tn.z,h'.tn.ext⟩,h'.g⟩,hk.go h3.mem⟩;have hB:∀x∈B7 E ρ (st'.items++lkd'),x∈C.B0∨C.w0.heap.size<=x:=fun x hx=>by obtain⟨p,hp,h⟩:=s9.1 hx;exact(h'.mem.okp hp).org x h
 have hsz:=h'.mem.sep.ext.size;refine⟨⟨h'.mem.sep.ext,h'.mem.sep.zlt,fun k t hk=>?_,fun j k s t hj hk hne=>?_⟩,h3.mem.fr,h4,h'.mem.zge,h'.mem.zle⟩
 . obtain⟨p,hp,rfl⟩:=o8 hk;have ok:=h3.mem.sep.ok k _ (j6 hp);refine⟨ok.holds,u5,ok.lt,ok.O2,fun b hb'=>?_,fun b hb=>hb⟩;rcases ok.org b hb' with h|h
   . exact hB b h
   . exact absurd (ok.lt b hb') (d7w.2 h)
 . obtain⟨p,hp,rfl⟩:=o8 hj;obtain⟨q,hq,rfl⟩:=o8 hk;exact fun b hb1 hb2=>h3.mem.sep.apart j k (C9 E.N E.T ρ2 _ p.1 p.2) (C9 E.N E.T ρ2 _ q.1 q.2) (j6 hp) (j6 hq) hne b hb1 hb2
def c1O{keep ids:List Nat}{K:Ks E}{n:E.St->Prop}{e:Exit}(h0:Rel E C fx lkd st ρb Zb fb wb)(hn:e≠.normal)
  (h:QKD E (C.at ρb Zb wb) (s5 fx st keep++fx) (without st.items ids++lkd) (a4A (s5 fx st keep) (without st.items ids) K n) e f w ds):QKD E C fx lkd K e f w ds:=by
 obtain⟨st',ρ',Z',hr,hk,he⟩:=h;have hl:=Rel.leave h0 hr;have hk':Mk E C ρ' Z' w ((st'.items++without st.items ids)++lkd) ds:=by rw[d5x];exact⟨hk.nd,hk.is,hk.new,hk.ap⟩
 cases e with
 |normal=>simp_all
 |ret=>exact⟨_,_,_,hl,hk',he⟩
 |exit i =>
  simp only[b8m,a4A]at he;rw[c1W]at he;cases hk2:lk K.e i with
  |none=>simp_all
  |some k=>rw[hk2]at he;exact⟨_,_,_,hl,hk',by simp only[b8m,hk2];exact he⟩
 |_=>exact he.elim
def vd_ok(hE:c8 E)(hI:H6 E inl)(TL:b4v E YY):∀(c:Code)(C:Ctx)(fx:n5 E.N)(lkd:c7 E.N)(st:E.St)(K:Ks E)(ρ:p4)(Z:Nat->Prop)(f:Fr)(w:World)(ds:List Nat),Rel E C fx lkd st ρ Z f w->Mk E C ρ Z w (st.items++lkd) ds->vd inl an TL c fx lkd st K->WD E.P an.n c (QKD E C fx lkd K) f w ds:=by
 intro c
 induction c with
 |seq a b iha ihb =>
  intro C fx lkd st K ρ Z f w ds h hk hv;simp only[vd]at hv;cases hb:(rng a || rng b)with
  |false=>rw[hb,d5y]at hv;exact piece_ok hE hI h hk hv
  |true =>
   rw[hb,d5r]at hv;refine c6n (a63 (iha C fx lkd st _ ρ Z f w ds h hk hv) fun e f' w' ds' q=>?_);obtain⟨st',ρ',Z',hr,hm,he⟩:=q;cases e with
   |normal=>exact ihb C fx lkd st' K ρ' Z' f' w' ds' hr hm he
   |ret=>exact⟨st',ρ',Z',hr,hm,he⟩
   |exit i=>exact⟨st',ρ',Z',hr,hm,he⟩
   |_=>exact he.elim
 |block i c ih =>
  intro C fx lkd st K ρ Z f w ds h hk hv;refine c1D (a63 (ih C fx lkd st _ ρ Z f w ds h hk hv) fun e f' w' ds' q=>?_);obtain⟨st',ρ',Z',hr,hm,he⟩:=q;cases e with
  |normal=>exact⟨st',ρ',Z',hr,hm,he⟩
  |ret=>exact⟨st',ρ',Z',hr,hm,he⟩
  |exit j =>
   have he:(match(bif Nat.beq i j then some K.n else lk K.e j)with|some k=>k st'|none=>False):=he;show(bif Nat.beq j i then QKD E C fx lkd K .normal f' w' ds' else QKD E C fx lkd K (.exit j) f' w' ds')
   have hc:Nat.beq i j=Nat.beq j i:=by
    by_cases e:i=j
    . rw[e]
    . rw[a02 e,a02 (d6l e)]
   rw[hc]at he;cases hb:Nat.beq j i with
   |true=>rw[hb]at he;exact⟨st',ρ',Z',hr,hm,he⟩
   |false=>rw[hb]at he;exact⟨st',ρ',Z',hr,hm,he⟩
  |_=>exact he.elim
 |loop c ih =>
  intro C fx lkd st K ρ Z f w ds h hk hv;simp only[vd]at hv;cases hb:rng c with
  |false=>rw[hb,d5y]at hv;exact piece_ok hE hI h hk hv
  |true =>
   rw[hb,d5r]at hv;split at hv
   . exact hv.elim
   . rename_i a ha;obtain⟨I,m,h0,hb⟩:=hv;have hl:∀p∈without st.items (B4 E fx st a.vars)++lkd,p∈st.items++lkd:=fun p hp=>by
      rcases d5t.1 hp with hp|hp
      . exact d5S _ (d5u.1 hp).1
      simp_all
     have hk0:Mk E C ρ Z w ((inn st (B4 E fx st a.vars)).items++(without st.items (B4 E fx st a.vars)++lkd)) ds:=hk.sub fun p hp=>by
      rcases d5t.1 hp with hp|hp
      . exact d5S _ (d5u.1 hp).1
      simp_all
     obtain⟨new,ρ2,im,h1,h2,h3,h4⟩:=c21 h hl (h.enter a.keep (B4 E fx st a.vars)) hk0 h0 hb
     refine     c3j (fun k f' w' ds' => ∃ (new : E.St) (ρ2 :   p4) (Z2 : Nat -> Prop) (im : Prop × Nat), (im.1 -> vd inl an TL c (   s5 fx st a.keep ++ fx) (without st.items (   B4 E fx st a.vars) ++ lkd) new
           (a4A (s5 fx st a.keep) (without st.items (B4 E fx st a.vars)) K (fun st'=>rbP E fx st (s5 fx st a.keep++fx) st' a.vars (a1m a.vars I m) (fun im'=>im'.1/\im'.2<im.2))))/\im.1/\im.2=k/\Rel E (C.at ρ Z w) (s5 fx st a.keep++fx) (without st.items (B4 E fx st a.vars)++lkd) new ρ2 Z2 f' w'/\Mk E C ρ2 Z2 w' (new.items++(without st.items (B4 E fx st a.vars)++lkd)) ds') im.2 ⟨new,ρ2,Z,im,h2,h1,rfl,h3,h4⟩ ?_
     rintro k f' w' ds' ⟨new,ρ2,Z2,im,hbody,hi,rfl,hr,hm⟩;refine a63 (ih _ _ _ _ _ ρ2 Z2 f' w' ds' hr ⟨hm.nd,hm.is,hm.new,hm.ap⟩ (hbody hi)) fun e f2 w2 ds2 q=>?_;cases e with
     |normal =>
      obtain⟨st',ρ',Z',hr',hm',he⟩:=q;obtain⟨new2,ρ3,im2,g1,g2,g3,g4⟩:=c21 (ds:=ds2) h hl hr' ⟨hm'.nd,hm'.is,hm'.new,hm'.ap⟩ he hb;exact⟨im2.2,g1.2,new2,ρ3,Z',im2,g2,g1.1,rfl,g3,g4⟩
     |ret=>exact c1O h (by simp_all) q
     |exit i=>exact c1O h (by simp_all) q
     |_=>obtain⟨_,_,_,_,_,he⟩:=q;exact he.elim
 |rangeFunc g ps asg body _ _ =>
  intro C fx lkd st K ρ Z f w ds h hk hv;simp only[vd]at hv;split at hv
  . rename_i gf cs hg;split at hv
    . rename_i p a iti hps ha hcs;split at hv
      . rename_i itc hci;have⟨hc,hv⟩:=a0Z hv;simp only[d4U]at hc;obtain⟨I,pre,res,h0,hst,hbd,hv⟩:=hv;split at hv
        . rename_i ob xs ht;obtain⟨hob,hK⟩:=hv;have e:ps=#[p]:=by rw[<- d8k (xs:=ps),hps]
          subst e;refine range_ok hE hI TL h hk hg hcs hci hc.1.1.1.1.1.1 hc.1.1.1.1.1.2 hc.1.1.1.1.2 hc.1.1.1.2 hc.1.1.2 hc.1.2 hc.2 rfl h0 hst hbd ht hob ?_;grind
        . exact hv.elim
      simp_all
    simp_all
  simp_all
 |_=>intro C fx lkd st K ρ Z f w ds h hk hv;exact piece_ok hE hI h hk hv
def c0a(st:E.St)(r:ResultVar):Option E.SV:=match r with
 |.tmp t=>a4V st (.tmp t)
 |.cell a T=>(match lk st.slots a with
  |some (.ref id off)=>(match lk st.items id with
   |some (.own _ [v])=>(match E.a7v T with
    |some b=>bif !b && Nat.beq off 0 then some v else none
    |none=>none)
   |_=>none)
  |_=>none)
def resD_ok{n:Nat}{r:ResultVar}{s:E.SV}(h:Rel E C fx lkd st ρ Z f w)(e:c0a st r=some s):∃v,e7 E.N E.T ρ Z w v s/\∀a w1,Is a f n->F8 w w1->(a1j a.tmps r).run E.P w1=.ok v w1:=by
 cases r with
 |tmp t=>exact resS_ok h e
 |cell a0 T =>
  simp only[c0a]at e;split at e
  . rename_i id off hl;split at e
    . rename_i Ty v hi;split at e
      . rename_i b hA;have⟨h1,h2⟩:=j3 e;simp only[d4T]at h2;subst h2;simp only[d4U,d6w]at h1;have e0:=d4W h1.2;subst e0;rw[h1.1]at hA;have hr:=h.sl a0 _ hl;obtain⟨j,hj,_⟩:=x8 hi;obtain⟨L,cs,hL,hbs,ho,hrep⟩:=h.mem.holds (p5 (l2:=lkd) hj);have hL:ρ id=some L:=hL;have hp:f a0=.pointer (some ⟨L.b,0,none⟩):=by
         generalize f a0=u at hr;cases hr with|ref hL'=>simp_all
        obtain⟨v1,rfl,hv,_⟩:=hrep.a68;refine⟨v1,hv,fun a w1 hi' hs=>?_⟩;have hc:Cells w1 L.b 0 [v1]:=Cells.sim ho.all hs;have h0:=hc.cell (j:=0) (v:=v1) rfl;simp only[d6r]at h0;have this:(loadVar T ⟨L.b,0,none⟩).run E.P w1=.ok v1 w1:=by simp[loadVar,a36 hA,go_sem,load,Sem.run,h0]
        simp only[a1j];rw[hi'.get,hp];rw[d4X];simp only[asAddr,d5O,d4V];exact this
      . cases e
    . cases e
  . cases e
def a9w(inl:Inl E)(an:D3)(TL:b4v E YY)(fn:Func)(args:List E.SV)(its lkd:c7 E.N)(nx:Nat)(k:E.SV->c7 E.N->Nat->Prop):Prop:=match fn.body,fn.results.toList with
 |some c,[r]=>bif Nat.ble args.length fn.ntmps then vd inl ⟨fn.ntmps,an.loop,an.join⟩ TL c [] lkd ⟨number 0 args,[],its,nx⟩ ⟨fun st=>(match c0a st r with|some v=>k v st.items st.nx|none=>False),fun st=>(match c0a st r with|some v=>k v st.items st.nx|none=>False),[]⟩else False
 |_,_=>False
def vdFun_ok{fn:Func}{K:Nat}{args:List E.SV}{its:c7 E.N}{nx:Nat}{vs:List Value}(hE:c8 E)(hI:H6 E inl)(TL:b4v E YY)(hf:E.P.funcs[K]?=some fn){k:E.SV->c7 E.N->Nat->Prop}(hv:a9w inl an TL fn args its lkd nx k)(hm:Mem E C ρ Z w (its++lkd) nx)(hg:E.G.is Z w)(ha:e7 E.N E.T ρ Z w (.tuple vs.toArray) (.F5 args)):G2 E.P K vs w (b8y E C ρ Z w lkd k):=by
 unfold a9w at hv;split at hv
 . rename_i c r hc hrr;have⟨hb,hv⟩:=a0Z hv;have hle:Nat.ble vs.length fn.ntmps=true:=by rw[a4b ha];exact hb
   have h0:Rel E (C.at ρ Z w) [] lkd ⟨number 0 args,[],its,nx⟩ ρ Z (nth vs) w:=⟨fun k s e=>a62 (n:=0) ha k s (by simpa using e),fun p hp=>(by cases hp),fun k j b s e=>(by cases e),hm.down,Tn.refl _ _ _,hg⟩;have hw:=vd_ok (an:=⟨fn.ntmps,an.loop,an.join⟩) hE hI TL c _ _ _ _ _ ρ Z (nth vs) w [] h0 ⟨List.nodup_nil,fun _ h=>(by cases h),fun _ h=>(by cases h),fun _ h=>(by cases h)⟩ hv;refine c7s hf hc rfl hle (a63 hw fun e f' w' ds q=>?_);obtain⟨st,ρ',Z',hr,hk,he⟩:=q;have hs:=hr.Z8 hk;have fin:(match c0a st r with|some v=>k v st.items st.nx|none=>False)->∃v,b7C E.P fn fn.ntmps f' (Z8 w' ds) v/\b8y E C ρ Z w lkd k v (Z8 w' ds):=fun hk=>by
    split at hk
    . rename_i s hss;obtain⟨v,h1,h2⟩:=resD_ok (n:=fn.ntmps) hs hss;exact⟨v,fun a w1 hi hs=>a9D (by grind) (h2 a w1 hi hs),ρ',Z',s,st.items,st.nx,Mem.upC hm hs.mem,hs.tn,h1,hk⟩
    simp_all
   cases e with
   |normal=>exact⟨.inr rfl,hk.nd,hk.is,fin he⟩
   |ret=>exact⟨.inl rfl,hk.nd,hk.is,fin he⟩
   |exit i=>exact he.elim
   |_=>exact he.elim
 simp_all
def d1L{fn:Func}{K nx:Nat}{args:List E.SV}(hE:c8 E)(hI:H6 E inl)(TL:b4v E YY)(hf:E.P.funcs[K]?=some fn){k:VK}{x:k.den E.N}{ob:List Prop}(hp:args.all F7=true)(hv:a9w inl an TL fn args [] [] 0 (a1R E [k] (fun y=>y=x))):P8 E.P E.N E.T E.G K args nx ⟨ob,[],a06 E nx k x,a2q E k x⟩:=
 ⟨fun ρ Z w vs hfr hz hg ha=>(vdFun_ok (C:=a4S (fun _=>none) Z w) hE hI TL hf hv (b35 (fun _ _=>rfl) hz) hg (L0 hp ha _)).mono fun v w' h=>by
  obtain⟨ρ',Z',s,its',nx',hx,hm,ht,hr,hk⟩:=h.pure;obtain⟨ρ3,os,t1,f1,s1,r1,o1⟩:=rb1_ok (lkd:=[]) (n2:=nx) (ρ2:=ρ) (os:=[]) (new:=[]) (by simpa using hm) hr (c05 hk) hfr .nil;rw[(a2G k x).1,d5C]at t1;rw[(a2G k x).2]at f1;refine⟨ρ3,Z',s1,f1,hm.zge,fun b hb=>?_,r1,b0J hm t1 (b3T o1) f1,trivial⟩;rcases hm.zle b hb with h|h|h
  . exact .inl h
  . cases h
  . exact .inr h⟩
def obQ(E:Env)(Q:E.N.O 0->Prop)(its:c7 E.N):Prop:=match lk its 0 with
 |some (.ob k _ x)=>if h:k=0 then Q (h ▸ x)else False
 |_=>False
def c7d{fn:Func}{K nx:Nat}{args:List E.SV}{itc:c7 E.N}{fd:Nat}{x y:E.N.O 0}(hE:c8 E)(hI:H6 E inl)(hf:E.P.funcs[K]?=some fn)(hv:j4 inl an fn args [(0,.ob 0 fd x)] itc nx (fun _ its _=>obQ E (fun z=>z=y) its)) :
  M6 E.P E.N E.T E.G K args ((0,.ob 0 fd x)::itc) nx (fun k=>∀fid n v,k v ((0,.ob 0 fid y)::itc) n):=fun k hk ρ Z w vs B hfr hs hg ha =>
 (vcFun_ok (C:=Ctx.gr ρ Z w B) hE hI hf hv ⟨hs,hfr,fun _ _ h=>h,fun _ h=>h,fun _ h=>.inl h⟩ hg ha).mono fun v w' ⟨ρ',Z',s,its',nx',hm,ht,hr,hq⟩=>by
  have hq:obQ E (fun z=>z=y) its':=hq;unfold obQ at hq;split at hq
  . rename_i k0 f' x' hl;split at hq
    . rename_i h0;subst h0;have hq:x'=y:=hq;subst hq;have hix:=a4k hl;have hlt:=A5 hix;have hm2:Mem E (Ctx.gr ρ Z w B) ρ' Z' w' ((0,.ob 0 f' x')::itc) nx':=hm.sel (fun _ _ h=>h) hm.fr (fun i=>if i=0 then b44 its' 0 else its'.length+(i-1)) (fun i j _ _ e=>by
       grind) fun i p hp=>by
       grind
      exact⟨ρ',Z',s,_,nx',hm2.sep,hm2.fr,hm2.ge,hm2.zge,hm2.zle,hr,hk f' nx' s⟩
    simp_all
  simp_all
end
end Go.Rx
namespace Go.Re
open Go Go.Wk Go.Wl Go.Rx
def b2a:∀(T y:List Int),goY (fun _ _=>true) y T=y++T
 |[],y=>by simp[goY]
 |t::r,y=>by unfold goY;rw[d5r,b2a r];simp
def a7Z{xs:List Int}:K2 (fun _ _=>true) xs=false:=by unfold K2;cases xs.getLast? <;> rfl
def b6Q{p:Int->Prop}{n:Nat}{res:List Int->Int->Bool}:∀(T y:List Int),y.length+T.length<=n->(∀t∈T,p t)->okY (fun y t=>p t/\y.length<=n) res y T
 |[],_,_,_=>trivial
 |t::r,y,hn,h=>⟨⟨h t (d5P ..),by rw[d5h]at hn;omega⟩,fun _=>b6Q r _ (by rw[d4Y,d6p];rw[d5h]at hn;omega) fun u hu=>h u (d5v _ hu)⟩
def a29{fr tw b t:Int}:∀{l:List Int},t∈a3g fr tw b l↔∃s∈l,t=b+s/\fr<=t/\t<tw
 |[]=>by simp[a3g]
 |s::r=>by
  by_cases hc:fr<=b+s/\b+s<tw
  . rw[b2M hc,d5k,a29];constructor
    . rintro(rfl|⟨u,hu,h⟩)
      . exact⟨s,d5P .., rfl,hc⟩
      . exact⟨u,d5v _ hu,h⟩
    . rintro⟨u,hu,h⟩;rcases d5k.1 hu with rfl|hu
      . exact .inl h.1
      . exact .inr ⟨u,hu,h⟩
  . rw[b67 hc,a29];constructor
    . rintro⟨u,hu,h⟩;exact⟨u,d5v _ hu,h⟩
    . rintro⟨u,hu,h⟩;rcases d5k.1 hu with rfl|hu
      . exact absurd (h.1 ▸ h.2) hc
      . exact⟨u,hu,h⟩
def a4H{fr tw b t:Int}{ss:List Int}(hs:inB 59 ss):∀{l:List Int},t∈a1n fr tw b ss l↔∃m∈l,∃s∈ss,t=b+m*60+s/\fr<=t/\t<tw
 |[]=>by simp[a1n]
 |m::r=>by
  have bd:∀s∈ss,0<=s/\s<=59:=fun s h=>by obtain⟨i,i0,i1,rfl⟩:=L6 h;exact hs i i0 i1
  have key:t∈a1n fr tw b ss (m::r)↔(∃s∈ss,t=b+m*60+s/\fr<=t/\t<tw)∨t∈a1n fr tw b ss r:=by
   by_cases hc:b+m*60+59<fr∨tw<=b+m*60
   . rw[b1r hc];refine⟨.inr,fun h=>h.resolve_left ?_⟩;rintro⟨s,hs,h1,h2,h3⟩;have:=bd s hs;omega
   . rw[b5W hc,d5t,a29]
  rw[key,a4H hs];constructor
  . rintro(h|⟨u,hu,h⟩)
    . exact⟨m,d5P .., h⟩
    . exact⟨u,d5v _ hu,h⟩
  . rintro⟨u,hu,h⟩;rcases d5k.1 hu with rfl|hu
    . exact .inl h
    . exact .inr ⟨u,hu,h⟩
def a7N{fr tw t:Int}{ms ss:List Int}(hm:inB 59 ms)(hs:inB 59 ss):∀{l:List Int},t∈a1M fr tw ms ss l↔∃h∈l,∃m∈ms,∃s∈ss,t=h*3600+m*60+s/\fr<=t/\t<tw
 |[]=>by simp[a1M]
 |h::r=>by
  have bd:∀s∈ss,0<=s/\s<=59:=fun s h=>by obtain⟨i,i0,i1,rfl⟩:=L6 h;exact hs i i0 i1
  have bm:∀s∈ms,0<=s/\s<=59:=fun s h=>by obtain⟨i,i0,i1,rfl⟩:=L6 h;exact hm i i0 i1
  have key:t∈a1M fr tw ms ss (h::r)↔(∃m∈ms,∃s∈ss,t=h*3600+m*60+s/\fr<=t/\t<tw)∨t∈a1M fr tw ms ss r:=by
   by_cases hc:h*3600+3599<fr∨tw<=h*3600
   . rw[a6W hc];refine⟨.inr,fun h=>h.resolve_left ?_⟩;rintro⟨m,hm,s,hs,h1,h2,h3⟩;have:=bd s hs;have:=bm m hm;omega
   . rw[b0l hc,d5t,a4H hs]
  rw[key,a7N hm hs];constructor
  . rintro(hh|⟨u,hu,hh⟩)
    . exact⟨h,d5P .., hh⟩
    . exact⟨u,d5v _ hu,hh⟩
  . rintro⟨u,hu,hh⟩;rcases d5k.1 hu with rfl|hu
    . exact .inl hh
    . exact .inr ⟨u,hu,hh⟩
def b2i{s:Tm}{r:Rl}{fr tw t:Int}(hF:A3 s r):t∈a3x s r fr tw↔(∃h∈hoL s r,∃m∈miL s r,∃x∈seL s r,t=h*3600+m*60+x)/\fr<=t/\t<tw:=by
 unfold a3x;rw[a7N (b4M hF) (b3S hF)];constructor
 . rintro⟨h,hh,m,hm,x,hx,e,b⟩;exact⟨⟨h,hh,m,hm,x,hx,e⟩,b⟩
 . rintro⟨⟨h,hh,m,hm,x,hx,e⟩,b⟩;exact⟨h,hh,m,hm,x,hx,e,b⟩
def b1B{fr tw b:Int}:∀l:List Int,(a3g fr tw b l).length<=l.length
 |[]=>d5m 0
 |s::r=>by have:=b1B (fr:=fr) (tw:=tw) (b:=b) r;unfold a3g;split <;> simp only[d5h] <;> omega
def b1W{fr tw b:Int}{ss:List Int}(h:ss.length<=60):∀l:List Int,(a1n fr tw b ss l).length<=l.length*60
 |[]=>by rw[b1G];exact d6B _
 |m::r=>by have:=b1W (fr:=fr) (tw:=tw) (b:=b) h r;have:=b1B (fr:=fr) (tw:=tw) (b:=b+m*60) ss;unfold a1n;split <;> simp only[d5h,d4Y] <;> omega
def b1V{fr tw:Int}{ms ss:List Int}(h:ss.length<=60)(hm:ms.length<=60):∀l:List Int,(a1M fr tw ms ss l).length<=l.length*3600
 |[]=>by rw[b2P];exact d6B _
 |x::r=>by
  have:=b1V (fr:=fr) (tw:=tw) h hm r;have h2:=b1W (fr:=fr) (tw:=tw) (b:=x*3600) h ms;have e:(x::r).length*3600=r.length*3600+3600:=by rw[d5h,d6k,d8c]
  rw[e];by_cases hc:x*3600+3599<fr∨tw<=x*3600
  . rw[a6W hc];exact d5f this (d8R _ _)
  . rw[b0l hc,d4Y];have key:∀A B M X:Nat,A<=X->B<=M*60->M<=60->B+A<=X+3600:=fun A B M X h1 h2 h3=>by omega
    exact key _ _ _ _ this h2 hm
def b3k{s:Tm}{r:Rl}{fr tw:Int}(hF:A3 s r):(a3x s r fr tw).length<=216000:=by have a:((hoL s r).length:Int)<=60:=T0 (s7.1 hF.rr).lists.ho.few (by decide);have b:((miL s r).length:Int)<=60:=T0 (s7.1 hF.rr).lists.mi.few (by decide);have c:((seL s r).length:Int)<=60:=T0 (s7.1 hF.rr).lists.se.few (by decide);have:=b1V (fr:=fr) (tw:=tw) (ms:=miL s r) (ss:=seL s r) (by omega) (by omega) (hoL s r);unfold a3x;omega
def a8y(s:Tm)(r:Rl)(day fr tw n:Int):List Int:=if a3K s r day n=true then(a3x s r (fr-(n-1)*86400) (tw-(n-1)*86400)).map (fun t=>(n-1)*86400+t)else []
def a5S(s:Tm)(r:Rl)(day fr tw:Int):Nat->Int->List Int
 |0,_=>[]
 |k+1,n=>a8y s r day fr tw n++a5S s r day fr tw k (n+1)
def b2V{s:Tm}{r:Rl}{day fr tw n:Int}(hF:A3 s r):(a8y s r day fr tw n).length<=216000:=by
 unfold a8y;split
 . rw[d6h];exact b3k hF
 . exact d6B _
def b0s(s:Tm)(r:Rl)(day fr tw:Int):List Int:=a5S s r day fr tw ((tw+86399) / 86400-fr / 86400).toNat (fr / 86400+1)
def B6(s:Tm)(r:Rl)(day i:Int):List Int:=X2 r (b0s s r day (C2 r i) (C2 r (i+1)))
def b0z{n:Int}(h:0<=n):0<=nbP n/\nbP n<=315537897600:=by unfold nbP;split <;> omega
def Y6{r:Rl}{i:Int}(h0:0<=i):0<=C2 r i/\C2 r i<=315537897600:=by
 have n1:=(a5Z ⟨i,1,1⟩).1;have n2:=(a5Z ⟨i / 12,i%12+1,1⟩).1;unfold C2;split
 . exact b0z n1
 split
 . exact b0z n2
 split
 . exact b0z (by omega)
 split
 . exact b0z h0
 split
 . omega
 split <;> omega
structure a6P(s:Tm)(r:Rl)(day fr tw n:Int)(acc:List Int):Prop where
 a:fr / 86400+1<=n
 b:n<=(tw+86399) / 86400+1∨n=fr / 86400+1
 c:(acc.length:Int)<=(n-fr / 86400-1)*216000
 d:acc++a5S s r day fr tw ((tw+86399) / 86400+1-n).toNat n=b0s s r day fr tw
section
variable{s:Tm}{r:Rl}{day fr tw n:Int}{acc:List Int}
def a6P.init:a6P s r day fr tw (fr / 86400+1) []:=⟨d5o _,.inr rfl,by simp;omega,by unfold b0s;rw[d6a,show(tw+86399) / 86400+1-(fr / 86400+1)=(tw+86399) / 86400-fr / 86400 by omega]⟩
def a6P.step(h:a6P s r day fr tw n acc)(hF:A3 s r)(hn:(n-1)*86400<tw):a6P s r day fr tw (n+1) (acc++a8y s r day fr tw n):=by
 have hb:n<=(tw+86399) / 86400:=by omega
 have a:=h.a;have c:=h.c;have d:=h.d;have l:=b2V (day:=day) (fr:=fr) (tw:=tw) (n:=n) hF;refine⟨by omega,.inl (by omega),?_,?_⟩
 . rw[d4Y];have:(n+1-fr / 86400-1)*216000=(n-fr / 86400-1)*216000+216000:=by omega
   omega
 . rw[show((tw+86399) / 86400+1-n).toNat=((tw+86399) / 86400+1-(n+1)).toNat+1 by omega]at d;unfold a5S at d;rw[d5x];exact d
def a6P.fin(h:a6P s r day fr tw n acc)(hn:¬(n-1)*86400<tw):acc=b0s s r day fr tw:=by have d:=h.d;rw[show((tw+86399) / 86400+1-n).toNat=0 by omega]at d;unfold a5S at d;rw[d5C]at d;exact d
def a6P.len(h:a6P s r day fr tw n acc)(f0:0<=fr)(f1:fr<=315537897600)(t1:tw<=315537897600):(acc.length:Int)<=1000000000000:=by
 have c:=h.c;have a:=h.a;rcases h.b with b|b
 . have:n-fr / 86400-1<=3652060:=by omega
   omega
 . have:n-fr / 86400-1=0:=by omega
   rw[this]at c;omega
end
def a83{s:Tm}{r:Rl}{h m t:Int}:∀{k:Nat},t∈b3z s r h m k↔∃x:Nat,x<k/\sB s r x/\t=3600*h+60*m+x
 |0=>by simp[b3z]
 |k+1=>by
  unfold b3z;rw[d5t,a83];constructor
  . rintro(⟨x,h1,h2⟩|h)
    . exact⟨x,by omega,h2⟩
    . split at h
      . rename_i hc;exact⟨k,by omega,hc,by simpa using h⟩
      . cases h
  . rintro⟨x,h1,h2,h3⟩;by_cases e:x=k
    . subst e;exact .inr (by rw[if_pos h2,h3];exact d5a.2 rfl)
    . exact .inl ⟨x,by omega,h2,h3⟩
def a6S{s:Tm}{r:Rl}{h t:Int}:∀{k:Nat},t∈b1v s r h k↔∃m:Nat,m<k/\mB s r m/\t∈b3z s r h m 60
 |0=>by simp[b1v]
 |k+1=>by
  unfold b1v;rw[d5t,a6S];constructor
  . rintro(⟨x,h1,h2⟩|h)
    . exact⟨x,by omega,h2⟩
    . split at h
      . rename_i hc;exact⟨k,by omega,hc,h⟩
      . cases h
  . rintro⟨x,h1,h2,h3⟩;by_cases e:x=k
    . subst e;exact .inr (by rw[if_pos h2];exact h3)
    . exact .inl ⟨x,by omega,h2,h3⟩
def b3u{s:Tm}{r:Rl}{t:Int}:∀{k:Nat},t∈b4q s r k↔∃h:Nat,h<k/\hB s r h/\t∈b1v s r h 60
 |0=>by simp[b4q]
 |k+1=>by
  unfold b4q;rw[d5t,b3u];constructor
  . rintro(⟨x,h1,h2⟩|h)
    . exact⟨x,by omega,h2⟩
    . split at h
      . rename_i hc;exact⟨k,by omega,hc,h⟩
      . cases h
  . rintro⟨x,h1,h2,h3⟩;by_cases e:x=k
    . subst e;exact .inr (by rw[if_pos h2];exact h3)
    . exact .inl ⟨x,by omega,h2,h3⟩
def b2C{s:Tm}{r:Rl}{t:Int}:t∈R9 s r↔∃h m x:Nat,(h<24/\hB s r h)/\(m<60/\mB s r m)/\(x<60/\sB s r x)/\t=3600*(h:Int)+60*m+x:=by
 unfold R9;rw[b3u];constructor
 . rintro⟨h,h1,h2,h3⟩;obtain⟨m,m1,m2,m3⟩:=a6S.1 h3;obtain⟨x,x1,x2,x3⟩:=a83.1 m3;exact⟨h,m,x,⟨h1,h2⟩,⟨m1,m2⟩,⟨x1,x2⟩,x3⟩
 . rintro⟨h,m,x,⟨h1,h2⟩,⟨m1,m2⟩,⟨x1,x2⟩,x3⟩;exact⟨h,h1,h2,a6S.2 ⟨m,m1,m2,a83.2 ⟨x,x1,x2,x3⟩⟩⟩
def a7O{n:Nat}{x:Int}:x∈a8O n↔0<=x/\x<n:=by
 unfold a8O;rw[d6A];constructor
 . rintro⟨k,hk,rfl⟩;have:=d7z.1 hk;show 0<=((k:Nat):Int)/\((k:Nat):Int)<n
   omega
 . rintro⟨h0,h1⟩;exact⟨x.toNat,d7z.2 (by omega),by show((x.toNat:Nat):Int)=x;omega⟩
def b0R{l:List Int}{n h:Int}(hl:Z7 l 0 n false)(hh:h∈l):0<=h/\h<=n:=by obtain⟨i,i0,i1,rfl⟩:=L6 hh;have:=hl.ok i i0 i1;unfold OkN at this;simp only[d5Y,false_and,if_false]at this;exact this
def b60{s:Tm}{r:Rl}{h:Int}(hF:A3 s r):h∈hoL s r↔∃k:Nat,(k<24/\hB s r k)/\h=k:=by
 obtain⟨_,⟨a,b⟩,_⟩:=A8.1 hF.rt;have ho:=(s7.1 hF.rr).lists.ho;unfold hoL n9 hB;by_cases hc:0<(r.Hour.length:Int)
 . rw[if_pos hc];have h0:¬(r.Hour.length:Int)=0:=by omega
   constructor
   . intro hh;have:=b0R ho hh;exact⟨h.toNat,⟨by omega,fun e=>e.elim (fun e=>e.2 (by rw[W3];rw[show((h.toNat:Nat):Int)=h by omega];exact hh)) fun e=>h0 e.1.1⟩,by omega⟩
   . rintro⟨k,⟨_,h2⟩,rfl⟩;exact W3.1 (d4S.1 fun hn=>h2 (.inl ⟨hc,hn⟩))
 . rw[if_neg hc];have h0:(r.Hour.length:Int)=0:=by omega
   by_cases hf:3<r.l6
   . rw[if_pos (d5e hf),a7O];constructor
     . rintro⟨h1,h2⟩;exact⟨h.toNat,⟨by omega,fun e=>e.elim (fun e=>hc e.1) fun e=>absurd e.1.2 (by omega)⟩,by omega⟩
     . rintro⟨k,⟨h1,_⟩,rfl⟩;have:((Int.toNat 24:Nat):Int)=24:=rfl;omega
   . rw[if_neg (by simpa using hf),d5a];constructor
     . rintro rfl;exact⟨s.Hour.toNat,⟨by omega,fun e=>e.elim (fun e=>hc e.1) fun e=>e.2 (by omega)⟩,by omega⟩
     . rintro⟨k,⟨_,h2⟩,rfl⟩;exact d4S.1 fun hn=>h2 (.inr ⟨⟨h0,by omega⟩,hn⟩)
def b65{s:Tm}{r:Rl}{h:Int}(hF:A3 s r):h∈miL s r↔∃k:Nat,(k<60/\mB s r k)/\h=k:=by
 obtain⟨_,_,⟨a,b⟩,_⟩:=A8.1 hF.rt;have ho:=(s7.1 hF.rr).lists.mi;unfold miL n9 mB;by_cases hc:0<(r.Minute.length:Int)
 . rw[if_pos hc];have h0:¬(r.Minute.length:Int)=0:=by omega
   constructor
   . intro hh;have:=b0R ho hh;exact⟨h.toNat,⟨by omega,fun e=>e.elim (fun e=>e.2 (by rw[W3];rw[show((h.toNat:Nat):Int)=h by omega];exact hh)) fun e=>h0 e.1.1⟩,by omega⟩
   . rintro⟨k,⟨_,h2⟩,rfl⟩;exact W3.1 (d4S.1 fun hn=>h2 (.inl ⟨hc,hn⟩))
 . rw[if_neg hc];have h0:(r.Minute.length:Int)=0:=by omega
   by_cases hf:4<r.l6
   . rw[if_pos (d5e hf),a7O];constructor
     . rintro⟨h1,h2⟩;have:((Int.toNat 60:Nat):Int)=60:=rfl;exact⟨h.toNat,⟨by omega,fun e=>e.elim (fun e=>hc e.1) fun e=>absurd e.1.2 (by omega)⟩,by omega⟩
     . rintro⟨k,⟨h1,_⟩,rfl⟩;have:((Int.toNat 60:Nat):Int)=60:=rfl;omega
   . rw[if_neg (by simpa using hf),d5a];constructor
     . rintro rfl;exact⟨s.Min.toNat,⟨by omega,fun e=>e.elim (fun e=>hc e.1) fun e=>e.2 (by omega)⟩,by omega⟩
     . rintro⟨k,⟨_,h2⟩,rfl⟩;exact d4S.1 fun hn=>h2 (.inr ⟨⟨h0,by omega⟩,hn⟩)
def b5p{s:Tm}{r:Rl}{h:Int}(hF:A3 s r):h∈seL s r↔∃k:Nat,(k<60/\sB s r k)/\h=k:=by
 obtain⟨_,_,_,⟨a,b⟩,_⟩:=A8.1 hF.rt;have ho:=(s7.1 hF.rr).lists.se;unfold seL n9 sB;by_cases hc:0<(r.Second.length:Int)
 . rw[if_pos hc];have h0:¬(r.Second.length:Int)=0:=by omega
   constructor
   . intro hh;have:=b0R ho hh;exact⟨h.toNat,⟨by omega,.inl ⟨hc,by rw[W3];rw[show((h.toNat:Nat):Int)=h by omega];exact hh⟩⟩,by omega⟩
   . rintro⟨k,⟨_,h2⟩,rfl⟩;exact h2.elim (fun e=>W3.1 e.2) fun e=>absurd e.1 h0
 . rw[if_neg hc];have h0:(r.Second.length:Int)=0:=by omega
   by_cases hf:5<r.l6
   . rw[if_pos (d5e hf),a7O];constructor
     . rintro⟨h1,h2⟩;have:((Int.toNat 60:Nat):Int)=60:=rfl;exact⟨h.toNat,⟨by omega,.inr ⟨h0,.inl hf⟩⟩,by omega⟩
     . rintro⟨k,⟨h1,_⟩,rfl⟩;have:((Int.toNat 60:Nat):Int)=60:=rfl;omega
   . rw[if_neg (by simpa using hf),d5a];constructor
     . rintro rfl;exact⟨s.D8.toNat,⟨by omega,.inr ⟨h0,.inr (by omega)⟩⟩,by omega⟩
     . rintro⟨k,⟨_,h2⟩,rfl⟩;exact h2.elim (fun e=>absurd e.1 hc) fun e=>e.2.elim (fun e=>absurd e hf) id
def b31{s:Tm}{r:Rl}{fr tw t:Int}(hF:A3 s r):t∈a3x s r fr tw↔t∈R9 s r/\fr<=t/\t<tw:=by
 rw[b2i hF,b2C];constructor
 . rintro⟨⟨h,hh,m,hm,x,hx,e⟩,b⟩;obtain⟨k,hk,rfl⟩:=(b60 hF).1 hh;obtain⟨j,hj,rfl⟩:=(b65 hF).1 hm;obtain⟨i,hi,rfl⟩:=(b5p hF).1 hx;exact⟨⟨k,j,i,hk,hj,hi,by omega⟩,b⟩
 . rintro⟨⟨k,j,i,hk,hj,hi,e⟩,b⟩;exact⟨⟨k,(b60 hF).2 ⟨k,hk,rfl⟩,j,(b65 hF).2 ⟨j,hj,rfl⟩,i,(b5p hF).2 ⟨i,hi,rfl⟩,by omega⟩,b⟩
def a0D(res:List Int->Int->Bool):List Int->List Int->Bool->List Int×Bool
 |y,[],e=>(y,e)
 |y,t::T,e=>bif res y t then a0D res (y++[t]) T e else(y++[t],false)
structure a3Z(res:List Int->Int->Bool)(g:List Int×Bool)(y T:List Int)(e:Bool):Prop where
 a:a0D res y T e=g
section
variable{res:List Int->Int->Bool}{g:List Int×Bool}{y T:List Int}{e:Bool}{t:Int}
def a3Z.fin(h:a3Z res g y [] e):g=(y,e):=h.a.symm
def a3Z.go(h:a3Z res g y (t::T) e)(hr:res y t=true):a3Z res g (y++[t]) T e:=⟨by have a:=h.a;unfold a0D at a;rw[hr]at a;exact a⟩
def a3Z.stop(h:a3Z res g y (t::T) e)(hr:¬res y t=true):g=(y++[t],false):=by have a:=h.a;unfold a0D at a;rw[d5E]at hr;rw[hr]at a;exact a.symm
end
def a3A(r:Rl)(first tw H8:Int):Int->List Int->List Int×Int
 |c,[]=>([],c)
 |c,t::T=>if t<=first then a3A r first tw H8 c T else if(tw<=t∨H8<t)∨(0<r.Count/\r.Count<=c)then([],c)else(t::(a3A r first tw H8 (c+1) T).1,(a3A r first tw H8 (c+1) T).2)
def a0B(r:Rl)(tw H8 b c:Int):Prop:=((tw<=b∨H8<b)∨(0<r.Count/\r.Count<=c))∨315537897600<=b
instance (r:Rl) (tw H8 b c:Int):Decidable (a0B r tw H8 b c):=inferInstanceAs (Decidable (_∨_))
def a3c(s:Tm)(r:Rl)(day first tw H8 i0:Int):Nat->Int->Int->List Int×Bool
 |0,k,c=>if a0B r tw H8 (C2 r (i0+k*r.Interval)) c then([],false)else([],true)
 |n+1,k,c=>if a0B r tw H8 (C2 r (i0+k*r.Interval)) c then([],false)else
  ((a3A r first tw H8 c (B6 s r day (i0+k*r.Interval))).1++(a3c s r day first tw H8 i0 n (k+1) (a3A r first tw H8 c (B6 s r day (i0+k*r.Interval))).2).1,
   (a3c s r day first tw H8 i0 n (k+1) (a3A r first tw H8 c (B6 s r day (i0+k*r.Interval))).2).2)
def P9(r:Rl):Int:=if 0<(r.e9.length:Int)then b8 (ix r.e9 0)else 315537897600
def L9(s:Tm)(r:Rl)(fr:Int):Int:=if r.Count=0/\b8 s<fr then max 0 ((l8 r (min fr 315537897599)-l8 r (b8 s)).tdiv r.Interval-1)else 0
def I5(s:Tm)(r:Rl)(day fr tw:Int):List Int×Bool:=
 ((if b8 s<tw then [b8 s]else [])++(a3c s r day (b8 s) tw (P9 r) (l8 r (b8 s)) (40000-L9 s r fr).toNat (L9 s r fr) 1).1,
  (a3c s r day (b8 s) tw (P9 r) (l8 r (b8 s)) (40000-L9 s r fr).toNat (L9 s r fr) 1).2)
section
variable{res:List Int->Int->Bool}{g:List Int×Bool}{y L:List Int}{s:Tm}{r:Rl}{day first tw H8 i0 k c t:Int}
structure a4f(res:List Int->Int->Bool)(g:List Int×Bool)(s:Tm)(r:Rl)(day first tw H8 i0 k c:Int)(y:List Int):Prop where
 a:a3Z res g y (a3c s r day first tw H8 i0 (40000-k).toNat k c).1 (a3c s r day first tw H8 i0 (40000-k).toNat k c).2
structure a4l(res:List Int->Int->Bool)(g:List Int×Bool)(s:Tm)(r:Rl)(day first tw H8 i0 k c:Int)(L y:List Int):Prop where
 a:a3Z res g y ((a3A r first tw H8 c L).1++(a3c s r day first tw H8 i0 (40000-(k+1)).toNat (k+1) (a3A r first tw H8 c L).2).1) (a3c s r day first tw H8 i0 (40000-(k+1)).toNat (k+1) (a3A r first tw H8 c L).2).2
def a4f.fin(h:a4f res g s r day first tw H8 i0 k c y)(he:a0B r tw H8 (C2 r (i0+k*r.Interval)) c):g=(y,false):=by have a:=h.a;generalize (40000-k).toNat=n at a;cases n <;> (unfold a3c at a;rw[if_pos he]at a;exact a.fin)
def a4f.many(h:a4f res g s r day first tw H8 i0 k c y)(he:¬a0B r tw H8 (C2 r (i0+k*r.Interval)) c)(hk:40000<=k):g=(y,true):=by have a:=h.a;rw[show(40000-k).toNat=0 by omega]at a;unfold a3c at a;rw[if_neg he]at a;exact a.fin
def a4f.enter(h:a4f res g s r day first tw H8 i0 k c y)(he:¬a0B r tw H8 (C2 r (i0+k*r.Interval)) c)(hk:¬40000<=k):a4l res g s r day first tw H8 i0 k c (B6 s r day (i0+k*r.Interval)) y:=by have a:=h.a;rw[show(40000-k).toNat=(40000-(k+1)).toNat+1 by omega]at a;unfold a3c at a;rw[if_neg he]at a;exact⟨a⟩
def a4l.nil(h:a4l res g s r day first tw H8 i0 k c [] y):a4f res g s r day first tw H8 i0 (k+1) c y:=⟨h.a⟩
def a4l.skip(h:a4l res g s r day first tw H8 i0 k c (t::L) y)(ht:t<=first):a4l res g s r day first tw H8 i0 k c L y:=by have a:=h.a;unfold a3A at a;rw[if_pos ht]at a;exact⟨a⟩
def a4l.leave(h:a4l res g s r day first tw H8 i0 k c (t::L) y)(ht:¬t<=first)(hb:(tw<=t∨H8<t)∨(0<r.Count/\r.Count<=c)):a4f res g s r day first tw H8 i0 (k+1) c y:=by have a:=h.a;unfold a3A at a;rw[if_neg ht,if_pos hb]at a;exact⟨a⟩
def a4l.one(h:a4l res g s r day first tw H8 i0 k c (t::L) y)(ht:¬t<=first)(hb:¬((tw<=t∨H8<t)∨(0<r.Count/\r.Count<=c))) :
  (res y t=true->a4l res g s r day first tw H8 i0 k (c+1) L (y++[t]))/\(¬res y t=true->g=(y++[t],false)):=by
 have a:=h.a;unfold a3A at a;rw[if_neg ht,if_neg hb]at a;exact⟨fun hr=>⟨a3Z.go a hr⟩,fun hr=>a3Z.stop a hr⟩
end
def b7B{r:Rl}{l:List Int}:(X2 r l).length<=l.length:=by
 unfold X2;split
 . exact d5m _
 . exact a8W l 0
def b21{s:Tm}{r:Rl}{day fr tw:Int}(hF:A3 s r):∀(k:Nat)(n:Int),(a5S s r day fr tw k n).length<=k*216000
 |0,_=>d6B _
 |k+1,n=>by have h1:=b21 (day:=day) (fr:=fr) (tw:=tw) hF k (n+1);have h2:=b2V (day:=day) (fr:=fr) (tw:=tw) (n:=n) hF;unfold a5S;rw[d4Y,d6k,d8c];omega
def a2P{s:Tm}{r:Rl}{day i:Int}(hF:A3 s r)(h0:0<=i):((B6 s r day i).length:Int)<=1000000000000:=by
 have h1:=b7B (r:=r) (l:=b0s s r day (C2 r i) (C2 r (i+1)));have h2:=b21 (day:=day) (fr:=C2 r i) (tw:=C2 r (i+1)) hF ((C2 r (i+1)+86399) / 86400-C2 r i / 86400).toNat (C2 r i / 86400+1);obtain⟨a0,a1⟩:=Y6 (r:=r) h0;obtain⟨b0,b1⟩:=Y6 (r:=r) (i:=i+1) (by omega);unfold B6;unfold b0s at h1 ⊢;have h3:((C2 r (i+1)+86399) / 86400-C2 r i / 86400).toNat<=3652060:=by omega
 have h4:=d5s 216000 h3;omega
def etD(d:Dy):Dy:=Dy.mk d.Year d.Month d.Date
def j7(s:Tm):Tm:=Tm.mk (Dy.mk s.Day.Year s.Day.Month s.Day.Date) s.Hour s.Min s.D8 (decide (s.o7=true)) (decide (s.UTC=true))
def M1(r:Rl):Rl:=Rl.mk r.l6 r.Interval r.Count r.e9 r.Month r.q7 r.l9 r.j9 r.w9 r.Hour r.Minute r.Second r.y6 r.v8
def B5(d:Dy):etD d=d:=rfl
def y8(s:Tm):j7 s=s:=by unfold j7;simp only[d4Z]
def A9(r:Rl):M1 r=r:=rfl
def a4y{r:Rl}{t:Int}(t0:0<=t)(t1:t<315537897600)(w0:0<=r.v8)(w1:r.v8<=6):0<=l8 r t/\l8 r t<=315537897600:=by
 obtain⟨a,b,c⟩:=c2F (r:=r) t0 t1 w0 w1;unfold l8;split
 . rename_i h;have:=c h;omega
 . omega
def d2h:o6:=.w 205 [] (.no 5)
def a7L(b:Bool):o6:=bif b then d2h else .nil
def a8C(r:Rl):List Int->Int->Bool:=fun y _=>decide ((y.length:Int)+1<r.Count)
def c2Y(r:Rl)(g:List Int×Bool):Bool:=if r.Count<=(g.1.length:Int)∨g.2=true then g.2 else true
def a0m(s:Tm)(r:Rl)(day tw:Int):Bool:=
 if tw<=C2 r (l8 r (b8 s)+40000*r.Interval)∨315537897600<=C2 r (l8 r (b8 s)+40000*r.Interval)then false
 else if 0<(r.e9.length:Int)/\b8 (ix r.e9 0)<C2 r (l8 r (b8 s)+40000*r.Interval)then false
 else if 0<r.Count then c2Y r (a0D (a8C r) [] (I5 s r day 0 (C2 r (l8 r (b8 s)+40000*r.Interval))).1 (I5 s r day 0 (C2 r (l8 r (b8 s)+40000*r.Interval))).2)
 else true
def a6q{r:Rl}{g:List Int×Bool}{fb e:Bool}{y:List Int}{n:Int}(h:c2Y r g=fb)(hg:g=(y,e))(hn:(y.length:Int)=n):(r.Count<=n->fb=e)/\(e=true->fb=true)/\(¬r.Count<=n->e=false->fb=true):=by subst hg;unfold c2Y at h;rw[hn]at h;refine⟨fun h1=>by rw[if_pos (.inl h1)]at h;exact h.symm,fun h1=>by rw[if_pos (.inr h1)]at h;exact h.symm.trans h1,fun h1 h2=>?_⟩;rw[if_neg (fun hh=>hh.elim h1 fun hh=>by rw[h2]at hh;cases hh)]at h;exact h.symm
def b2X{s a:Tm}{y:List Int}{t:Int}:frA s a (y++[t])=if b8 a<=t then frA s a y++[L4 t s]else frA s a y:=by
 rw[a6a];show frA s a y++(if b8 a<=t then [L4 t s]else [])=_
 split
 . rfl
 . exact d5C _
def b6p{s a:Tm}{y:List Int}{t:Int}(h:b8 a<=t):frA s a (y++[t])=frA s a y++[L4 t s]:=by rw[b2X,if_pos h]
def c1n{s a:Tm}{y:List Int}{t:Int}(h:¬b8 a<=t):frA s a (y++[t])=frA s a y:=by rw[b2X,if_neg h]
def a57(s a:Tm):List Int->Int->Bool:=fun y t=>decide (((frA s a (y++[t])).length:Int)<=1000)
def b4A(s:Tm)(r:Rl)(a b:Tm):List Int×Bool:=a0D (a57 s a) [] (I5 s r (u9 s.Day) (b8 a) (b8 b)).1 (I5 s r (u9 s.Day) (b8 a) (b8 b)).2
def b2j(s a:Tm)(g:List Int×Bool):List Tm×o6:=if g.2=true then([],.no 5)else if 1000<((frA s a g.1).length:Int)then([],.no 16)else(frA s a g.1,.nil)
open Classical in
def J9(s:Tm)(r:Rl)(a b:Tm):List Tm×o6:=if b8g s r a b then([],.no 2)else if a0m s r (u9 s.Day) (b8 b)=true then([],.no 5)else b2j s a (b4A s r a b)
def a6b:(o6.w 205 [] (.no 5)).is 5:=by decide
def a5h:P3 (.w 205 [] (.no 5))=.no 5:=by unfold P3;rw[if_pos a6b]
def a9O{s a:Tm}{g:List Int×Bool}{px:List Tm×o6}{y:List Int}{e:Bool}(h:b2j s a g=px)(hg:g=(y,e)):(e=true->px=([],.no 5))/\(e=false->(1000<((frA s a y).length:Int)->px=([],.no 16))/\(¬1000<((frA s a y).length:Int)->px=(frA s a y,.nil))):=by
 subst hg;unfold b2j at h;refine⟨fun he=>by rw[if_pos he]at h;exact h.symm,fun he=>⟨fun hl=>?_,fun hl=>?_⟩⟩
 . subst he;rw[if_neg d5R,if_pos hl]at h;exact h.symm
 . subst he;rw[if_neg d5R,if_neg hl]at h;exact h.symm
def b3r{d n:Int}:-(d.natAbs:Int)<=d.tdiv n/\d.tdiv n<=d.natAbs:=by
 have h2:(d.tdiv n).natAbs<=d.natAbs:=by rw[Int.natAbs_tdiv];exact Nat.div_le_self _ _
 omega
def c53{s:Tm}{r:Rl}{fr:Int}(hn:1<=r.Interval)(hd:∀x,0<=x->x<315537897600->0<=l8 r x/\l8 r x<=315537897600)(hf:0<=fr)(hs:0<=b8 s/\b8 s<315537897600):0<=L9 s r fr/\0<=L9 s r fr*r.Interval/\L9 s r fr*r.Interval<=315537897600:=by
 unfold L9;split
 . obtain⟨a0,a1⟩:=hd (b8 s) hs.1 hs.2;obtain⟨b0,b1⟩:=hd (min fr 315537897599) (by omega) (by omega);generalize l8 r (min fr 315537897599)=x at *;generalize l8 r (b8 s)=z at *;by_cases hz:(x-z).tdiv r.Interval-1<=0
   . rw[Int.max_eq_left hz];simp
   . rw[Int.max_eq_right (by omega)];have hpos:0<=x-z:=by
      rcases d7P (x-z) 0 with h|h
      . exfalso;have h2:(x-z).tdiv r.Interval<=0:=by
         have e:(x-z).tdiv r.Interval=-((z-x).tdiv r.Interval):=by rw[<- Int.neg_tdiv];congr 1;omega
         have:0<=(z-x).tdiv r.Interval:=Int.tdiv_nonneg (by omega) (by omega);omega
        omega
      . exact h
     rw[d5b hpos]at *;have h3:=d8X (x-z) (show r.Interval≠0 by omega);have h4:((x-z) / r.Interval-1)*r.Interval=(x-z) / r.Interval*r.Interval-r.Interval:=by rw[d8Z,Int.one_mul]
     have h5:0<=((x-z) / r.Interval-1)*r.Interval:=d6o (by omega) (by omega);omega
 . simp
def dyS(y m d:Int):Tm:=⟨⟨y,m,d⟩,0,0,0,true,false⟩
instance (r:Rl):Decidable (b5O r):=by unfold b5O;infer_instance
instance (r:Rl):Decidable (b2l r):=by unfold b2l;infer_instance
instance (r:Rl):Decidable (b8Q r):=by unfold b8Q;infer_instance
instance (m:Int) (d:Nt):Decidable (c0R m d):=by unfold c0R;infer_instance
instance (a b:Nt):Decidable (a5s a b):=by unfold a5s;infer_instance
def W0{lo hi:Int}{b:Bool}:Z7 [] lo hi b:=⟨fun i h0 h1=>absurd h1 (by simp;omega),fun i h0 h1=>absurd h1 (by simp;omega),by decide⟩
def b7a{f i c:Int}{u:List Tm}{d:List Nt}{w:Int}:b4G (Rl.mk f i c u [] [] [] [] d [] [] [] [] w):=⟨W0,W0,W0,W0,W0,W0,W0,W0⟩
def c2l{s a b:Tm}{r:Rl}{l:List Tm}(hF:A3 s r)(ha:p9 a=true)(hb:p9 b=true)(hf:a0m s r (u9 s.Day) (b8 b)=false)(hg:b2j s a (b4A s r a b)=(l,.nil)):J9 s r a b=(l,.nil):=by unfold J9;rw[if_neg (fun h=>h.elim (fun h=>h.elim (fun h=>h (J7.2 hF)) fun h=>h ha) fun h=>h hb),if_neg (by rw[hf];exact d5R),hg]
abbrev Up(l:List Int):Prop:=l.Pairwise (· < ·)
def d2t{l:List Int}(h:UpL l):Up l:=d5H.2 fun i j hi hj hij=>b1L h j i hij hj
def c6R(n:Nat):Up (a8O n):=by
 unfold a8O;refine List.pairwise_map.2 (List.pairwise_lt_range.imp fun h=>?_);show((_:Nat):Int)<((_:Nat):Int)
 omega
def a6J{l:List Int}{f:Bool}{own all:Int}(h:UpL l):Up (n9 l f own all):=by
 unfold n9;split
 . exact d2t h
 . split
   . exact c6R _
   . exact d6X ..
def a9B{n x:Int}{l:List Int}(h:inB n l)(hx:x∈l):0<=x/\x<=n:=by obtain⟨i,i0,i1,rfl⟩:=L6 hx;exact h i i0 i1
def b0L{fr tw b:Int}:∀{l:List Int},Up l->Up (a3g fr tw b l)
 |[],_=>List.Pairwise.nil
 |s::r,h=>by
  obtain⟨h1,h2⟩:=d5I.1 h;unfold a3g;split
  . refine d5I.2 ⟨fun t ht=>?_,b0L h2⟩;obtain⟨u,hu,e,_⟩:=a29.1 ht;have:=h1 u hu;omega
  . exact b0L h2
def b0B{fr tw b:Int}{ss:List Int}(hs:inB 59 ss)(us:Up ss):∀{l:List Int},Up l->Up (a1n fr tw b ss l)
 |[],_=>List.Pairwise.nil
 |m::r,h=>by
  obtain⟨h1,h2⟩:=d5I.1 h;unfold a1n;split
  . exact b0B hs us h2
  . refine d6O.2 ⟨b0L us,b0B hs us h2,fun t ht u hu=>?_⟩;obtain⟨x,hx,e,_⟩:=a29.1 ht;obtain⟨m2,hm2,y,hy,e2,_⟩:=(a4H hs).1 hu;have:=h1 m2 hm2;have:=a9B hs hx;have:=a9B hs hy;omega
def b0h{fr tw:Int}{ms ss:List Int}(hm:inB 59 ms)(hs:inB 59 ss)(um:Up ms)(us:Up ss):∀{l:List Int},Up l->Up (a1M fr tw ms ss l)
 |[],_=>List.Pairwise.nil
 |m::r,h=>by
  obtain⟨h1,h2⟩:=d5I.1 h;unfold a1M;split
  . exact b0h hm hs um us h2
  . refine d6O.2 ⟨b0B hs us um,b0h hm hs um us h2,fun t ht u hu=>?_⟩;obtain⟨m1,hm1,x,hx,e,_⟩:=(a4H hs).1 ht;obtain⟨k,hk,m2,hm2,y,hy,e2,_⟩:=(a7N hm hs).1 hu;have:=h1 k hk;have:=a9B hs hx;have:=a9B hs hy;have:=a9B hm hm1;have:=a9B hm hm2;omega
def c3I{s:Tm}{r:Rl}{fr tw:Int}(hF:A3 s r):Up (a3x s r fr tw):=by have L:=(s7.1 hF.rr).lists;exact b0h (b4M hF) (b3S hF) (a6J L.mi.up) (a6J L.se.up) (a6J L.ho.up)
def c2A{s:Tm}{r:Rl}{c:Int}(h:c∈R9 s r):0<=c/\c<86400:=b5z 24 (by omega) _ h
def c17(s:Tm)(r:Rl)(day t:Int):Prop:=a3K s r day (t / 86400+1)=true/\t%86400∈R9 s r
def b1X{s:Tm}{r:Rl}{day fr tw n t:Int}(hF:A3 s r):t∈a8y s r day fr tw n↔(c17 s r day t/\t / 86400+1=n)/\fr<=t/\t<tw:=by
 unfold a8y c17;constructor
 . intro h;split at h
   . rename_i hd;obtain⟨c,hc,rfl⟩:=d6A.1 h;obtain⟨h1,h2,h3⟩:=(b31 hF).1 hc;have:=c2A h1;have e1:((n-1)*86400+c) / 86400+1=n:=by omega
     have e2:((n-1)*86400+c)%86400=c:=by omega
     rw[e1,e2];exact⟨⟨⟨hd,h1⟩,rfl⟩,by omega,by omega⟩
   . cases h
 . rintro⟨⟨⟨h1,h2⟩,rfl⟩,h3,h4⟩;rw[if_pos h1];refine d6A.2 ⟨t%86400,(b31 hF).2 ⟨h2,by omega,by omega⟩,by omega⟩
def c39{s:Tm}{r:Rl}{day fr tw n:Int}(hF:A3 s r):Up (a8y s r day fr tw n):=by
 unfold a8y;split
 . exact List.pairwise_map.2 ((c3I hF).imp fun h=>by omega)
 . exact List.Pairwise.nil
def a6G{s:Tm}{r:Rl}{day fr tw t:Int}(hF:A3 s r):∀{k:Nat}{n:Int},t∈a5S s r day fr tw k n↔(c17 s r day t/\n<=t / 86400+1/\t / 86400+1<n+k)/\fr<=t/\t<tw
 |0,n=>by
  unfold a5S;constructor
  . intro h;cases h
  . rintro⟨⟨_,h1,h2⟩,_⟩;omega
 |k+1,n=>by
  unfold a5S;rw[d5t,b1X hF,a6G hF];constructor
  . rintro(⟨⟨a,b⟩,c⟩|⟨⟨a,b⟩,c⟩)
    . exact⟨⟨a,by omega⟩,c⟩
    . exact⟨⟨a,by omega⟩,c⟩
  . rintro⟨⟨a,b⟩,c⟩;by_cases e:t / 86400+1=n
    . exact .inl ⟨⟨a,e⟩,c⟩
    . exact .inr ⟨⟨a,by omega⟩,c⟩
def b70{s:Tm}{r:Rl}{day fr tw:Int}(hF:A3 s r):∀{k:Nat}{n:Int},Up (a5S s r day fr tw k n)
 |0,_=>List.Pairwise.nil
 |k+1,n=>by unfold a5S;refine d6O.2 ⟨c39 hF,b70 hF,fun t ht u hu=>?_⟩;have:=(b1X hF).1 ht;have:=(a6G hF).1 hu;omega
def c11{s:Tm}{r:Rl}{day fr tw t:Int}(hF:A3 s r):t∈b0s s r day fr tw↔c17 s r day t/\fr<=t/\t<tw:=by
 unfold b0s;rw[a6G hF];constructor
 . rintro⟨⟨a,_⟩,b⟩;exact⟨a,b⟩
 . rintro⟨a,b⟩;exact⟨⟨a,by omega⟩,b⟩
def c3W{s:Tm}{r:Rl}{day fr tw:Int}(hF:A3 s r):Up (b0s s r day fr tw):=b70 hF
def a56{sp:List Int}{n:Int}:∀{l:List Int}{i:Int},(X6 sp n i l).Sublist l
 |[],_=>List.Sublist.slnil
 |t::l,i=>by
  rw[a1e];split
  . exact List.Sublist.cons_cons _ a56
  . exact List.Sublist.cons _ a56
def b1R{r:Rl}{l:List Int}:(X2 r l).Sublist l:=by
 unfold X2;split
 . exact List.Sublist.refl _
 . exact a56
def b0N{s:Tm}{r:Rl}{day i:Int}(hF:A3 s r):Up (B6 s r day i):=(c3W hF).sublist b1R
def U4{s:Tm}{r:Rl}{day i t:Int}(hF:A3 s r)(h:t∈B6 s r day i):c17 s r day t/\C2 r i<=t/\t<C2 r (i+1):=(c11 hF).1 (b1R.subset h)
structure LoP(r:Rl)(i:Int):Prop where
 a:0<=i
 y:r.l6=0->1<=i
 m:r.l6=1->12<=i
 d:r.l6=3->1<=i
def LoP.up{r:Rl}{i j:Int}(h:LoP r i)(hj:i<=j):LoP r j:=by obtain⟨a,b,c,d⟩:=h;exact⟨by omega,fun e=>by have:=b e;omega,fun e=>by have:=c e;omega,fun e=>by have:=d e;omega⟩
def a2g{y m:Int}(y0:1<=y)(y1:y<=9999)(m0:1<=m)(m1:m<=12):G8 ⟨y,m,1⟩:=by have:=b0w y0 y1 m0 m1;exact⟨d5o 1,by show(1:Int)<=E1 y m;omega⟩
def b1m{d:Dy}{y m:Int}(h:G8 d)(y0:1<=y)(y1:y<=9999)(m0:1<=m)(m1:m<=12):M3 ⟨y,m,1⟩<=M3 d↔12*y+m<=12*d.Year+d.Month:=by
 have hr:=a2g y0 y1 m0 m1;obtain⟨a0,a1⟩:=a3H h;obtain⟨b0,b1⟩:=a3H hr;obtain⟨c0,c1,c2,c3,c4,c5⟩:=h.ym;have h2:=h.2;have b0:v7 y<M3 ⟨y,m,1⟩:=b0;have b1:M3 ⟨y,m,1⟩<=v7 (y+1):=b1;have e1:M3 ⟨y,m,1⟩=v7 y+T7 y m+1:=rfl;have e2:M3 d=v7 d.Year+T7 d.Year d.Month+d.Date:=rfl;rcases d7d y d.Year with hl|hl|hl
 . have:=E9 (show y+1<=d.Year by omega);constructor <;> intro <;> omega
 . subst hl;rcases d7d m d.Month with hm|hm|hm
   . have:=a3X y0 y1 m0 c3 hm;have:=b0w y0 y1 m0 m1;constructor <;> intro <;> omega
   . subst hm;constructor <;> intro <;> omega
   . have:=a3X y0 y1 c2 m1 hm;constructor <;> intro <;> omega
 . have:=E9 (show d.Year+1<=y by omega);constructor <;> intro <;> omega
def b15{n t:Int}(h0:1<=n)(t1:t<315537897600):nbP n<=t↔n<=t / 86400+1:=by unfold nbP;split <;> omega
def a2A{r:Rl}{i t:Int}(hi:LoP r i)(t0:0<=t)(t1:t<315537897600):C2 r i<=t↔i<=l8 r t:=by
 obtain⟨hd,hn⟩:=of_ok (n:=t / 86400+1) (by omega) (by omega);obtain⟨c0,c1,c2,c3,_⟩:=hd.ym;have a:=hi.a;unfold C2 l8 a1K;generalize A7 (t / 86400+1)=D at *;by_cases f0:r.l6=0
 . have b:=hi.y f0;rw[if_pos f0,if_pos f0,if_neg (by omega)];by_cases hy:i<=9999
   . have hr:=a2g b hy (by decide:(1:Int)<=1) (by decide);have e:u9 ⟨i,1,1⟩=M3 ⟨i,1,1⟩:=by unfold u9;rw[if_pos hr]
     rw[e,b15 (a03 hr).1 t1,<- hn,b1m hd b hy (by decide) (by decide)];constructor <;> intro <;> omega
   . have e:u9 ⟨i,1,1⟩=0:=by
       unfold u9;rw[if_neg fun h=>?_];have:i<=9999:=h.ym.2.1;omega
     rw[e];unfold nbP;rw[if_pos (.inl rfl)];constructor <;> intro <;> omega
 rw[if_neg f0,if_neg f0];by_cases f1:r.l6=1
 . have b:=hi.m f1;rw[if_pos f1,if_pos f1,if_pos f1];by_cases hy:i / 12<=9999
   . have hr:=a2g (y:=i / 12) (m:=i%12+1) (by omega) hy (by omega) (by omega);have e:u9 ⟨i / 12,i%12+1,1⟩=M3 ⟨i / 12,i%12+1,1⟩:=by unfold u9;rw[if_pos hr]
     rw[e,b15 (a03 hr).1 t1,<- hn,b1m hd (by omega) hy (by omega) (by omega)];constructor <;> intro <;> omega
   . have e:u9 ⟨i / 12,i%12+1,1⟩=0:=by
       unfold u9;rw[if_neg fun h=>?_];have:i / 12<=9999:=h.ym.2.1;omega
     rw[e];unfold nbP;rw[if_pos (.inl rfl)];constructor <;> intro <;> omega
 rw[if_neg f1,if_neg f1,if_neg f1];by_cases f2:r.l6=2
 . rw[if_pos f2,if_pos f2,b15 (by omega) t1];constructor <;> intro <;> omega
 rw[if_neg f2,if_neg f2];by_cases f3:r.l6=3
 . have b:=hi.d f3;rw[if_pos f3,if_pos f3,b15 b t1];constructor <;> intro <;> omega
 rw[if_neg f3,if_neg f3];by_cases f4:r.l6=4
 . rw[if_pos f4,if_pos f4];constructor <;> intro <;> omega
 rw[if_neg f4,if_neg f4];by_cases f5:r.l6=5
 . rw[if_pos f5,if_pos f5];constructor <;> intro <;> omega
 rw[if_neg f5,if_neg f5];constructor <;> intro <;> omega
def R1{r:Rl}{i j:Int}(hi:LoP r i)(hj:i<=j):C2 r i<=C2 r j:=by
 obtain⟨a0,a1⟩:=Y6 (r:=r) hi.a;obtain⟨b0,b1⟩:=Y6 (r:=r) (i:=j) (by have:=hi.a;omega);by_cases h:C2 r j<315537897600
 . exact(a2A hi b0 h).2 (Int.le_trans hj ((a2A (hi.up hj) b0 h).1 (d5o _)))
 . omega
def R6{r:Rl}{t:Int}(t0:0<=t)(t1:t<315537897600)(w0:0<=r.v8)(w1:r.v8<=6):LoP r (l8 r t):=by
 obtain⟨hd,hn⟩:=of_ok (n:=t / 86400+1) (by omega) (by omega);obtain⟨c0,c1,c2,c3,_⟩:=hd.ym;refine⟨(a4y t0 t1 w0 w1).1,fun f=>?_,fun f=>?_,fun f=>?_⟩
 . unfold l8 a1K;rw[if_pos f,if_neg (by omega)];omega
 . unfold l8 a1K;rw[if_neg (by omega),if_pos f,if_pos f];omega
 . unfold l8 a1K;rw[if_neg (by omega),if_neg (by omega),if_neg (by omega),if_pos f,if_neg (by omega)];omega
def a0R{r:Rl}{t u:Int}(t0:0<=t)(h:t<=u)(u1:u<315537897600)(w0:0<=r.v8)(w1:r.v8<=6):l8 r t<=l8 r u:=by have hl:=R6 (r:=r) (t:=t) t0 (by omega) w0 w1;have:=(a2A hl t0 (by omega)).2 (d5o _);exact(a2A hl (by omega) u1).1 (by omega)
def a1l(s:Tm)(r:Rl)(day i0:Int):Nat->Int->List Int
 |0,_=>[]
 |n+1,k=>B6 s r day (i0+k*r.Interval)++a1l s r day i0 n (k+1)
def S5(r:Rl)(c:Int)(l:List Int):List Int:=if 0<r.Count then l.take (r.Count-c).toNat else l
def PT(first tw H8 t:Int):Bool:=decide (first<t/\t<tw/\t<=H8)
def T9{first tw H8 t:Int}:PT first tw H8 t=true↔first<t/\t<tw/\t<=H8:=d5M
def a6k{r:Rl}{c:Int}:S5 r c []=[]:=by unfold S5;split <;> simp
def c5b{r:Rl}{c:Int}{l:List Int}(h:0<r.Count)(h1:r.Count<=c):S5 r c l=[]:=by unfold S5;rw[if_pos h,show(r.Count-c).toNat=0 by omega,List.take_zero]
def b9c{r:Rl}{c:Int}{l:List Int}(h:¬0<r.Count):S5 r c l=l:=if_neg h
def c0V{r:Rl}{c t:Int}{l:List Int}(h:¬(0<r.Count/\r.Count<=c)):S5 r c (t::l)=t::S5 r (c+1) l:=by
 unfold S5;by_cases hc:0<r.Count
 . rw[if_pos hc,if_pos hc,show(r.Count-c).toNat=(r.Count-(c+1)).toNat+1 by omega,d8s]
 . rw[if_neg hc,if_neg hc]
def c4t{r:Rl}{c:Int}{A B:List Int}:S5 r c (A++B)=S5 r c A++S5 r (c+(S5 r c A).length) B:=by
 unfold S5;by_cases hc:0<r.Count
 . rw[if_pos hc,if_pos hc,if_pos hc,List.take_append,d5n];congr 2;omega
 . rw[if_neg hc,if_neg hc,if_neg hc]
def filter_nil{p:Int->Bool}{l:List Int}(h:∀t∈l,¬p t=true):l.filter p=[]:=List.filter_eq_nil_iff.2 h
def b0C{r:Rl}{first tw H8:Int}:∀{L:List Int}{c:Int},Up L ->
  a3A r first tw H8 c L=(S5 r c (L.filter (PT first tw H8)),c+(S5 r c (L.filter (PT first tw H8))).length)
 |[],c,_=>by rw[d8Y,a6k];unfold a3A;simp
 |t::L,c,h=>by
  obtain⟨h1,h2⟩:=d5I.1 h;unfold a3A;by_cases hf:t<=first
  . rw[if_pos hf,d7f (by rw[T9];omega)];exact b0C h2
  rw[if_neg hf];by_cases hb:(tw<=t∨H8<t)∨(0<r.Count/\r.Count<=c)
  . have e:S5 r c ((t::L).filter (PT first tw H8))=[]:=by
      rcases hb with hb|hb
      . rw[filter_nil,a6k];intro u hu;have:t<=u:=by
         rcases d5k.1 hu with rfl|hu
         . exact d5o _
         . exact Int.le_of_lt (h1 u hu)
        rw[T9];omega
      . exact c5b hb.1 hb.2
    rw[if_pos hb,e];simp
  . rw[if_neg hb,d6Y (T9.2 (by omega)),c0V (fun hh=>hb (.inr hh)),b0C h2,d5h];refine d7R rfl ?_;show c+1+_=_
    rw[Int.natCast_add];omega
section
variable{s:Tm}{r:Rl}{day first tw H8 i0 k c t:Int}{n:Nat}
def K5(hF:A3 s r):1<=r.Interval:=(s7.1 hF.rr).head.2.2.1
def wk_ok(hF:A3 s r):0<=r.v8/\r.v8<=6:=(s7.1 hF.rr).head.2.2.2.2.2.2
def a0A{a b I:Int}(hI:1<=I)(h:a<=b):a*I<=b*I:=d8m h (by omega)
def mul_succ{a I:Int}:(a+1)*I=a*I+I:=by rw[Int.add_mul,Int.one_mul]
def LoP.at(hl:LoP r (i0+k*r.Interval))(hI:1<=r.Interval){j:Int}(hj:k<=j):LoP r (i0+j*r.Interval):=by have:=a0A hI hj;exact hl.up (by omega)
def a0O:∀{n:Nat}{k:Int},t∈a1l s r day i0 n k↔∃j:Int,k<=j/\j<k+n/\t∈B6 s r day (i0+j*r.Interval)
 |0,k=>by
  unfold a1l;constructor
  . intro h;cases h
  . rintro⟨j,h1,h2,_⟩;omega
 |n+1,k=>by
  unfold a1l;rw[d5t,a0O];constructor
  . rintro(h|⟨j,h1,h2,h3⟩)
    . exact⟨k,by omega,by omega,h⟩
    . exact⟨j,by omega,by omega,h3⟩
  . rintro⟨j,h1,h2,h3⟩;by_cases e:j=k
    . subst e;exact .inl h3
    . exact .inr ⟨j,by omega,by omega,h3⟩
def a1W(hF:A3 s r){i:Int}(hl:LoP r i)(h:t∈B6 s r day i):t<315537897600:=by have:=(U4 hF h).2.2;have:=(Y6 (r:=r) (i:=i+1) (by have:=hl.a;omega)).2;omega
def a6m(hF:A3 s r)(hl:LoP r (i0+k*r.Interval))(h:t∈a1l s r day i0 n k):C2 r (i0+k*r.Interval)<=t/\t<C2 r (i0+(k+n)*r.Interval)/\t<315537897600:=by obtain⟨j,h1,h2,h3⟩:=a0O.1 h;have hI:=K5 hF;have a:=a0A hI h1;have b:=a0A hI (show j+1<=k+n by omega);rw[mul_succ]at b;have hj:=hl.at hI h1;have c:=U4 hF h3;have d:=R1 hl (show i0+k*r.Interval<=i0+j*r.Interval by omega);have e:=R1 (hj.up (j:=i0+j*r.Interval+1) (by omega)) (show i0+j*r.Interval+1<=i0+(k+n)*r.Interval by omega);have f:=a1W hF hj h3;exact⟨by omega,by omega,f⟩
def b5x(hF:A3 s r):∀{n:Nat}{k:Int},LoP r (i0+k*r.Interval)->Up (a1l s r day i0 n k)
 |0,_,_=>List.Pairwise.nil
 |n+1,k,hl=>by have hI:=K5 hF;have h2:LoP r (i0+(k+1)*r.Interval):=hl.at hI (by omega);unfold a1l;refine d6O.2 ⟨b0N hF,b5x hF h2,fun t ht u hu=>?_⟩;have a:=U4 hF ht;have b:=a6m hF h2 hu;have c:=R1 (hl.up (j:=i0+k*r.Interval+1) (by omega)) (show i0+k*r.Interval+1<=i0+(k+1)*r.Interval by rw[mul_succ];omega);omega
def a0B.up{b b' c':Int}(h:a0B r tw H8 b c)(hb:b<=b')(hc:c<=c'):a0B r tw H8 b' c':=by unfold a0B at h ⊢;omega
def b6x(hF:A3 s r):∀{n:Nat}{k c:Int},LoP r (i0+k*r.Interval) ->
  (a3c s r day first tw H8 i0 n k c).1=S5 r c ((a1l s r day i0 n k).filter (PT first tw H8)) /\
  ((a3c s r day first tw H8 i0 n k c).2=true↔¬a0B r tw H8 (C2 r (i0+(k+n)*r.Interval)) (c+(S5 r c ((a1l s r day i0 n k).filter (PT first tw H8))).length))
 |0,k,c,hl=>by
  have e:a1l s r day i0 0 k=[]:=rfl;rw[e,d8Y,a6k,show k+((0:Nat):Int)=k by omega,show c+(([]:List Int).length:Int)=c by simp];unfold a3c;by_cases he:a0B r tw H8 (C2 r (i0+k*r.Interval)) c
  . rw[if_pos he];exact⟨rfl,fun h=>absurd h d5R,fun h=>absurd he h⟩
  . rw[if_neg he];exact⟨rfl,fun _=>he,fun _=>rfl⟩
 |n+1,k,c,hl=>by
  have hI:=K5 hF;have h2:LoP r (i0+(k+1)*r.Interval):=hl.at hI (by omega);by_cases he:a0B r tw H8 (C2 r (i0+k*r.Interval)) c
  . have e:S5 r c ((a1l s r day i0 (n+1) k).filter (PT first tw H8))=[]:=by
      by_cases hc:0<r.Count/\r.Count<=c
      . exact c5b hc.1 hc.2
      . rw[filter_nil,a6k];intro u hu;have g:=a6m hF hl hu;unfold a0B at he;rw[T9];omega
    have a:=a0A hI (show k<=k+((n+1:Nat):Int) by omega);have m:=R1 hl (show i0+k*r.Interval<=i0+(k+((n+1:Nat):Int))*r.Interval by omega);rw[e];unfold a3c;rw[if_pos he];exact⟨rfl,fun h=>absurd h d5R,fun h=>absurd (he.up m (by show c<=c+((0:Nat):Int);omega)) h⟩
  . have ic:=b0C (r:=r) (first:=first) (tw:=tw) (H8:=H8) (c:=c) (b0N (day:=day) (i:=i0+k*r.Interval) hF);have ih:=b6x hF (n:=n) (k:=k+1) (c:=c+(S5 r c ((B6 s r day (i0+k*r.Interval)).filter (PT first tw H8))).length) h2;have ep:a1l s r day i0 (n+1) k=B6 s r day (i0+k*r.Interval)++a1l s r day i0 n (k+1):=rfl;unfold a3c;rw[if_neg he,ic,ep,d7x,c4t,d4Y];dsimp only;rw[ih.1];refine⟨rfl,ih.2.trans ?_⟩;have hn:∀a b:Nat,c+((a+b:Nat):Int)=c+a+b:=fun a b=>by omega
    rw[show k+1+(n:Int)=k+((n+1:Nat):Int) by omega,hn]
def X8{fr:Int}(hF:A3 s r)(h0:0<=L9 s r fr) :
  (I5 s r day fr tw).1=(if b8 s<tw then [b8 s]else [])++S5 r 1 ((a1l s r day (l8 r (b8 s)) (40000-L9 s r fr).toNat (L9 s r fr)).filter (PT (b8 s) tw (P9 r))) /\
  ((I5 s r day fr tw).2=true↔¬a0B r tw (P9 r) (C2 r (l8 r (b8 s)+(L9 s r fr+(40000-L9 s r fr).toNat)*r.Interval)) (1+(S5 r 1 ((a1l s r day (l8 r (b8 s)) (40000-L9 s r fr).toNat (L9 s r fr)).filter (PT (b8 s) tw (P9 r)))).length)):=by
 obtain⟨a,b⟩:=y7 hF.rt;have hw:=wk_ok hF;have hl:=R6 (r:=r) a b hw.1 hw.2;have hl:LoP r (l8 r (b8 s)+L9 s r fr*r.Interval):=hl.up (by have:=d6o h0 (show 0<=r.Interval by have:=K5 hF;omega);omega);obtain⟨h1,h2⟩:=b6x (day:=day) (first:=b8 s) (tw:=tw) (H8:=P9 r) hF (n:=(40000-L9 s r fr).toNat) (c:=1) hl;unfold I5;exact⟨by rw[h1],h2⟩
end
def b9B:∀{l m:List Int},Up l->Up m->(∀t,t∈l↔t∈m)->l=m
 |[],[],_,_,_=>rfl
 |[],y::m,_,_,h=>absurd ((h y).2 (d5P ..)) (by simp)
 |x::l,[],_,_,h=>absurd ((h x).1 (d5P ..)) (by simp)
 |x::l,y::m,hl,hm,h=>by
  obtain⟨a1,a2⟩:=d5I.1 hl;obtain⟨b1,b2⟩:=d5I.1 hm;have e:x=y:=by
   rcases d5k.1 ((h x).1 (d5P ..))with e|e
   . exact e
   . rcases d5k.1 ((h y).2 (d5P ..))with e2|e2
     . exact e2.symm
     . have:=b1 x e;have:=a1 y e2;omega
  subst e;rw[b9B a2 b2 fun t=>⟨fun ht=>?_,fun ht=>?_⟩]
  . rcases d5k.1 ((h t).1 (d5v _ ht))with e|e
    . subst e;have:=a1 t ht;omega
    . exact e
  . rcases d5k.1 ((h t).2 (d5v _ ht))with e|e
    . subst e;have:=b1 t ht;omega
    . exact e
def geB(x t:Int):Bool:=decide (x<=t)
def ltB(x t:Int):Bool:=decide (t<x)
def a2j{x t:Int}:geB x t=true↔x<=t:=d5M
def lt_iff{x t:Int}:ltB x t=true↔t<x:=d5M
def a6n{s a:Tm}:∀{l:List Int},frA s a l=(l.filter (geB (b8 a))).map (fun t=>L4 t s)
 |[]=>rfl
 |t::l=>by
  show(if b8 a<=t then L4 t s::frA s a l else frA s a l)=_
  by_cases h:b8 a<=t
  . rw[if_pos h,d6Y (a2j.2 h),a6n];rfl
  . rw[if_neg h,d7f (fun e=>h (a2j.1 e)),a6n]
def b8N{x:Int}:∀{l:List Int},Up l->l=l.filter (ltB x)++l.filter (geB x)
 |[],_=>rfl
 |t::l,h=>by
  obtain⟨a1,a2⟩:=d5I.1 h;by_cases hx:t<x
  . rw[d6Y (lt_iff.2 hx),d7f (fun e=>by have:=a2j.1 e;omega),d6C,<- b8N a2]
  . have e:(t::l).filter (ltB x)=[]:=filter_nil fun u hu e=>by
      have:=lt_iff.1 e;rcases d5k.1 hu with rfl|hu
      . exact hx this
      . have:=a1 u hu;omega
    rw[e,d6a,d7I.2];intro u hu;refine a2j.2 ?_;rcases d5k.1 hu with rfl|hu
    . omega
    . have:=a1 u hu;omega
def b2z{s a:Tm}{l m:List Int}:(frA s a l).length<=(frA s a (l++m)).length:=by rw[a6a,d4Y];omega
def b0f{s a:Tm}:∀{T y:List Int}{e:Bool},((frA s a (y++T)).length:Int)<=1000->a0D (a57 s a) y T e=(y++T,e)
 |[],y,e,_=>by unfold a0D;rw[d5C]
 |t::T,y,e,h=>by
  have e1:y++t::T=(y++[t])++T:=by simp
  rw[e1]at h ⊢;have:=b2z (s:=s) (a:=a) (l:=y++[t]) (m:=T);have hr:a57 s a y t=true:=d5e (by omega);unfold a0D;rw[hr];exact b0f h
def b2u{s a:Tm}:∀{T y:List Int}{e:Bool},((frA s a y).length:Int)<=1000->1000<((frA s a (y++T)).length:Int)->(a0D (a57 s a) y T e).2=false/\1000<((frA s a (a0D (a57 s a) y T e).1).length:Int)
 |[],y,e,h0,h=>by rw[d5C]at h;omega
 |t::T,y,e,h0,h=>by
  have e1:y++t::T=(y++[t])++T:=by simp
  rw[e1]at h;unfold a0D;by_cases hr:((frA s a (y++[t])).length:Int)<=1000
  . rw[show a57 s a y t=true from d5e hr];exact b2u hr h
  . rw[show a57 s a y t=false from d5q hr];exact⟨rfl,by show 1000<((frA s a (y++[t])).length:Int);omega⟩
abbrev a3i(s:Tm)(r:Rl)(a b:Tm):List Int×Bool:=I5 s r (u9 s.Day) (b8 a) (b8 b)
structure b6I(s:Tm)(r:Rl)(a b:Tm):Prop where
 bad:¬b8g s r a b
 far:a0m s r (u9 s.Day) (b8 b)=false
 many:(a3i s r a b).2=false
 few:((frA s a (a3i s r a b).1).length:Int)<=1000
def b46{s a b:Tm}{r:Rl}(h:b6I s r a b):J9 s r a b=(frA s a (a3i s r a b).1,.nil):=by unfold J9 b4A;rw[if_neg h.bad,h.far,if_neg d5R,b0f (T:=(a3i s r a b).1) (y:=[]) (e:=(a3i s r a b).2) h.few];unfold b2j;rw[h.many,if_neg d5R];exact if_neg (show ¬1000<((frA s a (a3i s r a b).1).length:Int) by have:=h.few;omega)
def nr2:(o6.no 2).nr=2:=by decide
def nr5:(o6.no 5).nr=5:=by decide
def d3l:(o6.no 16).nr=16:=by decide
def a9i{s a b:Tm}{r:Rl}:b6I s r a b∨((J9 s r a b).1=[]/\((J9 s r a b).2.nr=2∨(J9 s r a b).2.nr=5∨(J9 s r a b).2.nr=16)):=by
 by_cases h1:b8g s r a b
 . right;unfold J9;rw[if_pos h1];exact⟨rfl,.inl nr2⟩
 cases h2:a0m s r (u9 s.Day) (b8 b)with
 |true=>right;unfold J9;rw[if_neg h1,h2,if_pos rfl];exact⟨rfl,.inr (.inl nr5)⟩
 |false =>
 by_cases h4:((frA s a (a3i s r a b).1).length:Int)<=1000
 . cases h3:(a3i s r a b).2 with
   |true =>
    right;unfold J9 b4A;rw[if_neg h1,h2,if_neg d5R,b0f (T:=(a3i s r a b).1) (y:=[]) (e:=(a3i s r a b).2) h4];unfold b2j;rw[h3,if_pos rfl];exact⟨rfl,.inr (.inl nr5)⟩
   |false=>exact .inl ⟨h1,h2,h3,h4⟩
 . right;obtain⟨q1,q2⟩:=b2u (s:=s) (a:=a) (T:=(a3i s r a b).1) (y:=[]) (e:=(a3i s r a b).2) (show((0:Nat):Int)<=1000 by decide) (by rw[d6a];omega);unfold J9 b4A;rw[if_neg h1,h2,if_neg d5R];unfold b2j;rw[q1,if_neg d5R,if_pos q2];exact⟨rfl,.inr (.inr d3l)⟩
def exp_ok{s a b:Tm}{r:Rl}(h:(J9 s r a b).2.nr=0):b6I s r a b:=by
 rcases a9i (s:=s) (r:=r) (a:=a) (b:=b)with e|⟨_,e⟩
 . exact e
 . omega
def b6g{s a b:Tm}{r:Rl}:((J9 s r a b).1.length:Int)<=1000:=by
 rcases a9i (s:=s) (r:=r) (a:=a) (b:=b)with e|⟨e,_⟩
 . rw[b46 e];exact e.few
 . rw[e];decide
def a9v{s a b:Tm}{r:Rl}(h:¬b8g s r a b):A3 s r/\p9 a=true/\p9 b=true:=
 ⟨J7.1 (d4S.1 fun e=>h (.inl (.inl e))),d4S.1 fun e=>h (.inl (.inr e)),d4S.1 fun e=>h (.inr e)⟩
def b92{s:Tm}{r:Rl}{day m tw:Int}(h:a0m s r day tw=false)(hm:m<=tw):a0m s r day m=false:=by
 unfold a0m at h ⊢;generalize C2 r (l8 r (b8 s)+40000*r.Interval)=b at *;by_cases h1:m<=b∨315537897600<=b
 . rw[if_pos h1]
 . rw[if_neg h1];rw[if_neg (by omega)]at h;exact h
section
variable{s:Tm}{r:Rl}{day first tw H8 i0 k c t m fr:Int}{n:Nat}
def b17{l:List Int}:(S5 r c l).Sublist l:=by
 unfold S5;split
 . exact List.take_sublist ..
 . exact List.Sublist.refl _
def b64{x:Int}:∀{l:List Int}{n:Nat},Up l->(l.take n).filter (ltB x)=(l.filter (ltB x)).take n
 |[],n,_=>by simp
 |t::l,0,_=>by simp
 |t::l,n+1,h=>by
  obtain⟨a1,a2⟩:=d5I.1 h;rw[d8s];by_cases hx:t<x
  . rw[d6Y (lt_iff.2 hx),d6Y (lt_iff.2 hx),d8s,b64 a2]
  . have no:∀u∈l,¬ltB x u=true:=fun u hu e=>by have:=lt_iff.1 e;have:=a1 u hu;omega
    rw[d7f (fun e=>hx (lt_iff.1 e)),d7f (fun e=>hx (lt_iff.1 e)),filter_nil no,filter_nil fun u hu=>no u (d8o hu),List.take_nil]
def c8c{x:Int}{l:List Int}(h:Up l):(S5 r c l).filter (ltB x)=S5 r c (l.filter (ltB x)):=by
 unfold S5;split
 . exact b64 h
 . rfl
def d2I{l:List Int}(h:m<=tw):(l.filter (PT first tw H8)).filter (ltB m)=l.filter (PT first m H8):=by rw[List.filter_filter];refine d8I fun t _=>?_;rw[d6L,d4U,lt_iff,T9,T9];omega
def c9I{first:Int}(h:m<=tw):(if first<tw then [first]else []).filter (ltB m)=if first<m then [first]else []:=by
 by_cases h1:first<m
 . rw[if_pos h1,if_pos (by omega),d6Y (lt_iff.2 h1),d8Y]
 . rw[if_neg h1];refine filter_nil fun t ht e=>?_;have e:=lt_iff.1 e;split at ht
   . cases d5a.1 ht;omega
   . cases ht
def X7(hF:A3 s r)(h0:0<=fr):0<=L9 s r fr/\(L9 s r fr=0∨(r.Count=0/\b8 s<fr/\C2 r (l8 r (b8 s)+L9 s r fr*r.Interval)<=fr)):=by
 obtain⟨a,b⟩:=y7 hF.rt;obtain⟨w0,w1⟩:=wk_ok hF;have hI:=K5 hF;have hz:=c53 (s:=s) (r:=r) (fr:=fr) hI (fun x x0 x1=>a4y x0 x1 w0 w1) h0 ⟨a,b⟩;refine⟨hz.1,?_⟩;by_cases hc:r.Count=0/\b8 s<fr
 . by_cases hk:L9 s r fr=0
   . exact .inl hk
   refine .inr ⟨hc.1,hc.2,?_⟩;have h2:L9 s r fr=max 0 ((l8 r (min fr 315537897599)-l8 r (b8 s)).tdiv r.Interval-1):=if_pos hc;have hm:=a0R (r:=r) (t:=b8 s) (u:=min fr 315537897599) a (by omega) (by omega) w0 w1;rw[d5b (by omega)]at h2;have h3:=d8X (l8 r (min fr 315537897599)-l8 r (b8 s)) (show r.Interval≠0 by omega);have h4:((l8 r (min fr 315537897599)-l8 r (b8 s)) / r.Interval-1)*r.Interval=(l8 r (min fr 315537897599)-l8 r (b8 s)) / r.Interval*r.Interval-r.Interval:=by rw[d8Z,Int.one_mul]
   have h5:L9 s r fr=(l8 r (min fr 315537897599)-l8 r (b8 s)) / r.Interval-1:=by omega
   have hl:LoP r (l8 r (b8 s)+L9 s r fr*r.Interval):=(R6 (r:=r) a b w0 w1).up (by omega);have:=(a2A hl (t:=min fr 315537897599) (by omega) (by omega)).2 (by rw[h5,h4];omega);omega
 . exact .inl (if_neg hc)
def c3Z(hF:A3 s r)(h0:0<=fr)(h:fr<=m):L9 s r fr<=L9 s r m:=by
 obtain⟨a,b⟩:=y7 hF.rt;obtain⟨w0,w1⟩:=wk_ok hF;have hI:=K5 hF;by_cases hc:r.Count=0/\b8 s<fr
 . have h1:L9 s r fr=max 0 ((l8 r (min fr 315537897599)-l8 r (b8 s)).tdiv r.Interval-1):=if_pos hc;have h2:L9 s r m=max 0 ((l8 r (min m 315537897599)-l8 r (b8 s)).tdiv r.Interval-1):=if_pos ⟨hc.1,by omega⟩;have hm:=a0R (r:=r) (t:=b8 s) (u:=min fr 315537897599) a (by omega) (by omega) w0 w1;have hm2:=a0R (r:=r) (t:=min fr 315537897599) (u:=min m 315537897599) (by omega) (by omega) (by omega) w0 w1;rw[d5b (by omega)]at h1 h2;have:=Int.ediv_le_ediv (show 0<r.Interval by omega) (show l8 r (min fr 315537897599)-l8 r (b8 s)<=l8 r (min m 315537897599)-l8 r (b8 s) by omega);omega
 . have h1:L9 s r fr=0:=if_neg hc;have:=(X7 hF (show 0<=m by omega)).1;omega
def a6c(hF:A3 s r){k:Int}(h0:0<=k){n:Nat}:Up (a1l s r day (l8 r (b8 s)) n k):=by obtain⟨a,b⟩:=y7 hF.rt;obtain⟨w0,w1⟩:=wk_ok hF;have hI:=K5 hF;exact b5x hF ((R6 (r:=r) a b w0 w1).up (by have:=d6o h0 (show 0<=r.Interval by omega);omega))
def b11(hF:A3 s r)(h0:0<=fr):Up (I5 s r day fr tw).1:=by
 have hk:=(X7 hF h0).1;rw[(X8 hF hk).1];refine d6O.2 ⟨by split;exact d6X ..;exact List.Pairwise.nil,((a6c hF hk).filter _).sublist b17,fun t ht u hu=>?_⟩;have h2:=T9.1 (d5u.1 (b17.subset hu)).2;split at ht
 . cases d5a.1 ht;omega
 . cases ht
def b9p(hF:A3 s r)(h0:0<=fr)(hm:m<=tw):(I5 s r day fr m).1=(I5 s r day fr tw).1.filter (ltB m)/\((I5 s r day fr tw).2=false->(I5 s r day fr m).2=false):=by
 have hk:=(X7 hF h0).1;obtain⟨a1,a2⟩:=X8 (day:=day) (tw:=m) hF hk;obtain⟨b1,b2⟩:=X8 (day:=day) (tw:=tw) hF hk;obtain⟨a,b⟩:=y7 hF.rt;obtain⟨w0,w1⟩:=wk_ok hF;have hI:=K5 hF;have hl:LoP r (l8 r (b8 s)+L9 s r fr*r.Interval):=(R6 (r:=r) a b w0 w1).up (by have:=d6o hk (show 0<=r.Interval by omega);omega);have hU:=a6c (day:=day) (n:=(40000-L9 s r fr).toNat) hF hk;have hin:=fun t ht=>a6m (t:=t) (day:=day) (n:=(40000-L9 s r fr).toNat) hF hl ht;rw[a1,b1];generalize a1l s r day (l8 r (b8 s)) (40000-L9 s r fr).toNat (L9 s r fr)=A at *;generalize C2 r (l8 r (b8 s)+(L9 s r fr+(40000-L9 s r fr).toNat)*r.Interval)=bb at *;refine⟨by rw[d7x,c9I hm,c8c (hU.filter _),d2I hm],fun h=>?_⟩;rw[<- d5E,b2,d4S]at h;rw[<- d5E,a2,d4S];by_cases hb:m<=bb
 . unfold a0B;omega
 . have e:A.filter (PT (b8 s) m (P9 r))=A.filter (PT (b8 s) tw (P9 r)):=d8I fun t ht=>by
     have:=hin t ht;rw[d6L,T9,T9];omega
   rw[e];unfold a0B at h ⊢;omega
def b9v(hF:A3 s r)(h0:0<=fr)(hm:fr<=m):(I5 s r day m tw).1.filter (geB m)=(I5 s r day fr tw).1.filter (geB m)/\((I5 s r day fr tw).2=false->(I5 s r day m tw).2=false):=by
 have hk:=(X7 hF h0).1;obtain⟨hk2,hk3⟩:=X7 (fr:=m) hF (by omega);have hkm:=c3Z hF h0 hm;obtain⟨a1,a2⟩:=X8 (day:=day) (tw:=tw) hF hk2;obtain⟨b1,b2⟩:=X8 (day:=day) (tw:=tw) hF hk;obtain⟨a,b⟩:=y7 hF.rt;obtain⟨w0,w1⟩:=wk_ok hF;have hI:=K5 hF;have U1:=a6c (day:=day) (n:=(40000-L9 s r fr).toNat) hF hk;have U2:=a6c (day:=day) (n:=(40000-L9 s r m).toNat) hF hk2;by_cases he:L9 s r m=L9 s r fr
 . rw[he]at a1 a2;refine⟨by rw[a1,b1],fun h=>?_⟩;rw[<- d5E,b2]at h;rw[<- d5E,a2];exact h
 have hc:=hk3.resolve_left (by omega);have nc:¬0<r.Count:=by omega
 have lo:∀j:Int,0<=j->LoP r (l8 r (b8 s)+j*r.Interval):=fun j hj=>(R6 (r:=r) a b w0 w1).up (by have:=d6o hj (show 0<=r.Interval by omega);omega);rw[b9c nc]at a1 b1;refine⟨?_,fun h=>?_⟩
 . rw[a1,b1,d7x,d7x];congr 1;refine b9B ((U2.filter _).filter _) ((U1.filter _).filter _) fun t=>?_;rw[d5u,d5u,d5u,d5u,a2j,a0O,a0O];have key:m<=t->((∃j:Int,L9 s r m<=j/\j<L9 s r m+(40000-L9 s r m).toNat/\t∈B6 s r day (l8 r (b8 s)+j*r.Interval))↔∃j:Int,L9 s r fr<=j/\j<L9 s r fr+(40000-L9 s r fr).toNat/\t∈B6 s r day (l8 r (b8 s)+j*r.Interval)):=fun hmt=>by
    constructor
    . rintro⟨j,j0,j1,hj⟩;exact⟨j,by omega,by omega,hj⟩
    . rintro⟨j,j0,j1,hj⟩;have hjk:L9 s r m<=j:=by
       rcases d7P j (L9 s r m)with hlt|hge
       . exfalso;have g:=(U4 hF hj).2.2;have u:=a0A hI (show j+1<=L9 s r m by omega);rw[mul_succ]at u;have:=R1 ((lo j (by omega)).up (j:=l8 r (b8 s)+j*r.Interval+1) (by omega)) (show l8 r (b8 s)+j*r.Interval+1<=l8 r (b8 s)+L9 s r m*r.Interval by omega);omega
       . exact hge
      exact⟨j,hjk,by omega,hj⟩
   constructor
   . rintro⟨⟨h1,h2⟩,h3⟩;exact⟨⟨(key h3).1 h1,h2⟩,h3⟩
   . rintro⟨⟨h1,h2⟩,h3⟩;exact⟨⟨(key h3).2 h1,h2⟩,h3⟩
 . rw[<- d5E,b2,d4S]at h;rw[<- d5E,a2,d4S];have u:=a0A hI (show L9 s r fr+(40000-L9 s r fr).toNat<=L9 s r m+(40000-L9 s r m).toNat by omega);have:=R1 (lo (L9 s r fr+(40000-L9 s r fr).toNat) (by omega)) (show l8 r (b8 s)+(L9 s r fr+(40000-L9 s r fr).toNat)*r.Interval<=l8 r (b8 s)+(L9 s r m+(40000-L9 s r m).toNat)*r.Interval by omega);unfold a0B at h ⊢;omega
end
def b1p:∀{T y:List Int}{e:Bool},a0D (fun _ _=>true) y T e=(y++T,e)
 |[],y,e=>by unfold a0D;rw[d5C]
 |t::T,y,e=>by unfold a0D;rw[d5r,b1p];simp
def b68{res:List Int->Int->Bool}:∀{T y:List Int}{e:Bool},(a0D res y T e).1.length<=y.length+T.length
 |[],y,e=>by unfold a0D;simp
 |t::T,y,e=>by
  unfold a0D;cases res y t with
  |true =>
   have:=b68 (res:=res) (T:=T) (y:=y++[t]) (e:=e);rw[d4Y]at this;simp only[d5h,d6b]at this ⊢;rw[d5r];omega
  |false=>simp
def c0S{s:Tm}{r:Rl}{day tw fr:Int}(hF:A3 s r)(h0:0<=fr)(h:a0m s r day tw=false):(I5 s r day fr tw).2=false:=by
 obtain⟨hk,hk1⟩:=X7 hF h0;obtain⟨a,b⟩:=y7 hF.rt;obtain⟨w0,w1⟩:=wk_ok hF;have hI:=K5 hF;have lo:∀j:Int,0<=j->LoP r (l8 r (b8 s)+j*r.Interval):=fun j hj=>(R6 (r:=r) a b w0 w1).up (by have:=d6o hj (show 0<=r.Interval by omega);omega);rw[<- d5E,(X8 (day:=day) (tw:=tw) hF hk).2,d4S];have u:=a0A hI (show 40000<=L9 s r fr+(40000-L9 s r fr).toNat by omega);have hb:=R1 (lo 40000 (by decide)) (show l8 r (b8 s)+40000*r.Interval<=l8 r (b8 s)+(L9 s r fr+(40000-L9 s r fr).toNat)*r.Interval by omega);obtain⟨g0,g1⟩:=Y6 (r:=r) (lo 40000 (by decide)).a;have hin:=fun t ht=>a6m (t:=t) (day:=day) (n:=40000) hF (lo 0 (by decide)) ht;unfold a0m at h;rw[show(0:Int)+((40000:Nat):Int)=40000 by omega]at hin;generalize C2 r (l8 r (b8 s)+40000*r.Interval)=b4 at *;by_cases h1:tw<=b4∨315537897600<=b4
 . unfold a0B;omega
 rw[if_neg h1]at h;by_cases h2:0<(r.e9.length:Int)/\b8 (ix r.e9 0)<b4
 . have e:P9 r=b8 (ix r.e9 0):=if_pos h2.1;unfold a0B;omega
 rw[if_neg h2]at h;by_cases h3:0<r.Count
 . rw[if_pos h3]at h;have hz:L9 s r fr=0:=hk1.resolve_right (by omega);have hz0:L9 s r 0=0:=(X7 hF (show(0:Int)<=0 by decide)).2.resolve_right (by omega);have e1:=(X8 (day:=day) (fr:=0) (tw:=b4) hF (by omega)).1;rw[hz0]at e1;rw[hz];have l1:=b68 (res:=a8C r) (T:=(I5 s r day 0 b4).1) (y:=[]) (e:=(I5 s r day 0 b4).2);unfold c2Y at h;generalize a0D (a8C r) [] (I5 s r day 0 b4).1 (I5 s r day 0 b4).2=g at *;have hg:r.Count<=(g.1.length:Int):=by
    by_cases hh:r.Count<=(g.1.length:Int)∨g.2=true
    . rw[if_pos hh]at h;exact hh.resolve_right (by rw[h];decide)
    . rw[if_neg hh]at h;cases h
   rw[e1,d4Y]at l1;have l2:(if b8 s<b4 then [b8 s]else []).length<=1:=by split <;> simp
   have e:(a1l s r day (l8 r (b8 s)) (40000-(0:Int)).toNat 0).filter (PT (b8 s) tw (P9 r))=(a1l s r day (l8 r (b8 s)) (40000-(0:Int)).toNat 0).filter (PT (b8 s) b4 (P9 r)):=d8I fun t ht=>by have:=hin t ht;rw[d6L,T9,T9];omega
   rw[e];rw[d6b]at l1;unfold a0B;omega
 . rw[if_neg h3]at h;cases h
def a2z(f:Int)(l:List Int):Int:=l.getLast?.getD f
def a8T{f t:Int}{l:List Int}:a2z f (l++[t])=t:=by unfold a2z;simp
def b0X{f x:Int}:∀{l:List Int},Up l->x∈l->(∀t∈l,t<=x)->a2z f l=x:=fun{l} hu hx hm=>by
 obtain⟨m,y,rfl⟩:∃m y,l=m++[y]:=by
  rcases List.eq_nil_or_concat l with rfl|⟨m,y,rfl⟩
  . cases hx
  . exact⟨m,y,by simp⟩
 rw[a8T];have h1:=hm y (by simp);rcases d5t.1 hx with h|h
 . have:=(d6O.1 hu).2.2 x h y (by simp);omega
 . exact(d5a.1 h).symm
def a6o{s:Tm}(h:a1k s):L4 (b8 s) s=s:=by
 obtain⟨hd,hh,hm,hs,hb⟩:=h;have hn:=a03 hd;have e:b8 s=Z6 s:=if_pos ⟨hd,hh,hm,hs,hb⟩;have d1:Z6 s / 86400+1=M3 s.Day:=by unfold Z6;omega
 have d2:Z6 s%86400=s.Hour*3600+s.Min*60+s.D8:=by unfold Z6;omega
 rw[e];unfold L4;rw[if_neg,d1,d2,c8e hd]
 . have e1:(s.Hour*3600+s.Min*60+s.D8) / 3600=s.Hour:=by omega
   have e2:(s.Hour*3600+s.Min*60+s.D8) / 60%60=s.Min:=by omega
   have e3:(s.Hour*3600+s.Min*60+s.D8)%60=s.D8:=by omega
   rw[e1,e2,e3]
 . rintro(h|h|h)
   . unfold Z6 at h;omega
   . refine hb ⟨h.1,?_⟩;rcases h.2 with h|h
     . exact .inr h
     . left;omega
   . rw[d1]at h;omega
open Classical in
def P0(s:Tm)(r:Rl)(a:Tm):Tm×Bool×o6:=
 if ¬G3 s r=true∨¬p9 a=true then(c3l,false,.no 2)else if a0m s r (u9 s.Day) (b8 a+1)=true then(c3l,false,.no 5)
 else if b8 a+1<=b8 s then(c3l,false,.nil)else(L4 (a2z (b8 s) (I5 s r (u9 s.Day) 0 (b8 a+1)).1) s,true,.nil)
open Classical in
def isP(s:Tm)(r:Rl)(t:Tm):Bool×o6:=if(P0 s r t).2.2=.nil then(decide ((P0 s r t).2.1=true/\(P0 s r t).1=t),.nil)else(false,(P0 s r t).2.2)
def a7g(s:Tm)(r:Rl)(t:Tm):(P0 s r t).2.2=.nil∨∃n,(P0 s r t).2.2=.no n:=by
 unfold P0
 (repeat' split)
 . exact .inr ⟨2,rfl⟩
 . exact .inr ⟨5,rfl⟩
 . exact .inl rfl
 . exact .inl rfl
def a6r{s:Tm}{r:Rl}{day tw t:Int}(hF:A3 s r)(hc:¬0<r.Count):t∈(I5 s r day 0 tw).1↔(t=b8 s/\b8 s<tw)∨(b8 s<t/\t<tw/\t<=P9 r)/\∃j:Int,0<=j/\j<40000/\t∈B6 s r day (l8 r (b8 s)+j*r.Interval):=by
 have hz0:L9 s r 0=0:=(X7 hF (show(0:Int)<=0 by decide)).2.resolve_right (by have:=(y7 hF.rt).1;omega);have e1:=(X8 (day:=day) (fr:=0) (tw:=tw) hF (by omega)).1;rw[hz0]at e1;rw[e1,b9c hc,d5t,d5u,T9,a0O];have e2:t∈(if b8 s<tw then [b8 s]else [])↔t=b8 s/\b8 s<tw:=by
  split
  . rename_i h;rw[d5a];exact⟨fun e=>⟨e,h⟩,fun e=>e.1⟩
  . rename_i h;exact⟨fun e=>(by cases e),fun e=>absurd e.2 h⟩
 rw[e2];constructor
 . rintro(h|⟨⟨j,j0,j1,hj⟩,h⟩)
   . exact .inl h
   . exact .inr ⟨h,j,j0,by omega,hj⟩
 . rintro(h|⟨h,j,j0,j1,hj⟩)
   . exact .inl h
   . exact .inr ⟨⟨j,j0,by omega,hj⟩,h⟩
def d2n{s:Tm}{r:Rl}{day tw t j:Int}(hF:A3 s r)(hc:¬0<r.Count)(h:a0m s r day tw=false)(hj:0<=j)(ht:t∈B6 s r day (l8 r (b8 s)+j*r.Interval))(h1:t<tw)(h2:t<=P9 r):j<40000:=by
 obtain⟨a,b⟩:=y7 hF.rt;obtain⟨w0,w1⟩:=wk_ok hF;have hI:=K5 hF;have lo:∀j:Int,0<=j->LoP r (l8 r (b8 s)+j*r.Interval):=fun j hj=>(R6 (r:=r) a b w0 w1).up (by have:=d6o hj (show 0<=r.Interval by omega);omega);rcases d7P j 40000 with hh|hh
 . exact hh
 exfalso;have u:=a0A hI hh;have hb:=R1 (lo 40000 (by decide)) (show l8 r (b8 s)+40000*r.Interval<=l8 r (b8 s)+j*r.Interval by omega);have g:=(U4 hF ht).2.1;have e:=a1W hF (lo j hj) ht;unfold a0m at h;generalize C2 r (l8 r (b8 s)+40000*r.Interval)=b4 at *;rw[if_neg (by omega)]at h;by_cases h3:0<(r.e9.length:Int)/\b8 (ix r.e9 0)<b4
 . have e:P9 r=b8 (ix r.e9 0):=if_pos h3.1;omega
 . rw[if_neg h3,if_neg hc]at h;cases h
structure DnI(s:Tm)(r:Rl)(day tl k:Int):Prop where
 a:∀t j:Int,0<=j->k<j->b8 s<t->t<tl->t∈B6 s r day (l8 r (b8 s)+j*r.Interval)->False
structure DcI(L:List Int)(fi tl x:Int):Prop where
 a:∀i:Int,x<i->i<L.length->¬(ix L i<tl/\fi<ix L i)
section
variable{s:Tm}{r:Rl}{day tl k tw:Int}
def DnI.init(hF:A3 s r)(h1:tl<=315537897600):DnI s r day tl ((l8 r (max 0 (tl-1))-l8 r (b8 s)).tdiv r.Interval):=⟨fun t j j0 hk h2 h3 ht=>by obtain⟨a,b⟩:=y7 hF.rt;obtain⟨w0,w1⟩:=wk_ok hF;have hI:=K5 hF;have lo:LoP r (l8 r (b8 s)+j*r.Interval):=(R6 (r:=r) a b w0 w1).up (by have:=d6o j0 (show 0<=r.Interval by omega);omega);have g:=(a2A lo (t:=t) (by omega) (by omega)).1 (U4 hF ht).2.1;have m:=a0R (r:=r) (t:=t) (u:=max 0 (tl-1)) (by omega) (by omega) (by omega) w0 w1;have m2:=a0R (r:=r) (t:=b8 s) (u:=max 0 (tl-1)) a (by omega) (by omega) w0 w1;rw[d5b (by omega)]at hk;have:=Int.le_ediv_of_mul_le (show 0<r.Interval by omega) (show j*r.Interval<=l8 r (max 0 (tl-1))-l8 r (b8 s) by omega);omega⟩
def DnI.step(h:DnI s r day tl k)(hc:DcI (B6 s r day (l8 r (b8 s)+k*r.Interval)) (b8 s) tl (-1)):DnI s r day tl (k-1):=⟨fun t j j0 hk h2 h3 ht=>by
 by_cases e:j=k
 . subst e;obtain⟨i,i0,i1,rfl⟩:=L6 ht;exact hc.a i (by omega) i1 ⟨h3,h2⟩
 . exact h.a t j j0 (by omega) h2 h3 ht⟩
def DnI.found{x:Int}(h:DnI s r day tl k)(hF:A3 s r)(nc:¬0<r.Count)(hf:a0m s r day tw=false)(hto:∀t,t<tl↔t<tw/\t<=P9 r)(k0:0<=k)
  (hc:DcI (B6 s r day (l8 r (b8 s)+k*r.Interval)) (b8 s) tl x) (x0:0<=x) (x1:x<(B6 s r day (l8 r (b8 s)+k*r.Interval)).length) (hx:ix (B6 s r day (l8 r (b8 s)+k*r.Interval)) x<tl/\b8 s<ix (B6 s r day (l8 r (b8 s)+k*r.Interval)) x) :
  a2z (b8 s) (I5 s r day 0 tw).1=ix (B6 s r day (l8 r (b8 s)+k*r.Interval)) x:=by
 obtain⟨a,b⟩:=y7 hF.rt;obtain⟨w0,w1⟩:=wk_ok hF;have hI:=K5 hF;have lo:∀j:Int,0<=j->LoP r (l8 r (b8 s)+j*r.Interval):=fun j hj=>(R6 (r:=r) a b w0 w1).up (by have:=d6o hj (show 0<=r.Interval by omega);omega);have hm:=Y3 x0 x1;have ht:=(hto _).1 hx.1;refine b0X (b11 hF (d5o 0)) ((a6r hF nc).2 (.inr ⟨⟨hx.2,ht⟩,k,k0,d2n hF nc hf k0 hm ht.1 ht.2,hm⟩)) fun t h1=>?_;rcases(a6r hF nc).1 h1 with⟨rfl,_⟩|⟨⟨h2,h3⟩,j,j0,_,hj⟩
 . omega
 have h4:=(hto t).2 h3;rcases d7d j k with hl|rfl|hl
 . have g:=(U4 hF hj).2.2;have g2:=(U4 hF hm).2.1;have u:=a0A hI (show j+1<=k by omega);rw[mul_succ]at u;have:=R1 ((lo j j0).up (j:=l8 r (b8 s)+j*r.Interval+1) (by omega)) (show l8 r (b8 s)+j*r.Interval+1<=l8 r (b8 s)+k*r.Interval by omega);omega
 . obtain⟨i,i0,i1,rfl⟩:=L6 hj;have hix:i<=x:=by
    rcases d7P x i with hh|hh
    . exact absurd ⟨h4,h2⟩ (hc.a i hh i1)
    . exact hh
   by_cases e:i=x
   . subst e;exact d5o _
   . have:=d5H.1 (b0N (day:=day) (i:=l8 r (b8 s)+j*r.Interval) hF) i.toNat x.toNat (by omega) (by omega) (by omega);rw[s8 (by omega),s8 (by omega)];omega
 . exact absurd hj (fun hj=>h.a t j j0 hl h2 h4 hj)
def DnI.none(h:DnI s r day tl k)(hF:A3 s r)(nc:¬0<r.Count)(hto:∀t,t<tl↔t<tw/\t<=P9 r)(h1:b8 s<tw)(hk:¬(0<=k/\b8 s<tl)):a2z (b8 s) (I5 s r day 0 tw).1=b8 s:=by
 refine b0X (b11 hF (d5o 0)) ((a6r hF nc).2 (.inl ⟨rfl,h1⟩)) fun t h1=>?_;rcases(a6r hF nc).1 h1 with⟨rfl,_⟩|⟨⟨h2,h3⟩,j,j0,_,hj⟩
 . exact d5o _
 . have h4:=(hto t).2 h3;exact absurd hj (fun hj=>h.a t j j0 (by omega) h2 h4 hj)
def a2b(t:Tm):-1<=b8 t/\b8 t<315537897600:=by
 unfold b8;split
 . rename_i h;have:=a2h h;omega
 . omega
def b93:P3 .nil=.nil:=by unfold P3;rw[if_neg (by decide)]
end
structure AtP(s:Tm)(u:Int):Prop where
 a:0<=u
 b:u<315537897600
 c:s.o7=true->s.UTC=false/\u%86400=0
structure AtR(s t:Tm)(u:Int):Prop where
 rt:p9 t=true
 se:b8 t=u
 ba:t.o7=s.o7
 ut:t.UTC=s.UTC
def atS_ok{s:Tm}{u:Int}(h:AtP s u):AtR s (L4 u s) u:=by
 obtain⟨a,b,c⟩:=h;have hb:¬(s.o7=true/\(s.UTC=true∨u%86400≠0)):=fun⟨h1,h2⟩=>by
  obtain⟨c1,c2⟩:=c h1;rcases h2 with h2|h2
  . rw[c1]at h2;cases h2
  . exact h2 c2
 have e:L4 u s=⟨A7 (u / 86400+1),u%86400 / 3600,u%86400 / 60%60,u%86400%60,s.o7,s.UTC⟩:=by
  unfold L4;rw[if_neg];rintro(h|h|h)
  . omega
  . exact hb h
  . omega
 obtain⟨d1,d2⟩:=of_ok (n:=u / 86400+1) (by omega) (by omega);have hr:a1k ⟨A7 (u / 86400+1),u%86400 / 3600,u%86400 / 60%60,u%86400%60,s.o7,s.UTC⟩:=by
  refine⟨d1,⟨?_,?_⟩,⟨?_,?_⟩,⟨?_,?_⟩,?_⟩
  . show 0<=u%86400 / 3600;omega
  . show u%86400 / 3600<=23;omega
  . show 0<=u%86400 / 60%60;omega
  . show u%86400 / 60%60<=59;omega
  . show 0<=u%86400%60;omega
  . show u%86400%60<=59;omega
  . rintro⟨h1,h2⟩;have h1:s.o7=true:=h1;obtain⟨c1,c2⟩:=c h1;rcases h2 with((h2|h2)|h2)|h2
    . have h2:u%86400 / 3600≠0:=h2;omega
    . have h2:u%86400 / 60%60≠0:=h2;omega
    . have h2:u%86400%60≠0:=h2;omega
    . have h2:s.UTC=true:=h2;rw[c1]at h2;cases h2
 rw[e];refine⟨A8.2 hr,?_,rfl,rfl⟩;have e2:b8 ⟨A7 (u / 86400+1),u%86400 / 3600,u%86400 / 60%60,u%86400%60,s.o7,s.UTC⟩=Z6 ⟨A7 (u / 86400+1),u%86400 / 3600,u%86400 / 60%60,u%86400%60,s.o7,s.UTC⟩:=if_pos hr;rw[e2];show(M3 (A7 (u / 86400+1))-1)*86400+u%86400 / 3600*3600+u%86400 / 60%60*60+u%86400%60=u
 rw[d2];omega
def b3M{s:Tm}{r:Rl}(hF:A3 s r)(hb:s.o7=true):s.UTC=false/\s.Hour=0/\s.Min=0/\s.D8=0:=by obtain⟨_,_,_,_,h⟩:=A8.1 hF.rt;have h:¬(((s.Hour≠0∨s.Min≠0)∨s.D8≠0)∨s.UTC=true):=fun e=>h ⟨hb,e⟩;refine⟨?_,by omega,by omega,by omega⟩;rw[<- d5E];exact fun e=>h (.inr e)
def c0z{s:Tm}{r:Rl}{c:Int}(hF:A3 s r)(hb:s.o7=true)(h:c∈R9 s r):c=0:=by
 obtain⟨k,m,x,⟨_,h1⟩,⟨_,h2⟩,⟨_,h3⟩,e⟩:=b2C.1 h;obtain⟨_,b1,b2,b3⟩:=b3M hF hb;obtain⟨f,l1,l2,l3⟩:=hF.ba hb;unfold hB at h1;unfold mB at h2;unfold sB at h3;have e1:(k:Int)=0:=by
  rcases d7d (k:Int) 0 with q|q|q
  . omega
  . exact q
  . exact absurd (.inr ⟨⟨l1,by omega⟩,by omega⟩) h1
 have e2:(m:Int)=0:=by
  rcases d7d (m:Int) 0 with q|q|q
  . omega
  . exact q
  . exact absurd (.inr ⟨⟨l2,by omega⟩,by omega⟩) h2
 have e3:(x:Int)=0:=by
  rcases h3 with h3|h3
  . omega
  . rcases h3.2 with q|q
    . omega
    . omega
 omega
section
variable{s:Tm}{r:Rl}{day t u tw fr:Int}
def b5r(hF:A3 s r){i:Int}(hl:LoP r i)(h:t∈B6 s r day i):AtP s t/\l8 r t=i:=by
 obtain⟨⟨_,h2⟩,h3,h4⟩:=U4 hF h;have h5:=a1W hF hl h;have h0:=(Y6 (r:=r) hl.a).1;refine⟨⟨by omega,h5,fun hb=>⟨(b3M hF hb).1,c0z hF hb h2⟩⟩,?_⟩;have a:=(a2A hl (t:=t) (by omega) h5).1 h3;have b:¬i+1<=l8 r t:=fun e=>by have:=(a2A (hl.up (j:=i+1) (by omega)) (t:=t) (by omega) h5).2 e;omega
 omega
def c0J(hF:A3 s r):AtP s (b8 s):=by obtain⟨a,b⟩:=y7 hF.rt;refine⟨a,b,fun hb=>?_⟩;obtain⟨h0,h1,h2,h3⟩:=b3M hF hb;have e:b8 s=Z6 s:=if_pos (A8.1 hF.rt);refine⟨h0,?_⟩;rw[e];unfold Z6;rw[h1,h2,h3];omega
structure b7k(s:Tm)(r:Rl)(day tw t:Int):Prop where
 a:AtP s t
 b:t<tw
 c:t=b8 s∨b8 s<t/\∃j:Int,0<=j/\t∈B6 s r day (l8 r (b8 s)+j*r.Interval)
def b9P(hF:A3 s r)(h0:0<=fr)(h:t∈(I5 s r day fr tw).1):b7k s r day tw t:=by
 obtain⟨a,b⟩:=y7 hF.rt;obtain⟨w0,w1⟩:=wk_ok hF;have hI:=K5 hF;have lo:∀j:Int,0<=j->LoP r (l8 r (b8 s)+j*r.Interval):=fun j hj=>(R6 (r:=r) a b w0 w1).up (by have:=d6o hj (show 0<=r.Interval by omega);omega);have hk:=(X7 hF h0).1;rw[(X8 (day:=day) (tw:=tw) hF hk).1]at h;rcases d5t.1 h with h|h
 . split at h
   . rename_i hlt;cases d5a.1 h;exact⟨c0J hF,hlt,.inl rfl⟩
   . cases h
 . obtain⟨h1,h2⟩:=d5u.1 (b17.subset h);have h2:=T9.1 h2;obtain⟨j,j0,_,hj⟩:=a0O.1 h1;exact⟨(b5r hF (lo j (by omega)) hj).1,h2.2.1,.inr ⟨h2.1,j,by omega,hj⟩⟩
def b7k.ge(h:b7k s r day tw t):b8 s<=t:=by rcases h.c with e|e <;> omega
def b7k.mat(h:b7k s r (u9 s.Day) tw t)(hF:A3 s r)(hn:t≠b8 s):c7D s r t=true:=by
 obtain⟨a,b⟩:=y7 hF.rt;obtain⟨w0,w1⟩:=wk_ok hF;have hI:=K5 hF;obtain⟨_,j,j0,hj⟩:=h.c.resolve_left hn;have lo:LoP r (l8 r (b8 s)+j*r.Interval):=(R6 (r:=r) a b w0 w1).up (by have:=d6o j0 (show 0<=r.Interval by omega);omega);have e:=(b5r hF lo hj).2;obtain⟨h1,h2⟩:=(U4 hF hj).1;have e2:a1K r t-a1K r (b8 s)=j*r.Interval:=by unfold l8 at e;omega
 unfold c7D;rw[e2,h1,W3.2 h2,d5e ⟨d6o j0 (by omega),Int.mul_emod_left ..⟩];rfl
end
structure d3d(s:Tm)(r:Rl)(a b:Tm)(l:List Tm)(x:Int):Prop where
 lo:b8 a<=b8 (ix l x)
 hi:b8 (ix l x)<b8 b
 up:0<x->b8 (ix l (x-1))<b8 (ix l x)
 ba:(ix l x).o7=s.o7
 ut:(ix l x).UTC=s.UTC
 ma:ix l x≠s->c9w s r (ix l x)=true
 ge:b8 s<=b8 (ix l x)
 is:isP s r (ix l x)=(true,.nil)
def c0e{s a b:Tm}{r:Rl}{x:Int}(h:(J9 s r a b).2.nr=0)(h0:0<=x)(h1:x<(J9 s r a b).1.length):d3d s r a b (J9 s r a b).1 x:=by
 have hx:=exp_ok h;obtain⟨hF,ha,hb⟩:=a9v hx.bad;have a0:=(y7 ha).1;have b1:=y7 hb;have hU:=b11 (day:=u9 s.Day) (tw:=b8 b) hF a0;have hT:=fun t=>b9P (t:=t) (day:=u9 s.Day) (tw:=b8 b) hF a0;have hI0:(I5 s r (u9 s.Day) 0 (b8 b)).1.filter (geB (b8 a))=(a3i s r a b).1.filter (geB (b8 a)):=((b9v (day:=u9 s.Day) (fr:=0) (m:=b8 a) (tw:=b8 b) hF (d5o 0) a0).1).symm;rw[b46 hx]at h1 ⊢;dsimp only at h1 ⊢;rw[a6n]at h1 ⊢;have hU2:=hU.filter (geB (b8 a));have hm:∀u∈(a3i s r a b).1.filter (geB (b8 a)),u∈(I5 s r (u9 s.Day) 0 (b8 b)).1/\b8 a<=u/\b7k s r (u9 s.Day) (b8 b) u:=fun u hu=>by have h3:=hu;rw[<- hI0]at h3;have h2:=d5u.1 hu;exact⟨(d5u.1 h3).1,a2j.1 h2.2,hT u h2.1⟩
 generalize (a3i s r a b).1.filter (geB (b8 a))=M at *;have gx:∀i:Int,0<=i->i<M.length->ix (M.map fun t=>L4 t s) i=L4 (ix M i) s:=fun i i0 i1=>by rw[s8 (by rw[d6h];omega),s8 (by omega),d7g]
 rw[d6h]at h1;obtain⟨m1,m2,m3⟩:=hm _ (Y3 h0 h1);have at1:=atS_ok m3.a;refine⟨?_,?_,fun hp=>?_,?_,?_,fun hn=>?_,?_,?_⟩
 . rw[gx x h0 h1,at1.se];exact m2
 . rw[gx x h0 h1,at1.se];exact m3.b
 . obtain⟨_,_,p3⟩:=hm _ (Y3 (l:=M) (i:=x-1) (by omega) (by omega));rw[gx x h0 h1,gx (x-1) (by omega) (by omega),at1.se,(atS_ok p3.a).se];have:=d5H.1 hU2 (x-1).toNat x.toNat (by omega) (by omega) (by omega);rw[s8 (by omega),s8 (by omega)];exact this
 . rw[gx x h0 h1];exact at1.ba
 . rw[gx x h0 h1];exact at1.ut
 . rw[gx x h0 h1]at hn ⊢;unfold c9w;rw[if_neg,at1.se]
   . exact m3.mat hF fun e=>hn (by rw[e,a6o (A8.1 hF.rt)])
   . rintro(((e|e)|e)|e)
     . exact e (J7.2 hF)
     . exact e at1.rt
     . exact e (by rw[at1.ba])
     . exact e (by rw[at1.ut])
 . rw[gx x h0 h1,at1.se];exact m3.ge
 . rw[gx x h0 h1];have m3b:=m3.b;have m3g:=m3.ge;have hl:P0 s r (L4 (ix M x) s)=(L4 (ix M x) s,true,.nil):=by
    unfold P0;rw[at1.se,if_neg (fun e=>e.elim (fun e=>e (J7.2 hF)) fun e=>e at1.rt),b92 hx.far (m:=ix M x+1) (by omega),if_neg d5R,if_neg (by omega)];have q:=(b9p (day:=u9 s.Day) (fr:=0) (m:=ix M x+1) (tw:=b8 b) hF (d5o 0) (by omega)).1;rw[b0X (x:=ix M x) (b11 hF (d5o 0))]
    . rw[q];exact d5u.2 ⟨m1,lt_iff.2 (by omega)⟩
    . intro t ht;have:=(b9P hF (d5o 0) ht).b;omega
   unfold isP;rw[hl,if_pos rfl];exact d7R (d5e ⟨rfl,rfl⟩) rfl
end Go.Re
namespace Go.Proofs.YtapnoejokajcoaaGreatDoor
open Go Go.Wk Go.Wl Go.Rx Go.Re Go.Li Go.Qu 
def a2d:Value:=.iface 177 (.agg #[.pointer (some ⟨4,43,none⟩)])
def Gl:a1s where
 is:=fun Z w=>(Z 0/\Z 1)/\1<w.heap.size/\w.cell? ⟨0,0,none⟩=some a2d/\∃m:Int,w.cell? ⟨1,0,none⟩=some (.int .i64 m)
 I3:=fun{Z Z' B w w'} ⟨⟨z0,z1⟩,hs,he,m,hm⟩ x hB hZ=>by
  have c:∀b o,b<=1->Z b->w'.cell? ⟨b,o,none⟩=w.cell? ⟨b,o,none⟩:=fun b o hb hz=>by unfold World.cell?;rw[x.block b (by omega) (fun hm=>by have:=hB b hm hz;omega)]
  exact⟨⟨hZ 0 z0 (by omega),hZ 1 z1 (by omega)⟩,d6z hs x.size,by rw[c 0 0 (by omega) z0];exact he,m,by rw[c 1 0 (by omega) z1];exact hm⟩
def c8h(t:Nat):Option ((k:Nat)×U.O k):=bif Nat.beq t 257 then some ⟨1,([]:z6)⟩else none
def yoF(x:ClX Tryz.prog)(a:List (SV U)):Option (OR U 0):=match a with|[.int .i64 t]=>some ⟨[ClX.pre x t],[],I4 (ClX.res x t),ClX.put x t⟩|_=>none
def yoC:OC U:=⟨0,yoF⟩
def yoF_ok(x:ClX Tryz.prog)(args:List (SV U))(r:OR U 0)(hr:yoF x args=some r)(ho:q9 r.ob)(D:Nat->Prop)(Z:Nat->Prop)(w:World)(vs:List Value)(b:Nat)(F:List Nat)(hz:∀b,Z b->b<w.heap.size)(hF:∀b∈F,¬Z b)(hob:(obY Tryz.prog b).is Z w x F)(ha:e7 U eT (fun _=>none) D w (.tuple vs.toArray) (.F5 args)) :
  a0w Tryz.prog b vs w (fun v w'=>∃F',(obY Tryz.prog b).is Z w' r.x F'/\b4j w w' F F'/\e7 U eT (fun _=>none) (fun _=>False) w' v r.r/\q9 r.hy):=by
 unfold yoF at hr;split at hr
 . rename_i t;cases hr;obtain⟨v1,vr,rfl,h1,ha⟩:=e7.w4 ha;obtain rfl:=c8B ha;cases h1 with|int hi =>
   exact(x.1.step Z w b F x.2 t hz hF hob ho.1 (hi rfl)).mono fun v w' ⟨e,F',h1,h2⟩=>⟨F',h1,h2,by subst e;exact ClX.bl,trivial⟩
 . cases hr
def E0:Env:={ P:=Tryz.prog,N:=U,T:=eT,ty:=tyU,zob:=c8h,M5:=fun _=>none,U0:=fun _=>false,obc:=fun _=>none,inl:=fun _=>none,G:=Gl,wrc:=fun _=>none,rws:=fun t=>Nat.beq t 234,yl:=some yoC }
def E0_ok:c8 E0:=by
 refine⟨by kernel_rfl,fun t k x h=>by
  have h:c8h t=some ⟨k,x⟩:=h;unfold c8h at h;cases hb:Nat.beq t 257 with
  |false=>rw[hb]at h;cases h
  |true =>
   rw[hb]at h;cases h;have e:=d4W hb;subst e;exact⟨.agg #[.pointer none,.slice none 0 0],by kernel_rfl,fun Z w b ho=>c0g ho⟩,fun K h=>?_,fun K fn h=>?_,fun K f args nx c h=>?_,fun K f args nx c h=>?_,fun K o x args r h=>?_,fun K o a x r h=>?_,fun K h=>?_,fun K o args its r h=>?_,fun K h=>?_,fun K C args its q h=>?_,fun o x args r h hr ho=>?_⟩ <;> first|(cases h;done)|skip
 cases h;exact fun Z D w vs b F hz _ hF hob _ ha=>yoF_ok x args r hr ho D Z w vs b F hz (fun b hb=>(hF b hb).1) hob ha
def V0{ρ:p4}{Z:Nat->Prop}{w:World}{cs:List Value}(h:e7 U eT ρ Z w (.tuple cs.toArray) (.F5 [])):cs=[]:=by generalize e:Value.tuple cs.toArray=u at h;cases h with|M0=>simpa using e
def a4i{w w1 w2:World}{B:List Nat}(hs:F8 w w1)(h:Ext B w1 w2):Ext B w w2:=by obtain⟨k,rfl⟩:=hs;exact⟨h.os,h.tape,h.output,h.size,h.block⟩
def b2Q{K:Nat}{args:List (SV U)}{q:Q1 U}(h:∀(D:Nat->Prop)(w:World)(vs:List Value),e7 U eT (fun _=>none) D w (.tuple vs.toArray) (.F5 args)->∃v,(∀w',e7 U eT (fun _=>none) (fun _=>False) w' v q.v)/\q9 q.hy/\∀w1,F8 w w1->Calls Tryz.prog K vs.toArray w1 fun e w'=>e=.returned v/\Ext [] w1 w'):A4 E0 K args ⟨q.ob,q.hy,q.v,[]⟩:=
 fun D w vs _ _ ha w1 hs=>by obtain⟨v,hr,hy,hc⟩:=h D w vs ha;exact(hc w1 hs).mono fun e w2 ⟨h1,h2⟩=>⟨v,w2,h1,F8.refl _,a4i hs h2,hr w2,hy⟩
def b4R(w:World)(o:Obj)(k:Nat)(hk:k<w.heap.size):(w.alloc o).heap[k]?=w.heap[k]? := by
 show(w.heap.push o)[k]?=_
 rw[d6U,if_neg (by omega)]
def a0M{w:World}{B:List Nat}(o:Obj):Ext B w (w.alloc o):=⟨rfl,rfl,rfl,(by show w.heap.size<=(w.heap.push o).size;rw[d7a];omega),fun k hk _=>b4R w o k hk⟩
def CvL(ρ:p4)(Z:Nat->Prop)(w:World):List (SV U)->List (SV U)->Prop
 |[],[]=>True
 |s::r,s'::r'=>(∀v,e7 U eT ρ Z w v s->e7 U eT ρ Z w v s')/\CvL ρ Z w r r'
 |_,_=>False
def O3{ρ:p4}{Z:Nat->Prop}{w:World}:∀(a b:List (SV U)) (v:Value),CvL ρ Z w a b->e7 U eT ρ Z w v (.F5 a)->e7 U eT ρ Z w v (.F5 b)
 |[],[],_,_,h=>h
 |[],_::_,_,hc,_=>hc.elim
 |_::_,[],_,hc,_=>hc.elim
 |s::r,s'::r',v,hc,h=>by
  generalize e:SV.F5 (s::r)=q at h;cases h with
  |I8 ha hr=>cases e;exact .I8 (hc.1 _ ha) (O3 r r' _ hc.2 hr)
  |_=>cases e
def a1r{ρ:p4}{Z:Nat->Prop}{w:World}{v:Value}{ls:List (SV U)}{x:Tm}(e:y26.bk (.agg ls)=some x)(h:e7 U eT ρ Z w v (.agg ls)):e7 U eT ρ Z w v (.agg [.int .i64 x.Day.Year,.int .i64 x.Day.Month,.int .i64 x.Day.Date,.int .i64 x.Hour,.int .i64 x.Min,.int .i64 x.D8,I4 x.o7,I4 x.UTC]):=by obtain⟨cs,rfl,hl⟩:=h.E5;exact y26.sv_ok (y26.bk_ok (s:=.agg ls) hl e)
def a6R{ρ:p4}{Z:Nat->Prop}{w:World}{v:Value}{ls:List (SV U)}{x:Rl}(e:y64.bk (.agg ls)=some x)(h:e7 U eT ρ Z w v (.agg ls)):e7 U eT ρ Z w v (.agg [.int .i64 x.l6,.int .i64 x.Interval,.int .i64 x.Count,.sl (N:=U) 26 x.e9,.sl (N:=U) 3 x.Month,.sl (N:=U) 3 x.q7,.sl (N:=U) 3 x.l9,.sl (N:=U) 3 x.j9,.sl (N:=U) 240 x.w9,.sl (N:=U) 3 x.Hour,.sl (N:=U) 3 x.Minute,.sl (N:=U) 3 x.Second,.sl (N:=U) 3 x.y6,.int .i64 x.v8]):=by obtain⟨cs,rfl,hl⟩:=h.E5;exact y64.sv_ok (y64.bk_ok (s:=.agg ls) hl e)
def F8.cell{w w1:World}(h:F8 w w1)(a:Addr):w1.cell? a=w.cell? a:=by obtain⟨k,rfl⟩:=h;rfl
def Q5.b5P{w:World}{b:Nat}{T:TypeId}{cs:List Value}(h:Q5 w b T cs)(o:Nat):w.cell? ⟨b,o,none⟩=cs[o]? := by unfold Q5 at h;simp[World.cell?,h]
def cIs(a:List (SV U)):Option (Q1 U):=match a with|[.err e,.err (.no n)]=>some ⟨[],[],.bl (e.is n) inferInstance⟩|_=>none
def cIs_ok(args:List (SV U))(q:Q1 U)(h:cIs args=some q)(_:q9 q.ob):A4 E0 33 args ⟨q.ob,q.hy,q.v,[]⟩:=by
 unfold cIs at h;split at h
 . rename_i e n;cases h;refine b2Q fun D w vs ha=>⟨.bool (decide (e.is n)),fun _=>.bl,trivial,fun w1 hs=>?_⟩;have same:∀{b:Bool},(Calls Tryz.prog 33 vs.toArray w1 fun e w'=>e=.returned (.bool b)/\w'=w1)->Calls Tryz.prog 33 vs.toArray w1 fun e w'=>e=.returned (.bool b)/\Ext [] w1 w':=fun h=>h.mono fun _ _ ⟨a,b⟩=>⟨a,by subst b;exact Ext.refl _ _⟩;obtain⟨v1,r1,rfl,h1,ha⟩:=e7.w4 ha;obtain⟨v2,r2,rfl,h2,ha⟩:=e7.w4 ha;obtain rfl:=V0 ha;cases h1 with|err h1 =>
   cases h2 with|err h2 =>
   cases h2 with|no hn =>
   cases h1 with
   |nil =>
    have e:decide (o6.is .nil n)=false:=d5q (by simp[o6.is,o6.num]);rw[e];exact same (c77 n w1)
   | @no a ha' =>
    have e:decide (o6.is (.no a) n)=decide (a=n):=d5N.2 (by simp[o6.is,o6.num]);rw[e];exact same (b8P a n w1)
   | @fault b a m hz ho ha' hm h0=>exact absurd rfl h0
   | @w t k s m ht hm hk =>
    obtain⟨rfl,rfl⟩:=c6x ht;have e:decide (o6.is (.w 205 s (.no m)) n)=decide (m=n):=d5N.2 (by simp[o6.is,o6.num]);rw[e];exact(c2M (sv s) m n w1).mono fun _ _ ⟨a,o,b⟩=>⟨a,by subst b;exact a0M _⟩
   | @p t S b s m ht hz ho hm =>
    have e:decide (o6.is (.p t s m) n)=decide (m=n):=d5N.2 (by simp[o6.is,o6.num]);rw[e];rcases c0x ht with⟨rfl,rfl⟩|⟨rfl,rfl⟩
    . exact same (c3P b m n w1 (by rw[F8.cell hs,Q5.b5P ho];rfl))
    . exact same (c4h b m n w1 (by rw[F8.cell hs,Q5.b5P ho];rfl))
 . cases h
def b5d{ρ:p4}{Z:Nat->Prop}{w:World}{b:Bool}{p:Prop}{d:Decidable p}(h:b=@decide p d):e7 U eT ρ Z w (.bool b) (.bl p d):=by rw[h];exact .bl
def asB:o6->Bool
 |.nil=>true
 |.no _=>true
 |.p t _ _=>t == 105
 |_=>false
def wAs:WC U:=⟨113,67,fun a x=>match a with|.err e=>some ⟨[asB e=true],[],.bl (e.num.isSome=true) inferInstance,e.num.getD x⟩|_=>none⟩
def wAs_ok(a:SV U)(x:Int)(r:WR U)(h:wAs.C a x=some r)(hob:q9 r.ob):c28 E0 63 wAs a x r:=by
 unfold wAs at h;simp only at h;split at h
 . rename_i e;cases h;have hob:asB e=true:=hob.1;intro D w v b _ _ hg hv ho hx w1 hs;have hs':=hs;obtain⟨k,rfl⟩:=hs';have hg1:{ w with drawn:=k }.cell? ⟨0,0,none⟩=some a2d:=hg.2.2.1;have ht0:{ w with drawn:=k }.cell? ⟨b,0,none⟩=some (.int .i64 x):=by rw[F8.cell hs,Q5.b5P ho];rfl
   have hf0:{ w with drawn:=k }.frozen? ⟨b,0,none⟩=false:=by unfold Q5 at ho;simp[World.frozen?,ho]
   have hit:∀(m:Int)(W:World),Ext [] { w with drawn:=k } W->Q5 (W.setCell ⟨b,0,none⟩ (.int .i64 m)) b 67 [.int .i64 m]/\Ext [b] w (W.setCell ⟨b,0,none⟩ (.int .i64 m)):=fun m W hW=>by have ho1:Q5 { w with drawn:=k } b 67 [.int .i64 x]:=ho;have ho2:=ho1.ext hW (by simp);obtain⟨k1,k2,_⟩:=Q5.setCell ho2 0 (.int .i64 m);exact⟨k1,a4i hs (hW.trans k2 (fun _ h=>by cases h) (fun _ h=>.inl h))⟩
   have al:∀(W:World)(o1 o2 o3 o4:Obj),Ext [] W ((((W.alloc o1).alloc o2).alloc o3).alloc o4):=fun W o1 o2 o3 o4=>(((a0M (B:=[]) o1).tr (a0M o2)).tr (a0M o3)).tr (a0M o4);cases hv with|err hv =>
   cases hv with
   |nil=>exact d6d (c7X _ _) fun _ w2 ⟨h1,h2⟩=>⟨_,w2,h1,F8.refl _,by subst h2;exact⟨a4i hs (Ext.refl _ _),ho,hx,b5d rfl,trivial⟩⟩
   | @no m hm =>
    refine d6d (c85 m ⟨b,0,none⟩ (.int .i64 x) _ hg1 ht0 hf0) fun _ w2 ⟨h1,h2⟩=>⟨_,w2,h1,F8.refl _,?_⟩;subst h2;obtain⟨k1,k2⟩:=hit m _ (al _ _ _ _ _);exact⟨k2,k1,hm,b5d rfl,trivial⟩
   | @p t S c s m ht hz hc hm =>
    have ht2:t=105:=by simpa[asB]using hob
    rcases c0x ht with⟨_,rfl⟩|⟨e,_⟩
    . subst ht2;refine d6d (b8f c m ⟨b,0,none⟩ (.int .i64 x) _ (by rw[F8.cell hs,Q5.b5P hc];rfl) hg1 ht0 hf0) fun _ w2 ⟨h1,h2⟩=>⟨_,w2,h1,F8.refl _,?_⟩;subst h2;obtain⟨k1,k2⟩:=hit m _ (al _ _ _ _ _);exact⟨k2,k1,hm,b5d rfl,trivial⟩
    . omega
   |_=>cases hob
 . cases h
def N0:Env:=(E0.c3H 63 wAs).B3 33 cIs
def N0_ok:c8 N0:=(E0_ok.c3H Tryz.call63 wAs_ok).B3 Tryz.call33 cIs_ok
def H0:Nat->Option (GD U):=noH
def H0_ok:∀K o args its S,H0 K=some o->o.C args its=some S->M6 Tryz.prog U eT Gl K args its (2*its.length) S:=noH_ok
def a7p{ρ:p4}{Z:Nat->Prop}{w:World}{v:Value}{ls:List (SV U)}{x:E6}(e:y28.bk (.agg ls)=some x)(h:e7 U eT ρ Z w v (.agg ls)):e7 U eT ρ Z w v (.agg [.int .i64 x.Time.Day.Year,.int .i64 x.Time.Day.Month,.int .i64 x.Time.Day.Date,.int .i64 x.Time.Hour,.int .i64 x.Time.Min,.int .i64 x.Time.D8,I4 x.Time.o7,I4 x.Time.UTC,.str x.D9]):=by obtain⟨cs,rfl,hl⟩:=h.E5;exact y28.sv_ok (y28.bk_ok (s:=.agg ls) hl e)
def b3h{ρ:p4}{Z:Nat->Prop}{w:World}{v:Value}{ls:List (SV U)}{x:Alm}(e:b9r.bk (.agg ls)=some x)(h:e7 U eT ρ Z w v (.agg ls)):e7 U eT ρ Z w v (.agg [.str x.Action,.int .i64 x.S9,.sl (N:=U) 86 x.Extra]):=by obtain⟨cs,rfl,hl⟩:=h.E5;exact b9r.sv_ok (b9r.bk_ok (s:=.agg ls) hl e)
def b1I{ρ:p4}{Z:Nat->Prop}{w:World}{v:Value}{ls:List (SV U)}{x:Obv}(e:b7b.bk (.agg ls)=some x)(h:e7 U eT ρ Z w v (.agg ls)):e7 U eT ρ Z w v (.agg [.str x.Name,.int .i64 x.Start.Day.Year,.int .i64 x.Start.Day.Month,.int .i64 x.Start.Day.Date,.int .i64 x.Start.Hour,.int .i64 x.Start.Min,.int .i64 x.Start.D8,I4 x.Start.o7,I4 x.Start.UTC,.int .i64 x.a8P,.int .i64 x.To,.sl (N:=U) 64 x.b9]):=by obtain⟨cs,rfl,hl⟩:=h.E5;exact b7b.sv_ok (b7b.bk_ok (s:=.agg ls) hl e)
def b3W{ρ:p4}{Z:Nat->Prop}{w:World}{v:Value}{ls:List (SV U)}{x:V7}(e:y92.bk (.agg ls)=some x)(h:e7 U eT ρ Z w v (.agg ls)):e7 U eT ρ Z w v (.agg [.str x.ID,.sl (N:=U) 101 x.E2]):=by obtain⟨cs,rfl,hl⟩:=h.E5;exact y92.sv_ok (y92.bk_ok (s:=.agg ls) hl e)
def a7V{ρ:p4}{Z:Nat->Prop}{w:World}{v:Value}{ls:List (SV U)}{x:F3}(e:y38.bk (.agg ls)=some x)(h:e7 U eT ρ Z w v (.agg ls)):e7 U eT ρ Z w v (.agg [.str x.Kind,.str x.UID,.sl (N:=U) 92 x.c9,.int .i64 x.Main.Start.Time.Day.Year,.int .i64 x.Main.Start.Time.Day.Month,.int .i64 x.Main.Start.Time.Day.Date,.int .i64 x.Main.Start.Time.Hour,.int .i64 x.Main.Start.Time.Min,.int .i64 x.Main.Start.Time.D8,I4 x.Main.Start.Time.o7,I4 x.Main.Start.Time.UTC,.str x.Main.Start.D9,.sl (N:=U) 28 x.Main.End,.sl (N:=U) 3 x.Main.Span,.sl (N:=U) 64 x.Main.b9,.sl (N:=U) 28 x.Main.o5,.sl (N:=U) 28 x.Main.l5,.sl (N:=U) 28 x.Main.p8,.sl (N:=U) 136 x.Main.w6,.sl (N:=U) 86 x.Main.Extra,.sl (N:=U) 35 x.Over,.sl (N:=U) 86 x.Extra]):=by obtain⟨cs,rfl,hl⟩:=h.E5;exact y38.sv_ok (y38.bk_ok (s:=.agg ls) hl e)
def rbo:AR U eT Bool:=rB (E:=E0)
def r28:AR U eT E6:=y28.r (fun _=>⟨_,rfl⟩) (fun _=>rfl)
def d3w:AR U eT Obv:=b7b.r (fun _=>⟨_,rfl⟩) (fun _=>rfl)
def r92:AR U eT V7:=y92.r (fun _=>⟨_,rfl⟩) (fun _=>rfl)
def r35:AR U eT Q4:=y35.r (fun _=>⟨_,rfl⟩) (fun _=>rfl)
def r38:AR U eT F3:=y38.r (fun _=>⟨_,rfl⟩) (fun _=>rfl)
def r48:AR U eT Ins:=y48.r (fun _=>⟨_,rfl⟩) (fun _=>rfl)
def r86:AR U eT K8:=y86.r (fun _=>⟨_,rfl⟩) (fun _=>rfl)
def r26:AR U eT Tm:=y26.r (fun _=>⟨_,rfl⟩) (fun _=>rfl)
def r64:AR U eT Rl:=y64.r (fun _=>⟨_,rfl⟩) (fun _=>rfl)
attribute [local irreducible] j4
def d2r:Nat->D3:=fun|92=>⟨42,nn,nn⟩|_=>⟨0,nn,nn⟩
def Vgl(y:Int)(m:Int)(Q:Int->Prop):Prop:=
(bR (y<1∨9999<y) (Q 0) ((bR (m=2) ((4:Int)≠0/\(y.tmod (4:Int)=0->(100:Int)≠0)/\(y.tmod (4:Int)=0/\¬y.tmod (100:Int)≠0->(400:Int)≠0)/\(bR (y.tmod (4:Int)=0/\(y.tmod (100:Int)≠0∨y.tmod (400:Int)=0)) (Q 29) (Q 28))) ((bR (m=1) ((bR (m=1) (Q 31) ((bR (m=4) (Q 30) ((bR (m=6) (Q 30) ((bR (m=9) ((bR (m=9) (Q 30) (Q 0))) ((bR (m=11) (Q 30) (Q 0))))))))))) ((bR (m=3) ((bR (m=3) (Q 31) ((bR (m=4) (Q 30) ((bR (m=6) (Q 30) ((bR (m=9) ((bR (m=9) (Q 30) (Q 0))) ((bR (m=11) (Q 30) (Q 0))))))))))) ((bR (m=5) ((bR (m=5) (Q 31) ((bR (m=4) (Q 30) ((bR (m=6) (Q 30) ((bR (m=9) ((bR (m=9) (Q 30) (Q 0))) ((bR (m=11) (Q 30) (Q 0))))))))))) ((bR (m=7) ((bR (m=7) (Q 31) ((bR (m=4) (Q 30) ((bR (m=6) (Q 30) ((bR (m=9) ((bR (m=9) (Q 30) (Q 0))) ((bR (m=11) (Q 30) (Q 0))))))))))) ((bR (m=8) ((bR (m=8) (Q 31) ((bR (m=4) (Q 30) ((bR (m=6) (Q 30) ((bR (m=9) ((bR (m=9) (Q 30) (Q 0))) ((bR (m=11) (Q 30) (Q 0))))))))))) ((bR (m=10) ((bR (m=10) (Q 31) ((bR (m=4) (Q 30) ((bR (m=6) (Q 30) ((bR (m=9) ((bR (m=9) (Q 30) (Q 0))) ((bR (m=11) (Q 30) (Q 0))))))))))) ((bR (m=12) (Q 31) ((bR (m=4) (Q 30) ((bR (m=6) (Q 30) ((bR (m=9) ((bR (m=9) (Q 30) (Q 0))) ((bR (m=11) (Q 30) (Q 0))))))))))))))))))))))))))
set_option maxHeartbeats 2000000 in
def pgl(y:Int)(m:Int)  : Vgl y m (fun y0=>y0=E1 y m):=by
 unfold Vgl;refine⟨fun h=>by unfold E1;rw[if_pos h],fun h=>?_⟩;have e4:y.tmod 4=y%4:=d5L (by omega);have e100:y.tmod 100=y%100:=d5L (by omega);have e400:y.tmod 400=y%400:=d5L (by omega);rw[e4,e100,e400]
 repeat' (first|intro _|apply And.intro)
 all_goals (first|omega|(unfold E1;(repeat' split) <;> omega))
def cgl(a:List (SV U)):Option (Q1 U):=match a with|[.int .i64 y,.int .i64 m]=>some ⟨[],[],.int .i64 (E1 y m)⟩|_=>none
def Ngl:Env:=N0.B3 92 cgl
def Ngl_ok:c8 Ngl:=N0_ok.B3 Tryz.call92 fun(args:List (SV U)) (q:Q1 U) (h:cgl args=some q) ho=>by
 unfold cgl at h;split at h
 . rename_i y m;cases h;exact I1 (an:=d2r 92) N0_ok (inlHN_ok N0_ok H0_ok d2r 2) Tryz.func92 (k:=.int .i64) (x:=E1 y m) trivial (kc (pgl y m ) (by kernel_rfl)) 0
 . cases h
def c8Y:Nat->D3:=fun|136=>⟨16,nn,nn⟩|_=>⟨0,nn,nn⟩
def Vgf(a:Int)(b:Int)(Q:Int->Prop):Prop:=
b≠0/\c6 (a.tdiv b)/\b≠0/\(bR (a.tmod b<0) (c6 (a.tdiv b-1)/\Q (a.tdiv b-1)) (Q (a.tdiv b)))
def b8s(a:Int){b:Int}(h:0<b):a.tdiv b=a / b+(if a.tmod b<0 then 1 else 0)/\True:=by
 refine⟨?_,trivial⟩;have h1:=Int.tdiv_mul_add_tmod a b;have h2:=Int.ediv_mul_add_emod a b;have h3:=Int.emod_nonneg a (show b≠0 by omega);have h4:=Int.emod_lt_of_pos a h;have h5:a.tmod b<b:=d7S a h;have h6:-b<a.tmod b:=d8A a h;by_cases hc:a.tmod b<0
 . rw[if_pos hc];have e:(a.tdiv b-a / b)*b=a%b-a.tmod b:=by rw[d8Z];omega
   have g1:0<(a.tdiv b-a / b)*b:=by omega
   have g2:(a.tdiv b-a / b)*b<2*b:=by omega
   have g3:0<a.tdiv b-a / b:=Int.pos_of_mul_pos_left g1 (by omega);have g4:a.tdiv b-a / b<2:=d7G g2 (by omega);omega
 . rw[if_neg hc];have e:(a.tdiv b-a / b)*b=a%b-a.tmod b:=by rw[d8Z];omega
   have g1:-b<(a.tdiv b-a / b)*b:=by omega
   have g2:(a.tdiv b-a / b)*b<b:=by omega
   have g3:-1<a.tdiv b-a / b:=d7G (a:=b) (by omega) (by omega);have g4:a.tdiv b-a / b<1:=d7G (a:=b) (by omega) (by omega);omega
def pgf(a:Int)(b:Int)(h0:0<b)(h1:b<=100000)(h2:c6 (a / b))(h3:c6 (a / b+1)):Vgf a b (fun y0=>y0=a / b):=by
 unfold Vgf;obtain⟨q0,q1⟩:=b8s a h0;have i1:c6 (a.tdiv b):=by
  rw[q0];split
  . exact h3
  . rw[Int.add_zero];exact h2
 refine⟨by omega,i1,by omega,fun h=>?_,fun h=>?_⟩
 . have e:a.tdiv b-1=a / b:=by rw[q0,if_pos h];omega
   rw[e];exact⟨h2,rfl⟩
 . rw[q0,if_neg h];omega
def Ngf:Env:=Ngl.kL 136 (rI.c (rI.c .n)) (.int .i64) (fun y=>[0<y.2.1,y.2.1<=100000,c6 (y.1 / y.2.1),c6 (y.1 / y.2.1+1)]) (fun y=>y.1 / y.2.1)
def Ngf_ok:c8 Ngf:=Ngl_ok.kL Tryz.call136 Tryz.func136 (inlHN_ok Ngl_ok H0_ok c8Y 2) (an:=c8Y 136) (fun _ _=>trivial) fun y ho=>kc (pgf y.1 y.2.1 ho.1 ho.2.1 ho.2.2.1 ho.2.2.2.1) (by kernel_rfl)
def d2p:Nat->D3:=fun|209=>⟨9,nn,nn⟩|_=>⟨0,nn,nn⟩
def Vgw(n:Int)(Q:Int->Prop):Prop:=
(7:Int)≠0/\c6 (n.tmod (7:Int)+7)/\(7:Int)≠0/\c6 ((n.tmod (7:Int)+7).tmod (7:Int)+6)/\(7:Int)≠0/\Q (((n.tmod (7:Int)+7).tmod (7:Int)+6).tmod 7)
def pgw(n:Int)  : Vgw n (fun y0=>y0=wdS n):=by
 unfold Vgw wdS;have h1:n.tmod 7=n%7∨n.tmod 7=n%7-7/\n%7≠0:=by have h1:=Int.tdiv_mul_add_tmod n 7;have h5:n.tmod 7<7:=d7S n (by decide);have h6:-7<n.tmod 7:=d8A n (by decide);omega
 have e1:(n.tmod 7+7).tmod 7=(n.tmod 7+7)%7:=d5L (by omega);have e2:((n.tmod 7+7).tmod 7+6).tmod 7=((n.tmod 7+7).tmod 7+6)%7:=d5L (by omega);rw[e2,e1];exact⟨by decide,⟨by omega,by omega⟩,by decide,⟨by omega,by omega⟩,by decide,by omega⟩
def Ngw:Env:=Ngf.kL 209 (rI.c .n) (.int .i64) (fun _=>[]) (fun y=>wdS y.1)
def Ngw_ok:c8 Ngw:=Ngf_ok.kL Tryz.call209 Tryz.func209 (inlHN_ok Ngf_ok H0_ok d2p 2) (an:=d2p 209) (fun _ _=>trivial) fun y ho=>kc (pgw y.1 ) (by kernel_rfl)
def d1k:Nat->D3:=fun|135=>⟨74,nn,fun|8=>some ⟨[2],[.slot 0 (.int .i64),.slot 3 (.int .i64),.slot 4 (.int .i64)]⟩|12=>some ⟨[2],[.slot 0 (.int .i64),.slot 3 (.int .i64),.slot 4 (.int .i64),.slot 5 (.int .i64),.slot 6 (.int .i64)]⟩|14=>some ⟨[2],[.slot 0 (.int .i64),.slot 7 (.int .i64),.slot 8 (.int .i64)]⟩|_=>none⟩|_=>⟨0,nn,nn⟩
def b9y(n:Int):=bif false then max (((n+305).tmod 146097).tdiv 36524) 3 else min (((n+305).tmod 146097).tdiv 36524) 3
def b9C(x:Int):=bif false then max ((x.tmod 1461).tdiv 365) 3 else min ((x.tmod 1461).tdiv 365) 3
def Vgo(n:Int)(Q:Dy->Prop):Prop:=
(bR (n<1∨3652059<n) (Q (Dy.mk 0 0 0)) (c6 (n+305)/\(146097:Int)≠0/\c6 ((n+305).tdiv 146097)/\(146097:Int)≠0/\(36524:Int)≠0/\c6 (((n+305).tmod 146097).tdiv 36524)/\∃(J:Int->Int->Int->Prop),(c6 ((b9y n)*36524)/\c6 ((n+305).tmod (146097:Int)-(b9y n)*36524)/\J ((n+305).tmod (146097:Int)-(b9y n)*36524) ((n+305).tdiv 146097) (b9y n))/\∀(x x_1 x_2:Int),J x x_1 x_2->(1461:Int)≠0/\c6 (x.tdiv 1461)/\(1461:Int)≠0/\(365:Int)≠0/\c6 ((x.tmod 1461).tdiv 365)/\∃(J:Int->Int->Int->Int->Int->Prop),(c6 ((b9C x)*365)/\c6 (x.tmod (1461:Int)-(b9C x)*365)/\J (x.tmod (1461:Int)-(b9C x)*365) x_1 x_2 (x.tdiv 1461) (b9C x))/\∀(x x_3 x_4 x_5 x_6:Int),J x x_3 x_4 x_5 x_6->c6 ((400:Int)*x_3)/\c6 ((100:Int)*x_4)/\c6 ((400:Int)*x_3+100*x_4)/\c6 ((4:Int)*x_5)/\c6 ((400:Int)*x_3+100*x_4+4*x_5)/\c6 ((400:Int)*x_3+100*x_4+4*x_5+x_6)/\∃(J:Int->Int->Int->Prop),(c6 ((5:Int)*x)/\c6 ((5:Int)*x+2)/\(153:Int)≠0/\c6 (((5:Int)*x+2).tdiv 153)/\J x ((400:Int)*x_3+100*x_4+4*x_5+x_6) (((5:Int)*x+2).tdiv 153))/\∀(x x_7 x_8:Int),J x x_7 x_8->c6 ((153:Int)*x_8)/\c6 ((153:Int)*x_8+2)/\(5:Int)≠0/\c6 (((153:Int)*x_8+2).tdiv 5)/\c6 (x-((153:Int)*x_8+2).tdiv 5)/\c6 (x-((153:Int)*x_8+2).tdiv (5:Int)+1)/\c6 (x_8+3)/\(bR (12<x_8+3) (c6 (x_8+3-12)/\c6 (x_7+1)/\Q (Dy.mk (x_7+1) (x_8+3-12) (x-((153:Int)*x_8+2).tdiv (5:Int)+1))) (Q (Dy.mk x_7 (x_8+3) (x-((153:Int)*x_8+2).tdiv (5:Int)+1))))))
set_option maxHeartbeats 2000000 in
def pgo(n:Int)  : Vgo n (fun y0=>y0=A7 n):=by
 unfold Vgo b9C b9y;have b0:∀a b:Int,(bif false then max a b else min a b)=min a b:=fun _ _=>rfl;refine⟨fun h=>by unfold A7;rw[if_pos h],fun h=>?_⟩;have eo:A7 n=ofN (n+305):=by unfold A7;rw[if_neg h]
 rw[eo];obtain⟨⟨r1,r2⟩,⟨r3,r4⟩,⟨r5,r6⟩,⟨r7,r8⟩,r9,r10⟩:=d4H (n+305);have hN:0<=n+305/\n+305<=3652364:=by omega
 generalize n+305=N at *;have t1:N.tdiv 146097=N / 146097:=d5b (by omega);have t2:N.tmod 146097=N%146097:=d5L (by omega);have t3:(N%146097).tdiv 36524=N%146097 / 36524:=d5b (by omega);have t4:(o2 N).tdiv 1461=o2 N / 1461:=d5b (by omega);have t5:(o2 N).tmod 1461=o2 N%1461:=d5L (by omega);have t6:(o2 N%1461).tdiv 365=o2 N%1461 / 365:=d5b (by omega);have t7:(5*o4 N+2).tdiv 153=(5*o4 N+2) / 153:=d5b (by omega);have t8:(153*om N+2).tdiv 5=(153*om N+2) / 5:=d5b (by omega);rw[t1,t2,t3,b0];refine⟨⟨by omega,by omega⟩,by decide,⟨by omega,by omega⟩,by decide,by decide,⟨by omega,by omega⟩,fun a b c=>a=o2 N/\b=N / 146097/\c=oh N,⟨⟨by omega,by omega⟩,⟨by omega,by omega⟩,rfl,rfl,rfl⟩,?_⟩;rintro _ _ _ ⟨rfl,rfl,rfl⟩;rw[t4,t5,t6,b0];refine⟨by decide,⟨by omega,by omega⟩,by decide,by decide,⟨by omega,by omega⟩,fun a b c d e=>a=o4 N/\b=N / 146097/\c=oh N/\d=o2 N / 1461/\e=oo N,⟨⟨by omega,by omega⟩,⟨by omega,by omega⟩,rfl,rfl,rfl,rfl,rfl⟩,?_⟩;rintro _ _ _ _ _ ⟨rfl,rfl,rfl,rfl,rfl⟩;rw[t7];refine⟨⟨by omega,by omega⟩,⟨by omega,by omega⟩,⟨by omega,by omega⟩,⟨by omega,by omega⟩,⟨by omega,by omega⟩,⟨by omega,by omega⟩,fun a b c=>a=o4 N/\b=oy N/\c=om N,⟨⟨by omega,by omega⟩,⟨by omega,by omega⟩,by decide,⟨by omega,by omega⟩,rfl,rfl,rfl⟩,?_⟩;rintro _ _ _ ⟨rfl,rfl,rfl⟩;have hy:0<=oy N/\oy N<=20000:=by unfold oy;omega
 rw[t8];refine⟨⟨by omega,by omega⟩,⟨by omega,by omega⟩,by decide,⟨by omega,by omega⟩,⟨by omega,by omega⟩,⟨by omega,by omega⟩,⟨by omega,by omega⟩,fun h=>⟨⟨by omega,by omega⟩,⟨by omega,by omega⟩,?_⟩,fun h=>?_⟩
 . unfold ofN;rw[if_pos h]
 . unfold ofN;rw[if_neg h]
def Ngo:Env:=Ngw.kL 135 (rI.c .n) (.val 24) (fun _=>[]) (fun y=>A7 y.1)
def Ngo_ok:c8 Ngo:=Ngw_ok.kL Tryz.call135 Tryz.func135 (inlHN_ok Ngw_ok H0_ok d1k 2) (an:=d1k 135) (fun y ho=>⟨_,_,rfl,rfl,rfl⟩) fun y ho=>kc (pgo y.1 ) (by kernel_rfl)
def d2Z:Nat->D3:=fun|51=>⟨16,nn,nn⟩|_=>⟨0,nn,nn⟩
def Vgr(d:Dy)(Q:Bool->Prop):Prop:=
Q (decide (1<=d.Date/\d.Date<=E1 d.Year d.Month))
def pgr(d:Dy)  : Vgr d (fun y0=>y0=D6 d):=by unfold Vgr;rfl
def d4h(d:Dy):Q1 U:=⟨[],[],I4 (D6 d)⟩
def cgr(a:List (SV U)):Option (Q1 U):=match a with|[.agg [.int .i64 d0,.int .i64 d1,.int .i64 d2]]=>some (d4h (⟨d0,d1,d2⟩))|_=>none
def Ngr:Env:=Ngo.B3 51 cgr
def Ngr_ok:c8 Ngr:=Ngo_ok.B3 Tryz.call51 fun(args:List (SV U)) (q:Q1 U) (h:cgr args=some q) ho=>by
 unfold cgr at h;split at h
 . rename_i d0 d1 d2;cases h;exact I1 (an:=d2Z 51) Ngo_ok (inlHN_ok Ngo_ok H0_ok d2Z 2) Tryz.func51 (k:=.bool) (x:=D6 (⟨d0,d1,d2⟩:Dy)) trivial (kc (pgr (⟨d0,d1,d2⟩) ) (by kernel_rfl)) 0
 . cases h
def c9l:Nat->D3:=fun|94=>⟨33,nn,nn⟩|_=>⟨0,nn,nn⟩
def c6N(y:Int)(m:Int)(d:Int):=(365:Int)*(y-1)+(y-1) / (4:Int)-(y-1) / (100:Int)+(y-1) / (400:Int)+((153:Int)*(m+12-3)+2).tdiv (5:Int)+d-306
def c6Y(y:Int)(m:Int)(d:Int):=(365:Int)*y+y / (4:Int)-y / (100:Int)+y / (400:Int)+((153:Int)*(m-3)+2).tdiv (5:Int)+d-306
def Vgc(y:Int)(m:Int)(d:Int)(Q:Int->Prop):Prop:=
(bR (m<3) (c6 (y-1)/\c6 (m+12)/\c6 ((365:Int)*(y-1))/\(0:Int)<4/\(4:Int)<=100000/\c6 ((y-1) / (4:Int))/\c6 ((y-1) / (4:Int)+1)/\c6 ((365:Int)*(y-1)+(y-1) / (4:Int))/\(0:Int)<100/\(100:Int)<=100000/\c6 ((y-1) / (100:Int))/\c6 ((y-1) / (100:Int)+1)/\c6 ((365:Int)*(y-1)+(y-1) / (4:Int)-(y-1) / (100:Int))/\(0:Int)<400/\(400:Int)<=100000/\c6 ((y-1) / (400:Int))/\c6 ((y-1) / (400:Int)+1)/\c6 ((365:Int)*(y-1)+(y-1) / (4:Int)-(y-1) / (100:Int)+(y-1) / (400:Int))/\c6 (m+12-3)/\c6 ((153:Int)*(m+12-3))/\c6 ((153:Int)*(m+12-3)+2)/\(5:Int)≠0/\c6 (((153:Int)*(m+12-3)+2).tdiv 5)/\c6 ((365:Int)*(y-1)+(y-1) / (4:Int)-(y-1) / (100:Int)+(y-1) / (400:Int)+((153:Int)*(m+12-3)+2).tdiv 5)/\c6 ((365:Int)*(y-1)+(y-1) / (4:Int)-(y-1) / (100:Int)+(y-1) / (400:Int)+((153:Int)*(m+12-3)+2).tdiv (5:Int)+d)/\c6 (c6N y m d)/\Q (c6N y m d)) (c6 ((365:Int)*y)/\(0:Int)<4/\(4:Int)<=100000/\c6 (y / (4:Int))/\c6 (y / (4:Int)+1)/\c6 ((365:Int)*y+y / (4:Int))/\(0:Int)<100/\(100:Int)<=100000/\c6 (y / (100:Int))/\c6 (y / (100:Int)+1)/\c6 ((365:Int)*y+y / (4:Int)-y / (100:Int))/\(0:Int)<400/\(400:Int)<=100000/\c6 (y / (400:Int))/\c6 (y / (400:Int)+1)/\c6 ((365:Int)*y+y / (4:Int)-y / (100:Int)+y / (400:Int))/\c6 (m-3)/\c6 ((153:Int)*(m-3))/\c6 ((153:Int)*(m-3)+2)/\(5:Int)≠0/\c6 (((153:Int)*(m-3)+2).tdiv 5)/\c6 ((365:Int)*y+y / (4:Int)-y / (100:Int)+y / (400:Int)+((153:Int)*(m-3)+2).tdiv 5)/\c6 ((365:Int)*y+y / (4:Int)-y / (100:Int)+y / (400:Int)+((153:Int)*(m-3)+2).tdiv (5:Int)+d)/\c6 (c6Y y m d)/\Q (c6Y y m d)))
set_option maxHeartbeats 2000000 in
def pgc(y:Int)(m:Int)(d:Int)(y0:-100000<=y)(y1:y<=100000)(m0:1<=m)(m1:m<=12)(d0:-100000<=d)(d1:d<=100000):Vgc y m d (fun y0=>y0=J0 y m d):=by
 unfold Vgc c6Y c6N J0;have t1:(153*(m+12-3)+2).tdiv 5=(153*(m+12-3)+2) / 5:=d5b (by omega);refine⟨fun h=>?_,fun h=>?_⟩
 . rw[t1,if_pos h]
   repeat' apply And.intro
   all_goals first|rfl|omega
 . have t2:(153*(m-3)+2).tdiv 5=(153*(m-3)+2) / 5:=d5b (by omega);rw[t2,if_neg h]
   repeat' apply And.intro
   all_goals first|rfl|omega
def cgc(a:List (SV U)):Option (Q1 U):=match a with|[.int .i64 y,.int .i64 m,.int .i64 d]=>some ⟨[-100000<=y,y<=100000,1<=m,m<=12,-100000<=d,d<=100000],[],.int .i64 (J0 y m d)⟩|_=>none
def Ngc:Env:=Ngr.B3 94 cgc
def Ngc_ok:c8 Ngc:=Ngr_ok.B3 Tryz.call94 fun(args:List (SV U)) (q:Q1 U) (h:cgc args=some q) ho=>by
 unfold cgc at h;split at h
 . rename_i y m d;cases h;exact I1 (an:=c9l 94) Ngr_ok (inlHN_ok Ngr_ok H0_ok c9l 2) Tryz.func94 (k:=.int .i64) (x:=J0 y m d) trivial (kc (pgc y m d ho.1 ho.2.1 ho.2.2.1 ho.2.2.2.1 ho.2.2.2.2.1 ho.2.2.2.2.2.1) (by kernel_rfl)) 0
 . cases h
def d0Y:Nat->D3:=fun|93=>⟨7,nn,nn⟩|_=>⟨0,nn,nn⟩
def Vgt(d:Dy)(Q:o6->Prop):Prop:=
(bR (¬D6 (Dy.mk d.Year d.Month d.Date)=true) (Q (o6.no 3)) (Q o6.nil))
def T4(d:Dy):o6:=if G8 d then .nil else .no 3
def b29(d:Dy):T4 d=.nil∨∃n,T4 d=.no n:=by
 unfold T4;split
 . exact .inl rfl
 . exact .inr ⟨3,rfl⟩
def pgt(d:Dy)  : Vgt d (fun y0=>y0=T4 d):=by
 unfold Vgt T4;refine⟨fun h=>?_,fun h=>?_⟩
 . rw[if_neg (fun hr=>h (I2.2 hr))]
 . rw[if_pos (I2.1 (d4S.1 h))]
def d3f(d:Dy):Q1 U:=⟨[],[],.err (T4 d)⟩
def cgt(a:List (SV U)):Option (Q1 U):=match a with|[.agg [.int .i64 d0,.int .i64 d1,.int .i64 d2]]=>some (d3f (⟨d0,d1,d2⟩))|_=>none
def Ngt:Env:=Ngc.B3 93 cgt
def Ngt_ok:c8 Ngt:=Ngc_ok.B3 Tryz.call93 fun(args:List (SV U)) (q:Q1 U) (h:cgt args=some q) ho=>by
 unfold cgt at h;split at h
 . rename_i d0 d1 d2;cases h;exact I1 (an:=d0Y 93) Ngc_ok (inlHN_ok Ngc_ok H0_ok d0Y 2) Tryz.func93 (k:=.err) (x:=T4 (⟨d0,d1,d2⟩:Dy)) (b29 _) (kc (pgt (⟨d0,d1,d2⟩) ) (by kernel_rfl)) 0
 . cases h
def d1t:Nat->D3:=fun|53=>⟨14,nn,nn⟩|_=>⟨0,nn,nn⟩
def Vgn(d:Dy)(Q:Int->Prop):Prop:=
(bR ((T4 (Dy.mk d.Year d.Month d.Date)).is 3) (Q 0) ((-100000:Int)<=d.Year/\d.Year<=100000/\1<=d.Month/\d.Month<=12/\(-100000:Int)<=d.Date/\d.Date<=100000/\Q (J0 d.Year d.Month d.Date)))
def b2o{d:Dy}:(T4 d).is 3↔¬G8 d:=by
 unfold T4;split
 . rename_i h;exact⟨fun h'=>by simp[o6.is,o6.num]at h',fun h'=>absurd h h'⟩
 . rename_i h;exact⟨fun _=>h,fun _=>rfl⟩
def b2p{d:Dy}:T4 d≠o6.nil↔¬G8 d:=by
 unfold T4;split
 . rename_i h;exact⟨fun h'=>absurd rfl h',fun h'=>absurd h h'⟩
 . rename_i h;exact⟨fun _=>h,fun _ h'=>by cases h'⟩
def pgn(d:Dy)  : Vgn d (fun y0=>y0=u9 d):=by
 unfold Vgn u9;refine⟨fun h=>?_,fun h=>?_⟩
 . rw[if_neg (b2o.1 h)]
 . have hr:G8 d:=d4S.1 fun hn=>h (b2o.2 hn);obtain⟨y0,y1,m0,m1,d0,d1⟩:=hr.ym;rw[if_pos hr];exact⟨by omega,by omega,m0,m1,by omega,by omega,a2R m0 m1⟩
def d4t(d:Dy):Q1 U:=⟨[],[],.int .i64 (u9 d)⟩
def cgn(a:List (SV U)):Option (Q1 U):=match a with|[.agg [.int .i64 d0,.int .i64 d1,.int .i64 d2]]=>some (d4t (⟨d0,d1,d2⟩))|_=>none
def Ngn:Env:=Ngt.B3 53 cgn
def Ngn_ok:c8 Ngn:=Ngt_ok.B3 Tryz.call53 fun(args:List (SV U)) (q:Q1 U) (h:cgn args=some q) ho=>by
 unfold cgn at h;split at h
 . rename_i d0 d1 d2;cases h;exact I1 (an:=d1t 53) Ngt_ok (inlHN_ok Ngt_ok H0_ok d1t 2) Tryz.func53 (k:=.int .i64) (x:=u9 (⟨d0,d1,d2⟩:Dy)) trivial (kc (pgn (⟨d0,d1,d2⟩) ) (by kernel_rfl)) 0
 . cases h
def d0b:Nat->D3:=fun|194=>⟨13,nn,nn⟩|_=>⟨0,nn,nn⟩
def Vgy(d:Dy)(Q:Int->Prop):Prop:=
(bR (T4 (Dy.mk d.Year d.Month d.Date)≠o6.nil) (Q 0) (((-100000:Int)<=d.Year/\d.Year<=100000/\(1:Int)<=1/\(1:Int)<=12/\(-100000:Int)<=1/\(1:Int)<=100000)/\c6 (u9 (Dy.mk d.Year d.Month d.Date)-J0 d.Year 1 1)/\c6 (u9 (Dy.mk d.Year d.Month d.Date)-J0 d.Year 1 (1:Int)+1)/\Q (u9 (Dy.mk d.Year d.Month d.Date)-J0 d.Year 1 (1:Int)+1)))
def pgy(d:Dy)  : Vgy d (fun y0=>y0=ydS d):=by
 unfold Vgy ydS;refine⟨fun h=>?_,fun h=>?_⟩
 . rw[if_neg (b2p.1 h)]
 . have hr:G8 d:=d4S.1 fun hn=>h (b2p.2 hn);obtain⟨y0,y1,m0,m1,d0,d1⟩:=hr.ym;obtain⟨n0,n1⟩:=a03 hr;have a0:=E9 (show(0:Int)<=d.Year by omega);have a1:=E9 (show d.Year<=10000 by omega);have a2:v7 0=-366:=by decide
   have a3:v7 10000=3652059:=by decide
   have e:J0 d.Year 1 1=v7 d.Year+1:=by rw[a2R (by decide) (by decide)];unfold T7;rw[if_pos (by decide)];omega
   have en:u9 (Dy.mk d.Year d.Month d.Date)=M3 d:=by
    show u9 d=M3 d
    unfold u9;rw[if_pos hr]
   rw[if_pos hr,e,en];exact⟨⟨by omega,by omega,by decide,by decide,by decide,by decide⟩,⟨by omega,by omega⟩,⟨by omega,by omega⟩,by omega⟩
def d3M(d:Dy):Q1 U:=⟨[],[],.int .i64 (ydS d)⟩
def cgy(a:List (SV U)):Option (Q1 U):=match a with|[.agg [.int .i64 d0,.int .i64 d1,.int .i64 d2]]=>some (d3M (⟨d0,d1,d2⟩))|_=>none
def Ngy:Env:=Ngn.B3 194 cgy
def Ngy_ok:c8 Ngy:=Ngn_ok.B3 Tryz.call194 fun(args:List (SV U)) (q:Q1 U) (h:cgy args=some q) ho=>by
 unfold cgy at h;split at h
 . rename_i d0 d1 d2;cases h;exact I1 (an:=d0b 194) Ngn_ok (inlHN_ok Ngn_ok H0_ok d0b 2) Tryz.func194 (k:=.int .i64) (x:=ydS (⟨d0,d1,d2⟩:Dy)) trivial (kc (pgy (⟨d0,d1,d2⟩) ) (by kernel_rfl)) 0
 . cases h
def d0q:Nat->D3:=fun|206=>⟨16,nn,nn⟩|_=>⟨0,nn,nn⟩
def Vgb(y:Int)(f:Int)(Q:Int->Prop):Prop:=
(-100000:Int)<=y/\y<=100000/\(1:Int)<=1/\(1:Int)<=12/\(-100000:Int)<=4/\(4:Int)<=100000/\c6 (wdS (J0 y 1 4)-f)/\c6 (wdS (J0 y 1 4)-f+7)/\(7:Int)≠0/\c6 (J0 y 1 (4:Int)-(wdS (J0 y 1 4)-f+7).tmod 7)/\Q (J0 y 1 (4:Int)-(wdS (J0 y 1 4)-f+7).tmod 7)
def pgb(y:Int)(f:Int)(y0:0<=y)(y1:y<=10000)(f0:0<=f)(f1:f<=6):Vgb y f (fun y0=>y0=I7 y f):=by
 unfold Vgb I7;have e:J0 y 1 4=v7 y+4:=by rw[a2R (by decide) (by decide)];unfold T7;rw[if_pos (by decide)];omega
 have w0:0<=wdS (v7 y+4)/\wdS (v7 y+4)<=6:=by unfold wdS;omega
 have a0:=E9 (show(0:Int)<=y by omega);have a1:=E9 (show y<=10000 by omega);have a2:v7 0=-366:=by decide
 have a3:v7 10000=3652059:=by decide
 rw[e];generalize wdS (v7 y+4)=w at w0 ⊢;have t:(w-f+7).tmod 7=(w-f+7)%7:=d5L (by omega);rw[t];refine⟨by omega,by omega,by decide,by decide,by decide,by decide,⟨by omega,by omega⟩,⟨by omega,by omega⟩,by decide,⟨by omega,by omega⟩,rfl⟩
def cgb(a:List (SV U)):Option (Q1 U):=match a with|[.int .i64 y,.int .i64 f]=>some ⟨[0<=y,y<=10000,0<=f,f<=6],[],.int .i64 (I7 y f)⟩|_=>none
def Ngb:Env:=Ngy.B3 206 cgb
def Ngb_ok:c8 Ngb:=Ngy_ok.B3 Tryz.call206 fun(args:List (SV U)) (q:Q1 U) (h:cgb args=some q) ho=>by
 unfold cgb at h;split at h
 . rename_i y f;cases h;exact I1 (an:=d0q 206) Ngy_ok (inlHN_ok Ngy_ok H0_ok d0q 2) Tryz.func206 (k:=.int .i64) (x:=I7 y f) trivial (kc (pgb y f ho.1 ho.2.1 ho.2.2.1 ho.2.2.2.1) (by kernel_rfl)) 0
 . cases h
def d1P:Nat->D3:=fun|192=>⟨49,nn,nn⟩|_=>⟨0,nn,nn⟩
def Vgk(n:Int)(f:Int)(Q:Int->Int->Prop):Prop:=
(bR (((n<1∨3652059<n)∨f<0)∨6<f) (Q 0 0) (c6 ((A7 n).Year+1)/\0<=(A7 n).Year+1/\(A7 n).Year+1<=10000/\0<=f/\f<=6/\(bR (I7 ((A7 n).Year+1) f<=n) (c6 ((A7 n).Year+1)/\0<=(A7 n).Year+1/\(A7 n).Year+1<=10000/\0<=f/\f<=6/\c6 (n-I7 ((A7 n).Year+1) f)/\(7:Int)≠0/\c6 ((n-I7 ((A7 n).Year+1) f).tdiv 7)/\c6 ((n-I7 ((A7 n).Year+1) f).tdiv (7:Int)+1)/\Q ((A7 n).Year+1) ((n-I7 ((A7 n).Year+1) f).tdiv (7:Int)+1)) (0<=(A7 n).Year/\(A7 n).Year<=10000/\0<=f/\f<=6/\(bR (n<I7 (A7 n).Year f) (c6 ((A7 n).Year-1)/\0<=(A7 n).Year-1/\(A7 n).Year-1<=10000/\0<=f/\f<=6/\c6 (n-I7 ((A7 n).Year-1) f)/\(7:Int)≠0/\c6 ((n-I7 ((A7 n).Year-1) f).tdiv 7)/\c6 ((n-I7 ((A7 n).Year-1) f).tdiv (7:Int)+1)/\Q ((A7 n).Year-1) ((n-I7 ((A7 n).Year-1) f).tdiv (7:Int)+1)) (0<=(A7 n).Year/\(A7 n).Year<=10000/\0<=f/\f<=6/\c6 (n-I7 (A7 n).Year f)/\(7:Int)≠0/\c6 ((n-I7 (A7 n).Year f).tdiv 7)/\c6 ((n-I7 (A7 n).Year f).tdiv (7:Int)+1)/\Q (A7 n).Year ((n-I7 (A7 n).Year f).tdiv (7:Int)+1)))))))
set_option maxHeartbeats 2000000 in
def pgk(n:Int)(f:Int)  : Vgk n f (fun y0 y1=>y0=(R3 n f).1/\y1=(R3 n f).2):=by
 unfold Vgk R3;refine⟨fun h=>by rw[if_pos h];exact⟨rfl,rfl⟩,fun h=>?_⟩;rw[if_neg h];obtain⟨hr,hn⟩:=of_ok (n:=n) (by omega) (by omega);obtain⟨y0,y1,_⟩:=hr.ym;have hi:=a3H hr;rw[hn]at hi;unfold wkY;generalize (A7 n).Year=y at *;obtain⟨q0,q1⟩:=a2u (y+1) f;obtain⟨q2,q3⟩:=a2u y f;obtain⟨q4,q5⟩:=a2u (y-1) f;obtain⟨r0,r1⟩:=R4 (y:=y+1) (by omega) (by omega);obtain⟨r2,r3⟩:=R4 (y:=y) (by omega) (by omega);obtain⟨r4,r5⟩:=R4 (y:=y-1) (by omega) (by omega);have hs:=a1z (y-1);rw[show y-1+1=y by omega]at hs;have hs2:v7 (y-1)+365<=v7 y:=by split at hs <;> omega
 refine⟨⟨by omega,by omega⟩,by omega,by omega,by omega,by omega,fun h1=>?_,fun h1=>?_⟩
 . have t:(n-I7 (y+1) f).tdiv 7=(n-I7 (y+1) f) / 7:=d5b (by omega);rw[if_pos h1,t];exact⟨⟨by omega,by omega⟩,by omega,by omega,by omega,by omega,⟨by omega,by omega⟩,by decide,⟨by omega,by omega⟩,⟨by omega,by omega⟩,rfl,rfl⟩
 . rw[if_neg h1];refine⟨by omega,by omega,by omega,by omega,fun h2=>?_,fun h2=>?_⟩
   . have t:(n-I7 (y-1) f).tdiv 7=(n-I7 (y-1) f) / 7:=d5b (by omega);rw[if_pos h2,t];exact⟨⟨by omega,by omega⟩,by omega,by omega,by omega,by omega,⟨by omega,by omega⟩,by decide,⟨by omega,by omega⟩,⟨by omega,by omega⟩,rfl,rfl⟩
   . have t:(n-I7 y f).tdiv 7=(n-I7 y f) / 7:=d5b (by omega);rw[if_neg h2,t];exact⟨by omega,by omega,by omega,by omega,⟨by omega,by omega⟩,by decide,⟨by omega,by omega⟩,⟨by omega,by omega⟩,rfl,rfl⟩
def Ngk:Env:=Ngb.kM 192 (rI.c (rI.c .n)) (.int .i64) (.int .i64) (fun _=>[]) (fun y=>((R3 y.1 y.2.1).1:Int)) (fun y=>((R3 y.1 y.2.1).2:Int))
def Ngk_ok:c8 Ngk:=Ngb_ok.kM Tryz.call192 Tryz.func192 (inlHN_ok Ngb_ok H0_ok d1P 2) (an:=d1P 192) (fun _ _=>trivial) (fun _ _=>trivial) fun y ho=>kc (pgk y.1 y.2.1 ) (by kernel_rfl)
def d2O:Nat->D3:=fun|193=>⟨28,nn,nn⟩|_=>⟨0,nn,nn⟩
def Vgm(y:Int)(f:Int)(Q:Int->Prop):Prop:=
(bR (((y<1∨9999<y)∨f<0)∨6<f) (Q 0) (c6 (y+1)/\0<=y+1/\y+1<=10000/\0<=f/\f<=6/\0<=y/\y<=10000/\0<=f/\f<=6/\c6 (I7 (y+1) f-I7 y f)/\(7:Int)≠0/\c6 ((I7 (y+1) f-I7 y f).tdiv 7)/\Q ((I7 (y+1) f-I7 y f).tdiv 7)))
def pgm(y:Int)(f:Int)  : Vgm y f (fun y0=>y0=a0g y f):=by
 unfold Vgm a0g;refine⟨fun h=>by rw[if_pos h],fun h=>?_⟩;rw[if_neg h];obtain⟨q0,q1⟩:=a2u (y+1) f;obtain⟨q2,q3⟩:=a2u y f;obtain⟨r0,r1⟩:=R4 (y:=y+1) (by omega) (by omega);obtain⟨r2,r3⟩:=R4 (y:=y) (by omega) (by omega);have hs:=a1z y;have hs2:v7 y+365<=v7 (y+1):=by split at hs <;> omega
 have t:(I7 (y+1) f-I7 y f).tdiv 7=(I7 (y+1) f-I7 y f) / 7:=d5b (by omega);rw[t];exact⟨⟨by omega,by omega⟩,by omega,by omega,by omega,by omega,by omega,by omega,by omega,by omega,⟨by omega,by omega⟩,by decide,⟨by omega,by omega⟩,rfl⟩
def cgm(a:List (SV U)):Option (Q1 U):=match a with|[.int .i64 y,.int .i64 f]=>some ⟨[],[],.int .i64 (a0g y f)⟩|_=>none
def Ngm:Env:=Ngk.B3 193 cgm
def Ngm_ok:c8 Ngm:=Ngk_ok.B3 Tryz.call193 fun(args:List (SV U)) (q:Q1 U) (h:cgm args=some q) ho=>by
 unfold cgm at h;split at h
 . rename_i y f;cases h;exact I1 (an:=d2O 193) Ngk_ok (inlHN_ok Ngk_ok H0_ok d2O 2) Tryz.func193 (k:=.int .i64) (x:=a0g y f) trivial (kc (pgm y f ) (by kernel_rfl)) 0
 . cases h
def d3c:Env:=Ngm.z7 52 Tryz.f52
def NI52_ok:c8 d3c:=Ngm_ok.z7 Tryz.call52 Tryz.func52
def d0H:Nat->D3:=fun|24=>⟨42,nn,nn⟩|52=>⟨12,nn,nn⟩|_=>⟨0,nn,nn⟩
def Vwr(t:Tm)(Q:Bool->Prop):Prop:=
(bR (t.o7=true/\(((t.Hour≠0∨t.Min≠0)∨t.D8≠0)∨t.UTC=true)) (Q false) ((bR (D6 (Dy.mk t.Day.Year t.Day.Month t.Day.Date)=true) ((bR (0<=t.Hour/\t.Hour<=23) ((bR (0<=t.Min/\t.Min<=59) (Q (decide (0<=t.D8/\t.D8<=59))) (Q false))) (Q false))) (Q false))))
def pwr(t:Tm)  : Vwr t (fun y0=>y0=p9 t):=by
 unfold Vwr;have e:(Dy.mk t.Day.Year t.Day.Month t.Day.Date)=t.Day:=rfl;rw[e];refine⟨fun h=>?_,fun h=>⟨fun hd=>⟨fun hh=>⟨fun hm=>?_,fun hm=>?_⟩,fun hh=>?_⟩,fun hd=>?_⟩⟩
 . exact(d5q fun hr=>hr.2.2.2.2 h).symm
 . by_cases hs:0<=t.D8/\t.D8<=59
   . rw[d5e hs];exact(d5e ⟨I2.1 hd,hh,hm,hs,h⟩).symm
   . rw[d5q hs];exact(d5q fun hr=>hs hr.2.2.2.1).symm
 . exact(d5q fun hr=>hm hr.2.2.1).symm
 . exact(d5q fun hr=>hh hr.2.1).symm
 . exact(d5q fun hr=>hd (I2.2 hr.1)).symm
def Nwr:Env:=d3c.kL 24 (r26.c .n) (.bool) (fun _=>[]) (fun y=>p9 y.1)
def Nwr_ok:c8 Nwr:=NI52_ok.kL Tryz.call24 Tryz.func24 (inlHN_ok NI52_ok H0_ok d0H 2) (an:=d0H 24) (fun _ _=>trivial) fun y ho=>kc (pwr y.1 ) (by kernel_rfl)
end Go.Proofs.YtapnoejokajcoaaGreatDoor
