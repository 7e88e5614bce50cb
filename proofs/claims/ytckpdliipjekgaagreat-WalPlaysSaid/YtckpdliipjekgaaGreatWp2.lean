/- 16 texts, one behind the other. -/
import Derived.Test.YtckpdliipjekgaaGreatWp1
set_option linter.defProp false
set_option linter.unusedVariables false
set_option linter.unusedSimpArgs false
set_option maxRecDepth 100000
noncomputable section
def b3Y:=@Option.map_eq_some_iff
def b4R:=@decide_eq_true
def b4U:=@List.mem_singleton
def b5W:=@Int.fdiv_eq_ediv_of_nonneg
def b5Y:=@List.mem_append
def b6G:=@List.length_set
def b6I:=@List.take_append_drop
def b6M:=@Go.Value.slice.injEq
def b7B:=@Nat.add_sub_cancel_left
def b7O:=@List.set_append_left
def b7W:=@Bool.not_eq_true'
def b8J:=@List.cons.injEq
def b8N:=@List.set_set
def b8W:=@List.getElem_take
def b8Z:=@List.eraseIdx_append_of_lt_length
section
namespace Go.Wl
open Go Go.Wk
def W0 (sz:Nat) (w:World) (v:Value) (n:Nat) (F:List Value) (bs:List Nat):Prop :=
 (v=.slice none 0 0/\n=0/\F=[]/\bs=[]) ∨ ∃ b cap T R,v=.slice (some ⟨b,0,none⟩) n cap/\bs=[b]/\S8 w b T (F++R)/\(F++R).length=cap * sz/\n<=cap/\F.length=n * sz
def b96 (sz:Nat):Rd (List Value) where
 sz:=sz
 rd:=fun _ _ cs x=>cs=x/\x.length=sz/\x.all A2=true
 len:=fun h=>by rw [h.1]; exact h.2.1
 mono:=fun h _ _ _=>h
 plain:=fun h=>by rw [h.1]; exact h.2.2
def I6 (sz:Nat):Nat->List Value->List (List Value)
 | 0,_=>[]
 | n+1,F=>F.take sz::I6 sz n (F.drop sz)
theorem a1t {sz:Nat}:∀ {n:Nat} {F:List Value},F.length=n * sz->(I6 sz n F).flatten=F/\(I6 sz n F).length=n/\∀ c∈I6 sz n F,c.length=sz
 | 0,F,h=>by
  have:F=[]:=b4O (by simpa using h)
  subst this; exact ⟨rfl,rfl,fun c hc=>by cases hc⟩
 | n+1,F,h=>by
  have hn:F.length=n * sz+sz:=by rw [h,Nat.succ_mul]
  obtain ⟨h1,h2,h3⟩:=a1t (n:=n) (F:=F.drop sz) (sz:=sz) (by rw [b3W]; omega)
  refine ⟨by simp [I6,h1],by simp [I6,h2],fun c hc=>?_⟩
  rcases b4D.1 hc with rfl | hc
  . rw [b3U]; omega
  . exact h3 c hc
theorem b1o {sz:Nat}:∀ {n:Nat} {F:List Value} {c:List Value},c∈I6 sz n F->∀ v∈c,v∈F
 | 0,F,c,h,v,_=>by cases h
 | n+1,F,c,h,v,hv=>by
  rcases b4D.1 h with rfl | h
  . exact List.mem_of_mem_take hv
  . exact List.mem_of_mem_drop (b1o h v hv)
section
variable {sz n:Nat} {w w':World} {v:Value} {F:List Value} {bs:List Nat} {Z:Nat->Prop} {A:Option Addr} {cap:Nat}
theorem W0.ac (h:W0 sz w v n F bs) (hp:F.all A2=true):Ac (b96 sz) Z w v (I6 sz n F) bs:=by
 rcases h with ⟨rfl,rfl,rfl,rfl⟩ | ⟨b,cap,T,R,rfl,rfl,ho,hC,hn,hF⟩
 . exact .inl ⟨rfl,rfl,rfl⟩
 . obtain ⟨h1,h2,h3⟩:=a1t hF
   refine .inr ⟨b,cap,F++R,T,by rw [h2],rfl,ho,hC,by rw [h2]; exact hn,fun i hi=>⟨(I6 sz n F)[i],h3 _ (b5J _),fun j hj=>?_,rfl,h3 _ (b5J _),?_⟩⟩
   . have hlt:i * sz+j<F.length:=by
       rw [h2] at hi
       have:(i+1) * sz<=n * sz:=b4C _ hi
       rw [Nat.succ_mul] at this
       have hj:j<sz:=hj
       omega
     show (F++R)[i * sz+j]?=_
     rw [b3Z hlt]
     have:=F6 h3 i j hj
     rw [h1] at this
     rw [this,b3T hi]; rfl
   . exact b5A.2 fun v hv=>b5A.1 hp v (b1o (b5J _) v hv)
theorem W0.of {rows:List (List Value)} (h:Ac (b96 sz) Z w v rows bs):W0 sz w v rows.length rows.flatten bs/\rows.flatten.all A2=true:=by
 rcases h with ⟨rfl,rfl,rfl⟩ | ⟨b,cap,C,T,rfl,rfl,ho,hC,hn,hc⟩
 . exact ⟨.inl ⟨rfl,rfl,rfl,rfl⟩,rfl⟩
 . have hC:C.length=cap * sz:=hC
   have hl:∀ c∈rows,c.length=sz:=fun c hm=>by
    obtain ⟨i,hi,rfl⟩:=b4I hm
    obtain ⟨_,_,_,_,h3,_⟩:=hc i hi
    exact h3
   have hfl:=H6 hl
   have hle:rows.flatten.length<=C.length:=by rw [hfl,hC]; exact b4C _ hn
   have hCF:C=rows.flatten++C.drop rows.flatten.length:=by
    have:C.take rows.flatten.length=rows.flatten:=by
     refine b8V fun k=>?_
     by_cases hk:k<rows.flatten.length
     . rw [List.getElem?_take_of_lt hk]
       have hsz:0<sz:=by
        rcases b6Q sz with h | h
        . rw [hfl,h] at hk; omega
        . exact h
       have hd:k / sz<rows.length:=b6X (by rw [b7G,<- hfl]; exact hk)
       have hm:k % sz<sz:=b8D _ hsz
       have he:k / sz * sz+k % sz=k:=by rw [b7G]; exact b7U k sz
       obtain ⟨c,g1,g2,g3,_⟩:=hc (k / sz) hd
       have e1:=g2 (k % sz) hm
       have e2:=F6 hl (k / sz) (k % sz) hm
       have e1:C[k / sz * sz+k % sz]?=c[k % sz]? := e1
       rw [he] at e1 e2
       rw [e1,e2,b3T hd,g3]; rfl
     . rw [b6S (by rw [b3U]; omega),b6S (by omega)]
    rw [<- this]
    conv=>lhs; rw [<- b6I rows.flatten.length C]
    rw [this]
   refine ⟨.inr ⟨b,cap,T,C.drop rows.flatten.length,rfl,rfl,by rw [<- hCF]; exact ho,by rw [<- hCF]; exact hC,hn,hfl⟩,b5A.2 fun u hu=>?_⟩
   obtain ⟨c,hm,hu⟩:=b9Z.1 hu
   obtain ⟨i,hi,rfl⟩:=b4I hm
   obtain ⟨_,_,_,_,_,h4⟩:=hc i hi
   exact b5A.1 h4 u hu
theorem W0.lt (h:W0 sz w v n F bs):∀ b∈bs,b<w.heap.size:=by
 rcases h with ⟨_,_,_,rfl⟩ | ⟨b,cap,T,R,_,rfl,ho,_⟩
 . intro b hb; cases hb
 . intro b hb; obtain rfl:=b4U.1 hb; exact ho.lt
theorem W0.ext {B:List Nat} (h:W0 sz w v n F bs) (e:Ext B w w') (hB:∀ b∈B,b∈bs->w.heap.size<=b):W0 sz w' v n F bs:=by
 rcases h with h | ⟨b,cap,T,R,hv,rfl,ho,r⟩
 . exact .inl h
 . exact .inr ⟨b,cap,T,R,hv,rfl,ho.ext e (fun hm=>by have:=hB b hm (b4U.2 rfl); have:=ho.lt; omega),r⟩
theorem W0.cells (h:W0 sz w (.slice A n cap) n F bs) (hn:0<n):∃ b,A=some ⟨b,0,none⟩/\bs=[b]/\x9 w b 0 F:=by
 rcases h with ⟨_,h,_⟩ | ⟨b,cap',T,R,hv,rfl,ho,_⟩
 . omega
 . simp only [b6M] at hv
   refine ⟨b,hv.1,rfl,ho.a2X fun j hj=>?_⟩
   rw [b6J,b3Z hj]
theorem W0.b3I {α:Type} {r:Rd α} {xs:List α} (h:W0 sz w v n F bs) (ha:J5 r Z w (I6 sz n F) xs) (hx:xs.length=n) (hz:r.sz=sz):Ac r Z w v xs bs:=by
 rcases h with ⟨rfl,rfl,rfl,rfl⟩ | ⟨b,cap,T,R,rfl,rfl,ho,hC,hn,hF⟩
 . exact .inl ⟨rfl,b4O hx,rfl⟩
 . obtain ⟨h1,h2,h3⟩:=a1t hF
   obtain ⟨hl,hr⟩:=ha.get
   refine .inr ⟨b,cap,F++R,T,by rw [hx],rfl,ho,by rw [hz]; exact hC,by rw [hx]; exact hn,fun i hi=>?_⟩
   have hi':i<(I6 sz n F).length:=by omega
   refine ⟨(I6 sz n F)[i],by rw [hz]; exact h3 _ (b5J _),fun j hj=>?_,hr i hi hi'⟩
   rw [hz] at hj ⊢
   have hlt:i * sz+j<F.length:=by
    have:(i+1) * sz<=n * sz:=b4C _ (by omega)
    rw [Nat.succ_mul] at this
    omega
   rw [b3Z hlt]
   have:=F6 h3 i j hj
   rw [h1] at this
   rw [this,b3T hi']; rfl
theorem W0.take {k:Nat} (h:W0 sz w (.slice A n cap) n F bs) (hk:k<=n):W0 sz w (.slice A k cap) k (F.take (k * sz)) bs:=by
 have hm:k * sz<=n * sz:=b4C _ hk
 rcases h with ⟨e,h,rfl,rfl⟩ | ⟨b,cap',T,R,hv,rfl,ho,hC,hn,hF⟩
 . simp only [b6M] at e
   obtain ⟨rfl,_,rfl⟩:=e
   have:k=0:=by omega
   subst this; exact .inl ⟨rfl,rfl,by simp,rfl⟩
 . simp only [b6M] at hv
   obtain ⟨rfl,_,rfl⟩:=hv
   have e:F.take (k * sz)++(F.drop (k * sz)++R)=F++R:=by rw [<- b4L,b6I]
   exact .inr ⟨b,cap,T,F.drop (k * sz)++R,rfl,rfl,by rw [e]; exact ho,by rw [e]; exact hC,by omega,by rw [b3U]; omega⟩
end
abbrev iRw (sz:Nat) (v:Value) (n:Nat) (F:List Value) (bs O:List Nat):It:=⟨bs,O,fun _ w=>W0 sz w v n F bs⟩
theorem sRw {sz n:Nat} {v:Value} {F:List Value} {bs O:List Nat}:(iRw sz v n F bs O).a2B:=fun Z Z' B w w' h e hB _=>h.ext e (fun b hb hm=>hB b hb (.inl hm))
theorem a9a:∀ (c F R:List Value) (o:Nat),o+c.length<=F.length->x7 (F++R) o c=x7 F o c++R
 | [],F,R,o,_=>rfl
 | v::c,F,R,o,h=>by
  simp only [b4F] at h
  show x7 ((F++R).set o v) (o+1) c=x7 (F.set o v) (o+1) c++R
  rw [b7O _ _ (by omega)]
  exact a9a c (F.set o v) R (o+1) (by rw [b6G]; omega)
section
variable {P:Program} {n:Nat} {ops:List Oper} {Q:Exit->Fr->World->Prop} {rest:List Oper} {f:Fr} {w w0:World} {d:Nat} {Z:Nat->Prop} {B0:List Nat} {L:List It}
variable {ty T E S:TypeId} {pos:String} {after:Array Edge} {x y:Operand} {k:IntKind} {i:Int} {sz m cap:Nat} {A:Option Addr} {F:List Value} {bs O:List Nat}
theorem c31 {b o mm:Nat} {c:List Value} (hs:Sep B0 w0 Z w L) (j:Nat) (hj:L[j]?=some (iRw sz (.slice (some ⟨b,0,none⟩) m cap) m F bs O)) (hz:∀ w,(sizeOf T).run P w=.ok mm w) (hx:ev f x=.pointer (some ⟨b,o,none⟩)) (hc:(ev f y).cells.toList=c) (hm:c.length=mm) (hl:o+mm<=F.length) (hp:c.all A2=true)
  (K:∀ w',Sep B0 w0 Z w' (L.set j (iRw sz (.slice (some ⟨b,0,none⟩) m cap) m (x7 F o c) bs O))->WL P false n ops Q rest f w') :
  WL P false n ops Q (⟨none,.store T x y,ty,pos,after,none⟩::rest) f w:=by
 have hr:W0 sz w (.slice (some ⟨b,0,none⟩) m cap) m F bs:=hs.at j hj
 rcases hr with ⟨e,_⟩ | ⟨b',cap',T',R,hv,rfl,ho,hC,hn,hF⟩
 . cases e
 . simp only [b6M,b3N,b9R] at hv
   obtain ⟨⟨rfl,_,_⟩,_,rfl⟩:=hv
   refine b5d hz hx hc hm ho (by rw [b3P]; omega) hp fun w' e _ ho'=>K w' (hs.upd j hj e ?_ sRw (fun x hx=>⟨.inl hx,by have:=hs.lt j hj x hx; have:=e.size; omega⟩) rfl)
   rw [a9a c F R o (by omega)] at ho'
   refine .inr ⟨b,cap,T',R,rfl,rfl,ho',?_,hn,?_⟩
   . rw [b3P,E9,<- b3P]; exact hC
   . rw [E9]; exact hF
theorem c2w {len:Nat} {ps:Array (Nat×Operand)} {vs:List (Nat×Value)} {zv:Value} {cs:List Value} (hs:Sep B0 w0 Z w L) (hT:∀ w,(underlying T).run P w=.ok (.slice E) w) (hE:∀ w,(sizeOf E).run P w=.ok sz w) (hz:∀ w,(zeroValue E).run P w=.ok zv w)
  (hv:ps.toList.map (fun p=>(p.1,ev f p.2))=vs) (hlen:vs.length=len) (hord:W6 0 vs=true) (hsz:vs.all (fun p=>Nat.beq p.2.cells.size sz)=true) (hcs:(vs.flatMap fun p=>p.2.cells.toList)=cs) (hcl:cs.length=len * sz) (hsmall:Nat.ble (len * sz) 16777216=true) (hn:Nat.blt d n=true)
  (K:∀ b w',Sep B0 w0 Z w' (iRw sz (.slice (some ⟨b,0,none⟩) len len) len cs [b] []::L)->WL P false n ops Q rest (upd f d (.slice (some ⟨b,0,none⟩) len len)) w') :
  WL P false n ops Q (⟨some d,.buildSlice T len ps,ty,pos,after,none⟩::rest) f w :=
 a4p hT hE hz hv hlen hord hsz hcs hsmall hn fun b w' e h1 h2 ho=>K b w' (hs.add e (.inr ⟨b,len,E,[],rfl,rfl,by rw [b4M]; exact ho.z,by rw [b4M]; exact hcl,b4H _,hcl⟩) sRw (fun x hx=>by simp at hx; subst hx; omega) rfl)
end
end Go.Wl
end
section
namespace Go.Rx
open Go Go.Wk Go.Wl
structure Ty1 where
 α:Type
 r:Rd α
 i:Inhabited α
structure Ob1 where
 β:Type
 ob:Nat->Ob β
structure Uni where
 tb:Nat->Ty1
 oj:Nat->Ob1
abbrev Uni.U (N:Uni) (t:Nat):Type:=(N.tb t).α
abbrev Uni.O (N:Uni) (k:Nat):Type:=(N.oj k).β
instance Uni.inh (N:Uni) (t:Nat):Inhabited (N.U t):=(N.tb t).i
inductive Err
 | nil
 | no (n:Int)
 | fault (a n:Int)
 | w (t:Nat) (s:Str) (e:Err)
 | p (t:Nat) (s:Str) (n:Int)
 deriving DecidableEq,Inhabited
def Err.n0:Err->Int
 | .no n=>n
 | _=>0
inductive SV (N:Uni):Type
 | un
 | undef
 | int (k:IntKind) (x:Int)
 | byte (c:UInt8)
 | tt
 | ff
 | bl (p:Prop) (d:Decidable p)
 | str (s:Str)
 | con (v:Value)
 | a1K
 | sl (t:Nat) (l:List (N.U t))
 | ref (id off:Nat)
 | acc (id:Nat)
 | el (id t:Nat) (i:Int) (off:Nat)
 | fel (t:Nat) (l:List (N.U t)) (i:Int) (off:Nat)
 | sub (id t:Nat) (lo n:Int)
 | agg (vs:List (SV N))
 | tup (vs:List (SV N))
 | err (e:Err)
 | ifc (t:Nat) (v:SV N)
 | fn (K:Nat)
 | clo (K:Nat) (vs:List (SV N))
 | yld (id:Nat)
inductive Item (N:Uni):Type
 | own (T:Nat) (cells:List (SV N))
 | ac (t:Nat) (l:List (N.U t))
 | fz (t:Nat) (l:List (N.U t))
 | ob (k fid:Nat) (x:N.O k)
 | rw (t n:Nat) (cells:List (SV N))
abbrev o7 (N:Uni):=List (Nat×SV N)
abbrev a7 (N:Uni):=List (Nat×Item N)
structure St (N:Uni) where
 slots:o7 N
 gs:List (Nat×Nat×Bool×SV N)
 items:a7 N
 nx:Nat
section
variable {β:Type}
def lk:List (Nat×β)->Nat->Option β
 | [],_=>none
 | p::r,j=>bif Nat.beq p.1 j then some p.2 else lk r j
def rmv:List (Nat×β)->Nat->List (Nat×β)
 | [],_=>[]
 | p::r,j=>bif Nat.beq p.1 j then r else p::rmv r j
def a1w:List (Nat×β)->Nat->β->List (Nat×β)
 | [],_,_=>[]
 | p::r,j,x=>bif Nat.beq p.1 j then (p.1,x)::r else p::a1w r j x
end
def cj:List Prop->Prop->Prop
 | [],r=>r
 | p::ps,r=>p/\cj ps r
def im:List Prop->Prop->Prop
 | [],r=>r
 | p::ps,r=>p->im ps r
variable {N:Uni}
def leaves:SV N->List (SV N)
 | .agg vs=>vs
 | v=>[v]
def d2a:Value->SV N
 | .int k n=>match k with | .u8=>.byte (UInt8.ofNat n.toNat) | k=>.int k n
 | .bool b=>match b with | true=>.tt | false=>.ff
 | .string b=>.str b.data.toList
 | .slice none 0 0=>.a1K
 | .nilIface=>.err .nil
 | v=>.con v
def okc:Value->Bool
 | .int k n=>match k with | .i64=>decide (-9223372036854775808<=n) && decide (n<=9223372036854775807) | .u8=>decide (0<=n) && decide (n<256) | _=>true
 | .string b=>Nat.ble b.data.toList.length 9223372036854775807
 | .agg _=>false
 | .tuple _=>false
 | _=>true
def d8h (v:Value):SV N:=bif okc v then d2a v else .un
def cst:Value->SV N
 | .agg cs=>bif cs.toList.all okc then .agg (cs.toList.map d2a) else .un
 | v=>d8h v
structure Q1 (N:Uni) where
 ob:List Prop
 hy:List Prop
 v:SV N
def q0 (v:SV N):Option (Q1 N):=some ⟨[],[],v⟩
abbrev i6 (x:Int):Prop:=-9223372036854775808<=x/\x<=9223372036854775807
def bln (p:Prop) [d:Decidable p]:Option (Q1 N):=some ⟨[],[],.bl p d⟩
def G1 (op:BinOp) (k:IntKind) (a b:Int):Option (Q1 N) :=
 match op with
 | .add=>match k with | .i64=>some ⟨[i6 (a+b)],[],.int .i64 (a+b)⟩ | k=>q0 (.int k (k.wrap (a+b)))
 | .sub=>match k with | .i64=>some ⟨[i6 (a-b)],[],.int .i64 (a-b)⟩ | k=>q0 (.int k (k.wrap (a-b)))
 | .mul=>match k with | .i64=>some ⟨[i6 (a * b)],[],.int .i64 (a * b)⟩ | k=>q0 (.int k (k.wrap (a * b)))
 | .quo=>match k with | .i64=>some ⟨[b≠0,i6 (a.tdiv b)],[],.int .i64 (a.tdiv b)⟩ | k=>some ⟨[b≠0],[],.int k (k.wrap (a.tdiv b))⟩
 | .rem=>some ⟨[b≠0],[],.int k (a.tmod b)⟩
 | .shr=>some ⟨[0<=b],[],.int k (a.fdiv (2 ^ min b.toNat k.bits))⟩
 | .shl=>some ⟨[0<=b],[],.int k (k.wrap (a * 2 ^ min b.toNat k.bits))⟩
 | .and=>q0 (.int k (k.wrap (BitVec.ofInt k.bits a &&& BitVec.ofInt k.bits b).toNat))
 | .or=>q0 (.int k (k.wrap (BitVec.ofInt k.bits a ||| BitVec.ofInt k.bits b).toNat))
 | .xor=>q0 (.int k (k.wrap (BitVec.ofInt k.bits a ^^^ BitVec.ofInt k.bits b).toNat))
 | .eql=>bln (a=b)
 | .neq=>bln (a≠b)
 | .lss=>bln (a<b)
 | .leq=>bln (a<=b)
 | .gtr=>bln (b<a)
 | .geq=>bln (b<=a)
 | .andNot=>none
def L6 (op:BinOp) (a b:UInt8):Option (Q1 N) :=
 match op with
 | .add=>q0 (.byte (a+b))
 | .sub=>q0 (.byte (a-b))
 | .and=>q0 (.byte (a &&& b))
 | .eql=>bln (a=b)
 | .neq=>bln (a≠b)
 | .lss=>bln (a<b)
 | .leq=>bln (a<=b)
 | .gtr=>bln (b<a)
 | .geq=>bln (b<=a)
 | _=>none
def a52 (op:BinOp) (a b:Str):Option (Q1 N) :=
 match op with
 | .add=>some ⟨[a.length+b.length<=9223372036854775807],[],.str (a++b)⟩
 | .eql=>bln (a=b)
 | .neq=>bln (a≠b)
 | _=>none
def a1d:SV N->Option ((p:Prop) ×' Decidable p)
 | .tt=>some ⟨True,.isTrue trivial⟩
 | .ff=>some ⟨False,.isFalse id⟩
 | .bl p d=>some ⟨p,d⟩
 | _=>none
def b2d:BinOp->Bool
 | .shl=>true
 | .shr=>true
 | _=>false
def b8g (op:BinOp) (k k':IntKind) (a b:Int):Option (Q1 N):=bif b2d op then G1 op k a b else (if k=k' then G1 op k a b else none)
def b3d (op:BinOp) (a:Err):Option (Q1 N) :=
 match op with
 | .eql=>bln (a=.nil)
 | .neq=>bln (a≠.nil)
 | _=>none
def a1j (op:BinOp) (z:Bool):Option (Q1 N) :=
 match op with
 | .eql=>q0 (bif z then .tt else .ff)
 | .neq=>q0 (bif z then .ff else .tt)
 | _=>none
def a4o (op:BinOp) (p q:Prop) (_:Decidable p) (_:Decidable q):Option (Q1 N) :=
 match op with
 | .eql=>bln (p↔q)
 | .neq=>bln (¬ (p↔q))
 | _=>none
inductive VK
 | int (k:IntKind)
 | byte
 | bool
 | str
 | err
 | sl (t:Nat)
 | acc (t:Nat)
 | val (t:Nat)
 | a0U
inductive TK
 | v (k:VK)
 | to (j:Nat)
 | a0U
 | any
inductive TP
 | own (s:Option Nat) (T:Nat) (ks:List TK)
 | ob (s:Option Nat) (k:Nat)
def TP.kept:TP->Option Nat
 | .own s _ _=>s
 | .ob s _=>s
inductive LV
 | slot (s:Nat) (k:VK)
 | own (s:Nat) (ks:List VK)
 | ob (s:Nat) (k:Nat)
 | cont (s t:Nat)
 | chain (s n T:Nat) (ks:List VK)
 | rows (s n t:Nat) (ks:List VK)
 | tree (ss:List (Nat×Nat)) (ps:List TP)
 | alt
 | unr (n:Nat)
end Go.Rx
end
section
namespace Go.Rx
open Go Go.Wk Go.Wl
structure Loc where
 b:Nat
 A:Option Addr
 n:Nat
 cap:Nat
 bs:List Nat
abbrev r9:=Nat->Option Loc
structure O9 where
 no:Nat
 fp:Nat
 fs:Nat
 wr:Nat->Option Nat
 wp:Nat->Option Nat:=fun _=>none
def e6k (T:O9) (k:Nat) (s:Str) (n:Int):Value:=match k with
 | 0=>.agg #[sv s,.int .i64 n]
 | 1=>.agg #[.int .i64 n]
 | 2=>.agg #[.iface T.no (.int .i64 n)]
 | _=>.agg #[]
inductive a5z (T:O9) (Z:Nat->Prop) (w:World):Value->Err->Prop
 | nil:a5z T Z w .nilIface .nil
 | no {n:Int} (h:InI n):a5z T Z w (.iface T.no (.int .i64 n)) (.no n)
 | fault {b:Nat} {a n:Int} (hz:Z b) (ho:Own w b T.fs [.int .i64 a,.int .i64 n]) (ha:InI a) (hn:InI n) (h0:T.fp≠0):a5z T Z w (.iface T.fp (.pointer (some ⟨b,0,none⟩))) (.fault a n)
 | w {t k:Nat} {s:Str} {n:Int} (ht:T.wr t=some k) (hn:InI n) (hk:3<=k->n=(k:Int)-3):a5z T Z w (.iface t (e6k T k s n)) (.w t s (.no n))
 | p {t S b:Nat} {s:Str} {n:Int} (ht:T.wp t=some S) (hz:Z b) (ho:Own w b S [sv s,.iface T.no (.int .i64 n)]) (hn:InI n):a5z T Z w (.iface t (.pointer (some ⟨b,0,none⟩))) (.p t s n)
inductive Rep (N:Uni) (T:O9) (ρ:r9) (Z:Nat->Prop) (w:World):Value->SV N->Prop
 | un {v:Value}:Rep N T ρ Z w v .un
 | undef:Rep N T ρ Z w Go.undef .undef
 | int {k:IntKind} {x:Int} (h:k=.i64->InI x):Rep N T ρ Z w (.int k x) (.int k x)
 | byte {c:UInt8}:Rep N T ρ Z w (bv c) (.byte c)
 | tt:Rep N T ρ Z w (.bool true) .tt
 | ff:Rep N T ρ Z w (.bool false) .ff
 | bl {p:Prop} {d:Decidable p}:Rep N T ρ Z w (.bool (@decide p d)) (.bl p d)
 | str {s:Str} (h:s.length<=9223372036854775807):Rep N T ρ Z w (sv s) (.str s)
 | con {v:Value} (h:A2 v=true):Rep N T ρ Z w v (.con v)
 | a1K:Rep N T ρ Z w (.slice none 0 0) .a1K
 | sl {v:Value} {t:Nat} {l:List (N.U t)} (h:(q9 (N.tb t).r).rd Z w [v] l):Rep N T ρ Z w v (.sl t l)
 | ref {id off:Nat} {L:Loc} (h:ρ id=some L):Rep N T ρ Z w (.pointer (some ⟨L.b,off,none⟩)) (.ref id off)
 | acc {id:Nat} {L:Loc} (h:ρ id=some L):Rep N T ρ Z w (.slice L.A L.n L.cap) (.acc id)
 | el {id t off:Nat} {i:Int} {L:Loc} (h:ρ id=some L) (h0:0<=i) (h1:i<L.n):Rep N T ρ Z w (.pointer (some (eA L.A (i.toNat * (N.tb t).r.sz+off)))) (.el id t i off)
 | fel {t off:Nat} {l:List (N.U t)} {i:Int} {A:Option Addr} {cap:Nat} (h:(q9 (N.tb t).r).rd Z w [.slice A l.length cap] l) (h0:0<=i) (h1:i<l.length):Rep N T ρ Z w (.pointer (some (eA A (i.toNat * (N.tb t).r.sz+off)))) (.fel t l i off)
 | a2W {id t c:Nat} {lo n:Int} {A:Option Addr} {L:Loc} (h:ρ id=some L) (h0:0<=lo) (h1:0<=n) (h2:lo+n<=L.n) (hc:c=L.cap-lo.toNat) (hA:A=if L.cap=lo.toNat then L.A else L.A.map (·.add (lo.toNat * (N.tb t).r.sz))):Rep N T ρ Z w (.slice A n.toNat c) (.sub id t lo n)
 | a2M:Rep N T ρ Z w (.agg #[]) (.agg [])
 | a1V {v:Value} {cs:List Value} {s:SV N} {ss:List (SV N)} (h:Rep N T ρ Z w v s) (hp:A2 v=true) (r:Rep N T ρ Z w (.agg cs.toArray) (.agg ss)):Rep N T ρ Z w (.agg (v::cs).toArray) (.agg (s::ss))
 | a1O:Rep N T ρ Z w (.tuple #[]) (.tup [])
 | a1F {v:Value} {cs:List Value} {s:SV N} {ss:List (SV N)} (h:Rep N T ρ Z w v s) (r:Rep N T ρ Z w (.tuple cs.toArray) (.tup ss)):Rep N T ρ Z w (.tuple (v::cs).toArray) (.tup (s::ss))
 | err {v:Value} {e:Err} (h:a5z T Z w v e):Rep N T ρ Z w v (.err e)
 | ifc {t:Nat} {v:Value} {s:SV N} (h:Rep N T ρ Z w v s):Rep N T ρ Z w (.iface t v) (.ifc t s)
 | fn {K:Nat}:Rep N T ρ Z w (.func (.func K) #[] #[]) (.fn K)
 | clo {K:Nat} {cs:List Value} {ss:List (SV N)} (r:Rep N T ρ Z w (.agg cs.toArray) (.agg ss)):Rep N T ρ Z w (.func (.func K) #[] cs.toArray) (.clo K ss)
 | yld {id:Nat} {L:Loc} (h:ρ id=some L):Rep N T ρ Z w (.func (.yield L.b) #[] #[]) (.yld id)
def j8 (N:Uni) (T:O9) (ρ:r9) (Z:Nat->Prop) (w:World) (cs:List Value) (ss:List (SV N)):Prop:=Rep N T ρ Z w (.agg cs.toArray) (.agg ss)
section
variable {N:Uni} {T:O9} {ρ ρ':r9} {Z Z':Nat->Prop} {w w':World} {v:Value} {s:SV N} {cs:List Value} {ss:List (SV N)}
theorem j8.nil:j8 N T ρ Z w [] []:=Rep.a2M
theorem toArray_inj {α:Type} {a b:List α} (h:a.toArray=b.toArray):a=b:=by simpa using h
theorem j8.cons_inv (h:j8 N T ρ Z w cs (s::ss)):∃ v r,cs=v::r/\Rep N T ρ Z w v s/\A2 v=true/\j8 N T ρ Z w r ss:=by
 unfold j8 at h
 generalize e:Value.agg cs.toArray=a at h
 cases h with
 | a1V h hp r=>exact ⟨_,_,toArray_inj (by simpa using e),h,hp,r⟩
theorem j8.a0Q (h:j8 N T ρ Z w cs []):cs=[]:=by
 unfold j8 at h
 generalize e:Value.agg cs.toArray=a at h
 cases h with
 | a2M=>simp_all
theorem Rep.a1J (h:Rep N T ρ Z w v (.agg ss)):∃ cs:List Value,v=.agg cs.toArray/\j8 N T ρ Z w cs ss:=by
 cases h with
 | a2M=>exact ⟨[],rfl,Rep.a2M⟩
 | a1V h hp r=>exact ⟨_,rfl,Rep.a1V h hp r⟩
theorem Rep.a2Y {ss:List (SV N)} (h:Rep N T ρ Z w v (.tup ss)):∃ cs:List Value,v=.tuple cs.toArray:=by
 cases h with
 | a1O=>simp_all
 | a1F h r=>simp_all
theorem Rep.a0H {cs:List Value} (h:Rep N T ρ Z w (.tuple cs.toArray) (.tup (s::ss))):∃ v r,cs=v::r/\Rep N T ρ Z w v s/\Rep N T ρ Z w (.tuple r.toArray) (.tup ss):=by
 generalize e:Value.tuple cs.toArray=a at h
 cases h with
 | a1F h r=>grind
theorem j8.len (h:j8 N T ρ Z w cs ss):cs.length=ss.length:=by
 induction ss generalizing cs with
 | nil=>rw [j8.a0Q h]; rfl
 | cons s ss ih=>obtain ⟨v,r,rfl,_,_,h⟩:=j8.cons_inv h; simp [ih h]
theorem j8.get (h:j8 N T ρ Z w cs ss):∀ (i:Nat) (s:SV N),ss[i]?=some s->∃ v,cs[i]?=some v/\Rep N T ρ Z w v s/\A2 v=true:=by
 induction ss generalizing cs with
 | nil=>simp_all
 | cons s ss ih =>
  obtain ⟨v,r,rfl,h1,hp,h⟩:=j8.cons_inv h
  grind
theorem j8.plain (h:j8 N T ρ Z w cs ss):cs.all A2=true:=by
 induction ss generalizing cs with
 | nil=>rw [j8.a0Q h]; rfl
 | cons s ss ih=>obtain ⟨v,r,rfl,_,hp,h⟩:=j8.cons_inv h; grind
theorem a5z.a1L {e:Err} (h:a5z T Z w v e) {B:List Nat} (x:Ext B w w') (hB:∀ b∈B,Z b->w.heap.size<=b) (hZ:∀ b,Z b->b<w.heap.size->Z' b):a5z T Z' w' v e:=by
 cases h with
 | nil=>exact .nil
 | no h=>exact .no h
 | fault hz ho ha hn h0=>exact .fault (hZ _ hz ho.lt) (ho.ext x (fun hm=>by have:=hB _ hm hz; have:=ho.lt; omega)) ha hn h0
 | w h1 h2 h3=>exact .w h1 h2 h3
 | p ht hz ho hn=>exact .p ht (hZ _ hz ho.lt) (ho.ext x (fun hm=>by have:=hB _ hm hz; have:=ho.lt; omega)) hn
theorem Rep.a1L (h:Rep N T ρ Z w v s) {B:List Nat} (x:Ext B w w') (hB:∀ b∈B,Z b->w.heap.size<=b) (hZ:∀ b,Z b->b<w.heap.size->Z' b) (hρ:∀ i L,ρ i=some L->ρ' i=some L):Rep N T ρ' Z' w' v s:=by
 induction h with
 | un=>exact .un
 | undef=>exact .undef
 | int h=>exact .int h
 | byte=>exact .byte
 | tt=>exact .tt
 | ff=>exact .ff
 | bl=>exact .bl
 | str h=>exact .str h
 | con h=>exact .con h
 | a1K=>exact .a1K
 | sl h=>exact .sl (Rd.mono _ h x hB hZ)
 | ref h=>exact .ref (hρ _ _ h)
 | acc h=>exact .acc (hρ _ _ h)
 | el h h0 h1=>exact .el (hρ _ _ h) h0 h1
 | fel h h0 h1=>exact .fel (Rd.mono _ h x hB hZ) h0 h1
 | a2W h a b c d e=>exact .a2W (hρ _ _ h) a b c d e
 | a2M=>exact .a2M
 | a1V h hp r ih1 ih2=>exact .a1V ih1 hp ih2
 | a1O=>exact .a1O
 | a1F h r ih1 ih2=>exact .a1F ih1 ih2
 | err h=>exact .err (h.a1L x hB hZ)
 | ifc h ih=>exact .ifc ih
 | fn=>exact .fn
 | clo r ih=>exact .clo ih
 | yld h=>exact .yld (hρ _ _ h)
theorem Rep.sub (h:Rep N T ρ Z w v s) (hρ:∀ i L,ρ i=some L->ρ' i=some L):Rep N T ρ' Z w v s:=h.a1L (Ext.refl [] w) (fun _ hb=>by cases hb) (fun _ h _=>h) hρ
theorem Rep.a2T (h:Rep N T ρ Z w v s) (hZ:∀ b,Z b->Z' b):Rep N T ρ Z' w v s:=h.a1L (Ext.refl [] w) (fun _ hb=>by cases hb) (fun b h _=>hZ b h) (fun _ _ h=>h)
theorem Rep.lower {ρ0:r9} {Z0:Nat->Prop} {w0:World} {v0:Value} (h:Rep N T ρ Z w v s) (h0:Rep N T ρ0 Z0 w0 v0 s) (hρ:∀ i L,ρ0 i=some L->ρ i=some L):Rep N T ρ0 Z w v s:=by
 induction h generalizing v0 with
 | un=>exact .un
 | undef=>exact .undef
 | int h=>exact .int h
 | byte=>exact .byte
 | tt=>exact .tt
 | ff=>exact .ff
 | bl=>exact .bl
 | str h=>exact .str h
 | con h=>exact .con h
 | a1K=>exact .a1K
 | sl h=>exact .sl h
 | ref h=>cases h0 with | ref h'=>have:=hρ _ _ h'; rw [h] at this; cases this; exact .ref h'
 | acc h=>cases h0 with | acc h'=>have:=hρ _ _ h'; rw [h] at this; cases this; exact .acc h'
 | el h a b=>cases h0 with | el h' _ _=>have:=hρ _ _ h'; rw [h] at this; cases this; exact .el h' a b
 | fel h a b=>exact .fel h a b
 | a2W h a b c d e=>cases h0 with | a2W h' _ _ _ _ _=>have:=hρ _ _ h'; rw [h] at this; cases this; exact .a2W h' a b c d e
 | a2M=>exact .a2M
 | a1V h hp r ih1 ih2=>cases h0 with | a1V h' _ r'=>exact .a1V (ih1 h') hp (ih2 r')
 | a1O=>exact .a1O
 | a1F h r ih1 ih2=>cases h0 with | a1F h' r'=>exact .a1F (ih1 h') (ih2 r')
 | err h=>exact .err h
 | ifc h ih=>cases h0 with | ifc h'=>exact .ifc (ih h')
 | fn=>exact .fn
 | clo r ih=>cases h0 with | clo r'=>exact .clo (ih r')
 | yld h=>cases h0 with | yld h'=>have:=hρ _ _ h'; rw [h] at this; cases this; exact .yld h'
end
structure TyI (N:Uni) (T:O9) (t:Nat) where
 sv:N.U t->SV N
 bk:SV N->Option (N.U t)
 sv_ok:∀ {ρ:r9} {Z:Nat->Prop} {w:World} {cs:List Value} {x:N.U t},(N.tb t).r.rd Z w cs x->j8 N T ρ Z w cs (leaves (sv x))
 bk_ok:∀ {ρ:r9} {Z:Nat->Prop} {w:World} {cs:List Value} {s:SV N} {x:N.U t},j8 N T ρ Z w cs (leaves s)->bk s=some x->(N.tb t).r.rd Z w cs x
 hy:N.U t->List Prop:=fun _=>[]
 hy_ok:∀ {Z:Nat->Prop} {w:World} {cs:List Value} {x:N.U t},(N.tb t).r.rd Z w cs x->∀ p∈hy x,p:=by intros; contradiction
 by8:Option (PLift (N.tb t=⟨UInt8,n5,⟨0⟩⟩)):=none
end Go.Rx
end
section
namespace Go.Rx
open Go Go.Wk Go.Wl
section
variable {N:Uni}
def b6q (f:Nat->Option Nat):SV N->Option (SV N)
 | .ref id off=>(f id).map fun j=>.ref j off
 | .acc id=>(f id).map fun j=>.acc j
 | .el id t i off=>(f id).map fun j=>.el j t i off
 | .sub id t lo n=>(f id).map fun j=>.sub j t lo n
 | .ifc _ _=>none
 | .agg _=>none
 | .tup _=>none
 | .clo _ _=>none
 | .yld id=>(f id).map fun j=>.yld j
 | v=>some v
def a5d (f:Nat->Option Nat):List (SV N)->Option (List (SV N))
 | []=>some []
 | v::r=>match b6q f v,a5d f r with | some v',some r'=>some (v'::r') | _,_=>none
def d3b (f:Nat->Option Nat):SV N->Option (SV N)
 | .agg vs=>(a5d f vs).map fun vs=>.agg vs
 | .clo K vs=>(a5d f vs).map fun vs=>.clo K vs
 | v=>b6q f v
def a98 (f:Nat->Option Nat):List (SV N)->Option (List (SV N))
 | []=>some []
 | v::r=>match d3b f v,a98 f r with | some v',some r'=>some (v'::r') | _,_=>none
def c90 (f:Nat->Option Nat):SV N->Option (SV N)
 | .tup vs=>(a98 f vs).map fun vs=>.tup vs
 | v=>d3b f v
def c4d (f:Nat->Option Nat):Item N->Option (Item N)
 | .own T cells=>(a5d f cells).map fun vs=>.own T vs
 | .ac t l=>some (.ac t l)
 | .fz t l=>some (.fz t l)
 | .ob k fid x=>(f fid).map fun j=>.ob k j x
 | .rw t n cells=>(a5d f cells).map fun vs=>.rw t n vs
def b0r (f:Nat->Option Nat):a7 N->Option (a7 N)
 | []=>some []
 | p::r=>match f p.1,c4d f p.2,b0r f r with | some i,some it,some r'=>some ((i,it)::r') | _,_,_=>none
def c5i:SV N->List Nat
 | .ref id _=>[id]
 | .acc id=>[id]
 | .el id _ _ _=>[id]
 | .sub id _ _ _=>[id]
 | .yld id=>[id]
 | _=>[]
def a8w:SV N->List Nat
 | .agg vs=>vs.flatMap c5i
 | .clo _ vs=>vs.flatMap c5i
 | v=>c5i v
def e6j:Item N->List Nat
 | .own _ cells=>cells.flatMap c5i
 | .rw _ _ cells=>cells.flatMap c5i
 | _=>[]
def reach (its:a7 N):Nat->List Nat->List Nat->List Nat
 | 0,_,d=>d
 | _+1,[],d=>d
 | n+1,i::r,d=>bif d.elem i then reach its n r d else reach its n ((match lk its i with | some it=>e6j it | none=>[])++r) (d++[i])
def d5h (its:a7 N) (i:Nat):Option Nat:=match lk its i with | some (.ob _ f _)=>some f | _=>none
def E8 (its:a7 N) (ids:List Nat):List (Option Nat):=ids.map some++ids.map (d5h its)
def a0r:List (Option Nat)->Nat->Nat->Option Nat
 | [],_,_=>none
 | o::r,n,i=>match o with | some j=>bif Nat.beq j i then some n else a0r r (n+1) i | none=>a0r r (n+1) i
def a66 (nm:List (Option Nat)) (nx:Nat) (j:Nat):Option Nat:=match nm[j]? with | some o=>o | none=>some (nx+(j-nm.length))
def c2l (its:a7 N) (f:Nat->Option Nat):Nat->List Nat->Option (a7 N)
 | _,[]=>some []
 | p,i::r=>match lk its i with
  | some it=>(match c4d f it,c2l its f (p+1) r with | some it',some l=>some ((p,it')::l) | _,_=>none)
  | none=>none
abbrev PT (N:Uni):=(SV N->a7 N->Nat->Prop)->Prop
abbrev GC (N:Uni):=List (SV N)->a7 N->Option (PT N)
end
structure FR (N:Uni) where
 ob:List Prop
 hy:List Prop
 v:SV N
 its:a7 N
 n:Nat
structure FC (N:Uni) where
 fz:List Nat
 ss:List (List LV)
 C:List (SV N)->a7 N->Option (FR N)
end Go.Rx
end
section
namespace Go.Rx
open Go Go.Wk Go.Wl
structure CR (N:Uni) where
 ob:List Prop
 hy:List Prop
 r:SV N
 its:List (Item N)
def u5 (N:Uni) (ρ:r9) (id:Nat):Item N->List Nat
 | .fz _ _=>[]
 | .ob _ fid _=>(match ρ fid with | some L=>L.bs | none=>[])
 | _=>match ρ id with | some L=>L.bs | none=>[]
def holds (N:Uni) (T:O9) (ρ:r9) (id:Nat) (Z:Nat->Prop) (w:World):Item N->Prop
 | .own Ty cells=>∃ L cs,ρ id=some L/\L.bs=[L.b]/\Own w L.b Ty cs/\j8 N T ρ Z w cs cells
 | .ac t l=>∃ L,ρ id=some L/\L.n=l.length/\l.length<=9223372036854775807/\Ac (N.tb t).r Z w (.slice L.A L.n L.cap) l L.bs
 | .fz t l=>∃ L,ρ id=some L/\L.n=l.length/\(q9 (N.tb t).r).rd Z w [.slice L.A L.n L.cap] l
 | .ob k fid x=>∃ L Lf,ρ id=some L/\ρ fid=some Lf/\((N.oj k).ob L.b).is Z w x Lf.bs
 | .rw t n cells=>∃ L F,ρ id=some L/\L.n=n/\n<=1000000/\(0<n->L.A=some ⟨L.b,0,none⟩)/\W0 (N.tb t).r.sz w (.slice L.A n L.cap) n F L.bs/\j8 N T ρ Z w F cells
def H2 (N:Uni) (T:O9) (ρ:r9) (B0:List Nat) (id:Nat) (i:Item N):It:=⟨u5 N ρ id i,B0,fun Z w=>holds N T ρ id Z w i⟩
def s6 (N:Uni) (T:O9) (ρ:r9) (B0:List Nat) (l:a7 N):List It:=l.map fun p=>H2 N T ρ B0 p.1 p.2
def number {β:Type}:Nat->List β->List (Nat×β)
 | _,[]=>[]
 | n,x::r=>(n,x)::number (n+1) r
def n6:List Prop->Prop
 | []=>True
 | p::ps=>p/\n6 ps
structure a0w where
 is:(Nat->Prop)->World->Prop
 a1L:∀ {Z Z':Nat->Prop} {B:List Nat} {w w':World},is Z w->Ext B w w'->(∀ b∈B,Z b->w.heap.size<=b)->(∀ b,Z b->b<w.heap.size->Z' b)->is Z' w'
structure S9 (P:Program) (N:Uni) (T:O9) (G:a0w) (K:Nat) (args:List (SV N)) (nx:Nat) (c:CR N):Prop where
 run:∀ (ρ:r9) (Z:Nat->Prop) (w:World) (vs:List Value),(∀ i,nx<=i->ρ i=none)->(∀ b,Z b->b<w.heap.size)->G.is Z w->Rep N T ρ Z w (.tuple vs.toArray) (.tup args) ->
  A6 P K vs w (fun v w'=>∃ (ρ':r9) (Z':Nat->Prop),(∀ i L,ρ i=some L->ρ' i=some L)/\(∀ i,nx+c.its.length<=i->ρ' i=none)/\(∀ b,Z b->Z' b)/\(∀ b,Z' b->Z b ∨ w.heap.size<=b)/\Rep N T ρ' Z' w' v c.r/\Sep [] w Z' w' (s6 N T ρ' [] (number nx c.its))/\n6 c.hy)
structure OR (N:Uni) (k:Nat) where
 ob:List Prop
 hy:List Prop
 r:SV N
 x:N.O k
structure OC (N:Uni) where
 k:Nat
 C:N.O k->List (SV N)->Option (OR N k)
structure WR (N:Uni) where
 ob:List Prop
 hy:List Prop
 r:SV N
 x:Int
structure WC (N:Uni) where
 T:Nat
 S:Nat
 C:SV N->Int->Option (WR N)
structure Env where
 P:Program
 N:Uni
 T:O9
 ty:∀ t,Option (TyI N T t)
 zob:Nat->Option ((k:Nat)×N.O k)
 con:Nat->Option (List (SV N)->Nat->Option (CR N))
 a1Y:Nat->Bool
 obc:Nat->Option (OC N)
 inl:Nat->Option Func
 G:a0w
 wrc:Nat->Option (WC N)
 rws:Nat->Bool:=fun _=>false
 fnc:Nat->Option (FC N):=fun _=>none
 roc:Nat->Option (List (SV N)->a7 N->Option (Q1 N)):=fun _=>none
 yl:Option (OC N):=none
variable (E:Env)
abbrev Env.SV (E:Env):=Go.Rx.SV E.N
abbrev Env.St (E:Env):=Go.Rx.St E.N
def Env.a0S (t:Nat):Option Nat:=match E.P.underlying t with | some (.slice e)=>some e | _=>none
def Env.isStr (t:Nat):Bool:=match E.P.underlying t with | some .string=>true | _=>false
def Env.isBool (t:Nat):Bool:=match E.P.underlying t with | some .bool=>true | _=>false
def Env.a3I (t:Nat):Bool:=match E.P.underlying t with | some (.pointer _)=>true | _=>false
def Env.isIface (t:Nat):Bool:=match E.P.underlying t with | some (.interface _)=>true | _=>false
def Env.intOf (t:Nat):Option IntKind:=match E.P.underlying t with | some (.int k)=>some k | _=>none
def Env.a3C (t:Nat):Option Bool:=match E.P.underlying t with | some (.struct _)=>some true | some (.array _ _)=>some true | some _=>some false | none=>none
def Env.size (t:Nat):Option Nat:=(E.P.info? t).map (·.size)
def Env.bytes (t:Nat):Option Nat:=(E.P.info? t).map (·.bytes)
def Env.a3E (e t:Nat):Bool:=match E.size e with | some s=>Nat.beq s (E.N.tb t).r.sz | none=>false
def Env.fld (t i:Nat):Option (Nat×Nat):=match E.P.underlying t with | some (.struct fs)=>(match fs[i]? with | some f=>(match E.size f.type with | some s=>some (f.offset,s) | none=>none) | none=>none) | _=>none
def Env.b3B (t:Nat):Option (List (Nat×Nat)):=match E.P.underlying t with | some (.struct fs)=>fs.toList.mapM (fun f=>(E.size f.type).map fun s=>(f.offset,s)) | _=>none
def Env.zeroV (t:Nat):Option Value:=(E.P.info? t).bind (·.zero)
def Env.zero (t:Nat):Option E.SV:=(E.zeroV t).map cst
variable {E:Env}
def V6 {N:Uni} {t t':Nat} (h:t=t') (l:List (N.U t)):List (N.U t'):=h ▸ l
def bytesOf (E:Env) (t:Nat) (l:List (E.N.U t)):Option Str:=match E.ty t with
 | some y=>match y.by8 with | some h=>some (cast (by rw [Uni.U,h.down]) l) | none=>none
 | none=>none
def ofBytes (E:Env) (t:Nat) (s:Str):Option (List (E.N.U t)):=match E.ty t with
 | some y=>match y.by8 with | some h=>some (cast (by rw [Uni.U,h.down]) s) | none=>none
 | none=>none
def asL (E:Env) (t:Nat):E.SV->Option (List (E.N.U t))
 | .a1K=>some []
 | .sl t' l=>if h:t'=t then some (V6 h l) else none
 | _=>none
def nrm (its:a7 E.N):E.SV->E.SV
 | .acc id=>match lk its id with | some (.fz t l)=>.sl t l | _=>.acc id
 | v=>v
def part (E:Env) (ls:List E.SV) (off T:Nat):Option E.SV:=match E.a3C T with
 | some true=>(match E.size T with | some n=>bif Nat.ble (off+n) ls.length then some (.agg ((ls.drop off).take n)) else none | none=>none)
 | some false=>ls[off]?
 | none=>none
def c32 (its:a7 E.N):E.SV->Option Int
 | .sl _ l=>some l.length
 | .a1K=>some 0
 | .acc id=>match lk its id with | some (.ac _ l)=>some l.length | some (.rw _ n _)=>some (n:Int) | _=>none
 | .sub id _ _ n=>match lk its id with | some (.ac _ _)=>some n | _=>none
 | _=>none
def lenOf (its:a7 E.N) (T:Nat) (v:E.SV):Option Int:=bif E.isStr T then (match v with | .str s=>some s.length | _=>none) else bif (E.a0S T).isSome then c32 its v else none
def flat:E.SV->Bool
 | .un=>false
 | .undef=>false
 | .tup _=>false
 | _=>true
def a1A (E:Env):List E.SV->Nat->List E.SV->List E.SV
 | ls,_,[]=>ls
 | ls,o,v::r=>a1A E (ls.set o v) (o+1) r
def b3q (E:Env) (fs:List (Nat×Nat)) (f:Operand->E.SV):List (Nat×Operand)->List E.SV->Option (List E.SV)
 | [],ls=>some ls
 | p::r,ls=>match fs[p.1]? with
  | some (o,n)=>bif flat (f p.2) && Nat.beq (leaves (f p.2)).length n && Nat.ble (o+n) ls.length then b3q E fs f r (a1A E ls o (leaves (f p.2))) else none
  | none=>none
def isC:Operand->Bool
 | .const _=>true
 | _=>false
def a9k (E:Env) (t:Nat) (a b:E.SV):Option ((p:Prop) ×' Decidable p):=match a with
 | .int k x=>(match b with | .int k' y=>(match E.intOf t with | some _=>if k=k' then some ⟨x=y,inferInstance⟩ else none | none=>none) | _=>none)
 | .str s=>(match b with | .str u=>bif E.isStr t then some ⟨s=u,inferInstance⟩ else none | _=>none)
 | _=>none
def e2e (E:Env) (op:BinOp) (T:Nat) (ls ms:List E.SV):Option (Q1 E.N):=match E.P.underlying T with
 | some (.struct fs)=>(match fs.toList,ls,ms with
  | [f0,f1],[a0,a1],[b0,b1]=>bif !E.P.stoodInHeld T && !E.P.eqGuardType E.P.depth T && f0.name != "_" && f1.name != "_" && Nat.beq f0.offset 0 && Nat.beq f1.offset 1 then (match a9k E f0.type a0 b0,a9k E f1.type a1 b1 with
   | some ⟨p,_⟩,some ⟨q,_⟩=>(match op with | .eql=>bln (p/\q) | .neq=>bln (¬ (p/\q)) | _=>none)
   | _,_=>none) else none
  | _,_,_=>none)
 | _=>none
abbrev PD:=(p:Prop) ×' Decidable p
def b9u (E:Env) (t:Nat) (a b:E.SV):Option PD:=match a9k E t a b with
 | some r=>some r
 | none=>bif E.isBool t then (match a1d a,a1d b with | some ⟨p,_⟩,some ⟨q,_⟩=>some ⟨p↔q,inferInstance⟩ | _,_=>none) else none
def d3n (E:Env) (rec:Nat->E.SV->E.SV->Option PD) (ls ms:List E.SV):List Field->Option PD
 | []=>some ⟨True,inferInstance⟩
 | f::r=>bif f.name != "_" then (match part E ls f.offset f.type,part E ms f.offset f.type with
  | some a,some b=>(match rec f.type a b,d3n E rec ls ms r with
   | some ⟨p,_⟩,some ⟨q,_⟩=>some ⟨p/\q,inferInstance⟩
   | _,_=>none)
  | _,_=>none) else none
def c0w (E:Env):Nat->Nat->E.SV->E.SV->Option PD
 | 0,_,_,_=>none
 | n+1,T,a,b=>(match a,b with
  | .agg ls,.agg ms=>(match E.P.underlying T with
   | some (.struct fs)=>bif E.P.stoodInHeld T then none else d3n E (c0w E n) ls ms fs.toList
   | _=>none)
  | a,b=>b9u E T a b)
def e0o (E:Env) (op:BinOp) (T:Nat) (ls ms:List E.SV):Option (Q1 E.N):=match e2e E op T ls ms with
 | some q=>some q
 | none=>bif E.P.eqGuardType E.P.depth T then none else (match c0w E 4 T (.agg ls) (.agg ms) with
  | some ⟨p,_⟩=>(match op with | .eql=>bln p | .neq=>bln (¬ p) | _=>none)
  | none=>none)
def W9 (op:BinOp) (ob:List Prop) (z:Bool):Option (Q1 E.N) :=
 match op with
 | .eql=>some ⟨ob,[],bif z then .tt else .ff⟩
 | .neq=>some ⟨ob,[],bif z then .ff else .tt⟩
 | _=>none
def d8k (E:Env) (op:BinOp) (T:Nat) (cy:Bool) (x y:E.SV):Option (Q1 E.N) :=
 match x with
 | .int k a=>(match y with | .int k' b=>b8g op k k' a b | _=>none)
 | .byte a=>(match y with | .byte b=>L6 op a b | _=>none)
 | .str a=>(match y with | .str b=>a52 op a b | _=>none)
 | .err a=>(match y with | .err b=>(match b with | .nil=>bif cy && E.isIface T then b3d op a else none | _=>none) | _=>none)
 | .ref _ _=>(match y with | .con v=>(match v with | .pointer a=>(match a with | none=>bif E.a3I T then a1j op false else none | _=>none) | _=>none) | _=>none)
 | .con u=>(match y with | .con v=>(match u,v with | .pointer a,.pointer b=>(match a,b with | none,none=>bif E.a3I T then a1j op true else none | _,_=>none) | _,_=>none) | _=>none)
 | .agg ls=>(match y with | .agg ms=>e0o E op T ls ms | _=>none)
 | .a1K=>(match y with | .a1K=>bif (E.a0S T).isSome then W9 op [] true else none | _=>none)
 | .sl _ l=>(match y with | .a1K=>bif (E.a0S T).isSome then W9 op [l≠[]] false else none | _=>none)
 | x=>bif E.isBool T then (match a1d x,a1d y with
  | some ⟨p,d⟩,some ⟨q,e⟩=>a4o op p q d e
  | _,_=>none) else none
def qUn (op:UnOp):E.SV->Option (Q1 E.N)
 | .tt=>match op with | .not=>q0 .ff | _=>none
 | .ff=>match op with | .not=>q0 .tt | _=>none
 | .bl p _=>match op with | .not=>bln (¬ p) | _=>none
 | .int k a=>match op,k with | .neg,.i64=>some ⟨[i6 (0-a)],[],.int .i64 (0-a)⟩ | .xor,k=>q0 (.int k (k.wrap (BitVec.ofInt k.bits (if k.signed then -1 else k.max) ^^^ BitVec.ofInt k.bits a).toNat)) | _,_=>none
 | _=>none
def a7w (i:Nat):E.SV->Option (Q1 E.N)
 | .tup vs=>match vs[i]? with | some v=>q0 v | none=>none
 | _=>none
def b86 (E:Env) (T fi:Nat):E.SV->Option (Q1 E.N)
 | .agg ls=>match E.P.underlying T with
  | some (.struct fs)=>(match fs[fi]? with | some fd=>(match part E ls fd.offset fd.type with | some v=>q0 v | none=>none) | none=>none)
  | _=>none
 | _=>none
def a3t (E:Env) (its:a7 E.N) (T:Nat) (i x:E.SV):Option (Q1 E.N):=match E.a0S T with
 | some e=>(match x with
  | .sl t l=>(match i with | .int _ a=>bif E.a3E e t then some ⟨[0<=a,a<l.length],[],.fel t l a 0⟩ else none | _=>none)
  | .acc id=>(match i,lk its id with | .int _ a,some (.ac t l)=>bif E.a3E e t then some ⟨[0<=a,a<l.length],[],.el id t a 0⟩ else none | .int _ a,some (.rw t n _)=>bif E.a3E e t then some ⟨[0<=a,a<(n:Int)],[],.ref id (a.toNat * (E.N.tb t).r.sz)⟩ else none | _,_=>none)
  | .sub id t lo n=>(match i,lk its id with | .int _ a,some (.ac _ _)=>bif E.a3E e t then some ⟨[0<=a,a<n],[],.el id t (lo+a) 0⟩ else none | _,_=>none)
  | _=>none)
 | none=>none
def a3g (o:Nat):E.SV->Option (Q1 E.N)
 | .ref id off=>q0 (.ref id (off+o))
 | .fel t l i off=>q0 (.fel t l i (off+o))
 | .el id t i off=>q0 (.el id t i (off+o))
 | _=>none
def qEl (E:Env) (t:Nat) (l:List (E.N.U t)) (i:Int) (off T:Nat):Option (Q1 E.N):=match E.ty t with
 | some y=>match part E (leaves (y.sv (ix l i))) off T with | some v=>some ⟨[],y.hy (ix l i),v⟩ | none=>none
 | none=>none
def c0d (its:a7 E.N) (T:Nat):E.SV->Option (Q1 E.N)
 | .ref id off=>match lk its id with
  | some (.own _ cells)=>match part E cells off T with | some v=>q0 v | none=>none
  | some (.rw _ n cells)=>bif Nat.blt 0 n then (match part E cells off T with | some v=>q0 v | none=>none) else none
  | _=>none
 | .fel t l i off=>qEl E t l i off T
 | .el id t' i off=>match lk its id with
  | some (.ac t l)=>bif Nat.beq t t' then qEl E t l i off T else none
  | _=>none
 | _=>none
def e2a:E.SV->Option (Q1 E.N)
 | .ref id off=>q0 (.ref id off)
 | .fel t l i off=>q0 (.fel t l i off)
 | _=>none
def b76 (E:Env) (T:Nat) (i:E.SV):E.SV->Option (Q1 E.N)
 | .str s=>match i with | .int _ a=>bif E.isStr T then some ⟨[0<=a,a<s.length],[],.byte (ix s a)⟩ else none | _=>none
 | _=>none
def d3q (n:Int):Option Int->Option Int->List Prop
 | none,none=>[]
 | some a,none=>[0<=a,a<=n]
 | none,some b=>[0<=b,b<=n]
 | some a,some b=>[0<=a,a<=b,b<=n]
def a5k {α:Type} (l:List α):Option Int->Option Int->List α
 | none,none=>l
 | some a,none=>l.drop a.toNat
 | none,some b=>l.take b.toNat
 | some a,some b=>(l.take b.toNat).drop a.toNat
def asI:E.SV->Option Int
 | .int k a=>match k with | .i64=>some a | _=>none
 | _=>none
def b2i (e:Operand->E.SV):Option Operand->Option (Option Int)
 | none=>some none
 | some o=>(asI (e o)).map some
def b7b (E:Env) (its:a7 E.N) (T:Nat) (lo hi:Option Int):E.SV->Option (Q1 E.N)
 | .str s=>bif E.isStr T then some ⟨d3q s.length lo hi,[],.str (a5k s lo hi)⟩ else none
 | .sl t l=>(match E.a0S T with | some e=>bif E.a3E e t then some ⟨d3q l.length lo hi,[],.sl t (a5k l lo hi)⟩ else none | none=>none)
 | .acc id=>(match E.a0S T,lk its id with | some e,some (.ac t l)=>bif E.a3E e t then some ⟨d3q l.length lo hi,[],.sub id t (lo.getD 0) (hi.getD l.length-lo.getD 0)⟩ else none | _,_=>none)
 | _=>none
def c8t (E:Env) (T:Nat) (vs:List E.SV):Option Err:=match E.T.wr T with
 | none=>none
 | some k=>match k,vs with
  | 0,[.str s,.int .i64 n]=>some (.w T s (.no n))
  | 1,[.int .i64 n]=>some (.w T [] (.no n))
  | 2,[.err (.no n)]=>some (.w T [] (.no n))
  | k+3,[]=>if k<1000 then some (.w T [] (.no k)) else none
  | _,_=>none
def a9l (E:Env) (T:Nat):E.SV->Option (Q1 E.N)
 | .agg vs=>(match E.a3C T with
  | some true=>(match c8t E T vs with | some e=>q0 (.err e) | none=>none)
  | _=>none)
 | .int k a=>match k with | .i64=>bif Nat.beq T E.T.no && (E.intOf T).isSome then q0 (.err (.no a)) else none | _=>none
 | .ref id off=>bif E.a3I T && (!Nat.beq T E.T.fp && (E.T.wp T).isNone) then q0 (.ifc T (.ref id off)) else none
 | _=>none
def b9r (E:Env) (e:Operand->E.SV) (T:Nat) (ps:List (Nat×Operand)):Option (Q1 E.N):=match E.zero T,E.b3B T with
 | some (.agg ls),some fs=>match b3q E fs e ps ls with | some ls=>q0 (.agg ls) | none=>none
 | _,_=>none
def a90 (E:Env) (S:Nat) (t:Nat) (l:List (E.N.U t)):Option (Q1 E.N):=match E.a0S S with
 | some e=>(match E.intOf e with
  | some .u8=>(match bytesOf E t l with | some s=>q0 (.str s) | none=>none)
  | _=>none)
 | none=>none
def V5 (E:Env) (its:a7 E.N) (S D:Nat):E.SV->Option (Q1 E.N)
 | .byte c=>(match E.intOf S,E.intOf D with | some _,some k=>(match k with | .u8=>q0 (.byte c) | .i8=>none | k=>q0 (.int k c.toNat)) | _,_=>none)
 | .int _ a=>(match E.intOf S,E.intOf D with | some _,some k=>(match k with | .u8=>q0 (.byte (UInt8.ofInt a)) | k=>q0 (.int k (k.wrap a))) | _,_=>none)
 | .sl t l=>bif E.isStr D then a90 E S t l else none
 | .acc id=>match lk its id with
  | some (.ac t l)=>bif E.isStr D then a90 E S t l else none
  | _=>none
 | .sub id t2 lo n=>match lk its id with
  | some (.ac t l)=>bif Nat.beq t2 t && E.isStr D then a90 E S t ((l.take (lo.toNat+n.toNat)).drop lo.toNat) else none
  | _=>none
 | _=>none
def qMM (mx:Bool) (x y:E.SV):Option (Q1 E.N):=match x,y with
 | .int k a,.int k' b=>if k=k' then q0 (.int k (bif mx then max a b else min a b)) else none
 | _,_=>none
def b4i (E:Env) (its:a7 E.N) (e:Operand->E.SV) (b:Builtin) (xs:List Operand) (Ts:List Nat):Option (Q1 E.N) :=
 match b with
 | .len=>match xs,Ts with | [x],[T]=>(match lenOf its T (e x) with | some n=>q0 (.int .i64 n) | none=>none) | _,_=>none
 | .min=>match xs with | [x,y]=>qMM false (e x) (e y) | _=>none
 | .max=>match xs with | [x,y]=>qMM true (e x) (e y) | _=>none
 | _=>none
def c9y (E:Env) (its:a7 E.N) (e:Operand->E.SV) (c:Call):Option (Q1 E.N):=match c.callee with
 | .builtin b=>b4i E its e b c.args.toList c.argTypes.toList
 | _=>none
def d5i (e:Operand->E.SV) (a b:Operand):E.SV->Option (Q1 E.N)
 | .tt=>q0 (e a)
 | .ff=>q0 (e b)
 | _=>none
def d5p:E.SV->Bool
 | .ref _ _=>true
 | _=>false
def c57 (E:Env) (its:a7 E.N) (e:Operand->E.SV) (op:Op):Option (Q1 E.N):=match op with
 | .move x=>q0 (e x)
 | .assign x=>q0 (e x)
 | .pick c a b=>d5i e a b (e c)
 | .binOp op T x y _=>d8k E op T (isC y) (e x) (e y)
 | .unOp op _ x=>qUn op (e x)
 | .extract x i=>a7w i (e x)
 | .indexAddr T x i=>a3t E its T (e i) (e x)
 | .fieldAddr T x fi=>(match E.fld T fi with | some (o,n)=>bif Nat.blt 0 n then a3g o (e x) else none | none=>none)
 | .field T x fi=>b86 E T fi (e x)
 | .load T x=>c0d its T (e x)
 | .nilCheck x=>e2a (e x)
 | .index T x i=>b76 E T (e i) (e x)
 | .slice T x lo hi m=>(match m,b2i e lo,b2i e hi with | none,some a,some b=>b7b E its T a b (e x) | _,_,_=>none)
 | .makeInterface T x=>a9l E T (e x)
 | .build T ps=>b9r E e T ps.toList
 | .convert S D x=>V5 E its S D (e x)
 | .makeFunc f first caps=>(match f with | .func K=>bif Nat.beq first.size 0 && (caps.toList.map e).all d5p then q0 (.clo K (caps.toList.map e)) else none | _=>none)
 | .call c=>c9y E its e c
 | _=>none
structure S1 (N:Uni) where
 ob:List Prop
 hy:List Prop
 v:SV N
 items:a7 N
 nx:Nat
def a7b (its:a7 E.N):List E.SV->Option (List E.SV×a7 E.N)
 | []=>some ([],its)
 | v::r=>match v with
  | .acc id=>match lk its id with
   | some (.ac t l)=>match a7b (a1w its id (.fz t l)) r with | some (r',its')=>some (.sl t l::r',its') | none=>none
   | some (.fz t l)=>match a7b its r with | some (r',its')=>some (.sl t l::r',its') | none=>none
   | _=>none
  | .ref _ _=>none
  | .el _ _ _ _=>none
  | .sub _ _ _ _=>none
  | .clo _ _=>none
  | .yld _=>none
  | .agg _=>none
  | .tup _=>none
  | v=>match a7b its r with | some (r',its')=>some (v::r',its') | none=>none
def c2e (its:a7 E.N) (v:E.SV):Option (E.SV×a7 E.N):=match v with
 | .agg vs=>match a7b its vs with | some (vs',its')=>some (.agg vs',its') | none=>none
 | v=>match a7b its [v] with | some ([v'],its')=>some (v',its') | _=>none
def frz (its:a7 E.N):List E.SV->Option (List E.SV×a7 E.N)
 | []=>some ([],its)
 | v::r=>match c2e its v with
  | some (v',its1)=>(match frz its1 r with | some (r',its2)=>some (v'::r',its2) | none=>none)
  | none=>none
def d9r (E:Env) (its:a7 E.N) (t:Nat):E.SV->Option (List (E.N.U t))
 | .acc id=>match lk its id with | some (.ac t' l)=>if h:t'=t then some (V6 h l) else none | _=>none
 | v=>asL E t v
def c64 (E:Env) {t:Nat} (y:TyI E.N E.T t) (f:Operand->E.SV):a7 E.N->List (Nat×Operand)->Option (List (E.N.U t)×a7 E.N)
 | its,[]=>some ([],its)
 | its,p::r=>match c2e its (f p.2) with
  | some (v,its1)=>bif flat v then (match y.bk v,c64 E y f its1 r with
   | some x,some (xs,its2)=>some (x::xs,its2)
   | _,_=>none) else none
  | none=>none
def b79 (its:a7 E.N) (nx T:Nat):Option (S1 E.N):=match E.zob T with
 | some ⟨k,x⟩=>some ⟨[],[],.ref nx 0,(nx,.ob k nx x)::its,nx+1⟩
 | none=>(match E.zero T with | some z=>bif flat z then some ⟨[],[],.ref nx 0,(nx,.own T (leaves z))::its,nx+1⟩ else none | none=>none)
def b6w (its:a7 E.N) (nx T:Nat):E.SV->Option (S1 E.N)
 | .ref id off=>match lk its id with
  | some (.own S cells)=>(match E.T.wp T with
   | some S'=>bif Nat.beq off 0 && Nat.beq S S' && E.a3I T then (match cells with | [.str s,.err e]=>some ⟨[e=.no e.n0],[],.err (.p T s e.n0),rmv its id,nx⟩ | _=>none) else none
   | none=>bif Nat.beq off 0 && Nat.beq T E.T.fp && Nat.beq S E.T.fs && (E.a3I T && !Nat.beq T 0) then (match cells with | [.int .i64 a,.int .i64 n]=>some ⟨[],[],.err (.fault a n),rmv its id,nx⟩ | _=>none) else none)
  | _=>none
 | _=>none
def d6m:List E.SV->E.SV
 | [x]=>x
 | xs=>.agg xs
def a8a (its:a7 E.N) (nx T id t:Nat) (i:Int) (off:Nat) (x:E.SV):Option (S1 E.N):=match c2e its x with
 | some (v,its')=>(match lk its' id with
  | some (.ac t' l)=>if h:t'=t then (match E.ty t with
   | some y=>bif Nat.ble (off+(E.size T).getD 0) (leaves (y.sv (ix (V6 h l) i))).length && flat v && (E.size T).isSome && Nat.beq (leaves v).length ((E.size T).getD 0) && E.a3E t t then
     (match y.bk (d6m (a1A E (leaves (y.sv (ix (V6 h l) i))) off (leaves v))) with
     | some x'=>some ⟨[],[],.un,a1w its' id (.ac t ((V6 h l).set i.toNat x')),nx⟩
     | none=>none) else none
   | none=>none) else none
  | _=>none)
 | none=>none
def c8e (its:a7 E.N) (nx T:Nat) (x:E.SV):E.SV->Option (S1 E.N)
 | .ref id off=>match lk its id with
  | some (.own S cells)=>bif Nat.ble (off+(E.size T).getD 0) cells.length && flat x && (E.size T).isSome && Nat.beq (leaves x).length ((E.size T).getD 0) then some ⟨[],[],.un,a1w its id (.own S (a1A E cells off (leaves x))),nx⟩ else none
  | some (.rw t n cells)=>bif Nat.blt 0 n && Nat.ble (off+(E.size T).getD 0) cells.length && flat x && (E.size T).isSome && Nat.beq (leaves x).length ((E.size T).getD 0) then some ⟨[],[],.un,a1w its id (.rw t n (a1A E cells off (leaves x))),nx⟩ else none
  | _=>none
 | .el id t i off=>a8a its nx T id t i off x
 | _=>none
def a9y (E:Env) (t:Nat):Bool:=E.a3E t t && Nat.blt 0 (E.N.tb t).r.sz && (match E.bytes t with | some b=>Nat.blt 0 b | none=>false) && (match E.zeroV t with | some z=>Nat.beq z.cells.size (E.N.tb t).r.sz | none=>false)
def a3y (E:Env) (its:a7 E.N) (nx t:Nat) (xs:List (E.N.U t)):E.SV->Option (S1 E.N)
 | .a1K=>bif a9y E t then some ⟨[xs.length * (E.bytes t).getD 0<=140737488355328],[],.acc nx,(nx,.ac t xs)::its,nx+1⟩ else none
 | .acc id=>match lk its id with
  | some (.ac t' l)=>if h:t'=t then (bif a9y E t then some ⟨[(l.length+xs.length) * (E.bytes t).getD 0<=140737488355328],[],.acc nx,(nx,.ac t (V6 h l++xs))::rmv its id,nx+1⟩ else none) else none
  | _=>none
 | _=>none
def c96 (E:Env) (its:a7 E.N) (nx t:Nat) (sx:E.SV):E.SV->Option (S1 E.N)
 | .str s=>match ofBytes E t s with | some xs=>a3y E its nx t xs sx | none=>none
 | _=>none
def c9q (E:Env) (its:a7 E.N) (nx t:Nat) (sy:E.SV):E.SV->Option (S1 E.N)
 | .acc id=>match lk its id with
  | some (.ac t' l)=>bif Nat.beq t' t && E.a3E t' t' then (match sy with
   | .str s=>(match ofBytes E t' s with
    | some xs=>some ⟨[],[],.int .i64 (min (xs.length:Int) l.length),a1w its id (.ac t' (xs.take l.length++l.drop xs.length)),nx⟩
    | none=>none)
   | _=>none) else none
  | _=>none
 | _=>none
def a7h (E:Env) (its:a7 E.N) (nx:Nat) (e:Operand->E.SV) (c:Call) (ty:Nat):Option (S1 E.N):=match c.callee with
 | .builtin b=>(match b with
  | .append=>(match c.args.toList,c.argTypes.toList with
   | [x,y],[S,S']=>bif Nat.beq S S' && Nat.beq S ty then (match E.a0S S with
    | some t=>(match d9r E its t (e y) with | some xs=>a3y E its nx t xs (e x) | none=>none)
    | none=>none) else (bif Nat.beq S ty && E.isStr S' then (match E.a0S S with
    | some t=>c96 E its nx t (e x) (e y)
    | none=>none) else none)
   | _,_=>none)
  | .copy=>(match c.args.toList,c.argTypes.toList with
   | [x,y],[S,S']=>bif E.isStr S' then (match E.a0S S with
    | some t=>c9q E its nx t (e y) (e x)
    | none=>none) else none
   | _,_=>none)
  | _=>none)
 | _=>none
def b6h {α:Type}:Nat->List (Nat×α)->Bool
 | _,[]=>true
 | i,p::r=>Nat.beq p.1 i && b6h (i+1) r
def d3a (E:Env) (its:a7 E.N) (nx:Nat) (e:Operand->E.SV) (T len:Nat) (ps:List (Nat×Operand)):Option (S1 E.N):=match E.a0S T with
 | some t=>(match E.ty t with
  | some y=>bif a9y E t && b6h 0 ps && Nat.beq ps.length len && Nat.ble (len * (E.N.tb t).r.sz) 16777216 then (match c64 E y e its ps with
   | some (xs,its')=>some ⟨[],[],.acc nx,(nx,.ac t xs)::its',nx+1⟩
   | none=>none) else none
  | none=>none)
 | none=>none
def c7l (E:Env) (its:a7 E.N) (nx T:Nat) (x y:E.SV):Option (S1 E.N):=match E.a0S T,asI x,asI y with
 | some t,some a,some b=>(match E.ty t with
  | some y=>bif a9y E t then (match (E.zero t).bind (fun z=>bif flat z then y.bk z else none) with
   | some z=>some ⟨[0<=a,a=b,(E.bytes t).getD 0 * a<=140737488355328],[],.acc nx,(nx,.ac t (List.replicate a.toNat z))::its,nx+1⟩
   | none=>none) else none
  | none=>none)
 | _,_,_=>none
def b85 (E:Env) (its:a7 E.N) (nx S D:Nat):E.SV->Option (S1 E.N)
 | .str s=>(match E.a0S D with
  | some e=>bif E.isStr S then (match E.intOf e with
   | some .u8=>(match ofBytes E e s with | some l=>some ⟨[],[],.acc nx,(nx,.ac e l)::its,nx+1⟩ | none=>none)
   | _=>none) else none
  | none=>none)
 | _=>none
def d1g (e:Operand->E.SV) (sz:Nat):List (Nat×Operand)->Option (List E.SV)
 | []=>some []
 | p::r=>bif flat (e p.2) && Nat.beq (leaves (e p.2)).length sz then (match d1g e sz r with | some ls=>some (leaves (e p.2)++ls) | none=>none) else none
def b46 (E:Env) (its:a7 E.N) (nx:Nat) (e:Operand->E.SV) (T len:Nat) (ps:List (Nat×Operand)):Option (S1 E.N):=match E.a0S T with
 | some t=>bif E.rws t && a9y E t && b6h 0 ps && Nat.beq ps.length len && Nat.ble (len * (E.N.tb t).r.sz) 16777216 && Nat.ble len 1000000 && Nat.blt 0 len then (match d1g e (E.N.tb t).r.sz ps with
  | some ls=>some ⟨[],[],.acc nx,(nx,.rw t len ls)::its,nx+1⟩
  | none=>none) else none
 | none=>none
def b50 (E:Env) {t:Nat} (y:TyI E.N E.T t):Nat->List E.SV->a7 E.N->Option (List (E.N.U t)×a7 E.N)
 | 0,_,its=>some ([],its)
 | m+1,ls,its=>match a7b its (ls.take (E.N.tb t).r.sz) with
  | some (vs,its1)=>(match y.bk (.agg vs),b50 E y m (ls.drop (E.N.tb t).r.sz) its1 with
   | some x,some (xs,its2)=>some (x::xs,its2)
   | _,_=>none)
  | none=>none
def a7q (E:Env) (its:a7 E.N) (t id:Nat):Option (a7 E.N):=match lk its id with
 | some (.rw t' m ls)=>bif Nat.beq t' t then (match E.ty t with
  | some y=>(match b50 E y m ls its with
   | some (xs,its')=>(match lk its' id with
    | some (.rw t2 m2 _)=>bif Nat.beq t2 t && Nat.beq m2 m then some (a1w its' id (.ac t xs)) else none
    | _=>none)
   | none=>none)
  | none=>none) else none
 | _=>none
def b8x (E:Env) (its:a7 E.N) (nx t id id2:Nat):Option (S1 E.N):=match lk its id,lk its id2 with
 | some (.rw t1 n c1),some (.rw t2 m c2)=>bif Nat.beq t1 t && Nat.beq t2 t && !Nat.beq id id2 && a9y E t && Nat.ble (n+m) 1000000 && Nat.blt 0 m then
   some ⟨[(n+m) * (E.bytes t).getD 0<=140737488355328],[],.acc nx,(nx,.rw t (n+m) (c1++c2))::rmv its id,nx+1⟩ else none
 | _,_=>none
def e2y (c:Call) (ty:Nat):Option (Operand×Operand×Nat):=match c.callee with
 | .builtin b=>(match b with
  | .append=>(match c.args.toList,c.argTypes.toList with
   | [x,y],[S,S']=>bif Nat.beq S S' && Nat.beq S ty then some (x,y,S) else none
   | _,_=>none)
  | _=>none)
 | _=>none
def b5n (E:Env) (its:a7 E.N) (nx:Nat) (e:Operand->E.SV) (c:Call) (ty:Nat):Option (S1 E.N):=match e2y c ty with
 | some (x,y,S)=>(match E.a0S S with
  | some t=>(match e y with
   | .acc id2=>(match lk its id2 with
    | some (.rw _ _ _)=>(match e x with
     | .acc id=>(match lk its id with
      | some (.rw _ _ _)=>b8x E its nx t id id2
      | _=>(match a7q E its t id2 with | some its'=>a7h E its' nx e c ty | none=>none))
     | _=>(match a7q E its t id2 with | some its'=>a7h E its' nx e c ty | none=>none))
    | _=>none)
   | _=>none)
  | none=>none)
 | none=>none
def b34 (E:Env) (its:a7 E.N) (nx T:Nat) (k:Int):E.SV->Option (S1 E.N)
 | .acc id=>(match E.a0S T,lk its id with
  | some e,some (.rw t n cells)=>bif E.a3E e t && Nat.blt 0 n then some ⟨[0<=k,k<=(n:Int)],[],.acc nx,(nx,.rw t k.toNat (cells.take (k.toNat * (E.N.tb t).r.sz)))::rmv its id,nx+1⟩ else none
  | _,_=>none)
 | _=>none
def c0m (E:Env) (its:a7 E.N) (nx:Nat) (e:Operand->E.SV) (op:Op) (ty:Nat):Option (S1 E.N):=match op with
 | .alloc T=>b79 its nx T
 | .box T x=>bif flat (e x) then some ⟨[],[],.ref nx 0,(nx,.own T (leaves (e x)))::its,nx+1⟩ else none
 | .makeInterface T x=>b6w its nx T (e x)
 | .store T a x=>c8e its nx T (e x) (e a)
 | .call c=>(match b5n E its nx e c ty with | some s=>some s | none=>a7h E its nx e c ty)
 | .buildSlice T n ps=>(match b46 E its nx e T n ps.toList with | some s=>some s | none=>d3a E its nx e T n ps.toList)
 | .slice T x lo hi m=>(match m,lo,b2i e hi with | none,none,some (some k)=>b34 E its nx T k (e x) | _,_,_=>none)
 | .makeSlice T x y=>c7l E its nx T (e x) (e y)
 | .convert S D x=>b85 E its nx S D (e x)
 | _=>none
end Go.Rx
end
section
universe u
namespace Go.Rx
open Go Go.Wk Go.Wl
def fV {N:Uni} {α:Sort u} (v:SV N) (k:SV N->α):α:=match v with
 | .un=>k .un
 | .undef=>k .undef
 | .int a b=>k (.int a b)
 | .byte a=>k (.byte a)
 | .tt=>k .tt
 | .ff=>k .ff
 | .bl p d=>k (.bl p d)
 | .str a=>k (.str a)
 | .con a=>k (.con a)
 | .a1K=>k .a1K
 | .sl a b=>k (.sl a b)
 | .ref a b=>k (.ref a b)
 | .acc a=>k (.acc a)
 | .el a b c d=>k (.el a b c d)
 | .fel a b c d=>k (.fel a b c d)
 | .sub a b c d=>k (.sub a b c d)
 | .agg a=>k (.agg a)
 | .tup a=>k (.tup a)
 | .err a=>k (.err a)
 | .ifc a b=>k (.ifc a b)
 | .fn a=>k (.fn a)
 | .clo a b=>k (.clo a b)
 | .yld a=>k (.yld a)
theorem b4y {N:Uni} {α:Sort u} (v:SV N) (k:SV N->α):fV v k=k v:=by cases v <;> rfl
def fVs {N:Uni} {α:Sort u}:List (SV N)->(List (SV N)->α)->α
 | [],k=>k []
 | v::r,k=>fV v fun v=>fVs r fun r=>k (v::r)
theorem d0f {N:Uni} {α:Sort u}:∀ (l:List (SV N)) (k:List (SV N)->α),fVs l k=k l
 | [],_=>rfl
 | v::r,k=>by unfold fVs; rw [b4y,d0f r]
def fN {α:Sort u} (n:Nat) (k:Nat->α):α:=match n with | 0=>k 0 | m+1=>k (m+1)
theorem b61 {α:Sort u} (n:Nat) (k:Nat->α):fN n k=k n:=by cases n <;> rfl
def fI {N:Uni} {α:Sort u} (i:Item N) (k:Item N->α):α:=match i with
 | .own T c=>fVs c fun c=>k (.own T c)
 | .ac t l=>k (.ac t l)
 | .fz t l=>k (.fz t l)
 | .ob a b c=>k (.ob a b c)
 | .rw t n c=>fVs c fun c=>k (.rw t n c)
theorem e4s {N:Uni} {α:Sort u} (i:Item N) (k:Item N->α):fI i k=k i:=by cases i <;> simp only [fI,d0f]
def fIs {N:Uni} {α:Sort u}:a7 N->(a7 N->α)->α
 | [],k=>k []
 | p::r,k=>match p with | (a,i)=>fN a fun a=>fI i fun i=>fIs r fun r=>k ((a,i)::r)
theorem b8p {N:Uni} {α:Sort u}:∀ (l:a7 N) (k:a7 N->α),fIs l k=k l
 | [],_=>rfl
 | p::r,k=>by unfold fIs; simp only [b61,e4s]; rw [b8p r]
def fS1 {N:Uni} {α:Sort u} (l:o7 N) (k:o7 N->α):α:=match l with
 | []=>k []
 | p::r=>match p with | (a,v)=>fV v fun v=>k ((a,v)::r)
theorem d9p {N:Uni} {α:Sort u} (l:o7 N) (k:o7 N->α):fS1 l k=k l:=by
 cases l with
 | nil=>rfl
 | cons p r=>unfold fS1; simp only [b4y]
def fG1 {N:Uni} {α:Sort u} (l:List (Nat×Nat×Bool×SV N)) (k:List (Nat×Nat×Bool×SV N)->α):α:=match l with
 | []=>k []
 | p::r=>match p with | (a,b,c,v)=>fV v fun v=>k ((a,b,c,v)::r)
theorem e0q {N:Uni} {α:Sort u} (l:List (Nat×Nat×Bool×SV N)) (k:List (Nat×Nat×Bool×SV N)->α):fG1 l k=k l:=by
 cases l with
 | nil=>rfl
 | cons p r=>unfold fG1; simp only [b4y]
def fSt {E:Env} {α:Sort u} (st:E.St) (k:E.St->α):α:=match st with
 | ⟨a,b,c,d⟩=>fS1 a fun a=>fG1 b fun b=>fIs c fun c=>fN d fun d=>k ⟨a,b,c,d⟩
theorem c56 {E:Env} {α:Sort u} (st:E.St) (k:E.St->α):fSt st k=k st:=by
 unfold fSt; simp only [d9p,e0q,b8p,b61]
def nn {α:Type} (_:Nat):Option α:=none
structure e66 where
 keep:List Nat
 vars:List LV
structure Ann where
 n:Nat
 loop:Nat->Option e66
 join:Nat->Option e66
variable {E:Env}
def VK.den (N:Uni):VK->Type
 | .int _=>Int
 | .byte=>UInt8
 | .bool=>Bool
 | .str=>Str
 | .err=>Err
 | .sl t=>List (N.U t)
 | .acc t=>List (N.U t)
 | .val t=>N.U t
 | .a0U=>Unit
def I1 (N:Uni) (α:Type):List VK->Type
 | []=>α
 | k::r=>k.den N->I1 N α r
def chD (N:Uni) (α:Type) (ks:List VK):Nat->Type
 | 0=>α
 | n+1=>I1 N (chD N α ks n) ks
def a7o (ks:List VK):Nat->List VK
 | 0=>[]
 | n+1=>ks++a7o ks n
def tcD (N:Uni) (α:Type):List TK->Type
 | []=>α
 | .v k::r=>k.den N->tcD N α r
 | .to _::r=>tcD N α r
 | .a0U::r=>tcD N α r
 | .any::r=>tcD N α r
def tpD (N:Uni) (α:Type):List TP->Type
 | []=>α
 | .own _ _ ks::r=>tcD N (tpD N α r) ks
 | .ob _ k::r=>N.O k->tpD N α r
def Cur (N:Uni) (α:Type):List LV->Type
 | []=>α
 | .slot _ k::r=>k.den N->Cur N α r
 | .own _ ks::r=>I1 N (Cur N α r) ks
 | .ob _ k::r=>N.O k->Cur N α r
 | .cont _ t::r=>List (N.U t)->Cur N α r
 | .chain _ n _ ks::r=>chD N (Cur N α r) ks n
 | .rows _ n _ ks::r=>I1 N (Cur N α r) (a7o ks n)
 | .tree _ ps::r=>tpD N (Cur N α r) ps
 | .alt::r=>Cur N α r
 | .unr _::r=>Cur N α r
def b8f {N:Uni}:SV N->Option Nat
 | .acc id=>some id
 | .sub id _ _ _=>some id
 | _=>none
def obN {N:Uni}:SV N->Option Nat
 | .ref id _=>some id
 | .yld id=>some id
 | _=>none
def rb1 (E:Env) (its:a7 E.N):(k:VK)->E.SV->Option (k.den E.N)
 | .int k,v=>match v with | .int k' x=>if k'=k then some x else none | _=>none
 | .byte,v=>match v with | .byte x=>some x | _=>none
 | .bool,v=>match v with | .tt=>some true | .ff=>some false | .bl p d=>some (@decide p d) | _=>none
 | .str,v=>match v with | .str x=>some x | _=>none
 | .err,v=>match v with | .err x=>some x | _=>none
 | .sl t,v=>asL E t (nrm its v)
 | .acc t,v=>match v with
  | .a1K=>some []
  | .acc id=>match lk its id with | some (.ac t' l)=>if h:t'=t then some (V6 h l) else none | _=>none
  | .sub id t2 lo n=>(match lo with
   | .ofNat 0=>(match lk its id with | some (.ac t' l)=>if h:t'=t then (bif Nat.beq t2 t && a9y E t then some ((V6 h l).take n.toNat) else none) else none | _=>none)
   | _=>none)
  | _=>none
 | .val t,v=>match v with | .agg vs=>(match E.ty t with | some y=>y.bk (.agg vs) | none=>none) | _=>none
 | .a0U,v=>match v with | .con u=>(match u with | .pointer a=>(match a with | none=>some () | _=>none) | _=>none) | _=>none
def blB {N:Uni} (x:Bool):SV N:=.bl (x=true) inferInstance
def fl1 (E:Env) (nx:Nat):(k:VK)->k.den E.N->E.SV×a7 E.N×Nat
 | .int k,x=>(.int k x,[],nx)
 | .byte,x=>(.byte x,[],nx)
 | .bool,x=>(blB x,[],nx)
 | .str,x=>(.str x,[],nx)
 | .err,x=>(.err x,[],nx)
 | .sl t,x=>(.sl t x,[],nx)
 | .acc t,x=>(.acc nx,[(nx,.ac t x)],nx+1)
 | .val t,x=>(match E.ty t with | some y=>(match y.sv x with | .agg ls=>.agg ls | _=>.un) | none=>.un,[],nx)
 | .a0U,_=>(.con (.pointer none),[],nx)
def G9 (E:Env) (its:a7 E.N) {α:Type}:(ks:List VK)->List E.SV->I1 E.N α ks->Option α
 | [],[],f=>some f
 | k::r,v::vs,f=>match rb1 E its k v with | some x=>G9 E its r vs (f x) | none=>none
 | _,_,_=>none
def b1e {N:Uni}:List (SV N)->SV N
 | []=>.un
 | [v]=>v
 | _::r=>b1e r
def c7g (E:Env) (its:a7 E.N) (T:Nat) (ks:List VK) {α:Type}:(n:Nat)->E.SV->chD E.N α ks n->Option α
 | 0,v,f=>match v with | .con u=>(match u with | .pointer a=>(match a with | none=>some f | _=>none) | _=>none) | _=>none
 | n+1,v,f=>match v with
  | .ref id off=>bif Nat.beq off 0 then (match lk its id with
   | some (.own T' cells)=>bif Nat.beq T' T && Nat.beq cells.length (ks.length+1) then (match G9 E its ks (cells.take ks.length) f with
    | some g=>c7g E its T ks n (b1e cells) g
    | none=>none) else none
   | _=>none) else none
  | _=>none
def s5 (fx:o7 E.N) (st:E.St) (s:Nat):E.SV:=match lk st.slots s with | some v=>v | none=>(match lk fx s with | some v=>v | none=>.un)
def d5d {N:Uni}:SV N->Option Nat
 | .ref id _=>some id
 | _=>none
def a3T (fx:o7 E.N) (st:E.St) (s:Nat):Option Nat:=bif Nat.blt s 1000000 then d5d (s5 fx st s) else (match s5 fx st (s % 1000000) with
 | .clo _ vs=>(match vs[s / 1000000-1]? with | some v=>d5d v | none=>none)
 | _=>none)
def a2z (ids:List Nat) (j id:Nat):Bool:=match ids[j]? with | some i=>Nat.beq i id | none=>false
def c93 {N:Uni}:SV N->Bool
 | .con u=>(match u with | .pointer a=>a.isNone | _=>false)
 | _=>false
def e52 (a:List (Option Nat)) (j id:Nat):List (Option Nat):=match a[j]? with | some none=>a.set j (some id) | _=>a
def d7a {N:Uni}:List TK->List (SV N)->List (Option Nat)->List (Option Nat)
 | k::r,v::vs,a=>d7a r vs (match k,v with | .to j,.ref id _=>e52 a j id | _,_=>a)
 | _,_,a=>a
def d6q {N:Uni} (its:a7 N):List TP->Nat->List (Option Nat)->List (Option Nat)
 | [],_,a=>a
 | p::r,i,a=>d6q its r (i+1) (match p,a[i]? with
  | .own _ _ ks,some (some id)=>(match lk its id with | some (.own _ cells)=>d7a ks cells a | _=>a)
  | _,_=>a)
def d6a (fx:o7 E.N) (st:E.St):List (Nat×Nat)->List (Option Nat)->List (Option Nat)
 | [],a=>a
 | p::r,a=>d6a fx st r (match s5 fx st p.1 with | .ref id _=>e52 a p.2 id | _=>a)
def a8i:List TP->Nat->List (Nat×Nat)
 | [],_=>[]
 | p::r,i=>match p.kept with | some s=>(s,i)::a8i r (i+1) | none=>a8i r (i+1)
def a0x (fx:o7 E.N) (st:E.St) (ss:List (Nat×Nat)) (ps:List TP):List Nat:=(d6q st.items ps 0 (d6a fx st (a8i ps 0++ss) (List.replicate ps.length none))).filterMap id
def b07 (E:Env) (its:a7 E.N) (ids:List Nat) {α:Type}:(ks:List TK)->List E.SV->tcD E.N α ks->Option α
 | [],[],f=>some f
 | .v k::r,v::vs,f=>match rb1 E its k v with | some x=>b07 E its ids r vs (f x) | none=>none
 | .to j::r,v::vs,f=>match v with
  | .ref id off=>bif Nat.beq off 0 && a2z ids j id then b07 E its ids r vs f else none
  | _=>none
 | .a0U::r,v::vs,f=>bif c93 v then b07 E its ids r vs f else none
 | .any::r,_::vs,f=>b07 E its ids r vs f
 | _,_,_=>none
def a6f (E:Env) (its:a7 E.N) (ids:List Nat) {α:Type}:(ps:List TP)->List Nat->tpD E.N α ps->Option α
 | [],[],f=>some f
 | .own _ T ks::r,id::rest,f=>match lk its id with
  | some (.own T' cells)=>bif Nat.beq T' T then (match b07 E its ids ks cells f with | some g=>a6f E its ids r rest g | none=>none) else none
  | _=>none
 | .ob _ k::r,id::rest,f=>match lk its id with
  | some (.ob k' _ x)=>if h:k'=k then a6f E its ids r rest (f (h ▸ x)) else none
  | _=>none
 | _,_,_=>none
def X5 (fx:o7 E.N) (st:E.St) (ids:List Nat):List (Nat×Nat)->Bool
 | []=>true
 | p::r=>(match s5 fx st p.1 with | .ref id off=>Nat.beq off 0 && a2z ids p.2 id | _=>false) && X5 fx st ids r
def O7 (E:Env) (fx:o7 E.N) (st:E.St) {α:Type}:(vs:List LV)->Cur E.N α vs->Option α
 | [],f=>some f
 | .slot s k::r,f=>match rb1 E st.items k (s5 fx st s) with | some x=>O7 E fx st r (f x) | none=>none
 | .own s ks::r,f=>match a3T fx st s with
  | some id=>(match lk st.items id with
   | some (.own _ cells)=>(match G9 E st.items ks cells f with | some g=>O7 E fx st r g | none=>none)
   | _=>none)
  | none=>none
 | .ob s k::r,f=>match obN (s5 fx st s) with
  | some id=>(match lk st.items id with
   | some (.ob k' _ x)=>if h:k'=k then O7 E fx st r (f (h ▸ x)) else none
   | _=>none)
  | none=>none
 | .cont s t::r,f=>match b8f (s5 fx st s) with
  | some id=>(match lk st.items id with
   | some (.ac t' l)=>if h:t'=t then O7 E fx st r (f (V6 h l)) else none
   | _=>none)
  | none=>none
 | .chain s n T ks::r,f=>match c7g E st.items T ks n (s5 fx st s) f with | some g=>O7 E fx st r g | none=>none
 | .rows s n t ks::r,f=>match s5 fx st s with
  | .acc id=>(match lk st.items id with
   | some (.rw t' n' cells)=>bif Nat.beq t' t && Nat.beq n' n then (match G9 E st.items (a7o ks n) cells f with | some g=>O7 E fx st r g | none=>none) else none
   | _=>none)
  | _=>none
 | .tree ss ps::r,f=>bif X5 fx st (a0x fx st ss ps) (a8i ps 0++ss) then (match a6f E st.items (a0x fx st ss ps) ps (a0x fx st ss ps) f with | some g=>O7 E fx st r g | none=>none) else none
 | .alt::_,_=>none
 | .unr _::_,_=>none
def Z7 (E:Env) {α:Type}:(ks:List VK)->Nat->a7 E.N->List E.SV->I1 E.N α ks->(α->Nat->a7 E.N->List E.SV->Prop)->Prop
 | [],nx,its,acc,f,K=>K f nx its acc
 | k::r,nx,its,acc,f,K=>∀ x:k.den E.N,Z7 E r (fl1 E nx k x).2.2 ((fl1 E nx k x).2.1++its) (acc++[(fl1 E nx k x).1]) (f x) K
def c5c (E:Env) (T:Nat) (ks:List VK) {α:Type}:(n:Nat)->Nat->a7 E.N->chD E.N α ks n->(α->Nat->a7 E.N->E.SV->Prop)->Prop
 | 0,nx,its,f,K=>K f nx its (.con (.pointer none))
 | n+1,nx,its,f,K=>Z7 E ks (nx+1) its [] f (fun g nx1 its1 cs=>c5c E T ks n nx1 its1 g (fun a nx2 its2 link=>K a nx2 ((nx,.own T (cs++[link]))::its2) (.ref nx 0)))
def b6p (fx:o7 E.N) (st:E.St) (p:TP):Nat:=match p.kept with
 | none=>0
 | some s=>(match s5 fx st s with | .ref id _=>id+1 | _=>0)
def a0g (fx:o7 E.N) (st:E.St) (ps:List TP):List Nat:=ps.map (b6p fx st)
def tnm (b:Nat):Nat->List Nat->List Nat
 | _,[]=>[]
 | i,r::l=>(bif Nat.beq r 0 then b+i else r-1)::tnm b (i+1) l
def a6b (E:Env) (nm:List Nat) {α:Type}:(ks:List TK)->Nat->a7 E.N->List E.SV->tcD E.N α ks->(α->Nat->a7 E.N->List E.SV->Prop)->Prop
 | [],nx,its,acc,f,K=>K f nx its acc
 | .v k::r,nx,its,acc,f,K=>∀ x:k.den E.N,a6b E nm r (fl1 E nx k x).2.2 ((fl1 E nx k x).2.1++its) (acc++[(fl1 E nx k x).1]) (f x) K
 | .to j::r,nx,its,acc,f,K=>a6b E nm r nx its (acc++[.ref (nm.getD j 0) 0]) f K
 | .a0U::r,nx,its,acc,f,K=>a6b E nm r nx its (acc++[.con (.pointer none)]) f K
 | .any::r,nx,its,acc,f,K=>a6b E nm r nx its (acc++[.un]) f K
def b19 (E:Env) (nm:List Nat) {α:Type}:(ps:List TP)->Nat->Nat->a7 E.N->tpD E.N α ps->(α->Nat->a7 E.N->Prop)->Prop
 | [],_,nx,its,f,K=>K f nx its
 | .own _ T ks::r,i,nx,its,f,K=>a6b E nm ks nx its [] f (fun g nx1 its1 cs=>b19 E nm r (i+1) nx1 ((nm.getD i 0,.own T cs)::its1) g K)
 | .ob _ k::r,i,nx,its,f,K=>∀ x:E.N.O k,b19 E nm r (i+1) (nx+1) ((nm.getD i 0,.ob k nx x)::its) (f x) K
def S6 (E:Env) (fx:o7 E.N) (st:E.St) {α:Type}:(vs:List LV)->Cur E.N α vs->E.St->(α->E.St->Prop)->Prop
 | [],f,new,K=>K f new
 | .slot s k::r,f,new,K=>∀ x:k.den E.N,S6 E fx st r (f x) ⟨(s,(fl1 E new.nx k x).1)::new.slots,[],(fl1 E new.nx k x).2.1++new.items,(fl1 E new.nx k x).2.2⟩ K
 | .own s ks::r,f,new,K=>match a3T fx st s with
  | some id=>(match lk st.items id with
   | some (.own T _)=>Z7 E ks new.nx new.items [] f (fun g nx its cs=>S6 E fx st r g ⟨new.slots,[],(id,.own T cs)::its,nx⟩ K)
   | _=>False)
  | none=>False
 | .ob s k::r,f,new,K=>match obN (s5 fx st s) with
  | some id=>∀ x:E.N.O k,S6 E fx st r (f x) ⟨new.slots,[],(id,.ob k new.nx x)::new.items,new.nx+1⟩ K
  | none=>False
 | .cont s t::r,f,new,K=>match b8f (s5 fx st s) with
  | some id=>∀ x:List (E.N.U t),S6 E fx st r (f x) ⟨new.slots,[],(id,.ac t x)::new.items,new.nx⟩ K
  | none=>False
 | .chain s n T ks::r,f,new,K=>c5c E T ks n new.nx new.items f (fun g nx its v=>S6 E fx st r g ⟨(s,v)::new.slots,[],its,nx⟩ K)
 | .rows s n t ks::r,f,new,K=>bif Nat.ble n 1000000 then Z7 E (a7o ks n) (new.nx+1) new.items [] f (fun g nx its cs=>S6 E fx st r g ⟨(s,.acc new.nx)::new.slots,[],(new.nx,.rw t n cs)::its,nx⟩ K) else False
 | .tree ss ps::r,f,new,K=>b19 E (tnm new.nx 0 (a0g fx st ps)) ps 0 (new.nx+ps.length) new.items f (fun g nx its=>S6 E fx st r g ⟨(ss.map fun p=>(p.1,.ref ((tnm new.nx 0 (a0g fx st ps)).getD p.2 0) 0))++new.slots,[],its,nx⟩ K)
 | .alt::_,_,_,_=>False
 | .unr _::_,_,_,_=>False
def O6 {N:Uni} (k:VK) (v:SV N):List Nat:=match k,v with
 | .acc _,.acc id=>[id]
 | .acc _,.sub id _ _ _=>[id]
 | _,_=>[]
def d3s {N:Uni}:VK×SV N->Option Nat
 | (.acc _,.acc id)=>some id
 | (.acc _,.sub id _ _ _)=>some id
 | _=>none
def a9e {N:Uni} (its:a7 N) (ks:List VK):Nat->SV N->List Nat
 | 0,_=>[]
 | n+1,v=>match v with
  | .ref id _=>id::(match lk its id with
   | some (.own _ cells)=>(ks.zip (cells.take ks.length)).filterMap d3s++a9e its ks n (b1e cells)
   | _=>[])
  | _=>[]
def a4t {N:Uni}:List TK->List (SV N)->List Nat
 | .v k::r,v::vs=>O6 k v++a4t r vs
 | .to _::r,_::vs=>a4t r vs
 | .a0U::r,_::vs=>a4t r vs
 | .any::r,_::vs=>a4t r vs
 | _,_=>[]
def a62 {N:Uni} (its:a7 N):List TP->List Nat->List Nat
 | .own _ _ ks::r,id::rest=>(id::(match lk its id with | some (.own _ cells)=>a4t ks cells | _=>[]))++a62 its r rest
 | .ob _ _::r,id::rest=>id::a62 its r rest
 | _,_=>[]
def a3n (E:Env) (fx:o7 E.N) (st:E.St):LV->List Nat
 | .slot s k=>O6 k (s5 fx st s)
 | .own s ks=>match a3T fx st s with
  | some id=>id::(match lk st.items id with
   | some (.own _ cells)=>(ks.zip cells).filterMap d3s
   | _=>[])
  | none=>[]
 | .ob s _=>match obN (s5 fx st s) with | some id=>[id] | none=>[]
 | .cont s _=>match b8f (s5 fx st s) with | some id=>[id] | none=>[]
 | .chain s n _ ks=>a9e st.items ks n (s5 fx st s)
 | .rows s n _ ks=>match s5 fx st s with
  | .acc id=>id::(match lk st.items id with
   | some (.rw _ _ cells)=>((a7o ks n).zip cells).filterMap d3s
   | _=>[])
  | _=>[]
 | .tree ss ps=>a62 st.items ps (a0x fx st ss ps)
 | .alt=>[]
 | .unr _=>[]
def D5 (E:Env) (fx:o7 E.N) (st:E.St) (vs:List LV):List Nat:=vs.flatMap (a3n E fx st)
def N4 (E:Env) (fx:o7 E.N) (st:E.St):LV->List Nat
 | .slot _ _=>[]
 | .own s _=>match a3T fx st s with
  | some id=>(match lk st.items id with | some (.own T _)=>[id,T] | _=>[id])
  | none=>[]
 | .ob s _=>match obN (s5 fx st s) with | some id=>[id] | none=>[]
 | .cont s _=>match b8f (s5 fx st s) with | some id=>[id] | none=>[]
 | .chain _ _ _ _=>[]
 | .rows _ _ _ _=>[]
 | .tree _ ps=>a0g fx st ps
 | .alt=>[]
 | .unr _=>[]
def C9 (E:Env) (fx:o7 E.N) (st:E.St) (vs:List LV):List Nat:=vs.flatMap (N4 E fx st)
def eqL:List Nat->List Nat->Bool
 | [],[]=>true
 | a::r,b::s=>Nat.beq a b && eqL r s
 | _,_=>false
def a41 {N:Uni} {α β γ:Type} (g:α->β->γ):(ks:List VK)->I1 N α ks->I1 N β ks->I1 N γ ks
 | [],a,b=>g a b
 | _::r,a,b=>fun x=>a41 g r (a x) (b x)
def d5j {N:Uni} {α β γ:Type} (g:α->β->γ) (ks:List VK):(n:Nat)->chD N α ks n->chD N β ks n->chD N γ ks n
 | 0,a,b=>g a b
 | n+1,a,b=>a41 (d5j g ks n) ks a b
def b0k {N:Uni} {α β γ:Type} (g:α->β->γ):(ks:List TK)->tcD N α ks->tcD N β ks->tcD N γ ks
 | [],a,b=>g a b
 | .v _::r,a,b=>fun x=>b0k g r (a x) (b x)
 | .to _::r,a,b=>b0k g r a b
 | .a0U::r,a,b=>b0k g r a b
 | .any::r,a,b=>b0k g r a b
def b5r {N:Uni} {α β γ:Type} (g:α->β->γ):(ps:List TP)->tpD N α ps->tpD N β ps->tpD N γ ps
 | [],a,b=>g a b
 | .own _ _ ks::r,a,b=>b0k (b5r g r) ks a b
 | .ob _ _::r,a,b=>fun x=>b5r g r (a x) (b x)
def a1b {N:Uni} {α β:Type}:(vs:List LV)->Cur N α vs->Cur N β vs->Cur N (α×β) vs
 | [],a,b=>(a,b)
 | .slot _ _::r,a,b=>fun x=>a1b r (a x) (b x)
 | .own _ ks::r,a,b=>a41 (a1b r) ks a b
 | .ob _ _::r,a,b=>fun x=>a1b r (a x) (b x)
 | .cont _ _::r,a,b=>fun x=>a1b r (a x) (b x)
 | .chain _ n _ ks::r,a,b=>d5j (a1b r) ks n a b
 | .rows _ n _ ks::r,a,b=>a41 (a1b r) (a7o ks n) a b
 | .tree _ ps::r,a,b=>b5r (a1b r) ps a b
 | .alt::r,a,b=>a1b r a b
 | .unr _::r,a,b=>a1b r a b
def distinct:List Nat->Bool
 | []=>true
 | i::r=>!r.elem i && distinct r
structure Ks (E:Env) where
 n:E.St->Prop
 r:E.St->Prop
 e:List (Nat×(E.St->Prop))
def D4 (fx:o7 E.N) (st:E.St) (ks:List Nat):o7 E.N:=ks.map fun s=>(s,s5 fx st s)
def back (ks:o7 E.N) (is:a7 E.N) (k:E.St->Prop):E.St->Prop:=fun st=>k ⟨st.slots++ks,[],st.items++is,st.nx⟩
def a7x (ks:o7 E.N) (is:a7 E.N) (K:Ks E) (n:E.St->Prop):Ks E:=⟨n,back ks is K.r,K.e.map fun p=>(p.1,back ks is p.2)⟩
def n9 (its:a7 E.N) (ids:List Nat):a7 E.N:=its.filter fun p=>!ids.elem p.1
def within (its:a7 E.N) (ids:List Nat):a7 E.N:=its.filter fun p=>ids.elem p.1
def chain (gs:List (Nat×Nat×Bool×E.SV)):Nat->Nat->Bool->List (Nat×Bool)
 | 0,_,_=>[]
 | n+1,j,w=>(j,w)::(match lk gs j with | some (j',w',_)=>chain gs n j' w' | none=>[])
def c6c (ch:List (Nat×Bool)) (j:Nat) (w:Bool):Bool:=ch.any fun p=>Nat.beq p.1 j && (p.2 == w)
def evS (fx:o7 E.N) (lkd:a7 E.N) (st:E.St) (ch:List (Nat×Bool)):Operand->E.SV
 | .tmp t=>match lk st.gs t with
  | some (j,w,v)=>bif c6c ch j w then nrm (st.items++lkd) v else .un
  | none=>nrm (st.items++lkd) (s5 fx st t)
 | .const v=>cst v
 | .global g=>.con (.pointer (some ⟨g,0,none⟩))
 | .func K=>.fn K
def b4g (fx:o7 E.N) (st:E.St):Nat->Nat->Bool->Option ((p:Prop) ×' Decidable p)
 | 0,_,_=>none
 | n+1,j,w=>match lk st.gs j with
  | some (j',w',v)=>(match a1d v,b4g fx st n j' w' with
   | some ⟨p,d⟩,some ⟨q,e⟩=>bif w then some ⟨q/\p,inferInstance⟩ else some ⟨q/\¬ p,inferInstance⟩
   | _,_=>none)
  | none=>(match a1d (s5 fx st j) with
   | some ⟨p,d⟩=>bif w then some ⟨p,d⟩ else some ⟨¬ p,inferInstance⟩
   | none=>none)
def put (st:E.St) (d:Option Nat) (v:E.SV):E.St:=match d with | some d=>⟨(d,v)::st.slots,st.gs,st.items,st.nx⟩ | none=>st
def free (n:Nat) (fx:o7 E.N) (st:E.St):Option Nat->Bool
 | none=>true
 | some d=>Nat.blt d n && (lk fx d).isNone && (lk st.gs d).isNone && st.gs.all fun p=>!Nat.beq p.2.1 d
def d0o (fx:o7 E.N) (lkd:a7 E.N) (st:E.St) (ch:List (Nat×Bool)) (c a b:Operand):Option E.SV :=
 match c with
 | .tmp j=>match a1d (evS fx lkd st ch c) with
  | some ⟨p,d⟩=>(match a,b with
   | .tmp t,.const (.bool false)=>(match lk st.gs t with
    | some (j',w,v)=>bif Nat.beq j j' && w then (match a1d v with | some ⟨q,e⟩=>some (.bl (p/\q) inferInstance) | none=>none) else none
    | none=>none)
   | .const (.bool true),.tmp t=>(match lk st.gs t with
    | some (j',w,v)=>bif Nat.beq j j' && !w then (match a1d v with | some ⟨q,e⟩=>some (.bl (p ∨ q) inferInstance) | none=>none) else none
    | none=>none)
   | _,_=>none)
  | none=>none
 | _=>none
def e3h (fx:o7 E.N) (lkd:a7 E.N) (st:E.St) (ch:List (Nat×Bool)):Op->Option E.SV
 | .pick c a b=>d0o fx lkd st ch c a b
 | _=>none
def stepG (fx:o7 E.N) (lkd:a7 E.N) (st:E.St) (ch:List (Nat×Bool)) (op:Op):Option (Q1 E.N) :=
 match e3h fx lkd st ch op with
 | some v=>q0 v
 | none=>c57 E (st.items++lkd) (evS fx lkd st ch) op
def callee (e:Operand->E.SV) (c:Call):Option (Nat×List E.SV) :=
 match c.callee with
 | .value f=>(match e f with
  | .fn K=>some (K,c.args.toList.map e)
  | .clo K cs=>some (K,c.args.toList.map e++cs)
  | _=>none)
 | _=>none
def b3h (e:Operand->E.SV) (c:Call):Option (Nat×List E.SV) :=
 match c.callee with
 | .value f=>(match e f with
  | .yld id=>some (id,c.args.toList.map e)
  | _=>none)
 | _=>none
def b0f (its:a7 E.N):E.SV->E.SV
 | .acc id=>match lk its id with | some (.ac t l)=>.sl t l | _=>.acc id
 | .sub id t lo n=>match lk its id with | some (.ac t' l)=>bif Nat.beq t t' then .sl t' ((l.take (lo.toNat+n.toNat)).drop lo.toNat) else .sub id t lo n | _=>.sub id t lo n
 | v=>v
def a0v (its:a7 E.N):E.SV->E.SV
 | .agg vs=>.agg (vs.map (b0f its))
 | v=>b0f its v
def H9 {N:Uni}:SV N->Bool
 | .int _ _=>true
 | .byte _=>true
 | .tt=>true
 | .ff=>true
 | .bl _ _=>true
 | .str _=>true
 | .con _=>true
 | .a1K=>true
 | .sl _ _=>true
 | .err _=>true
 | .fn _=>true
 | .fel _ _ _ _=>true
 | .agg vs=>vs.all fun v=>match v with
  | .int _ _=>true
  | .byte _=>true
  | .tt=>true
  | .ff=>true
  | .bl _ _=>true
  | .str _=>true
  | .con _=>true
  | .a1K=>true
  | .sl _ _=>true
  | .err _=>true
  | _=>false
 | _=>false
def inn (st:E.St) (ids:List Nat):E.St:=⟨st.slots,[],within st.items ids,st.nx⟩
def c3e (E:Env) (fx:o7 E.N) (st:E.St) (fx':o7 E.N) (st':E.St) (vs:List LV):Bool:=distinct (D5 E fx' st' vs) && eqL (C9 E fx' st' vs) (C9 E fx st vs)
def a0s {N:Uni} {α:Type} (a:α):(ks:List VK)->I1 N α ks
 | []=>a
 | _::r=>fun _=>a0s a r
def c13 {N:Uni} {α:Type} (a:α) (ks:List VK):(n:Nat)->chD N α ks n
 | 0=>a
 | n+1=>a0s (c13 a ks n) ks
def a4e {N:Uni} {α:Type} (a:α):(ks:List TK)->tcD N α ks
 | []=>a
 | .v _::r=>fun _=>a4e a r
 | .to _::r=>a4e a r
 | .a0U::r=>a4e a r
 | .any::r=>a4e a r
def b2h {N:Uni} {α:Type} (a:α):(ps:List TP)->tpD N α ps
 | []=>a
 | .own _ _ ks::r=>a4e (b2h a r) ks
 | .ob _ _::r=>fun _=>b2h a r
def P4 {N:Uni} {α:Type} (a:α):(vs:List LV)->Cur N α vs
 | []=>a
 | .slot _ _::r=>fun _=>P4 a r
 | .own _ ks::r=>a0s (P4 a r) ks
 | .ob _ _::r=>fun _=>P4 a r
 | .cont _ _::r=>fun _=>P4 a r
 | .chain _ n _ ks::r=>c13 (P4 a r) ks n
 | .rows _ n _ ks::r=>a0s (P4 a r) (a7o ks n)
 | .tree _ ps::r=>b2h (P4 a r) ps
 | .alt::r=>P4 a r
 | .unr _::r=>P4 a r
def b1c (E:Env) (nm:List Nat) {α:Type}:(ks:List TK)->Nat->a7 E.N->List E.SV->(Nat->a7 E.N->List E.SV->α)->tcD E.N α ks
 | [],nx,its,acc,K=>K nx its acc
 | .v k::r,nx,its,acc,K=>fun x=>b1c E nm r (fl1 E nx k x).2.2 ((fl1 E nx k x).2.1++its) (acc++[(fl1 E nx k x).1]) K
 | .to j::r,nx,its,acc,K=>b1c E nm r nx its (acc++[.ref (nm.getD j 0) 0]) K
 | .a0U::r,nx,its,acc,K=>b1c E nm r nx its (acc++[.con (.pointer none)]) K
 | .any::r,nx,its,acc,K=>b1c E nm r nx its (acc++[.un]) K
def c29 (E:Env) (nm:List Nat) {α:Type}:(ps:List TP)->Nat->Nat->a7 E.N->(Nat->a7 E.N->α)->tpD E.N α ps
 | [],_,nx,its,K=>K nx its
 | .own _ T ks::r,i,nx,its,K=>b1c E nm ks nx its [] (fun nx1 its1 cs=>c29 E nm r (i+1) nx1 ((nm.getD i 0,.own T cs)::its1) K)
 | .ob _ k::r,i,nx,its,K=>fun x=>c29 E nm r (i+1) (nx+1) ((nm.getD i 0,.ob k nx x)::its) K
def c85 (E:Env) (fx:o7 E.N) (st:E.St) {α:Type}:(vs:List LV)->E.St->(E.St->α)->Cur E.N α vs
 | [],new,K=>K new
 | .slot s k::r,new,K=>fun x=>c85 E fx st r ⟨(s,(fl1 E new.nx k x).1)::new.slots,[],(fl1 E new.nx k x).2.1++new.items,(fl1 E new.nx k x).2.2⟩ K
 | .tree ss ps::r,new,K=>c29 E (tnm new.nx 0 (a0g fx st ps)) ps 0 (new.nx+ps.length) new.items (fun nx its=>c85 E fx st r ⟨(ss.map fun p=>(p.1,.ref ((tnm new.nx 0 (a0g fx st ps)).getD p.2 0) 0))++new.slots,[],its,nx⟩ K)
 | v::r,new,K=>P4 (K new) (v::r)
def a6m:List LV->Bool
 | []=>true
 | .slot _ _::r=>a6m r
 | .tree _ _::r=>a6m r
 | _=>false
def Q6 (E:Env) (st:E.St):Nat->Nat->List E.SV
 | 0,_=>[]
 | n+1,i=>s5 [] st i::Q6 E st n (i+1)
def b4v (E:Env) (st:E.St):List (List LV)->Option E.St
 | []=>none
 | vs::r=>bif a6m vs && c3e E [] st [] (inn st (D5 E [] st vs)) vs then (match O7 E [] (inn st (D5 E [] st vs)) vs (c85 E [] st vs ⟨[],[],[],st.nx⟩ id) with
  | some new=>some ⟨new.slots,[],new.items++n9 st.items (D5 E [] st vs),new.nx⟩
  | none=>b4v E st r) else b4v E st r
def b49 (its:a7 E.N):List Nat->List E.SV->Option (List E.SV×a7 E.N)
 | [],args=>some (args,its)
 | i::r,args=>match args[i]? with
  | some v=>(match c2e its v with | some (v',its')=>b49 its' r (args.set i v') | none=>none)
  | none=>none
def b3l (o:FC E.N) (args:List E.SV) (its:a7 E.N) (nx:Nat):Option (List E.SV×a7 E.N×Nat):=match b49 its o.fz args with
 | some (a,i)=>bif o.ss.isEmpty then some (a,i,nx) else (match b4v E ⟨number 0 a,[],i,nx⟩ o.ss with | some new=>some (Q6 E new a.length 0,new.items,new.nx) | none=>none)
 | none=>none
def d7d (C:List E.SV->a7 E.N->Option (FR E.N)) (args:List E.SV) (its:a7 E.N) (nx:Nat) (ids:List Nat):Option (S1 E.N):=bif distinct ids then
  (match a98 (a0r (E8 its ids) 0) args,c2l its (a0r (E8 its ids) 0) 0 ids with
  | some a',some i'=>(match C a' i' with
   | some r=>(match c90 (a66 (E8 its ids) nx) r.v,b0r (a66 (E8 its ids) nx) r.its with
    | some v,some it=>some ⟨r.ob,r.hy,v,it++n9 its ids,nx+(r.n-(E8 its ids).length)⟩
    | _,_=>none)
   | none=>none)
  | _,_=>none) else none
def c0j (o:FC E.N) (args:List E.SV) (its:a7 E.N) (nx:Nat):Option (S1 E.N):=match b3l o args its nx with
 | some (a,i,m)=>d7d o.C a i m (reach i 60 (a.flatMap a8w) [])
 | none=>none
abbrev Inl (E:Env):=Nat->List E.SV->a7 E.N->a7 E.N->Nat->(E.SV->a7 E.N->Nat->Prop)->Prop
def d08 (K:Nat) (st:E.St) (args:List E.SV) (its:a7 E.N) (d:Option Nat) (k:E.St->Prop):Prop :=
 match E.con K with
 | some C=>(match C args st.nx with
  | some r=>bif args.all H9 then cj r.ob (im r.hy (k (put ⟨st.slots,st.gs,number st.nx r.its++its,st.nx+r.its.length⟩ d r.r))) else False
  | none=>False)
 | none=>False
def d0g (K:Nat) (st:E.St) (args:List E.SV) (d:Option Nat) (k:E.St->Prop):Prop :=
 match E.con K with
 | some C=>(match C args st.nx with
  | some r=>bif r.its.isEmpty && args.all H9 then cj r.ob (im r.hy (k (put st d r.r))) else False
  | none=>False)
 | none=>False
def c9b (o:OC E.N) (its:a7 E.N) (st:E.St) (d:Option Nat) (k:E.St->Prop):List E.SV->Prop
 | v::args=>(match v with
  | .ref id off=>bif Nat.beq off 0 && (args.map (a0v its)).all H9 then (match lk st.items id with
   | some (.ob k' _ x)=>if h:k'=o.k then (match o.C (h ▸ x) (args.map (a0v its)) with
    | some r=>cj r.ob (im r.hy (k (put ⟨st.slots,st.gs,a1w st.items id (.ob o.k st.nx r.x),st.nx+1⟩ d r.r)))
    | none=>False) else False
   | _=>False) else False
  | _=>False)
 | []=>False
def d6c (o:WC E.N) (its:a7 E.N) (st:E.St) (d:Option Nat) (k:E.St->Prop):List E.SV->Prop
 | [v0,.ifc T (.ref id off)]=>bif Nat.beq off 0 && Nat.beq T o.T && H9 (a0v its v0) then (match lk st.items id with
  | some (.own S [.int .i64 x])=>bif Nat.beq S o.S then (match o.C (a0v its v0) x with
   | some r=>cj r.ob (im r.hy (k (put ⟨st.slots,st.gs,a1w st.items id (.own S [.int .i64 r.x]),st.nx⟩ d r.r)))
   | none=>False) else False
  | _=>False) else False
 | _=>False
def d6x (o:OC E.N) (its:a7 E.N) (st:E.St) (d:Option Nat) (k:E.St->Prop) (id:Nat) (args:List E.SV):Prop :=
 bif d.isSome && (args.map (a0v its)).all H9 then (match lk st.items id with
   | some (.ob k' _ x)=>if h:k'=o.k then (match o.C (h ▸ x) (args.map (a0v its)) with
    | some r=>cj r.ob (im r.hy (k (put ⟨st.slots,st.gs,a1w st.items id (.ob o.k st.nx r.x),st.nx+1⟩ d r.r)))
    | none=>False) else False
   | _=>False) else False
def a7m (inl:Inl E) (fx:o7 E.N) (lkd:a7 E.N) (st:E.St) (ch:List (Nat×Bool)) (d:Option Nat) (c:Call) (k:E.St->Prop):Prop :=
 match callee (evS fx lkd st ch) c with
 | none=>(match b3h (evS fx lkd st ch) c,E.yl with
  | some (id,args),some o=>d6x o (st.items++lkd) st d k id args
  | _,_=>False)
 | some (K,args)=>match E.con K with
  | some _=>bif E.a1Y K then d0g K st (args.map (a0v (st.items++lkd))) d k
     else (match frz st.items args with | some (args',its)=>d08 K st args' its d k | none=>False)
  | none=>(match E.obc K with
   | some o=>c9b o (st.items++lkd) st d k args
   | none=>(match E.wrc K with
   | some o=>d6c o (st.items++lkd) st d k args
   | none=>(match (E.fnc K).bind (fun o=>c0j o args st.items st.nx) with
   | some s=>cj s.ob (im s.hy (k (put ⟨st.slots,st.gs,s.items,s.nx⟩ d s.v)))
   | none=>inl K args st.items lkd st.nx (fun v its nx=>k (put ⟨st.slots,st.gs,its,nx⟩ d v)))))
def a3h:Op->Option Call
 | .call c=>some c
 | _=>none
def okD:Op->Option Nat->Bool
 | .store _ _ _,d=>d.isNone
 | _,d=>d.isSome
def c7u (lkd:a7 E.N) (st:E.St) (K:Nat) (args:List E.SV):Option (Q1 E.N) :=
 bif E.a1Y K then (match E.con K with
  | some C=>(match C (args.map (a0v (st.items++lkd))) st.nx with
   | some r=>bif r.its.isEmpty && (args.map (a0v (st.items++lkd))).all H9 then some ⟨r.ob,r.hy,r.r⟩ else none
   | none=>none)
  | none=>none) else none
def b9b (lkd:a7 E.N) (st:E.St) (K:Nat) (args:List E.SV):Option (Q1 E.N) :=
 match c7u lkd st K args with
 | some a=>some a
 | none=>(match E.roc K with
  | some C=>C args (st.items++lkd)
  | none=>none)
def b1m (fx:o7 E.N) (lkd:a7 E.N) (st:E.St) (ch:List (Nat×Bool)) (c:Call):Option (Q1 E.N) :=
 match callee (evS fx lkd st ch) c with
 | some (K,args)=>b9b lkd st K args
 | none=>none
def b9y (q:Bool) (inl:Inl E) (fx:o7 E.N) (lkd:a7 E.N) (st:E.St) (d:Option Nat) (op:Op) (ty:Nat) (k:E.St->Prop):Prop :=
 match stepG fx lkd st [] op with
 | some a=>bif d.isSome then cj a.ob (im a.hy (k (put st d a.v))) else False
 | none=>bif q then False else (match c0m E st.items st.nx (evS fx lkd st []) op ty with
  | some s=>bif okD op d then cj s.ob (im s.hy (k (put ⟨st.slots,st.gs,s.items,s.nx⟩ d s.v))) else False
  | none=>(match a3h op with
   | some c=>(match (bif d.isSome then b1m fx lkd st [] c else none) with
    | some a=>cj a.ob (im a.hy (k (put st d a.v)))
    | none=>a7m inl fx lkd st [] d c k)
   | none=>False))
def gOp (q:Bool) (fx:o7 E.N) (lkd:a7 E.N) (st:E.St) (ch:List (Nat×Bool)) (op:Op):Option (Q1 E.N) :=
 match stepG fx lkd st ch op with
 | some a=>some a
 | none=>bif q then none else (match a3h op with | some c=>b1m fx lkd st ch c | none=>none)
def imp (p:Prop) (l:List Prop):List Prop:=l.map fun x=>p->x
def b65 (q:Bool) (fx:o7 E.N) (lkd:a7 E.N) (st:E.St) (dj:Nat) (w:Bool) (d:Option Nat) (op:Op):Option (Prop×Q1 E.N×Nat) :=
 match b4g fx st 8 dj w,gOp q fx lkd st (chain st.gs 8 dj w) op,d with
 | some ⟨p,_⟩,some a,some d=>bif Nat.beq d dj then none else some (p,a,d)
 | _,_,_=>none
def settle (st:E.St) (dj:Nat) (b:Bool):E.St :=
 ⟨(st.gs.filterMap fun p=>match lk st.gs p.1 with | some (j,w,v)=>bif Nat.beq j dj then some (p.1,bif w == b then v else .undef) else none | none=>none)++st.slots,
  st.gs.filter (fun p=>match lk st.gs p.1 with | some (j,_,_)=>!Nat.beq j dj | none=>false),st.items,st.nx⟩
def e7c (E:Env) (o:Oper):Bool:=match o.op with
 | .call c=>(match c.callee with | .value (.func K)=>!E.a1Y K | _=>false)
 | _=>false
def leads (ops:List Oper) (j:Nat):Nat->Nat->Bool
 | 0,_=>false
 | n+1,j'=>Nat.beq j' j || (match ops[j']? with | some o=>(match o.guard with | some (j2,_)=>leads ops j n j2 | none=>false) | none=>false)
def early (E:Env) (ops:List Oper) (j:Nat) (l:List Oper):Bool:=l.any fun o=>(match o.guard with | some (j',_)=>leads ops j 8 j' | none=>false) && e7c E o
def b2k (n:Nat) (e:Bool) (q:Bool) (inl:Inl E) (fx:o7 E.N) (lkd:a7 E.N) (st:E.St) (dj:Nat) (w:Bool) (d:Option Nat) (op:Op) (ty:Nat) (k:E.St->Prop):Prop :=
 match (bif e then none else b65 q fx lkd st dj w d op) with
 | some (p,a,d)=>cj (imp p a.ob) (im (imp p a.hy) (k ⟨(d,.un)::st.slots,(d,dj,w,a.v)::st.gs,st.items,st.nx⟩))
 | none=>bif (lk st.gs dj).isNone && !q then (match a1d (s5 fx st dj) with
  | some ⟨p,_⟩ => 
     (p->bif w then b9y q inl fx lkd (put (settle st dj true) (some dj) .tt) d op ty k else k (put (put (settle st dj true) (some dj) .tt) d .undef)) /\
     (¬ p->bif w then k (put (put (settle st dj false) (some dj) .ff) d .undef) else b9y q inl fx lkd (put (settle st dj false) (some dj) .ff) d op ty k)
  | none=>False) else False
def a18 (n:Nat) (q:Bool) (inl:Inl E) (fx:o7 E.N) (lkd:a7 E.N) (ops:List Oper):List Oper->E.St->(E.St->Prop)->Prop
 | [],st,K=>K ⟨st.slots,[],st.items,st.nx⟩
 | o::rest,st,K=>fSt st fun st=>bif free n fx st o.dst && (!q || o.dst.isSome) then (match o.guard with
  | none=>b9y q inl fx lkd st o.dst o.op o.type (fun st=>a18 n q inl fx lkd ops rest st K)
  | some (j,w)=>(match q8 ops j with
   | none=>False
   | some dj=>bif Nat.blt dj n then (match (bif (lk st.gs dj).isNone then s5 fx st dj else .un) with
    | .tt=>bif w then b9y q inl fx lkd st o.dst o.op o.type (fun st=>a18 n q inl fx lkd ops rest st K) else a18 n q inl fx lkd ops rest (put st o.dst .undef) K
    | .ff=>bif w then a18 n q inl fx lkd ops rest (put st o.dst .undef) K else b9y q inl fx lkd st o.dst o.op o.type (fun st=>a18 n q inl fx lkd ops rest st K)
    | .undef=>a18 n q inl fx lkd ops rest (put st o.dst .undef) K
    | _=>b2k n (early E ops j (o::rest)) q inl fx lkd st dj w o.dst o.op o.type (fun st=>a18 n q inl fx lkd ops rest st K)) else False)) else False
def e2j (K:Nat) (st:E.St) (args:List E.SV) (its:a7 E.N):Option (S1 E.N) :=
 match E.con K with
 | some C=>(match C args st.nx with
  | some r=>bif args.all H9 then some ⟨r.ob,r.hy,r.r,number st.nx r.its++its,st.nx+r.its.length⟩ else none
  | none=>none)
 | none=>none
def e63 (o:OC E.N) (its:a7 E.N) (st:E.St):List E.SV->Option (S1 E.N)
 | v::args=>(match v with
  | .ref id off=>bif Nat.beq off 0 && (args.map (a0v its)).all H9 then (match lk st.items id with
   | some (.ob k' _ x)=>if h:k'=o.k then (match o.C (h ▸ x) (args.map (a0v its)) with
    | some r=>some ⟨r.ob,r.hy,r.r,a1w st.items id (.ob o.k st.nx r.x),st.nx+1⟩
    | none=>none) else none
   | _=>none) else none
  | _=>none)
 | []=>none
def c75 (fx:o7 E.N) (lkd:a7 E.N) (st:E.St) (ch:List (Nat×Bool)) (c:Call):Option (S1 E.N) :=
 match callee (evS fx lkd st ch) c with
 | none=>none
 | some (K,args)=>match E.con K with
  | some _=>bif E.a1Y K then none
     else (match frz st.items args with | some (args',its)=>e2j K st args' its | none=>none)
  | none=>(match E.obc K with
   | some o=>e63 o (st.items++lkd) st args
   | none=>(match E.wrc K with
   | some _=>none
   | none=>(E.fnc K).bind (fun o=>c0j o args st.items st.nx)))
def b8h (fx:o7 E.N) (lkd:a7 E.N) (st:E.St) (ch:List (Nat×Bool)) (d:Option Nat) (op:Op) (ty:Nat):Option (S1 E.N) :=
 match c0m E st.items st.nx (evS fx lkd st ch) op ty with
 | some s=>bif okD op d then some s else none
 | none=>(match a3h op with | some c=>c75 fx lkd st ch c | none=>none)
abbrev O8:=List (Nat×List Nat)
def a9m {N:Uni}:SV N->List Nat
 | .ref id _=>[id]
 | .acc id=>[id]
 | .el id _ _ _=>[id]
 | .sub id _ _ _=>[id]
 | .clo _ vs=>vs.flatMap fun v=>match v with | .ref id _=>[id] | _=>[]
 | .agg vs=>vs.flatMap fun v=>match v with | .acc id=>[id] | .ref id _=>[id] | .el id _ _ _=>[id] | _=>[]
 | _=>[]
def c95 {N:Uni} (e:Operand->SV N):Op->List Nat
 | .store _ a x=>a9m (e a)++a9m (e x)
 | .makeInterface _ x=>a9m (e x)
 | .buildSlice _ _ ps=>ps.toList.flatMap fun p=>a9m (e p.2)
 | .call c=>(match c.callee with | .value f=>a9m (e f) | _=>[])++c.args.toList.flatMap fun x=>a9m (e x)
 | _=>[]
def c5q {N:Uni} (its:a7 N) (l:List Nat):List Nat:=l++l.flatMap fun id=>match lk its id with | some (.rw _ _ cells)=>cells.flatMap a9m | _=>[]
def c1n {N:Uni} (its:a7 N) (e:Operand->SV N) (op:Op):List Nat:=match op with
 | .call c=>(match c.callee with | .value _=>reach its 60 (c95 e op) [] | _=>c5q its (c95 e op))
 | _=>c5q its (c95 e op)
def c0p {N:Uni} (v:SV N) (b:Bool):Bool:=match v with
 | .tt=>!b
 | .ff=>b
 | _=>false
def d5k (fx:o7 E.N) (st:E.St) (dj:Nat) (b:Bool):Bool:=match lk st.gs dj with
 | some (_,_,v)=>c0p v b
 | none=>(match s5 fx st dj with | .undef=>true | v=>c0p v b)
def e1g (H:O8) (i:Nat):Option Bool:=bif (lk H (1000000+2 * i+1)).isSome then some true else (bif (lk H (1000000+2 * i)).isSome then some false else none)
def frc (b:Option Bool) (q:Option (Q1 E.N)):Option (Q1 E.N):=match b with
 | none=>q
 | some b=>(match q with
  | some q=>(match a1d q.v with
   | some ⟨p,_⟩=>some ⟨q.ob++[bif b then p else ¬ p],q.hy,bif b then .tt else .ff⟩
   | none=>none)
  | none=>none)
def a2j (fx:o7 E.N) (lkd:a7 E.N) (l:List Oper):Nat->List Oper->E.St->O8->O8
 | _,[],_,H=>H
 | i,o::r,st,H=>fSt st fun st=>match o.guard with
  | none=>(match frc (e1g H i) (gOp false fx lkd st [] o.op) with
   | some a=>a2j fx lkd l (i+1) r (put st o.dst a.v) H
   | none=>(match b8h fx lkd st [] o.dst o.op o.type with
    | some s=>a2j fx lkd l (i+1) r (put ⟨st.slots,st.gs,s.items,s.nx⟩ o.dst s.v) (H++[(i,c1n st.items (evS fx lkd st []) o.op)])
    | none=>[]))
  | some (j,b)=>(match q8 l j with
   | some dj=>bif d5k fx st dj b then a2j fx lkd l (i+1) r (put st o.dst .undef) H else (match b65 false fx lkd st dj b o.dst o.op with
    | some (_,a,d)=>a2j fx lkd l (i+1) r ⟨(d,.un)::st.slots,(d,dj,b,a.v)::st.gs,st.items,st.nx⟩ H
    | none=>(match b8h fx lkd st (chain st.gs 8 dj b) o.dst o.op o.type with
     | some s=>a2j fx lkd l (i+1) r (put ⟨st.slots,st.gs,s.items,s.nx⟩ o.dst s.v) (H++[(i,c1n st.items (evS fx lkd st (chain st.gs 8 dj b)) o.op)])
     | none=>[]))
   | none=>[])
structure Ent (N:Uni) where
 dst:Option Nat
 g:Option (Nat×Nat×Bool)
 sv:SV N
 hy:List Prop
structure DA (N:Uni) where
 a0V:List (Ent N)
 a0O:List Nat
 a1S:List (a7 N×Nat)
def fEs {N:Uni} {α:Sort u}:List (Ent N)->(List (Ent N)->α)->α
 | [],k=>k []
 | e::r,k=>match e with | ⟨a,b,c,d⟩=>fV c fun c=>fEs r fun r=>k (⟨a,b,c,d⟩::r)
theorem c7j {N:Uni} {α:Sort u}:∀ (l:List (Ent N)) (k:List (Ent N)->α),fEs l k=k l
 | [],_=>rfl
 | e::r,k=>by unfold fEs; simp only [b4y]; rw [c7j r]
def fNs {α:Sort u}:List Nat->(List Nat->α)->α
 | [],k=>k []
 | n::r,k=>fN n fun n=>fNs r fun r=>k (n::r)
theorem b2y {α:Sort u}:∀ (l:List Nat) (k:List Nat->α),fNs l k=k l
 | [],_=>rfl
 | n::r,k=>by unfold fNs; rw [b61,b2y r]
def fMs {N:Uni} {α:Sort u}:List (a7 N×Nat)->(List (a7 N×Nat)->α)->α
 | [],k=>k []
 | p::r,k=>match p with | (a,b)=>fIs a fun a=>fN b fun b=>fMs r fun r=>k ((a,b)::r)
theorem d05 {N:Uni} {α:Sort u}:∀ (l:List (a7 N×Nat)) (k:List (a7 N×Nat)->α),fMs l k=k l
 | [],_=>rfl
 | p::r,k=>by unfold fMs; simp only [b8p,b61]; rw [d05 r]
def fDA {N:Uni} {α:Sort u} (a:DA N) (k:DA N->α):α:=match a with
 | ⟨x,y,z⟩=>fEs x fun x=>fNs y fun y=>fMs z fun z=>k ⟨x,y,z⟩
theorem e0p {N:Uni} {α:Sort u} (a:DA N) (k:DA N->α):fDA a k=k a:=by unfold fDA; simp only [c7j,b2y,d05]
def fHs {α:Sort u}:O8->(O8->α)->α
 | [],k=>k []
 | p::r,k=>match p with | (a,b)=>fN a fun a=>fNs b fun b=>fHs r fun r=>k ((a,b)::r)
theorem d0q {α:Sort u}:∀ (l:O8) (k:O8->α),fHs l k=k l
 | [],_=>rfl
 | p::r,k=>by unfold fHs; simp only [b61,b2y]; rw [d0q r]
def bit (ms:List Nat) (i j:Nat):Bool:=(ms.getD i 0).testBit j
def Ent.now {N:Uni} (e:Ent N):SV N:=match e.g with | none=>e.sv | some _=>.un
def Y0 {N:Uni} (p:Nat->Bool):Nat->List (Ent N)->o7 N
 | _,[]=>[]
 | j,e::r=>bif p j then (match e.dst with | some d=>(d,e.now)::Y0 p (j+1) r | none=>Y0 p (j+1) r) else Y0 p (j+1) r
def dGs {N:Uni} (p:Nat->Bool):Nat->List (Ent N)->List (Nat×Nat×Bool×SV N)
 | _,[]=>[]
 | j,e::r=>bif p j then (match e.dst,e.g with | some d,some (jj,dj,b)=>(bif p jj then (d,dj,b,e.sv)::dGs p (j+1) r else dGs p (j+1) r) | _,_=>dGs p (j+1) r) else dGs p (j+1) r
def dHy {N:Uni} (p:Nat->Bool):Nat->List (Ent N)->List Prop
 | _,[]=>[]
 | j,e::r=>bif p j then e.hy++dHy p (j+1) r else dHy p (j+1) r
def shut (ms:List Nat) (H:O8) (i:Nat) (pre:List Nat):List Nat:=H.flatMap fun p=>bif pre.elem p.1 || bit ms p.1 i then [] else p.2
def W1 (ms:List Nat) (i:Nat):List Nat->Nat
 | []=>0
 | e::r=>bif bit ms i e then W1 ms i r+1 else 0
def NX:Nat:=1000000
def cjl:List Prop->Prop
 | []=>True
 | [p]=>p
 | p::q::r=>p/\cjl (q::r)
section
variable (n:Nat) (fx:o7 E.N) (lkd:a7 E.N) (l:List Oper) (ms:List Nat) (H:O8) (st0:E.St)
def dSt (i:Nat) (a:DA E.N) (its:a7 E.N) (nx:Nat):E.St:=⟨Y0 (bit ms i) 0 a.a0V++st0.slots.filter (fun p=>X9 ms i p.1 l 0),dGs (bit ms i) 0 a.a0V,its,nx⟩
def a7t (i:Nat) (o:Oper) (a:DA E.N):Option (List Prop×Ent E.N) :=
 match a.a1S[W1 ms i a.a0O]? with
 | none=>none
 | some m=>bif free n fx (dSt l ms st0 i a (n9 m.1 (shut ms H i (a.a0O.take (W1 ms i a.a0O)))) NX) o.dst then (match o.guard with
  | none=>(match frc (e1g H i) (gOp false fx lkd (dSt l ms st0 i a (n9 m.1 (shut ms H i (a.a0O.take (W1 ms i a.a0O)))) NX) [] o.op),o.dst with
   | some q,some d=>some (q.ob,⟨some d,none,q.v,q.hy⟩)
   | _,_=>none)
  | some (j,b)=>(match q8 l j with
   | some dj=>bif bit ms i j && Nat.blt dj n then (match b65 false fx lkd (dSt l ms st0 i a (n9 m.1 (shut ms H i (a.a0O.take (W1 ms i a.a0O)))) NX) dj b o.dst o.op with
    | some (p,q,d)=>some (imp p q.ob,⟨some d,some (j,dj,b),q.v,imp p q.hy⟩)
    | none=>none) else none
   | none=>none)) else none
def dG (i:Nat) (o:Oper) (st:E.St):Option (List Prop×List (Nat×Bool)):=match o.guard with
 | none=>some ([],[])
 | some (j,b)=>(match q8 l j with
  | some dj=>bif bit ms i j && Nat.blt dj n && o.dst.isSome then (match b4g fx st 8 dj b with | some ⟨p,_⟩=>some ([p],chain st.gs 8 dj b) | none=>none) else none
  | none=>none)
def c84 (i:Nat) (o:Oper) (a:DA E.N) (T:List Nat):Option (List Prop×Ent E.N×(a7 E.N×Nat)) :=
 match a.a1S[a.a0O.length]? with
 | some m=>bif free n fx (dSt l ms st0 i a (within m.1 T) m.2) o.dst && a.a0O.all (bit ms i) then
  (match dG n fx l ms i o (dSt l ms st0 i a (within m.1 T) m.2) with
  | some (g,ch)=>(match b8h fx (n9 m.1 T++lkd) (dSt l ms st0 i a (within m.1 T) m.2) ch o.dst o.op o.type with
   | some s=>bif Nat.ble s.nx NX then some (g++s.ob,⟨o.dst,none,bif o.dst.isSome then s.v else .un,s.hy⟩,(s.items++n9 m.1 T,s.nx)) else none
   | none=>none)
  | none=>none) else none
 | none=>none
def e4w {N:Uni} (e:Ent N) (b:Bool):Bool:=match e.sv with
 | .undef=>e.g.isNone
 | v=>c0p v b
def b6n (n:Nat) (l:List Oper) (ms:List Nat) (i:Nat) (o:Oper) (a:DA E.N):Option (Ent E.N):=match o.guard,o.dst with
 | some (j,b),some d=>(match q8 l j,a.a0V[j]? with
  | some dj,some e=>bif bit ms i j && Nat.blt dj n && Nat.blt d n && e4w e b then some ⟨some d,none,.undef,[]⟩ else none
  | _,_=>none)
 | _,_=>none
def e4g (i:Nat) (o:Oper) (a:DA E.N):Option (List Prop×DA E.N) :=
 match lk H i with
 | none=>(match b6n n l ms i o a with
  | some e=>some ([],⟨a.a0V++[e],a.a0O,a.a1S⟩)
  | none=>(match a7t n fx lkd l ms H st0 i o a with | some (ob,e)=>some (ob,⟨a.a0V++[e],a.a0O,a.a1S⟩) | none=>none))
 | some T=>(match c84 n fx lkd l ms st0 i o a T with | some (ob,e,m)=>some (ob,⟨a.a0V++[e],a.a0O++[i],a.a1S++[m]⟩) | none=>none)
def dGo (K:DA E.N->Prop):Nat->List Oper->DA E.N->Prop
 | _,[],a=>K a
 | i,o::r,a=>fDA a fun a=>match e4g n fx lkd l ms H st0 i o a with
  | some (ob,a')=>bif ob.isEmpty then dGo K (i+1) r a' else im (dHy (bit ms i) 0 a.a0V) (cjl ob)/\dGo K (i+1) r a'
  | none=>False
end
def b3p (l:List Oper):List Nat:=l.filterMap fun o=>o.dst
def e2z (l:List Oper) (st0:E.St) (a:DA E.N):Option E.St :=
 match a.a1S[a.a0O.length]? with
 | some m=>some ⟨Y0 (fun _=>true) 0 a.a0V++st0.slots.filter (fun p=>!(b3p l).elem p.1),[],m.1,m.2⟩
 | none=>none
def a0k (fx:o7 E.N) (l:List Oper):Bool:=l.all fun o=>match o.dst with | some d=>(lk fx d).isNone | none=>true
def a57 (fx:o7 E.N) (lkd:a7 E.N) (l:List Oper) (t:Nat) (H:O8):Nat->List Oper->E.St->Option Prop
 | _,[],_=>none
 | i,o::r,st=>fSt st fun st=>match o.guard with
  | none=>(match frc (e1g H i) (gOp false fx lkd st [] o.op) with
   | some a=>bif Nat.beq i t then (match a.v with | .bl p _=>some p | _=>none) else a57 fx lkd l t H (i+1) r (put st o.dst a.v)
   | none=>(match b8h fx lkd st [] o.dst o.op o.type with
    | some s=>a57 fx lkd l t H (i+1) r (put ⟨st.slots,st.gs,s.items,s.nx⟩ o.dst s.v)
    | none=>none))
  | some (j,b)=>(match q8 l j with
   | some dj=>bif d5k fx st dj b then a57 fx lkd l t H (i+1) r (put st o.dst .undef) else (match b65 false fx lkd st dj b o.dst o.op with
    | some (_,a,d)=>a57 fx lkd l t H (i+1) r ⟨(d,.un)::st.slots,(d,dj,b,a.v)::st.gs,st.items,st.nx⟩
    | none=>(match b8h fx lkd st (chain st.gs 8 dj b) o.dst o.op o.type with
     | some s=>a57 fx lkd l t H (i+1) r (put ⟨st.slots,st.gs,s.items,s.nx⟩ o.dst s.v)
     | none=>none))
   | none=>none)
def b9j (n:Nat) (fx:o7 E.N) (lkd:a7 E.N) (l:List Oper) (st0:E.St) (H0:O8) (K:E.St->Prop):Prop :=
 bif K6 l && a97 l [] && b18 (b3p l) n l && a0k fx l && Nat.ble st0.nx NX then
  fSt st0 fun st0=>fNs (b15 l) fun ms=>fHs (a2j fx lkd l 0 l st0 H0) fun H=>dGo n fx lkd l ms H st0 (fun a=>match e2z l st0 a with | some st=>im (dHy (fun _=>true) 0 a.a0V) (K st) | none=>False) 0 l ⟨[],[],[(st0.items,st0.nx)]⟩
 else False
def a2p (n:Nat) (fx:o7 E.N) (lkd:a7 E.N) (l:List Oper) (st0:E.St) (K:E.St->Prop):List Nat->O8->Prop
 | [],H=>b9j n fx lkd l st0 H K
 | i::r,H=>match a57 fx lkd l i H 0 l st0 with
  | some p=>(p->a2p n fx lkd l st0 K r (H++[(1000000+2 * i+1,[])]))/\(¬ p->a2p n fx lkd l st0 K r (H++[(1000000+2 * i,[])]))
  | none=>a2p n fx lkd l st0 K r H
def b5k (e:Array Edge) (j:Nat):Bool:=e.toList.any fun x=>Nat.beq x.on j && Region.binds .any x
def c03 (E:Env) (T:Nat):Bool:=(match E.zeroV T with | some (.bool false)=>true | _=>false) && (match E.size T with | some s=>Nat.beq s 1 | none=>false) && (match E.a3C T with | some b=>!b | none=>false)
def d0a (E:Env) (n:Nat) (fx:o7 E.N) (l:List Oper):Option (Nat×Nat):=match l with
 | [⟨some a,.alloc T,_,_,_,none⟩,⟨none,.store T1 (.tmp a1) (.const (.bool true)),_,_,e1,none⟩,⟨none,.store T2 (.tmp a2) (.const (.bool false)),_,_,e2,none⟩,⟨some b,.load T3 (.tmp a3),_,_,e3,none⟩] =>
  bif K6 l && Nat.beq T T1 && Nat.beq T T2 && Nat.beq T T3 && Nat.beq a a1 && Nat.beq a a2 && Nat.beq a a3 && !Nat.beq a b && (Nat.blt a n && (lk fx a).isNone) && (Nat.blt b n && (lk fx b).isNone) && b5k e1 0 && b5k e2 0 && b5k e3 0 && c03 E T then some (a,b) else none
 | _=>none
def d9e:Op->Bool
 | .alloc _=>false
 | .box _ _=>false
 | .store _ _ _=>false
 | .buildSlice _ _ _=>false
 | .makeSlice _ _ _=>false
 | .makeInterface _ _=>false
 | .call c=>(match c.callee with | .builtin .append=>false | .builtin .copy=>false | .builtin _=>true | _=>false)
 | _=>true
def b70 (l:List Oper):Bool:=b2l l && l.all fun o=>d9e o.op
def first:Code->Option Nat
 | .region id _ _=>some id
 | .seq a b=>(match first a with | some i=>some i | none=>first b)
 | .block _ c=>first c
 | .loop c=>first c
 | .scope c=>first c
 | .cond _ a b=>(match first a with | some i=>some i | none=>first b)
 | _=>none
def rbP (E:Env) (fx:o7 E.N) (st:E.St) (fx':o7 E.N) (st':E.St) (vs:List LV) {α:Type} (f:Cur E.N α vs) (K:α->Prop):Prop :=
 bif c3e E fx st fx' st' vs then (match O7 E fx' st' vs f with | some a=>K a | none=>False) else False
def b84:List LV->List (List LV)
 | []=>[[]]
 | v::r=>match v with
  | .alt=>[]::b84 r
  | v=>(match b84 r with | []=>[[v]] | a::s=>(v::a)::s)
def ShP (N:Uni):List (List LV)->Type
 | []=>Unit
 | vs::r=>(Cur N Prop vs×Cur N Nat vs)×ShP N r
def exS (N:Uni):(ss:List (List LV))->(ShP N ss->Prop)->Prop
 | [],k=>k ()
 | vs::r,k=>∃ (I:Cur N Prop vs) (m:Cur N Nat vs),exS N r (fun p=>k ((I,m),p))
def fits (E:Env) (fx:o7 E.N) (st:E.St) (fx':o7 E.N) (st':E.St) (vs:List LV):Bool:=c3e E fx st fx' st' vs && (O7 E fx' st' vs (P4 () vs)).isSome
def rbS (E:Env) (fx:o7 E.N) (st:E.St) (fx':o7 E.N) (st':E.St):(ss:List (List LV))->ShP E.N ss->(Prop×Nat->Prop)->Prop
 | [],_,_=>False
 | vs::r,p,K=>bif fits E fx st fx' st' vs then rbP E fx st fx' st' vs (a1b vs p.1.1 p.1.2) K else rbS E fx st fx' st' r p.2 K
def b2u (E:Env) (fx:o7 E.N) (st:E.St):(ss:List (List LV))->ShP E.N ss->(Prop×Nat->E.St->Prop)->Prop
 | [],_,_=>True
 | vs::r,p,G=>S6 E fx st vs (a1b vs p.1.1 p.1.2) ⟨[],[],[],st.nx⟩ G/\b2u E fx st r p.2 G
def b5v (E:Env) (fx:o7 E.N) (st:E.St):List (List LV)->List Nat
 | []=>[]
 | vs::r=>bif fits E fx st fx st vs then D5 E fx st vs else b5v E fx st r
def vcU {S:Type} (b:S->(S->Prop)->Prop):Nat->S->Prop
 | 0,_=>False
 | n+1,st=>b st (vcU b n)
inductive LK
 | one
 | many (ss:List (List LV))
 | unr (n:Nat)
def d6d (vs:List LV):LK:=match vs with
 | [.unr n]=>.unr n
 | vs=>bif vs.any (fun v=>match v with | .alt=>true | _=>false) then .many (b84 vs) else .one
def c1r {α:Sort u} (fx:o7 E.N) (st:E.St):List Nat->(o7 E.N->α)->α
 | [],k=>k []
 | s::r,k=>fV (s5 fx st s) fun v=>c1r fx st r fun l=>k ((s,v)::l)
theorem b6j {α:Sort u} {fx:o7 E.N} {st:E.St}:∀ (ks:List Nat) (k:o7 E.N->α),c1r fx st ks k=k (D4 fx st ks)
 | [],_=>rfl
 | s::r,k=>by unfold c1r; rw [b4y,b6j r]; rfl
def d0b (ks:List Nat) (fx:o7 E.N) (st:E.St) (k:E.St->Prop):Prop:=bif ks.isEmpty then k st else c1r fx st ks fun l=>k ⟨l,[],st.items,st.nx⟩
def d7b {N:Uni}:SV N->SV N
 | .bl p d=>bif @decide p d then .tt else .ff
 | v=>v
def c02:List Nat->E.St->E.St
 | [],st=>st
 | s::r,st=>c02 r (match lk st.slots s with | some v=>⟨(s,d7b v)::st.slots,st.gs,st.items,st.nx⟩ | none=>st)
def behind (an:Ann) (id:Nat) (k:E.St->Prop):E.St->Prop:=match an.join (2000000+id) with | some a=>fun st=>k (c02 a.keep st) | none=>k
def c7b:List Oper->Nat->List Nat
 | [],_=>[]
 | _::r,i=>i::c7b r (i+1)
def c2k (l:List Oper) (done:List Nat):Bool:=(c7b l 0).all fun i=>done.elem i
def rdy (l:List Oper) (done:List Nat) (i:Nat):Bool:=match l[i]? with
 | some o=>!done.elem i && o.after.toList.all fun e=>!Region.binds .any e || done.elem e.on
 | none=>false
def cjF (f:Nat->Prop):List Nat->Prop
 | []=>True
 | [i]=>f i
 | i::j::r=>f i/\cjF f (j::r)
def a8l (n:Nat) (inl:Inl E) (fx:o7 E.N) (lkd:a7 E.N) (l:List Oper) (K:E.St->Prop):Nat->List Nat->E.St->Prop
 | 0,done,st=>bif c2k l done then K st else False
 | k+1,done,st=>bif c2k l done then K st else cjF (fun i=>match l[i]? with
  | some o=>a18 n false inl fx lkd l [o] st (fun st=>a8l n inl fx lkd l K k (i::done) st)
  | none=>False) ((c7b l 0).filter (rdy l done))
def vc (inl:Inl E) (an:Ann):Code->o7 E.N->a7 E.N->E.St->Ks E->Prop
 | .skip,_,_,st,K=>K.n st
 | .ret,_,_,st,K=>K.r st
 | .exit i,_,_,st,K=>(match lk K.e i with | some k=>k st | none=>False)
 | .seq a b,fx,lkd,st,K=>(match (first b).bind an.join with
  | none=>vc inl an a fx lkd st ⟨fun st=>vc inl an b fx lkd st K,K.r,K.e⟩
  | some j=>match d6d j.vars with
   | .unr s=>vc inl an a fx lkd st ⟨fun st=>(match a1d (s5 fx st s) with
    | some ⟨p,_⟩=>(p->vc inl an b fx lkd ⟨(s,.tt)::st.slots,[],st.items,st.nx⟩ K)/\(¬ p->vc inl an b fx lkd ⟨(s,.ff)::st.slots,[],st.items,st.nx⟩ K)
    | none=>False),K.r,K.e⟩
   | _=>∃ J:Cur E.N Prop j.vars,
    vc inl an a (D4 fx st j.keep++fx) (n9 st.items (D5 E fx st j.vars)++lkd) (inn st (D5 E fx st j.vars))
     (a7x (D4 fx st j.keep) (n9 st.items (D5 E fx st j.vars)) K (fun st'=>rbP E fx st (D4 fx st j.keep++fx) st' j.vars J id)) /\
    S6 E fx st j.vars J ⟨[],[],[],st.nx⟩ (fun x new=>x->vc inl an b fx lkd ⟨new.slots++D4 fx st j.keep,[],new.items++n9 st.items (D5 E fx st j.vars),new.nx⟩ K))
 | .block i c,fx,lkd,st,K=>vc inl an c fx lkd st ⟨K.n,K.r,(i,K.n)::K.e⟩
 | .cond o a b,fx,lkd,st,K=>(match evS fx lkd st [] o with
  | .tt=>vc inl an a fx lkd st K
  | .ff=>vc inl an b fx lkd st K
  | .bl p _=>(p->vc inl an a fx lkd st K)/\(¬ p->vc inl an b fx lkd st K)
  | _=>False)
 | .region id ops dr,fx,lkd,st,K=>bif !dr || b70 ops.toList then a18 an.n dr inl fx lkd ops.toList ops.toList ⟨st.slots,[],st.items,st.nx⟩ (behind an id K.n) else (match d0a E an.n fx ops.toList with
  | some (a,b)=>(behind an id K.n) ⟨(b,.tt)::(a,.un)::st.slots,[],st.items,st.nx⟩/\(behind an id K.n) ⟨(b,.ff)::(a,.un)::st.slots,[],st.items,st.nx⟩
  | none=>(match an.join (3000000+id) with
   | some _=>bif K6 ops.toList then a8l an.n inl fx lkd ops.toList (behind an id K.n) ops.toList.length [] ⟨st.slots,[],st.items,st.nx⟩ else False
   | none=>a2p an.n fx lkd ops.toList ⟨st.slots,[],st.items,st.nx⟩ (behind an id K.n) (match an.join (1000000+id) with | some a=>a.keep | none=>[]) []))
 | .loop c,fx,lkd,st,K=>(match (first c).bind an.loop with
  | none=>False
  | some a=>match d6d a.vars with
   | .unr n=>vcU (fun st n'=>d0b a.keep fx st fun st=>vc inl an c fx lkd st ⟨n',K.r,K.e⟩) n ⟨st.slots,[],st.items,st.nx⟩
   | .many ss=>exS E.N ss (fun P =>
    rbS E fx st (D4 fx st a.keep++fx) (inn st (b5v E fx st ss)) ss P (fun im=>im.1) /\
    b2u E fx st ss P (fun im new=>im.1 ->
     vc inl an c (D4 fx st a.keep++fx) (n9 st.items (b5v E fx st ss)++lkd) new
      (a7x (D4 fx st a.keep) (n9 st.items (b5v E fx st ss)) K (fun st'=>rbS E fx st (D4 fx st a.keep++fx) st' ss P (fun im'=>im'.1/\im'.2<im.2)))))
   | .one=>∃ (I:Cur E.N Prop a.vars) (m:Cur E.N Nat a.vars),
    rbP E fx st (D4 fx st a.keep++fx) (inn st (D5 E fx st a.vars)) a.vars (a1b a.vars I m) (fun im=>im.1) /\
    S6 E fx st a.vars (a1b a.vars I m) ⟨[],[],[],st.nx⟩ (fun im new=>im.1 ->
     vc inl an c (D4 fx st a.keep++fx) (n9 st.items (D5 E fx st a.vars)++lkd) new
      (a7x (D4 fx st a.keep) (n9 st.items (D5 E fx st a.vars)) K (fun st'=>rbP E fx st (D4 fx st a.keep++fx) st' a.vars (a1b a.vars I m) (fun im'=>im'.1/\im'.2<im.2)))))
 | _,_,_,_,_=>False
end Go.Rx
end
section
namespace Go.Rx
open Go Go.Wk Go.Wl
section
variable {N:Uni} {T:O9} {ρ:r9} {Z:Nat->Prop} {w:World} {cs:List Value} {s:SV N}
def a43:SV N->Option Int
 | .int k x=>match k with | .i64=>some x | _=>none
 | _=>none
def asY:SV N->Option UInt8
 | .byte x=>some x
 | _=>none
def asS:SV N->Option Str
 | .str x=>some x
 | _=>none
theorem j8.one {v:Value} (h:Rep N T ρ Z w v s) (hp:A2 v=true):j8 N T ρ Z w [v] [s]:=Rep.a1V h hp Rep.a2M
theorem j8.cons {v:Value} {ss:List (SV N)} (h:Rep N T ρ Z w v s) (hp:A2 v=true) (r:j8 N T ρ Z w cs ss):j8 N T ρ Z w (v::cs) (s::ss):=Rep.a1V h hp r
theorem e75 {x:Int} (h:InI x):Rep N T ρ Z w (.int .i64 x) (.int .i64 x):=.int (fun _=>h)
theorem b40 {x:Int} (h:G2.rd Z w cs x):j8 N T ρ Z w cs [.int .i64 x]:=by
 obtain ⟨rfl,h⟩:=h; exact j8.one (e75 h) rfl
theorem d2o {x:UInt8} (h:n5.rd Z w cs x):j8 N T ρ Z w cs [.byte x]:=by
 obtain rfl:cs=_:=h; exact j8.one .byte rfl
theorem c86 {x:Str} (h:a09.rd Z w cs x):j8 N T ρ Z w cs [.str x]:=by
 obtain ⟨rfl,h⟩:=h; exact j8.one (.str h) rfl
theorem j8.a4L (h:j8 N T ρ Z w cs [s]):∃ v,cs=[v]/\Rep N T ρ Z w v s/\A2 v=true:=by
 obtain ⟨v,r,rfl,h1,hp,h2⟩:=j8.cons_inv h
 obtain rfl:=j8.a0Q h2
 simp_all
theorem b55 {v:Value} {x:Int} (h:Rep N T ρ Z w v s) (e:a43 s=some x):v=.int .i64 x/\InI x:=by
 cases h with
 | @int k y h=>cases k <;> simp [a43] at e; simp_all
 | _=>simp [a43] at e
theorem d9g {v:Value} {x:UInt8} (h:Rep N T ρ Z w v s) (e:asY s=some x):v=bv x:=by
 cases h with
 | byte=>simp [asY] at e; subst e; rfl
 | _=>simp [asY] at e
theorem c9d {v:Value} {x:Str} (h:Rep N T ρ Z w v s) (e:asS s=some x):v=sv x/\x.length<=9223372036854775807:=by
 cases h with
 | str h=>simp [asS] at e; simp_all
 | _=>simp [asS] at e
theorem b7w {α:Type} {f:SV N->Option α} {r:Rd α} {x:α} (hf:∀ vs,f (.agg vs)=none) (hr:∀ v,Rep N T ρ Z w v s->f s=some x->r.rd Z w [v] x) (h:j8 N T ρ Z w cs (leaves s)) (e:f s=some x):r.rd Z w cs x:=by
 cases s with
 | agg vs=>simp_all
 | _=>obtain ⟨v,rfl,h1,_⟩:=j8.a4L h; simp_all
theorem e1b {x:Int} (h:j8 N T ρ Z w cs (leaves s)) (e:a43 s=some x):G2.rd Z w cs x:=b7w (fun _=>rfl) (fun v h e=>by have ⟨a,b⟩:=b55 h e; rw [a]; exact ⟨rfl,b⟩) h e
theorem d4o {x:UInt8} (h:j8 N T ρ Z w cs (leaves s)) (e:asY s=some x):n5.rd Z w cs x:=b7w (r:=n5) (fun _=>rfl) (fun v h e=>by obtain rfl:=d9g h e; rfl) h e
theorem e1q {x:Str} (h:j8 N T ρ Z w cs (leaves s)) (e:asS s=some x):a09.rd Z w cs x:=b7w (r:=a09) (fun _=>rfl) (fun v h e=>by have ⟨a,b⟩:=c9d h e; rw [a]; exact ⟨rfl,b⟩) h e
end
section
variable {E:Env} {ρ:r9} {Z:Nat->Prop} {w:World} {v:Value} {s:E.SV} {t:Nat}
theorem c54 {l:List (E.N.U t)} (h:Rep E.N E.T ρ Z w v s) (e:asL E t s=some l):(q9 (E.N.tb t).r).rd Z w [v] l:=by
 cases h with
 | a1K=>simp [asL] at e; subst e; exact V1
 | sl h =>
  simp only [asL] at e
  split at e
  . rename_i ht; subst ht; simp [V6] at e; simp_all
  . cases e
 | _=>simp [asL] at e
end
end Go.Rx
end
section
namespace Go.Rx
open Go Go.Wk Go.Wl
variable {E:Env}
def a6j (st:E.St):ResultVar->Option E.SV
 | .tmp t=>lk st.slots t
 | .cell a T=>(match lk st.slots a with
  | some (.ref id off)=>(match lk st.items id with
   | some (.own _ cells)=>(match E.a3C T,E.size T with
    | some true,some n=>bif Nat.beq off 0 && Nat.beq n cells.length then some (.agg cells) else none
    | _,_=>none)
   | _=>none)
  | _=>none)
def d5e (fn:Func) (st:E.St):Option E.SV:=match fn.results.toList with
 | []=>some (.tup [])
 | [r]=>a6j st r
 | [r,s]=>(match a6j st r,a6j st s with | some a,some b=>some (.tup [a,b]) | _,_=>none)
 | [r,s,t]=>(match a6j st r,a6j st s,a6j st t with | some a,some b,some c=>some (.tup [a,b,c]) | _,_,_=>none)
 | [r,s,t,u]=>(match a6j st r,a6j st s,a6j st t,a6j st u with | some a,some b,some c,some d=>some (.tup [a,b,c,d]) | _,_,_,_=>none)
 | _=>none
def o9 (inl:Inl E) (an:Ann) (fn:Func) (args:List E.SV) (its lkd:a7 E.N) (nx:Nat) (k:E.SV->a7 E.N->Nat->Prop):Prop:=match fn.body with
 | some c=>bif Nat.ble args.length fn.ntmps then vc inl ⟨fn.ntmps,an.loop,an.join⟩ c [] lkd ⟨number 0 args,[],its,nx⟩ ⟨fun st=>(match d5e fn st with | some v=>k v st.items st.nx | none=>False),fun st=>(match d5e fn st with | some v=>k v st.items st.nx | none=>False),[]⟩ else False
 | none=>False
def parts (ks:List VK) (v:E.SV):List E.SV:=match ks with
 | [_]=>[v]
 | _=>(match v with | .tup vs=>vs | v=>[v])
def a7l (E:Env) (ks:List VK) (Q:I1 E.N Prop ks):E.SV->a7 E.N->Nat->Prop:=fun v its _ =>
 match G9 E its ks (parts ks v) Q with
 | some p=>p
 | none=>False
end Go.Rx
end
section
namespace Go.Rx
open Go Go.Wk Go.Wl
structure Ctx where
 ρ0:r9
 Z0:Nat->Prop
 w0:World
 B0:List Nat
 w1:World
structure Mem (E:Env) (C:Ctx) (ρ:r9) (Z:Nat->Prop) (w:World) (its:a7 E.N) (nx:Nat):Prop where
 sep:Sep C.B0 C.w0 Z w (s6 E.N E.T ρ C.B0 its)
 fr:∀ i,nx<=i->ρ i=none
 ge:∀ i L,C.ρ0 i=some L->ρ i=some L
 zge:∀ b,C.Z0 b->Z b
 zle:∀ b,Z b->C.Z0 b ∨ b∈C.B0 ∨ C.w0.heap.size<=b
section
variable {P:Program} {T:TypeId} {d:TypeDesc} {w:World}
theorem J0 (h:P.underlying T=some d) (w:World):(underlying T).run P w=.ok d w:=by
 show (match P.underlying T with | some d=>pure d | none=>stuck "no such type" : Sem TypeDesc).run P w=_
 rw [h]; rfl
theorem a7v {i:TypeInfo} (h:P.info? T=some i) (w:World):(typeInfo T).run P w=.ok i w:=by
 show (match P.info? T with | some i=>pure i | none=>stuck "no such type" : Sem TypeInfo).run P w=_
 rw [h]; rfl
theorem J8 {n:Nat} (h:(P.info? T).map (·.size)=some n) (w:World):(sizeOf T).run P w=.ok n w:=by
 cases hi:P.info? T with
 | none=>simp_all
 | some i=>rw [hi] at h; simp at h; subst h; unfold sizeOf; rw [b3S,a7v hi]; rfl
theorem a2a {v:Value} (h:(P.info? T).bind (·.zero)=some v) (w:World):(zeroValue T).run P w=.ok v w:=by
 cases hi:P.info? T with
 | none=>simp_all
 | some i=>rw [hi] at h; simp at h; unfold zeroValue; rw [b3S,a7v hi,b3O,h]; rfl
theorem b1t {b:Bool} (h:(match P.underlying T with | some (.struct _)=>some true | some (.array _ _)=>some true | some _=>some false | none=>none)=some b) (w:World):(isAgg T).run P w=.ok b w:=by
 cases hu:P.underlying T with
 | none=>simp_all
 | some d =>
  rw [hu] at h
  have:=J0 hu w
  unfold isAgg
  rw [b3S,this,b3O]
  cases d <;> simp_all
end
end Go.Rx
end
section
namespace Go.Rx
open Go Go.Wk Go.Wl
section
variable {E:Env} {m:Bool} {n:Nat} {ops:List Oper} {Q:Exit->Fr->World->Prop} {rest:List Oper} {f:Fr} {w:World} {d:Nat}
variable {ty T T':TypeId} {pos:String} {after:Array Edge} {x y z:Operand} {k k':IntKind} {a b:Int} {ρ:r9} {Z:Nat->Prop}
theorem wrap64 {a:Int} (h:i6 a):IntKind.i64.wrap a=a:=Z8 h
theorem wrap64_in (a:Int):InI (IntKind.i64.wrap a):=by
 unfold IntKind.wrap InI
 simp only [IntKind.bits,IntKind.signed,Bool.true_and]
 grind
theorem a35 {k:IntKind} (a:Int):k=.i64->InI (k.wrap a):=fun e=>by subst e; exact wrap64_in a
theorem d3c {a b:Int} (h:InI a):InI (a.tmod b):=by
 unfold InI at *
 rcases Int.le_total 0 a with h0 | h0
 . have h1:=Int.tmod_nonneg b h0
   have h2:a.tmod b<=a:=by
    have:=Int.natAbs_tmod a b
    have:=Nat.mod_le a.natAbs b.natAbs
    omega
   omega
 . have h1:(-a).tmod b=-(a.tmod b):=Int.neg_tmod a b
   have h3:=Int.tmod_nonneg b (a:=-a) (by omega)
   have h2:(-a).tmod b<=-a:=by
    have:=Int.natAbs_tmod (-a) b
    have:=Nat.mod_le (-a).natAbs b.natAbs
    omega
   omega
theorem d3k {a:Int} {p:Nat} (h:InI a):InI (a.fdiv (2 ^ p)):=by
 unfold InI at *
 have hp:(0:Int)<2 ^ p:=Int.pow_pos (by omega)
 rw [b5W _ (by omega)]
 constructor
 . rw [Int.le_ediv_iff_mul_le hp]
   omega
 . rcases Int.lt_or_le a 0 with h0 | h0
   . have:=Int.ediv_neg_of_neg_of_pos h0 hp; omega
   . have:=Int.ediv_le_self (2 ^ p) h0; omega
abbrev KQ (E:Env) (m:Bool) (n:Nat) (ops:List Oper) (Q:Exit->Fr->World->Prop) (rest:List Oper) (f:Fr) (w:World) (d:Nat) (ρ:r9) (Z:Nat->Prop) (q:Q1 E.N):Prop :=
 ∀ v,Rep E.N E.T ρ Z w v q.v->n6 q.hy->WL E.P m n ops Q rest (upd f d v) w
theorem KQ.bln {p:Prop} [dc:Decidable p] {q:Q1 E.N} (K:KQ E m n ops Q rest f w d ρ Z q) (h:bln p=some q):WL E.P m n ops Q rest (upd f d (.bool (decide p))) w:=by
 cases h; exact K _ .bl trivial
theorem KQ.q0 {s:E.SV} {q:Q1 E.N} (K:KQ E m n ops Q rest f w d ρ Z q) (h:q0 s=some q) {v:Value} (hv:Rep E.N E.T ρ Z w v s):WL E.P m n ops Q rest (upd f d v) w:=by
 cases h; exact K _ hv trivial
theorem b0v {op:BinOp} {q:Q1 E.N} (hx:ev f x=.int k a) (hy:ev f y=.int k' b) (ha:k=.i64->InI a) (hk:b2d op=false->k=k') (h:G1 op k a b=some q) (ho:n6 q.ob) (hn:Nat.blt d n=true) (K:KQ E m n ops Q rest f w d ρ Z q) :
  WL E.P m n ops Q (⟨some d,.binOp op T x y T',ty,pos,after,none⟩::rest) f w:=by
 cases op with
 | add =>
  obtain rfl:=hk rfl
  cases k <;> first | (simp only [G1] at h; exact c77 hx hy hn (K.q0 h (.int (a35 _)))) | (simp only [G1,b3N] at h; subst h; exact c0b hx hy ho.1 hn (K _ (.int fun _=>ho.1) trivial))
 | sub =>
  obtain rfl:=hk rfl
  cases k <;> first | (simp only [G1] at h; exact c79 hx hy hn (K.q0 h (.int (a35 _)))) | (simp only [G1,b3N] at h; subst h; exact c0f hx hy ho.1 hn (K _ (.int fun _=>ho.1) trivial))
 | mul =>
  obtain rfl:=hk rfl
  cases k <;> first | (simp only [G1] at h; exact d8d hx hy hn (K.q0 h (.int (a35 _)))) | (simp only [G1,b3N] at h; subst h; exact d6e hx hy ho.1 hn (K _ (.int fun _=>ho.1) trivial))
 | quo =>
  obtain rfl:=hk rfl
  cases k <;> first | (simp only [G1,b3N] at h; subst h; exact c11 hx hy ho.1 hn (K _ (.int (a35 _)) trivial)) | (simp only [G1,b3N] at h; subst h; refine c11 hx hy ho.1 hn ?_; rw [wrap64 ho.2.1]; exact K _ (.int fun _=>ho.2.1) trivial)
 | rem=>obtain rfl:=hk rfl; simp only [G1,b3N] at h; subst h; exact e3e hx hy ho.1 hn (K _ (.int fun e=>d3c (ha e)) trivial)
 | shr=>simp only [G1,b3N] at h; subst h; exact e5e hx hy ho.1 hn (K _ (.int fun e=>d3k (ha e)) trivial)
 | shl=>simp only [G1,b3N] at h; subst h; exact e4j hx hy ho.1 hn (K _ (.int (a35 _)) trivial)
 | and=>obtain rfl:=hk rfl; simp only [G1] at h; exact d7c hx hy hn (K.q0 h (.int (a35 _)))
 | or=>obtain rfl:=hk rfl; simp only [G1] at h; exact e7b hx hy hn (K.q0 h (.int (a35 _)))
 | xor=>obtain rfl:=hk rfl; simp only [G1] at h; exact e5s hx hy hn (K.q0 h (.int (a35 _)))
 | eql=>obtain rfl:=hk rfl; simp only [G1] at h; exact a36 hx hy hn (K.bln h)
 | neq=>obtain rfl:=hk rfl; simp only [G1] at h; exact c18 hx hy hn (K.bln h)
 | lss=>obtain rfl:=hk rfl; simp only [G1] at h; exact a7r hx hy hn (K.bln h)
 | leq=>obtain rfl:=hk rfl; simp only [G1] at h; exact d6i hx hy hn (K.bln h)
 | gtr=>obtain rfl:=hk rfl; simp only [G1] at h; exact b4f hx hy hn (K.bln h)
 | geq=>obtain rfl:=hk rfl; simp only [G1] at h; exact c83 hx hy hn (K.bln h)
 | andNot=>simp [G1] at h
theorem c3q {op:BinOp} {q:Q1 E.N} (hx:ev f x=.int k a) (hy:ev f y=.int k' b) (ha:k=.i64->InI a) (h:b8g op k k' a b=some q) (ho:n6 q.ob) (hn:Nat.blt d n=true) (K:KQ E m n ops Q rest f w d ρ Z q) :
  WL E.P m n ops Q (⟨some d,.binOp op T x y T',ty,pos,after,none⟩::rest) f w:=by
 unfold b8g at h
 cases hs:b2d op with
 | true=>rw [hs,b4G] at h; exact b0v hx hy ha (fun e=>by simp_all) h ho hn K
 | false =>
  rw [hs,b4X] at h
  split at h
  . rename_i e; exact b0v hx hy ha (fun _=>e) h ho hn K
  . cases h
theorem d9w (a b:UInt8):Value.int .u8 (IntKind.u8.wrap ((a.toNat:Int)-(b.toNat:Int)))=bv (a-b):=by
 unfold bv; congr 1
 rw [UInt8.toNat_sub]
 have ha:=a.toNat_lt; have hb:=b.toNat_lt
 simp only [IntKind.wrap,IntKind.bits,IntKind.signed,Bool.false_and,b5M,if_false]
 omega
theorem u8_and (a b:UInt8):Value.int .u8 (IntKind.u8.wrap (BitVec.ofInt IntKind.u8.bits (a.toNat:Int) &&& BitVec.ofInt IntKind.u8.bits (b.toNat:Int)).toNat)=bv (a &&& b):=by
 have ha:=a.toNat_lt; have hb:=b.toNat_lt
 have e1:BitVec.ofInt IntKind.u8.bits (a.toNat:Int)=a.toBitVec:=by
  apply BitVec.eq_of_toNat_eq; simp [IntKind.bits]
 have e2:BitVec.ofInt IntKind.u8.bits (b.toNat:Int)=b.toBitVec:=by
  apply BitVec.eq_of_toNat_eq; simp [IntKind.bits]
 rw [e1,e2]
 have e3:((a.toBitVec &&& b.toBitVec).toNat)=(a &&& b).toNat:=rfl
 have h3:=(a &&& b).toNat_lt
 unfold bv; congr 1
 show IntKind.u8.wrap (((a.toBitVec &&& b.toBitVec).toNat:Nat):Int)=_
 rw [e3]
 simp only [IntKind.wrap,IntKind.bits,IntKind.signed,Bool.false_and,b5M,if_false]
 omega
theorem W5 {p q:Prop} [Decidable p] [Decidable q] (h:p↔q):decide p=decide q:=by simp [h]
theorem b82 {op:BinOp} {a b:UInt8} {q:Q1 E.N} (hx:ev f x=bv a) (hy:ev f y=bv b) (h:L6 op a b=some q) (ho:n6 q.ob) (hn:Nat.blt d n=true) (K:KQ E m n ops Q rest f w d ρ Z q) :
  WL E.P m n ops Q (⟨some d,.binOp op T x y T',ty,pos,after,none⟩::rest) f w:=by
 have hx':ev f x=.int .u8 a.toNat:=hx
 have hy':ev f y=.int .u8 b.toNat:=hy
 cases op with
 | add=>simp only [L6] at h; exact e02 hx hy hn (K.q0 h .byte)
 | sub=>simp only [L6] at h; refine c79 hx' hy' hn ?_; rw [d9w]; exact K.q0 h .byte
 | and=>simp only [L6] at h; refine d7c hx' hy' hn ?_; rw [u8_and]; exact K.q0 h .byte
 | eql=>simp only [L6] at h; refine a36 hx' hy' hn ?_; rw [W5 (show ((a.toNat:Int)=b.toNat)↔a=b by rw [Int.ofNat_inj]; exact b8I)]; exact K.bln h
 | neq=>simp only [L6] at h; refine c18 hx' hy' hn ?_; rw [W5 (show ((a.toNat:Int)≠b.toNat)↔a≠b by rw [Ne,Ne,Int.ofNat_inj,b8I])]; exact K.bln h
 | lss=>simp only [L6] at h; refine a7r hx' hy' hn ?_; rw [W5 (show ((a.toNat:Int)<b.toNat)↔a<b by rw [Int.ofNat_lt,UInt8.lt_iff_toNat_lt])]; exact K.bln h
 | leq=>simp only [L6] at h; refine d6i hx' hy' hn ?_; rw [W5 (show ((a.toNat:Int)<=b.toNat)↔a<=b by rw [Int.ofNat_le,UInt8.le_iff_toNat_le])]; exact K.bln h
 | gtr=>simp only [L6] at h; refine b4f hx' hy' hn ?_; rw [W5 (show ((b.toNat:Int)<a.toNat)↔b<a by rw [Int.ofNat_lt,UInt8.lt_iff_toNat_lt])]; exact K.bln h
 | geq=>simp only [L6] at h; refine c83 hx' hy' hn ?_; rw [W5 (show ((b.toNat:Int)<=a.toNat)↔b<=a by rw [Int.ofNat_le,UInt8.le_iff_toNat_le])]; exact K.bln h
 | _=>simp [L6] at h
theorem c3f {op:BinOp} {a b:Str} {q:Q1 E.N} (hx:ev f x=sv a) (hy:ev f y=sv b) (h:a52 op a b=some q) (ho:n6 q.ob) (hn:Nat.blt d n=true) (K:KQ E m n ops Q rest f w d ρ Z q) :
  WL E.P m n ops Q (⟨some d,.binOp op T x y T',ty,pos,after,none⟩::rest) f w:=by
 cases op with
 | add=>simp only [a52,b3N] at h; subst h; exact e00 hx hy ho.1 hn (K _ (.str (by rw [b3P]; exact ho.1)) trivial)
 | eql=>simp only [a52] at h; exact e2c hx hy hn (K.bln h)
 | neq=>simp only [a52] at h; exact d9l hx hy hn (K.bln h)
 | _=>simp [a52] at h
end
end Go.Rx
end
section
namespace Go.Rx
open Go Go.Wk Go.Wl
section
variable {N:Uni} {T:O9} {ρ:r9} {Z:Nat->Prop} {w:World} {cs:List Value} {ss:List (SV N)}
theorem j8.drop (h:j8 N T ρ Z w cs ss):∀ o:Nat,j8 N T ρ Z w (cs.drop o) (ss.drop o):=by
 intro o
 induction o generalizing cs ss with
 | zero=>exact h
 | succ o ih =>
  cases ss with
  | nil=>have:=j8.a0Q h; simp_all
  | cons s ss=>obtain ⟨v,r,rfl,_,_,h⟩:=j8.cons_inv h; exact ih h
theorem j8.take (h:j8 N T ρ Z w cs ss):∀ o:Nat,j8 N T ρ Z w (cs.take o) (ss.take o):=by
 intro o
 induction o generalizing cs ss with
 | zero=>exact j8.nil
 | succ o ih =>
  cases ss with
  | nil=>have:=j8.a0Q h; simp_all
  | cons s ss=>obtain ⟨v,r,rfl,h1,hp,h⟩:=j8.cons_inv h; exact Rep.a1V h1 hp (ih h)
end
theorem v6 {β:Type} {l:List (Nat×β)} {j:Nat} {x:β} (h:lk l j=some x):∃ i:Nat,l[i]?=some (j,x)/\(∀ y,a1w l j y=l.set i (j,y))/\rmv l j=l.eraseIdx i:=by
 induction l with
 | nil=>cases h
 | cons p r ih =>
  unfold lk at h
  cases hb:Nat.beq p.1 j with
  | true =>
   rw [hb,b4G] at h; cases h
   have e:=b3Q hb
   refine ⟨0,?_,fun y=>?_,?_⟩
   . simp [<- e]
   . simp [a1w,hb,e]
   . simp [rmv,hb]
  | false =>
   rw [hb,b4X] at h
   obtain ⟨i,h1,h2,h3⟩:=ih h
   exact ⟨i+1,by simp_all,fun y=>by simp [a1w,hb,h2],by simp [rmv,hb,h3]⟩
section
variable {E:Env} {C:Ctx} {m:Bool} {n:Nat} {ops:List Oper} {Q:Exit->Fr->World->Prop} {rest:List Oper} {f:Fr} {w:World} {d:Nat}
variable {ty T T':TypeId} {pos:String} {after:Array Edge} {x y z:Operand} {k k':IntKind} {a b:Int} {ρ:r9} {Z:Nat->Prop} {its:a7 E.N} {nx:Nat} {q:Q1 E.N}
theorem Mem.at (hm:Mem E C ρ Z w its nx) {id:Nat} {i:Item E.N} (h:lk its id=some i):holds E.N E.T ρ id Z w i:=by
 obtain ⟨j,hj,_⟩:=v6 h
 exact hm.sep.at j (t:=H2 E.N E.T ρ C.B0 id i) (by simp [s6,hj])
theorem Rep.a2K {v:Value} {s:E.SV} {p:Prop} {dc:Decidable p} (h:Rep E.N E.T ρ Z w v s) (e:a1d s=some ⟨p,dc⟩):v=.bool (@decide p dc):=by
 cases h with
 | tt=>cases e; rfl
 | ff=>cases e; rfl
 | bl=>cases e; rfl
 | _=>cases e
theorem c99 {ms:Array (String×TypeId)} {e:Err} (hT:∀ w,(underlying T).run E.P w=.ok (.interface ms) w) (hx:a5z E.T Z w (ev f x) e) (hn:Nat.blt d n=true) (K:WL E.P m n ops Q rest (upd f d (.bool (decide (e=.nil)))) w) :
  WL E.P m n ops Q (⟨some d,.binOp .eql T x (.const .nilIface) T',ty,pos,after,none⟩::rest) f w:=by
 have hy:ev f (.const .nilIface)=Value.nilIface:=rfl
 generalize hv:ev f x=v at hx
 cases hx with
 | nil =>
  rw [b4R rfl] at K
  exact n7 rfl rfl hn (v:=.bool true) (fun w1 _=>by simp [execOp,hv,hy,eqGuard,Go.binOp,go_sem,a95 hT]) K
 | no h =>
  rw [b5K (by simp)] at K
  exact n7 rfl rfl hn (v:=.bool false) (fun w1 _=>by simp [execOp,hv,hy,eqGuard,Go.binOp,go_sem,O3 hT]) K
 | fault h1 h2 h3 h4 h5 =>
  rw [b5K (by simp)] at K
  exact n7 rfl rfl hn (v:=.bool false) (fun w1 _=>by simp [execOp,hv,hy,eqGuard,Go.binOp,go_sem,O3 hT]) K
 | w h1 h2 h3 =>
  rw [b5K (by simp)] at K
  exact n7 rfl rfl hn (v:=.bool false) (fun w1 _=>by simp [execOp,hv,hy,eqGuard,Go.binOp,go_sem,O3 hT]) K
 | p h1 h2 h3 h4 =>
  rw [b5K (by simp)] at K
  exact n7 rfl rfl hn (v:=.bool false) (fun w1 _=>by simp [execOp,hv,hy,eqGuard,Go.binOp,go_sem,O3 hT]) K
theorem c8j {ms:Array (String×TypeId)} {e:Err} (hT:∀ w,(underlying T).run E.P w=.ok (.interface ms) w) (hx:a5z E.T Z w (ev f x) e) (hn:Nat.blt d n=true) (K:WL E.P m n ops Q rest (upd f d (.bool (decide (e≠.nil)))) w) :
  WL E.P m n ops Q (⟨some d,.binOp .neq T x (.const .nilIface) T',ty,pos,after,none⟩::rest) f w:=by
 have hy:ev f (.const .nilIface)=Value.nilIface:=rfl
 generalize hv:ev f x=v at hx
 cases hx with
 | nil =>
  rw [b5K (by simp)] at K
  exact n7 rfl rfl hn (v:=.bool false) (fun w1 _=>by simp [execOp,hv,hy,eqGuard,Go.binOp,go_sem,a95 hT]) K
 | no h =>
  rw [b4R (by simp)] at K
  exact n7 rfl rfl hn (v:=.bool true) (fun w1 _=>by simp [execOp,hv,hy,eqGuard,Go.binOp,go_sem,O3 hT]) K
 | fault h1 h2 h3 h4 h5 =>
  rw [b4R (by simp)] at K
  exact n7 rfl rfl hn (v:=.bool true) (fun w1 _=>by simp [execOp,hv,hy,eqGuard,Go.binOp,go_sem,O3 hT]) K
 | w h1 h2 h3 =>
  rw [b4R (by simp)] at K
  exact n7 rfl rfl hn (v:=.bool true) (fun w1 _=>by simp [execOp,hv,hy,eqGuard,Go.binOp,go_sem,O3 hT]) K
 | p h1 h2 h3 h4 =>
  rw [b4R (by simp)] at K
  exact n7 rfl rfl hn (v:=.bool true) (fun w1 _=>by simp [execOp,hv,hy,eqGuard,Go.binOp,go_sem,O3 hT]) K
theorem d2z {e:TypeId} {a:Addr} (hT:∀ w,(underlying T).run E.P w=.ok (.pointer e) w) (hx:ev f x=.pointer (some a)) (hy:ev f y=.pointer none) (hn:Nat.blt d n=true) (K:WL E.P m n ops Q rest (upd f d (.bool false)) w) :
  WL E.P m n ops Q (⟨some d,.binOp .eql T x y T',ty,pos,after,none⟩::rest) f w :=
 n7 rfl rfl hn (v:=.bool false) (fun w1 _=>by simp [execOp,hx,hy,eqGuard,Go.binOp,go_sem,a4v hT]) K
theorem d4v {e:TypeId} {a:Addr} (hT:∀ w,(underlying T).run E.P w=.ok (.pointer e) w) (hx:ev f x=.pointer (some a)) (hy:ev f y=.pointer none) (hn:Nat.blt d n=true) (K:WL E.P m n ops Q rest (upd f d (.bool true)) w) :
  WL E.P m n ops Q (⟨some d,.binOp .neq T x y T',ty,pos,after,none⟩::rest) f w :=
 n7 rfl rfl hn (v:=.bool true) (fun w1 _=>by simp [execOp,hx,hy,eqGuard,Go.binOp,go_sem,a4v hT]) K
theorem d2w {e:TypeId} (hT:∀ w,(underlying T).run E.P w=.ok (.pointer e) w) (hx:ev f x=.pointer none) (hy:ev f y=.pointer none) (hn:Nat.blt d n=true) (K:WL E.P m n ops Q rest (upd f d (.bool true)) w) :
  WL E.P m n ops Q (⟨some d,.binOp .eql T x y T',ty,pos,after,none⟩::rest) f w :=
 n7 rfl rfl hn (v:=.bool true) (fun w1 _=>by simp [execOp,hx,hy,eqGuard,Go.binOp,go_sem,a7z hT]) K
theorem d1w {e:TypeId} (hT:∀ w,(underlying T).run E.P w=.ok (.pointer e) w) (hx:ev f x=.pointer none) (hy:ev f y=.pointer none) (hn:Nat.blt d n=true) (K:WL E.P m n ops Q rest (upd f d (.bool false)) w) :
  WL E.P m n ops Q (⟨some d,.binOp .neq T x y T',ty,pos,after,none⟩::rest) f w :=
 n7 rfl rfl hn (v:=.bool false) (fun w1 _=>by simp [execOp,hx,hy,eqGuard,Go.binOp,go_sem,a7z hT]) K
theorem b4k {e:TypeId} (hT:∀ w,(underlying T).run E.P w=.ok (.slice e) w) {n c n' c':Nat} (w1:World):(Op.equal T (.slice none n c) (.slice none n' c')).run E.P w1=.ok true w1:=by
 have h:∀ d,(Op.equalIn (d+1) T (.slice none n c) (.slice none n' c')).run E.P w1=.ok true w1:=fun d=>by
  unfold Op.equalIn; rw [b3S,hT,b3O]; rfl
 exact h 9999
theorem b5g {e:TypeId} (hT:∀ w,(underlying T).run E.P w=.ok (.slice e) w) {a:Addr} {n c n' c':Nat} (w1:World):(Op.equal T (.slice (some a) n c) (.slice none n' c')).run E.P w1=.ok false w1:=by
 have h:∀ d,(Op.equalIn (d+1) T (.slice (some a) n c) (.slice none n' c')).run E.P w1=.ok false w1:=fun d=>by
  unfold Op.equalIn; rw [b3S,hT,b3O]; rfl
 exact h 9999
theorem d3f {e:TypeId} {n' c n1 c1:Nat} (hT:∀ w,(underlying T).run E.P w=.ok (.slice e) w) (hx:ev f x=.slice none n' c) (hy:ev f y=.slice none n1 c1) (hn:Nat.blt d n=true) (K:WL E.P m n ops Q rest (upd f d (.bool true)) w) :
  WL E.P m n ops Q (⟨some d,.binOp .eql T x y T',ty,pos,after,none⟩::rest) f w :=
 n7 rfl rfl hn (v:=.bool true) (fun w1 _=>by simp [execOp,hx,hy,eqGuard,Go.binOp,go_sem,b4k hT]) K
theorem d3o {e:TypeId} {n' c n1 c1:Nat} (hT:∀ w,(underlying T).run E.P w=.ok (.slice e) w) (hx:ev f x=.slice none n' c) (hy:ev f y=.slice none n1 c1) (hn:Nat.blt d n=true) (K:WL E.P m n ops Q rest (upd f d (.bool false)) w) :
  WL E.P m n ops Q (⟨some d,.binOp .neq T x y T',ty,pos,after,none⟩::rest) f w :=
 n7 rfl rfl hn (v:=.bool false) (fun w1 _=>by simp [execOp,hx,hy,eqGuard,Go.binOp,go_sem,b4k hT]) K
theorem d5c {e:TypeId} {a:Addr} {n' c n1 c1:Nat} (hT:∀ w,(underlying T).run E.P w=.ok (.slice e) w) (hx:ev f x=.slice (some a) n' c) (hy:ev f y=.slice none n1 c1) (hn:Nat.blt d n=true) (K:WL E.P m n ops Q rest (upd f d (.bool false)) w) :
  WL E.P m n ops Q (⟨some d,.binOp .eql T x y T',ty,pos,after,none⟩::rest) f w :=
 n7 rfl rfl hn (v:=.bool false) (fun w1 _=>by simp [execOp,hx,hy,eqGuard,Go.binOp,go_sem,b5g hT]) K
theorem d3v {e:TypeId} {a:Addr} {n' c n1 c1:Nat} (hT:∀ w,(underlying T).run E.P w=.ok (.slice e) w) (hx:ev f x=.slice (some a) n' c) (hy:ev f y=.slice none n1 c1) (hn:Nat.blt d n=true) (K:WL E.P m n ops Q rest (upd f d (.bool true)) w) :
  WL E.P m n ops Q (⟨some d,.binOp .neq T x y T',ty,pos,after,none⟩::rest) f w :=
 n7 rfl rfl hn (v:=.bool true) (fun w1 _=>by simp [execOp,hx,hy,eqGuard,Go.binOp,go_sem,b5g hT]) K
theorem a60 (h:(E.a0S T).isSome=true):∃ e,∀ w,(underlying T).run E.P w=.ok (.slice e) w:=by
 unfold Env.a0S at h
 split at h
 . rename_i e he; exact ⟨e,J0 he⟩
 . cases h
theorem Z3 (h:E.a3I T=true):∃ e,∀ w,(underlying T).run E.P w=.ok (.pointer e) w:=by
 unfold Env.a3I at h
 split at h
 . rename_i e hu; exact ⟨e,J0 hu⟩
 . cases h
theorem b57 (h:E.isIface T=true):∃ ms,∀ w,(underlying T).run E.P w=.ok (.interface ms) w:=by
 unfold Env.isIface at h
 split at h
 . rename_i e hu; exact ⟨e,J0 hu⟩
 . cases h
theorem a89 (h:E.isBool T=true):∀ w,(underlying T).run E.P w=.ok .bool w:=by
 unfold Env.isBool at h
 split at h
 . rename_i hu; exact J0 hu
 . cases h
theorem P1 (h:E.isStr T=true):∀ w,(underlying T).run E.P w=.ok .string w:=by
 unfold Env.isStr at h
 split at h
 . rename_i hu; exact J0 hu
 . cases h
theorem x8 {e:Nat} (h:E.a0S T=some e):∀ w,(underlying T).run E.P w=.ok (.slice e) w:=by
 unfold Env.a0S at h
 split at h
 . rename_i e' hu; cases h; exact J0 hu
 . cases h
theorem I4 {k:IntKind} (h:E.intOf T=some k):∀ w,(underlying T).run E.P w=.ok (.int k) w:=by
 unfold Env.intOf at h
 split at h
 . rename_i e' hu; cases h; exact J0 hu
 . cases h
theorem N8 {e t:Nat} (h:E.a3E e t=true):∀ w,(sizeOf e).run E.P w=.ok (E.N.tb t).r.sz w:=by
 unfold Env.a3E at h
 split at h
 . rename_i s hs
   have:=b3Q h; subst this
   exact J8 hs
 . cases h
theorem j7 {α:Type} {b:Bool} {o:Option α} {r:α} (h:(bif b then o else none)=some r):b=true/\o=some r:=by
 grind
theorem b72 {P:Program} {d:Nat} {t:TypeId} {f0 f1:Field} {xs ys:Array Value} {a0 b0 a1 b1:Value} {r0 r1:Bool} {w:World} (hu:∀ w,(underlying t).run P w=.ok (.struct #[f0,f1]) w) (n0:f0.name ≠ "_") (n1:f1.name ≠ "_") (hh:P.stoodInHeld t=false)
  (p0:(Go.part f0.type xs f0.offset).run P w=.ok a0 w) (q0:(Go.part f0.type ys f0.offset).run P w=.ok b0 w) (p1:(Go.part f1.type xs f1.offset).run P w=.ok a1 w) (q1:(Go.part f1.type ys f1.offset).run P w=.ok b1 w)
  (e0:(Op.equalIn d f0.type a0 b0).run P w=.ok r0 w) (e1:(Op.equalIn d f1.type a1 b1).run P w=.ok r1 w):(Op.equalIn (d+1) t (.agg xs) (.agg ys)).run P w=.ok (r0 && r1) w:=by
 unfold Op.equalIn; rw [b3S,hu,b3O]
 simp only []
 cases r0 <;> cases r1 <;> simp [b3S,hh,n0,n1,p0,q0,p1,q1,e0,e1,b4E,b3O]
def c15 (P:Program) (d:Nat) (xs ys:Array Value) (w:World):List Field->Bool->Prop
 | [],r=>r=true
 | f::l,r=>∃ r0 r1,r=(r0 && r1)/\f.name ≠ "_" /\ ∃ a b,(Go.part f.type xs f.offset).run P w=.ok a w/\(Go.part f.type ys f.offset).run P w=.ok b w/\(Op.equalIn d f.type a b).run P w=.ok r0 w/\c15 P d xs ys w l r1
theorem c0k {P:Program} {d:Nat} {xs ys:Array Value} {w:World}:∀ (l:List Field) (r:Bool),c15 P d xs ys w l r ->
  (forIn l ((none,()):Option Bool×Unit) fun f __s=>(if f.name ≠ "_" then do
    let a <- Go.part f.type xs f.offset
    let b <- Go.part f.type ys f.offset
    let e <- Op.equalIn d f.type a b
    if (!e)=true then pure (ForInStep.done (some false,())) else pure (ForInStep.yield (none,()))
   else pure (ForInStep.yield (none,())):Sem (ForInStep (Option Bool×Unit)))).run P w=.ok (if r then (none,()) else (some false,())) w
 | [],r,h=>by
  have h:r=true:=h
  simp_all
 | f::l,r,h=>by
  obtain ⟨r0,r1,rfl,hn,a,b,ha,hb,he,hl⟩:=h
  have ih:=c0k l r1 hl
  rw [List.forIn_cons,b3S,if_pos hn,b3S,ha,b3O,b3S,hb,b3O,b3S,he,b3O]
  cases r0 with
  | true=>simp_all
  | false=>simp_all
theorem b7e {P:Program} {d:Nat} {t:TypeId} {fs:Array Field} {xs ys:Array Value} {r:Bool} {w:World} (hu:∀ w,(underlying t).run P w=.ok (.struct fs) w) (hh:P.stoodInHeld t=false) (h:c15 P d xs ys w fs.toList r):(Op.equalIn (d+1) t (.agg xs) (.agg ys)).run P w=.ok r w:=by
 have hl:=c0k fs.toList r h
 unfold Op.equalIn; rw [b3S,hu,b3O]
 have hp:(program:Sem Program).run P w=.ok P w:=rfl
 dsimp only
 rw [b3S,hp,b3O,hh,if_neg (by decide),<- Array.forIn_toList,b3S,hl,b3O]
 cases r <;> rfl
theorem bytes_beq (s t:Str):(ByteArray.mk s.toArray == ByteArray.mk t.toArray)=decide (s=t):=by
 show (s.toArray == t.toArray)=decide (s=t)
 grind
theorem a58 {t:Nat} {a b:E.SV} {p:Prop} {dp:Decidable p} {u v:Value} {w:World} (h:a9k E t a b=some ⟨p,dp⟩) (hu:Rep E.N E.T ρ Z w u a) (hv:Rep E.N E.T ρ Z w v b) (d:Nat) (w1:World):(isAgg t).run E.P w1=.ok false w1/\(Op.equalIn (d+1) t u v).run E.P w1=.ok (@decide p dp) w1:=by
 unfold a9k at h
 cases a with
 | int k x =>
  cases b with
  | int k' y =>
   simp only at h
   split at h
   . rename_i kk hi
     split at h
     . rename_i hk
       cases h
       subst hk
       have hr:=I4 hi w1
       cases hu with | int _=>cases hv with | int _ =>
       refine ⟨by simp [isAgg,b3S,hr,b3O],?_⟩
       unfold Op.equalIn; rw [b3S,hr,b3O]
       simp only [if_true,b4E]
       congr 1
     . cases h
   . cases h
  | _=>cases h
 | str s =>
  cases b with
  | str s' =>
   obtain ⟨hs,h⟩:=j7 h
   cases h
   have hr:=P1 hs w1
   cases hu with | str _=>cases hv with | str _ =>
   refine ⟨by simp [isAgg,b3S,hr,b3O],?_⟩
   unfold Op.equalIn; rw [b3S,hr,b3O]
   exact congrArg (Result.ok · w1) (bytes_beq s s')
  | _=>cases h
 | _=>cases h
theorem a2k {P:Program} {t:TypeId} {cs:Array Value} {o:Nat} {v:Value} {w:World} (ha:(isAgg t).run P w=.ok false w) (hc:cs[o]?=some v):(Go.part t cs o).run P w=.ok v w:=by
 simp [Go.part,b3S,ha,b3O,hc]
theorem c3u {t:Nat} {a b:E.SV} {p:Prop} {dp:Decidable p} {u v:Value} {w:World} (h:b9u E t a b=some ⟨p,dp⟩) (hu:Rep E.N E.T ρ Z w u a) (hv:Rep E.N E.T ρ Z w v b) (d:Nat) (w1:World):(Op.equalIn (d+1) t u v).run E.P w1=.ok (@decide p dp) w1:=by
 unfold b9u at h
 split at h
 . rename_i r hr
   cases h
   exact (a58 hr hu hv d w1).2
 . obtain ⟨hb,h⟩:=j7 h
   split at h
   . rename_i p' dp' q' dq' hp hq
     cases h
     rw [hu.a2K hp,hv.a2K hq]
     unfold Op.equalIn
     rw [b3S,a89 hb w1,b3O]
     simp_all
   . cases h
theorem b6k {ls:List E.SV} {cs:List Value} {off t:Nat} {s:E.SV} (hr:j8 E.N E.T ρ Z w cs ls) (h:part E ls off t=some s):∃ v,Rep E.N E.T ρ Z w v s/\∀ w1,(Go.part t cs.toArray off).run E.P w1=.ok v w1:=by
 unfold part at h
 split at h
 . rename_i ha
   split at h
   . rename_i nn hs
     obtain ⟨hle,h⟩:=j7 h
     simp only [b3N] at h; subst h
     refine ⟨.agg ((cs.drop off).take nn).toArray,(hr.drop off).take nn,fun w1=>?_⟩
     have e:cs.toArray.extract off (off+nn)=((cs.drop off).take nn).toArray:=by
      apply b7L
      simp [b6T,b7B]
     have ha1:=b1t ha w1
     have hs1:=J8 hs w1
     unfold Go.part
     simp_all
   . cases h
 . rename_i ha
   obtain ⟨v,hv2,hrep,_⟩:=hr.get off s h
   exact ⟨v,hrep,fun w1=>a2k (b1t ha w1) (by simp_all)⟩
 . cases h
theorem c0y {rec:Nat->E.SV->E.SV->Option PD} {d:Nat} {ls ms:List E.SV} {cs ds:List Value} {w1:World} (hrec:∀ T a b p dp u v,rec T a b=some ⟨p,dp⟩->Rep E.N E.T ρ Z w u a->Rep E.N E.T ρ Z w v b->(Op.equalIn d T u v).run E.P w1=.ok (@decide p dp) w1) (hl:j8 E.N E.T ρ Z w cs ls) (hm:j8 E.N E.T ρ Z w ds ms):∀ (l:List Field) (p:Prop) (dp:Decidable p),d3n E rec ls ms l=some ⟨p,dp⟩->c15 E.P d cs.toArray ds.toArray w1 l (@decide p dp)
 | [],p,dp,h=>by
  cases h
  exact b4R trivial
 | f::r,p,dp,h=>by
  unfold d3n at h
  obtain ⟨hn,h⟩:=j7 h
  split at h
  . rename_i a b ha hb
    split at h
    . rename_i p1 dp1 q1 dq1 h1 h2
      cases h
      obtain ⟨u,hu,ru⟩:=b6k hl ha
      obtain ⟨v,hv,rv⟩:=b6k hm hb
      refine ⟨@decide p1 dp1,@decide q1 dq1,?_,by simp_all,u,v,ru w1,rv w1,hrec _ _ _ _ _ _ _ h1 hu hv,c0y hrec hl hm r q1 dq1 h2⟩
      simp_all
    . cases h
  . cases h
theorem b6l:∀ (n T:Nat) (a b:E.SV) (p:Prop) (dp:Decidable p) (u v:Value),c0w E n T a b=some ⟨p,dp⟩->Rep E.N E.T ρ Z w u a->Rep E.N E.T ρ Z w v b->∀ (d:Nat) (w1:World),(Op.equalIn (d+n) T u v).run E.P w1=.ok (@decide p dp) w1
 | 0,_,_,_,_,_,_,_,h,_,_,_,_=>by cases h
 | n+1,T,a,b,p,dp,u,v,h,hu,hv,d,w1=>by
  unfold c0w at h
  split at h
  . rename_i ls ms
    split at h
    . rename_i fs hT
      cases hh:E.P.stoodInHeld T with
      | true=>simp_all
      | false =>
       rw [hh,b4X] at h
       obtain ⟨cs,rfl,hl⟩:=hu.a1J
       obtain ⟨ds,rfl,hm⟩:=hv.a1J
       exact b7e (d:=d+n) (run_underlying hT) hh (c0y (fun T a b p dp u v h hu hv=>b6l n T a b p dp u v h hu hv d w1) hl hm fs.toList p dp h)
    . cases h
  . exact c3u h hu hv (d+n) w1
theorem d6v {P:Program} {m:Bool} {n:Nat} {ops:List Oper} {Q:Exit->Fr->World->Prop} {rest:List Oper} {f:Fr} {w:World} {d:Nat} {T T' ty:TypeId} {pos:String} {after:Array Edge} {x y:Operand} {xs ys:Array Value} {b:Bool} (hx:ev f x=.agg xs) (hy:ev f y=.agg ys) (hg:P.eqGuardType P.depth T=false) (he:∀ w,(Op.equal T (.agg xs) (.agg ys)).run P w=.ok b w) (hn:Nat.blt d n=true) (K:WL P m n ops Q rest (upd f d (.bool b)) w) :
  WL P m n ops Q (⟨some d,.binOp .eql T x y T',ty,pos,after,none⟩::rest) f w :=
 n7 rfl rfl hn (v:=.bool b) (fun w1 _=>by simp [execOp,hx,hy,eqGuard,binOp,go_sem,he,hg]) K
theorem d6u {P:Program} {m:Bool} {n:Nat} {ops:List Oper} {Q:Exit->Fr->World->Prop} {rest:List Oper} {f:Fr} {w:World} {d:Nat} {T T' ty:TypeId} {pos:String} {after:Array Edge} {x y:Operand} {xs ys:Array Value} {b:Bool} (hx:ev f x=.agg xs) (hy:ev f y=.agg ys) (hg:P.eqGuardType P.depth T=false) (he:∀ w,(Op.equal T (.agg xs) (.agg ys)).run P w=.ok b w) (hn:Nat.blt d n=true) (K:WL P m n ops Q rest (upd f d (.bool (!b))) w) :
  WL P m n ops Q (⟨some d,.binOp .neq T x y T',ty,pos,after,none⟩::rest) f w :=
 n7 rfl rfl hn (v:=.bool (!b)) (fun w1 _=>by simp [execOp,hx,hy,eqGuard,binOp,go_sem,he,hg]) K
theorem d3p {op:BinOp} {ls ms:List E.SV} {cs ds:List Value} (hx:ev f x=.agg cs.toArray) (hy:ev f y=.agg ds.toArray) (hl:j8 E.N E.T ρ Z w cs ls) (hm:j8 E.N E.T ρ Z w ds ms) (h:e2e E op T ls ms=some q) (hn:Nat.blt d n=true) (K:KQ E m n ops Q rest f w d ρ Z q) :
  WL E.P m n ops Q (⟨some d,.binOp op T x y T',ty,pos,after,none⟩::rest) f w:=by
 unfold e2e at h
 split at h
 . rename_i fs hT
   split at h
   . rename_i f0 f1 a0 a1 b0 b1 hfs
     obtain ⟨hb,h⟩:=j7 h
     simp only [b3R,b7W,bne_iff_ne,ne_eq] at hb
     obtain ⟨⟨⟨⟨⟨g1,g2⟩,g3⟩,g4⟩,g5⟩,g6⟩:=hb
     have g5:=b3Q g5
     have g6:=b3Q g6
     obtain ⟨v0,r0,rfl,hv0,_,hl⟩:=j8.cons_inv hl
     obtain ⟨v1,r1,rfl,hv1,_,hl⟩:=j8.cons_inv hl
     obtain rfl:=j8.a0Q hl
     obtain ⟨u0,s0,rfl,hu0,_,hm⟩:=j8.cons_inv hm
     obtain ⟨u1,s1,rfl,hu1,_,hm⟩:=j8.cons_inv hm
     obtain rfl:=j8.a0Q hm
     split at h
     . rename_i p dp q' dq e0 e1
       have hfs':fs=#[f0,f1]:=by apply b7L; simpa using hfs
       have hu:∀ w,(underlying T).run E.P w=.ok (.struct #[f0,f1]) w:=fun w=>by rw [<- hfs']; exact run_underlying hT w
       have he:∀ w1,(Op.equal T (.agg #[v0,v1]) (.agg #[u0,u1])).run E.P w1=.ok (@decide p dp && @decide q' dq) w1:=fun w1=>by
        obtain ⟨i0,k0⟩:=a58 e0 hv0 hu0 9998 w1
        obtain ⟨i1,k1⟩:=a58 e1 hv1 hu1 9998 w1
        exact b72 (d:=9999) hu g3 g4 g1 (a2k i0 (by rw [g5]; rfl)) (a2k i0 (by rw [g5]; rfl)) (a2k i1 (by rw [g6]; rfl)) (a2k i1 (by rw [g6]; rfl)) k0 k1
       cases op with
       | eql =>
        simp only at h
        refine d6v hx hy g2 he hn ?_
        have:(@decide p dp && @decide q' dq)=@decide (p/\q') inferInstance:=by
         by_cases hp:p <;> by_cases hq:q' <;> simp [hp,hq]
        rw [this]
        exact K.bln h
       | neq =>
        simp only at h
        refine d6u hx hy g2 he hn ?_
        have:(!(@decide p dp && @decide q' dq))=@decide (¬ (p/\q')) inferInstance:=by
         by_cases hp:p <;> by_cases hq:q' <;> simp [hp,hq]
        rw [this]
        exact K.bln h
       | _=>cases h
     . cases h
   . cases h
 . cases h
theorem d2g {op:BinOp} {ls ms:List E.SV} {cs ds:List Value} (hx:ev f x=.agg cs.toArray) (hy:ev f y=.agg ds.toArray) (hl:j8 E.N E.T ρ Z w cs ls) (hm:j8 E.N E.T ρ Z w ds ms) (h:e0o E op T ls ms=some q) (hn:Nat.blt d n=true) (K:KQ E m n ops Q rest f w d ρ Z q) :
  WL E.P m n ops Q (⟨some d,.binOp op T x y T',ty,pos,after,none⟩::rest) f w:=by
 unfold e0o at h
 split at h
 . rename_i q2 h2
   cases h
   exact d3p hx hy hl hm h2 hn K
 . cases hg:E.P.eqGuardType E.P.depth T with
   | true=>simp_all
   | false =>
    rw [hg,b4X] at h
    split at h
    . rename_i p dp he
      have hq:∀ w1,(Op.equal T (.agg cs.toArray) (.agg ds.toArray)).run E.P w1=.ok (@decide p dp) w1:=fun w1=>b6l 4 T (.agg ls) (.agg ms) p dp _ _ he hl hm 9996 w1
      cases op with
      | eql =>
       simp only at h
       exact d6v hx hy hg hq hn (K.bln h)
      | neq =>
       simp only at h
       refine d6u hx hy hg hq hn ?_
       have:(!(@decide p dp))=@decide (¬ p) inferInstance:=by
        by_cases hp:p <;> simp [hp]
       rw [this]
       exact K.bln h
      | _=>cases h
    . cases h
theorem d1m {op:BinOp} {sx sy:E.SV} (hx:Rep E.N E.T ρ Z w (ev f x) sx) (hy:Rep E.N E.T ρ Z w (ev f y) sy) (h:d8k E op T (isC y) sx sy=some q) (ho:n6 q.ob) (hn:Nat.blt d n=true) (K:KQ E m n ops Q rest f w d ρ Z q) :
  WL E.P m n ops Q (⟨some d,.binOp op T x y T',ty,pos,after,none⟩::rest) f w:=by
 have boolc:∀ {s:E.SV},Rep E.N E.T ρ Z w (ev f x) s->(bif E.isBool T then (match a1d s,a1d sy with | some ⟨p,d⟩,some ⟨q,e⟩=>a4o op p q d e | _,_=>none) else none)=some q->WL E.P m n ops Q (⟨some d,.binOp op T x y T',ty,pos,after,none⟩::rest) f w:=fun {s} hs h=>by
  obtain ⟨hb,h⟩:=j7 h
  have hT:=a89 hb
  cases hp:a1d s with
  | none=>simp_all
  | some pd =>
   obtain ⟨p,dp⟩:=pd
   cases hq:a1d sy with
   | none=>simp_all
   | some qd =>
    obtain ⟨p',dp'⟩:=qd
    rw [hp,hq] at h
    have e1:=hs.a2K hp
    have e2:=hy.a2K hq
    cases op with
    | eql =>
     simp only [a4o] at h
     refine e0l hT e1 e2 hn ?_
     rw [W5 (show (@decide p dp=@decide p' dp')↔(p↔p') by simp_all)]
     exact K.bln h
    | neq =>
     simp only [a4o] at h
     refine d9m hT e1 e2 hn ?_
     rw [W5 (show (@decide p dp≠@decide p' dp')↔¬ (p↔p') by simp_all)]
     exact K.bln h
    | _=>simp [a4o] at h
 unfold d8k at h
 cases sx with
 | int k a =>
  cases sy with
  | int k' b =>
   generalize hvx:ev f x=vx at hx
   generalize hvy:ev f y=vy at hy
   cases hx with
   | int ha=>cases hy with
    | int hb=>exact c3q hvx hvy ha h ho hn K
  | _=>cases h
 | byte a =>
  cases sy with
  | byte b =>
   generalize hvx:ev f x=vx at hx
   generalize hvy:ev f y=vy at hy
   cases hx; cases hy
   exact b82 hvx hvy h ho hn K
  | _=>cases h
 | str a =>
  cases sy with
  | str b =>
   generalize hvx:ev f x=vx at hx
   generalize hvy:ev f y=vy at hy
   cases hx; cases hy
   exact c3f hvx hvy h ho hn K
  | _=>cases h
 | err a =>
  cases sy with
  | err b =>
   cases b with
   | nil =>
    have ⟨hi,h2⟩:=j7 h
    clear h
    simp only [b3R] at hi
    obtain ⟨hc,hi⟩:=hi
    obtain ⟨ms,hT⟩:=b57 hi
    cases y with
    | const v =>
     have hx':a5z E.T Z w (ev f x) a:=by
      generalize ev f x=vx at hx
      cases hx with
      | err hx=>exact hx
     have hv:v=.nilIface:=by
      change Rep E.N E.T ρ Z w v _ at hy
      cases hy with
      | err hy=>cases hy; rfl
     subst hv
     cases op with
     | eql=>simp only [b3d] at h2; exact c99 hT hx' hn (K.bln h2)
     | neq=>simp only [b3d] at h2; exact c8j hT hx' hn (K.bln h2)
     | _=>simp [b3d] at h2
    | _=>cases hc
   | _=>cases h
  | _=>cases h
 | ref id off =>
  cases sy with
  | con v =>
   cases v with
   | pointer a =>
    cases a with
    | none =>
     obtain ⟨hi,h⟩:=j7 h
     obtain ⟨e,hT⟩:=Z3 hi
     generalize hvx:ev f x=vx at hx
     generalize hvy:ev f y=vy at hy
     cases hx; cases hy
     cases op with
     | eql=>simp only [a1j] at h; exact d2z hT hvx hvy hn (K.q0 h .ff)
     | neq=>simp only [a1j] at h; exact d4v hT hvx hvy hn (K.q0 h .tt)
     | _=>simp [a1j] at h
    | some a=>cases h
   | _=>cases h
  | _=>cases h
 | con u =>
  cases sy with
  | con v =>
   cases u with
   | pointer a =>
    cases v with
    | pointer b =>
     cases a with
     | none =>
      cases b with
      | none =>
       obtain ⟨hi,h⟩:=j7 h
       obtain ⟨e,hT⟩:=Z3 hi
       generalize hvx:ev f x=vx at hx
       generalize hvy:ev f y=vy at hy
       cases hx; cases hy
       cases op with
       | eql=>simp only [a1j] at h; exact d2w hT hvx hvy hn (K.q0 h .tt)
       | neq=>simp only [a1j] at h; exact d1w hT hvx hvy hn (K.q0 h .ff)
       | _=>simp [a1j] at h
      | some b=>cases h
     | some a=>cases h
    | _=>cases h
   | _=>cases h
  | _=>cases h
 | tt=>grind
 | ff=>grind
 | bl p dp=>grind
 | agg ls =>
  cases sy with
  | agg ms =>
   generalize hvx:ev f x=vx at hx
   generalize hvy:ev f y=vy at hy
   obtain ⟨cs,rfl,hl⟩:=Rep.a1J hx
   obtain ⟨ds,rfl,hm⟩:=Rep.a1J hy
   exact d2g hvx hvy hl hm h hn K
  | _=>cases h
 | a1K =>
  cases sy with
  | a1K =>
   obtain ⟨hi,h⟩:=j7 h
   obtain ⟨e,hT⟩:=a60 hi
   generalize hvx:ev f x=vx at hx
   generalize hvy:ev f y=vy at hy
   cases hx; cases hy
   cases op with
   | eql=>simp only [W9] at h; cases h; exact d3f hT hvx hvy hn (K.q0 rfl .tt)
   | neq=>simp only [W9] at h; cases h; exact d3o hT hvx hvy hn (K.q0 rfl .ff)
   | _=>simp [W9] at h
  | _=>cases h
 | sl t l =>
  cases sy with
  | a1K =>
   obtain ⟨hi,h⟩:=j7 h
   obtain ⟨e,hT⟩:=a60 hi
   generalize hvx:ev f x=vx at hx
   generalize hvy:ev f y=vy at hy
   cases hy
   have hA:l≠[]->∃ a n' c,ev f x=.slice (some a) n' c:=fun hne=>by
    rw [hvx]
    cases hx with | sl hx =>
    obtain ⟨_,A,cap,e1,⟨hn0,hcap⟩,_⟩:=hx
    simp only [b8J,and_true] at e1
    subst e1
    cases A with
    | some a=>exact ⟨a,_,_,rfl⟩
    | none =>
     simp_all
   cases op with
   | eql =>
    simp only [W9] at h
    cases h
    obtain ⟨a,n',c,ha⟩:=hA ho.1
    exact d5c hT ha hvy hn (K _ .ff trivial)
   | neq =>
    simp only [W9] at h
    cases h
    obtain ⟨a,n',c,ha⟩:=hA ho.1
    exact d3v hT ha hvy hn (K _ .tt trivial)
   | _=>simp [W9] at h
  | _=>cases h
 | _=>exact boolc hx h
end
end Go.Rx
end
section
namespace Go.Rx
open Go Go.Wk Go.Wl
section
variable {N:Uni} {T:O9} {ρ:r9} {Z:Nat->Prop} {w:World} {v:Value} {s:SV N} {cs:List Value} {ss:List (SV N)}
theorem j8.app {c2:List Value} {s2:List (SV N)} (h:j8 N T ρ Z w cs ss) (h2:j8 N T ρ Z w c2 s2):j8 N T ρ Z w (cs++c2) (ss++s2):=by
 induction ss generalizing cs with
 | nil=>have:=j8.a0Q h; simp_all
 | cons s ss ih=>obtain ⟨v,r,rfl,h1,hp,h⟩:=j8.cons_inv h; exact Rep.a1V h1 hp (ih h)
theorem j8.b3K (h:j8 N T ρ Z w cs ss) (h1:Rep N T ρ Z w v s) (hp:A2 v=true):∀ o:Nat,j8 N T ρ Z w (cs.set o v) (ss.set o s):=by
 intro o
 induction o generalizing cs ss with
 | zero =>
  cases ss with
  | nil=>have:=j8.a0Q h; simp_all
  | cons s' ss=>obtain ⟨v',r,rfl,_,_,h⟩:=j8.cons_inv h; exact Rep.a1V h1 hp h
 | succ o ih =>
  cases ss with
  | nil=>have:=j8.a0Q h; simp_all
  | cons s' ss=>obtain ⟨v',r,rfl,h2,hp2,h⟩:=j8.cons_inv h; exact Rep.a1V h2 hp2 (ih h)
def e3i:SV N->Bool
 | .un=>false
 | .undef=>false
 | .agg _=>false
 | .tup _=>false
 | _=>true
theorem Rep.a4Y (h:Rep N T ρ Z w v s) (hf:e3i s=true):A2 v=true:=by
 cases h with
 | un=>cases hf
 | undef=>cases hf
 | a2M=>cases hf
 | a1V h hp r=>cases hf
 | a1O=>cases hf
 | a1F h r=>cases hf
 | con h=>exact h
 | sl h=>obtain ⟨A,cap,rfl⟩:=J7 h; rfl
 | err h=>cases h <;> rfl
 | _=>rfl
theorem b62 {v:Value} (h:A2 v=true):v.cells=#[v]:=c3r h
end
section
variable {E:Env} {C:Ctx} {m:Bool} {n:Nat} {ops:List Oper} {Q:Exit->Fr->World->Prop} {rest:List Oper} {f:Fr} {w:World} {d:Nat}
variable {ty T T':TypeId} {pos:String} {after:Array Edge} {x y z:Operand} {k k':IntKind} {a b:Int} {ρ:r9} {Z:Nat->Prop} {its:a7 E.N} {nx:Nat} {q:Q1 E.N}
theorem Rep.leaves {v:Value} {s:E.SV} (h:Rep E.N E.T ρ Z w v s) (hf:flat s=true):j8 E.N E.T ρ Z w v.cells.toList (leaves s):=by
 cases s with
 | agg vs=>obtain ⟨cs,rfl,h⟩:=Rep.a1J h; exact h
 | un=>cases hf
 | undef=>cases hf
 | tup vs=>cases hf
 | _=>have hp:=h.a4Y rfl; rw [b62 hp]; exact Rep.a1V h hp Rep.a2M
theorem j8.a1A {cs c:List Value} {ss vs:List E.SV} {o:Nat} (h:j8 E.N E.T ρ Z w cs ss) (hc:j8 E.N E.T ρ Z w c vs):j8 E.N E.T ρ Z w (x7 cs o c) (a1A E ss o vs):=by
 induction vs generalizing cs ss c o with
 | nil=>have:=j8.a0Q hc; subst this; exact h
 | cons s vs ih=>obtain ⟨v,r,rfl,h1,hp,h2⟩:=j8.cons_inv hc; exact ih (h.b3K h1 hp o) h2
theorem d9v {P:Program} {m:Bool} {d:Nat} (hx:ev f x=.int k a) (hn:Nat.blt d n=true) (K:WL P m n ops Q rest (upd f d (.int k (k.wrap (BitVec.ofInt k.bits (if k.signed then -1 else k.max) ^^^ BitVec.ofInt k.bits a).toNat))) w):WL P m n ops Q (⟨some d,.unOp .xor T x,ty,pos,after,none⟩::rest) f w :=
 n7 rfl rfl hn (v:=.int k (k.wrap (BitVec.ofInt k.bits (if k.signed then -1 else k.max) ^^^ BitVec.ofInt k.bits a).toNat)) (fun _ _=>by simp [execOp,hx,Op.unary,Op.intBits,go_sem]) K
theorem d7t {op:UnOp} {sx:E.SV} (hx:Rep E.N E.T ρ Z w (ev f x) sx) (h:qUn op sx=some q) (ho:n6 q.ob) (hn:Nat.blt d n=true) (K:KQ E m n ops Q rest f w d ρ Z q) :
  WL E.P m n ops Q (⟨some d,.unOp op T x,ty,pos,after,none⟩::rest) f w:=by
 generalize hv:ev f x=vx at hx
 unfold qUn at h
 cases hx with
 | tt=>cases op <;> first | exact c0e hv hn (K.q0 h .ff) | cases h
 | ff=>cases op <;> first | exact c0e hv hn (K.q0 h .tt) | cases h
 | @bl p dp =>
  cases op with
  | not =>
   refine c0e hv hn ?_
   rw [show (!@decide p dp)=decide (¬ p) by simp]
   exact K.bln h
  | _=>cases h
 | @int k a ha =>
  cases op with
  | neg =>
   cases k with
   | i64 =>
    simp only [b3N] at h; subst h
    refine e5w hv hn ?_
    rw [wrap64 ho.1]; exact K _ (.int fun _=>ho.1) trivial
   | _=>cases h
  | xor=>cases k <;> exact d9v hv hn (K.q0 h (.int (a35 _)))
  | _=>cases h
 | _=>cases h
theorem d2e {cs:List Value} {vs:List E.SV} (h:Rep E.N E.T ρ Z w (.tuple cs.toArray) (.tup vs)):∀ (i:Nat) (s:E.SV),vs[i]?=some s->∃ v,cs[i]?=some v/\Rep E.N E.T ρ Z w v s:=by
 induction vs generalizing cs with
 | nil=>simp_all
 | cons s vs ih =>
  obtain ⟨v,r,rfl,h1,h2⟩:=Rep.a0H h
  grind
theorem b58 {i:Nat} {sx:E.SV} (hx:Rep E.N E.T ρ Z w (ev f x) sx) (h:a7w i sx=some q) (hn:Nat.blt d n=true) (K:KQ E m n ops Q rest f w d ρ Z q) :
  WL E.P m n ops Q (⟨some d,.extract x i,ty,pos,after,none⟩::rest) f w:=by
 generalize hv:ev f x=vx at hx
 cases sx with
 | tup vs =>
  simp only [a7w] at h
  obtain ⟨cs,rfl⟩:=Rep.a2Y hx
  split at h
  . rename_i s hs
    obtain ⟨v,h1,h2⟩:=d2e hx i s hs
    exact I3 hv (by simp_all) hn (K.q0 h h2)
  . cases h
 | _=>cases h
theorem b00 {sx si:E.SV} (hm:Mem E C ρ Z w its nx) (hx:Rep E.N E.T ρ Z w (ev f x) sx) (hy:Rep E.N E.T ρ Z w (ev f y) si) (h:a3t E its T si sx=some q) (ho:n6 q.ob) (hn:Nat.blt d n=true) (K:KQ E m n ops Q rest f w d ρ Z q) :
  WL E.P m n ops Q (⟨some d,.indexAddr T x y,ty,pos,after,none⟩::rest) f w:=by
 unfold a3t at h
 split at h
 . rename_i e hs
   have hT:=x8 hs
   generalize hvx:ev f x=vx at hx
   generalize hvy:ev f y=vy at hy
   cases sx with
   | sl t l =>
    cases si with
    | int k a =>
     obtain ⟨h1,h⟩:=j7 h
     simp only [b3N] at h; subst h
     cases hx with
     | sl hx =>
      cases hy with
      | int _ =>
       obtain ⟨A,cap,rfl⟩:=J7 hx
       exact c0z hx hT (N8 h1) rfl hvx hvy ho.1 ho.2.1 hn (K _ (.fel (off:=0) hx ho.1 ho.2.1) trivial)
    | _=>cases h
   | acc id =>
    simp only at h
    split at h
    . rename_i k a t l hi
      obtain ⟨h1,h⟩:=j7 h
      simp only [b3N] at h; subst h
      cases hx with
      | acc hx =>
       cases hy with
       | int _ =>
        obtain ⟨L,hL,hn1,_,hac⟩:=hm.at hi
        rw [hx] at hL; cases hL
        exact U1 hac hT (N8 h1) hvx hvy ho.1 (by rw [hn1]; exact ho.2.1) hn (K _ (.el (off:=0) hx ho.1 (by rw [hn1]; exact ho.2.1)) trivial)
    . rename_i k a t nn cells hi
      obtain ⟨h1,h⟩:=j7 h
      simp only [b3N] at h; subst h
      have ha0:0<=a:=ho.1
      have ha1:a<(nn:Int):=ho.2.1
      cases hx with
      | acc hx =>
       cases hy with
       | int _ =>
        obtain ⟨L,F,hL,hn1,hb,hA,hrw,_⟩:=hm.at hi
        rw [hx] at hL; cases hL
        have hA:=hA (by omega)
        rw [hA,hn1] at hvx
        refine b5m hT (N8 h1) hvx hvy ha0 (by omega) hn (K _ ?_ trivial)
        rw [b6J]
        exact .ref hx
    . cases h
   | sub id t lo nn =>
    simp only at h
    split at h
    . rename_i k a t' l hi
      obtain ⟨h1,h⟩:=j7 h
      simp only [b3N] at h; subst h
      have ha0:0<=a:=ho.1
      have ha1:a<nn:=ho.2.1
      cases hx with
      | a2W hx l0 n0 l1 hc hA =>
       cases hy with
       | int _ =>
        obtain ⟨L,hL,hn1,_,hac⟩:=hm.at hi
        rw [hx] at hL; cases hL
        rcases hac with ⟨e1,e2,_⟩ | ⟨b,cap',C,T',e1,_,_,_,hle,_⟩
        . grind
        . simp only [b6M] at e1
          obtain ⟨eA1,_,ecap⟩:=e1
          rw [if_neg (by omega),eA1] at hA
          have hA:_=some (⟨b,0+lo.toNat * (E.N.tb t).r.sz,none⟩:Addr):=hA.trans (by
           show some (Addr.add ⟨b,0,none⟩ _)=_
           unfold Addr.add
           simp_all)
          refine b5m hT (N8 h1) (hvx.trans (by rw [hA])) hvy ha0 (by omega) hn (K _ ?_ trivial)
          have hp:=Rep.el (N:=E.N) (T:=E.T) (Z:=Z) (w:=w) (t:=t) (off:=0) (i:=lo+a) hx (by omega) (by omega)
          rw [eA1] at hp
          have ez:0+lo.toNat * (E.N.tb t).r.sz+a.toNat * (E.N.tb t).r.sz=0+((lo+a).toNat * (E.N.tb t).r.sz+0):=by
           rw [show (lo+a).toNat=lo.toNat+a.toNat by omega,b5X]; omega
          have e2:(eA (some ⟨b,0,none⟩) ((lo+a).toNat * (E.N.tb t).r.sz+0))=⟨b,0+lo.toNat * (E.N.tb t).r.sz+a.toNat * (E.N.tb t).r.sz,none⟩:=by rw [ez]; rfl
          simp_all
    . cases h
   | _=>cases h
 . cases h
theorem d2f {fi o nn:Nat} (h:E.fld T fi=some (o,nn)):∃ fs fd,(∀ w,(underlying T).run E.P w=.ok (.struct fs) w)/\fs[fi]?=some fd/\(∀ w,(sizeOf fd.type).run E.P w=.ok nn w)/\fd.offset=o:=by
 unfold Env.fld at h
 split at h
 . rename_i fs hu
   split at h
   . rename_i fd hf
     split at h
     . rename_i sz hs
       simp only [b3N,b4P] at h
       obtain ⟨rfl,rfl⟩:=h
       exact ⟨fs,fd,J0 hu,hf,J8 hs,rfl⟩
     . cases h
   . cases h
 . cases h
theorem a9v {sx:E.SV} {fi o nn:Nat} (hx:Rep E.N E.T ρ Z w (ev f x) sx) (hf:E.fld T fi=some (o,nn)) (hp:Nat.blt 0 nn=true) (h:a3g o sx=some q) (hn:Nat.blt d n=true) (K:KQ E m n ops Q rest f w d ρ Z q) :
  WL E.P m n ops Q (⟨some d,.fieldAddr T x fi,ty,pos,after,none⟩::rest) f w:=by
 obtain ⟨fs,fd,hT,hfd,hz,rfl⟩:=d2f hf
 have hp:=D3 hp
 obtain ⟨mm,rfl⟩:∃ mm,nn=mm+1:=⟨nn-1,by omega⟩
 generalize hv:ev f x=vx at hx
 unfold a3g at h
 cases hx with
 | ref hL=>exact q6 hT hfd hz hv hn (K.q0 h (.ref hL))
 | el hL h0 h1=>refine c1c hT hfd hz hv hn (K.q0 h ?_); rw [b8E]; exact .el hL h0 h1
 | fel hL h0 h1=>refine c1c hT hfd hz hv hn (K.q0 h ?_); rw [b8E]; exact .fel hL h0 h1
 | _=>cases h
theorem a2g {b:Bool} (h:E.a3C T=some b):∀ w,(isAgg T).run E.P w=.ok b w:=b1t h
theorem x9.part {b o:Nat} {cs:List Value} (h:x9 w b o cs) (j k:Nat):x9 w b (o+j) ((cs.drop j).take k):=by
 obtain ⟨C,T,z,hh,hc⟩:=h
 refine ⟨C,T,z,hh,fun i hi=>?_⟩
 grind
theorem x9.one {b o:Nat} {cs:List Value} {v:Value} (h:x9 w b o cs) {j:Nat} (hj:cs[j]?=some v):x9 w b (o+j) [v]:=by
 obtain ⟨C,T,z,hh,hc⟩:=h
 have hlt:j<cs.length:=by
  rcases b5N j cs.length with h | h
  . exact h
  . simp_all
 refine ⟨C,T,z,hh,fun i hi=>?_⟩
 simp_all
theorem b2q {ls:List E.SV} {cs:List Value} {off:Nat} {s:E.SV} {ad:Addr} (hc:∀ j,∃ b o,ad=⟨b,o,none⟩/\(∀ k,x9 w b (o+j) ((cs.drop j).take k))/\∀ v,cs[j]?=some v->x9 w b (o+j) [v]) (hr:j8 E.N E.T ρ Z w cs ls) (h:part E ls off T=some s)
  (hx:ev f x=.pointer (some ⟨ad.block,ad.off+off,none⟩)) (hn:Nat.blt d n=true) (K:∀ v,Rep E.N E.T ρ Z w v s->WL E.P m n ops Q rest (upd f d v) w) :
  WL E.P m n ops Q (⟨some d,.load T x,ty,pos,after,none⟩::rest) f w:=by
 obtain ⟨b,o,rfl,h1,h2⟩:=hc off
 unfold part at h
 split at h
 . rename_i ha
   split at h
   . rename_i nn hs
     obtain ⟨hle,h⟩:=j7 h
     simp only [b3N] at h; subst h
     have hle:=b4T hle
     have hlen:=hr.len
     exact a5c (a2g ha) (J8 hs) (cs:=(cs.drop off).take nn) (by grind) hx (h1 nn) hn (K _ ((hr.drop off).take nn))
   . cases h
 . rename_i ha
   obtain ⟨v,hv,hrep,_⟩:=hr.get off s h
   exact C3 (a2g ha) hx (h2 v hv) hn (K v hrep)
 . cases h
theorem b4r {A:Option Addr} {q0:Nat} {cs:List Value} (h:a5f w (eA A q0) cs):∀ j,∃ b o,eA A q0=⟨b,o,none⟩/\(∀ k,x9 w b (o+j) ((cs.drop j).take k))/\∀ v,cs[j]?=some v->x9 w b (o+j) [v]:=fun j=>by
 obtain ⟨hs,hc⟩:=h
 refine ⟨(eA A q0).block,(eA A q0).off,?_,fun k=>x9.part hc j k,fun v hv=>x9.one hc hv⟩
 generalize eA A q0=a at hs
 obtain ⟨b,o,s⟩:=a; simp_all
theorem d1j (A:Option Addr) (q0 off:Nat):eA A (q0+off)=⟨(eA A q0).block,(eA A q0).off+off,none⟩:=by
 cases A with
 | none=>rfl
 | some a=>obtain ⟨b,o,s⟩:=a; simp [eA,b8E]
theorem d7u {ps:List Prop} (h:∀ p∈ps,p):n6 ps:=by
 induction ps with
 | nil=>trivial
 | cons p ps ih=>exact ⟨h p (by simp),ih fun q hq=>h q (by simp [hq])⟩
theorem c8c {t off:Nat} {l:List (E.N.U t)} {i:Int} {A:Option Addr} {c:List Value} (hc:a5f w (eA A (i.toNat * (E.N.tb t).r.sz)) c) (hr:(E.N.tb t).r.rd Z w c (ix l i)) (h:qEl E t l i off T=some q)
  (hx:ev f x=.pointer (some (eA A (i.toNat * (E.N.tb t).r.sz+off)))) (hn:Nat.blt d n=true) (K:KQ E m n ops Q rest f w d ρ Z q) :
  WL E.P m n ops Q (⟨some d,.load T x,ty,pos,after,none⟩::rest) f w:=by
 unfold qEl at h
 split at h
 . rename_i yy hty
   split at h
   . rename_i s hs
     simp only [b3N] at h; subst h
     rw [d1j] at hx
     exact b2q (b4r hc) (yy.sv_ok hr) hs hx hn (fun v hv=>K v hv (d7u (yy.hy_ok hr)))
   . cases h
 . cases h
theorem c5j {sx:E.SV} (hm:Mem E C ρ Z w its nx) (hx:Rep E.N E.T ρ Z w (ev f x) sx) (h:c0d its T sx=some q) (hn:Nat.blt d n=true) (K:KQ E m n ops Q rest f w d ρ Z q) :
  WL E.P m n ops Q (⟨some d,.load T x,ty,pos,after,none⟩::rest) f w:=by
 generalize hv:ev f x=vx at hx
 cases sx with
 | ref id off =>
  simp only [c0d] at h
  split at h
  . rename_i Ty cells hi
    split at h
    . rename_i s hs
      cases hx with
      | ref hL =>
       obtain ⟨L,cs,hL',hbs,ho,hr⟩:=hm.at hi
       rw [hL] at hL'; cases hL'
       exact b2q (ad:=⟨_,0,none⟩) (fun j=>⟨_,0,rfl,fun k=>x9.part ho.all j k,fun v hv=>x9.one ho.all hv⟩) hr hs (by simp_all) hn (fun v hv=>K.q0 h hv)
    . cases h
  . rename_i t nn cells hi
    have ⟨hn0,h2⟩:=j7 h
    clear h
    have hn0:=D3 hn0
    split at h2
    . rename_i s hs
      cases hx with
      | ref hL =>
       obtain ⟨L,F,hL',hn1,hb,hA,hrw,hr⟩:=hm.at hi
       rw [hL] at hL'; cases hL'
       have hA:=hA hn0
       obtain ⟨b,e1,_,hc⟩:=hrw.cells hn0
       rw [hA] at e1
       simp only [b3N,b9R] at e1
       rw [<- e1.1] at hc
       exact b2q (ad:=⟨_,0,none⟩) (fun j=>⟨_,0,rfl,fun k=>x9.part hc j k,fun v hv=>x9.one hc hv⟩) hr hs (by simp_all) hn (fun v hv=>K.q0 h2 hv)
    . cases h2
  . cases h
 | fel t l i off =>
  cases hx with
  | fel hL h0 h1 =>
   obtain ⟨c,hc,hr⟩:=c1x (q:=i.toNat * (E.N.tb t).r.sz) (o:=0) hL (Sub.self _) rfl (b5Q _).symm h0 h1
   exact c8c hc hr h hv hn K
 | el id t' i off =>
  simp only [c0d] at h
  split at h
  . rename_i t l hi
    have ⟨ht,h2⟩:=j7 h
    clear h
    have:=b3Q ht; subst this
    cases hx with
    | el hL h0 h1 =>
     obtain ⟨L,hL',hn1,_,hac⟩:=hm.at hi
     rw [hL] at hL'; cases hL'
     obtain ⟨c,hc,hr⟩:=b2j (q:=i.toNat * (E.N.tb t).r.sz) (o:=0) hac (Sub.self _) rfl (b5Q _).symm h0 h1
     exact c8c hc hr h2 hv hn K
  . cases h
 | _=>cases h
theorem d3t {sx:E.SV} (hx:Rep E.N E.T ρ Z w (ev f x) sx) (h:e2a sx=some q) (hn:Nat.blt d n=true) (K:KQ E m n ops Q rest f w d ρ Z q) :
  WL E.P m n ops Q (⟨some d,.nilCheck x,ty,pos,after,none⟩::rest) f w:=by
 generalize hv:ev f x=vx at hx
 unfold e2a at h
 cases hx with
 | ref hL=>exact r7 hv hn (K.q0 h (.ref hL))
 | fel hr h0 h1=>exact r7 hv hn (K.q0 h (.fel hr h0 h1))
 | _=>cases h
theorem c3b {sx si:E.SV} (hx:Rep E.N E.T ρ Z w (ev f x) sx) (hy:Rep E.N E.T ρ Z w (ev f y) si) (h:b76 E T si sx=some q) (ho:n6 q.ob) (hn:Nat.blt d n=true) (K:KQ E m n ops Q rest f w d ρ Z q) :
  WL E.P m n ops Q (⟨some d,.index T x y,ty,pos,after,none⟩::rest) f w:=by
 generalize hvx:ev f x=vx at hx
 generalize hvy:ev f y=vy at hy
 unfold b76 at h
 cases hx with
 | str hl =>
  cases hy with
  | int ha =>
   obtain ⟨hs,h⟩:=j7 h
   simp only [b3N] at h; subst h
   exact c6s (P1 hs) hvx hvy ho.1 ho.2.1 hn (K _ .byte trivial)
  | _=>cases h
 | _=>cases h
theorem c0h {fs:Array Field} {fd:Field} {fi:Nat} {cs:Array Value} {v:Value} (hT:∀ w,(underlying T).run E.P w=.ok (.struct fs) w) (hf:fs[fi]?=some fd) (hx:ev f x=.agg cs) (hp:∀ w,(Go.part fd.type cs fd.offset).run E.P w=.ok v w) (hn:Nat.blt d n=true) (K:WL E.P m n ops Q rest (upd f d v) w) :
  WL E.P m n ops Q (⟨some d,.field T x fi,ty,pos,after,none⟩::rest) f w :=
 n7 rfl rfl hn (v:=v) (fun w1 _=>by
  have h:=hp w1
  simp [Go.part,go_sem] at h
  simp [execOp,hx,Instr.field,hT,hf,asAgg,go_sem,h]) K
theorem c2r {fi:Nat} {sx:E.SV} (hx:Rep E.N E.T ρ Z w (ev f x) sx) (h:b86 E T fi sx=some q) (hn:Nat.blt d n=true) (K:KQ E m n ops Q rest f w d ρ Z q) :
  WL E.P m n ops Q (⟨some d,.field T x fi,ty,pos,after,none⟩::rest) f w:=by
 generalize hv:ev f x=vx at hx
 cases sx with
 | agg ls =>
  simp only [b86] at h
  obtain ⟨cs,rfl,hr⟩:=hx.a1J
  split at h
  . rename_i fs hT
    split at h
    . rename_i fd hf
      split at h
      . rename_i s hp
        unfold part at hp
        split at hp
        . rename_i ha
          split at hp
          . rename_i nn hs
            obtain ⟨hle,hp⟩:=j7 hp
            simp only [b3N] at hp; subst hp
            refine c0h (v:=.agg ((cs.drop fd.offset).take nn).toArray) (fun w=>J0 hT w) hf hv (fun w1=>?_) hn (K.q0 h ((hr.drop fd.offset).take nn))
            have e:cs.toArray.extract fd.offset (fd.offset+nn)=((cs.drop fd.offset).take nn).toArray:=by
             apply b7L
             simp [b6T,b7B]
            have ha1:=a2g ha w1
            have hs1:=J8 hs w1
            unfold Go.part
            simp_all
          . cases hp
        . rename_i ha
          obtain ⟨v,hv2,hrep,_⟩:=hr.get fd.offset s hp
          exact c0h (v:=v) (fun w=>J0 hT w) hf hv (fun w1=>a2k (a2g ha w1) (by simp_all)) hn (K.q0 h hrep)
        . cases hp
      . cases h
    . cases h
  . cases h
 | _=>cases h
end
end Go.Rx
end
section
namespace Go.Rx
open Go Go.Wk Go.Wl
section
variable {E:Env} {C:Ctx} {m:Bool} {n:Nat} {ops:List Oper} {Q:Exit->Fr->World->Prop} {rest:List Oper} {f:Fr} {w:World} {d:Nat}
variable {ty T T':TypeId} {pos:String} {after:Array Edge} {x y z:Operand} {k k':IntKind} {a b:Int} {ρ:r9} {Z:Nat->Prop} {its:a7 E.N} {nx:Nat} {q:Q1 E.N}
theorem a9p {α:Type} {r:Rd α} {D:Nat->Prop} {A:Option Addr} {l:List α} {cap a b:Nat} (h:(q9 r).rd D w [.slice A l.length cap] l) (h1:a<=b) (h2:b<=l.length) :
  (q9 r).rd D w [.slice (if cap=a then A else A.map (·.add (a * r.sz))) (b-a) (cap-a)] ((l.take b).drop a):=by
 obtain ⟨hl,A',cap',e,⟨h0,hc⟩,hr⟩:=h
 simp at e; obtain ⟨rfl,rfl⟩:=e
 have hlen:((l.take b).drop a).length=b-a:=by rw [b3W,b3U]; omega
 refine ⟨by omega,_,_,by rw [hlen],⟨fun hA=>?_,by omega⟩,fun i hi=>?_⟩
 . split at hA
   all_goals simp_all
 . rw [hlen] at hi
   obtain ⟨bb,o,c,rfl,hb,hcc,hrr⟩:=hr (a+i) (by omega)
   have e1:((l.take b).drop a)[i]'(by omega)=l[a+i]'(by omega):=by rw [List.getElem_drop,b8W]
   rw [e1]
   rw [if_neg (by omega)]
   refine ⟨bb,o+a * r.sz,c,?_,hb,by grind,hrr⟩
   simp only [b9E,b3N,Addr.add]
   simp_all
theorem a8g {e nn cap sz:Nat} {A:Option Addr} {lo hi:Option Operand} {a b:Int} (hT:∀ w,(underlying T).run E.P w=.ok (.slice e) w) (hz:∀ w,(sizeOf e).run E.P w=.ok sz w) (hx:ev f x=.slice A nn cap)
  (hlo:match lo with | some o=>ev f o=.int .i64 a | none=>a=0) (hhi:match hi with | some o=>ev f o=.int .i64 b | none=>b=nn) (h0:0<=a/\a<=b/\b<=nn) (hc:nn<=cap) (hn:Nat.blt d n=true)
  (K:WL E.P m n ops Q rest (upd f d (.slice (if cap=a.toNat then A else A.map (·.add (a.toNat * sz))) (b.toNat-a.toNat) (cap-a.toNat))) w):WL E.P m n ops Q (⟨some d,.slice T x lo hi none,ty,pos,after,none⟩::rest) f w :=
 n7 rfl rfl hn (fun _ _=>by
  have hb0:0<=b:=by omega
  have hb1:b<=(cap:Int):=by omega
  have hbn:b.toNat<=cap:=by omega
  have hab:a<=((b.toNat:Nat):Int):=by omega
  cases lo with
  | none =>
   simp only at hlo; subst hlo
   cases hi with
   | none=>simp only at hhi; subst hhi; simp [execOp,hx,Instr.sliceAt,Instr.slice,Instr.sliceBounds,hT,hz,go_sem]
   | some o2=>simp only at hhi; simp [execOp,hx,hhi,Instr.sliceAt,Instr.slice,Instr.sliceBounds,Instr.sliceBound,asIntOf,hT,hz,go_sem,hb0,hb1]
  | some o1 =>
   simp only at hlo
   cases hi with
   | none=>simp only at hhi; subst hhi; simp [execOp,hx,hlo,Instr.sliceAt,Instr.slice,Instr.sliceBounds,Instr.sliceBound,asIntOf,hT,hz,go_sem,h0.1,h0.2.1]
   | some o2=>simp only at hhi; simp [execOp,hx,hlo,hhi,Instr.sliceAt,Instr.slice,Instr.sliceBounds,Instr.sliceBound,asIntOf,hT,hz,go_sem,hb0,hb1,h0.1,hab]; omega) K
theorem b31 {s:E.SV} {v:Value} {a:Int} (h:Rep E.N E.T ρ Z w v s) (e:asI s=some a):v=.int .i64 a:=by
 cases h with
 | @int k x _=>cases k <;> simp [asI] at e; subst e; rfl
 | _=>simp [asI] at e
def LoP (f:Fr) (lo:Option Operand) (a z:Int):Prop:=match lo with | some o=>ev f o=.int .i64 a | none=>a=z
theorem c1e {e:Operand->E.SV} (he:∀ o,Rep E.N E.T ρ Z w (ev f o) (e o)) {lo:Option Operand} {a:Option Int} (h:b2i e lo=some a) (z:Int) :
  LoP f lo (a.getD z) z:=by
 cases lo with
 | none=>simp [b2i] at h; subst h; rfl
 | some o =>
  simp only [b2i,b3Y] at h
  obtain ⟨b,hb,rfl⟩:=h
  exact b31 (he o) hb
theorem c3i {e:Operand->E.SV} (he:∀ o,Rep E.N E.T ρ Z w (ev f o) (e o)) {lo hi:Option Operand} {a b:Option Int} (ha:b2i e lo=some a) (hb:b2i e hi=some b) (hm:Mem E C ρ Z w its nx) (h:b7b E its T a b (e x)=some q) (ho:n6 q.ob) (hn:Nat.blt d n=true) (K:KQ E m n ops Q rest f w d ρ Z q) :
  WL E.P m n ops Q (⟨some d,.slice T x lo hi none,ty,pos,after,none⟩::rest) f w:=by
 have hx:=he x
 generalize hv:ev f x=vx at hx
 generalize e x=sx at hx h
 have key:∀ (len:Nat),n6 (d3q len a b)->LoP f lo (a.getD 0) 0/\LoP f hi (b.getD len) len/\0<=a.getD 0/\a.getD 0<=b.getD len/\b.getD len<=len /\
   ∀ (α:Type) (l:List α),l.length=len->a5k l a b=(l.take (b.getD len).toNat).drop (a.getD 0).toNat:=fun len ho=>by
  refine ⟨c1e he ha 0,c1e he hb len,?_⟩
  cases a with
  | none =>
   cases b with
   | none=>exact ⟨by simp,by simp,by simp,fun α l hl=>by simp [a5k,<- hl]⟩
   | some b=>exact ⟨by simp,by simpa using ho.1,ho.2.1,fun α l hl=>by simp [a5k]⟩
  | some a =>
   cases b with
   | none=>exact ⟨ho.1,ho.2.1,by simp,fun α l hl=>by simp [a5k,<- hl]⟩
   | some b=>exact ⟨ho.1,ho.2.1,ho.2.2.1,fun α l hl=>by simp [a5k]⟩
 unfold b7b at h
 cases sx with
 | str s =>
  have ⟨hs,h2⟩:=j7 h
  simp only [b3N] at h2; subst h2
  cases hx with
  | str hl =>
   obtain ⟨k1,k2,k3,k4,k5,k6⟩:=key s.length ho
   refine c6u (P1 hs) hv k1 k2 ⟨k3,k4,k5⟩ hn ?_
   rw [<- k6 _ s rfl]
   exact K _ (.str (by rw [k6 _ s rfl,b3W,b3U]; omega)) trivial
 | sl t l =>
  simp only at h
  split at h
  . rename_i ee hs
    have ⟨h1,h2⟩:=j7 h
    simp only [b3N] at h2; subst h2
    cases hx with
    | sl hx =>
     obtain ⟨A,cap,rfl⟩:=J7 hx
     obtain ⟨k1,k2,k3,k4,k5,k6⟩:=key l.length ho
     have hcap:l.length<=cap:=by
      obtain ⟨_,A',cap',e',⟨_,hc⟩,_⟩:=hx
      simp at e'; omega
     refine a8g (x8 hs) (N8 h1) hv k1 k2 ⟨k3,k4,k5⟩ hcap hn ?_
     refine K _ (.sl ?_) trivial
     rw [k6 _ l rfl]
     exact a9p hx (by omega) (by omega)
  . cases h
 | acc id =>
  simp only at h
  split at h
  . rename_i ee t l hs hi
    have ⟨h1,h2⟩:=j7 h
    simp only [b3N] at h2; subst h2
    cases hx with
    | acc hL =>
     rename_i L
     obtain ⟨L',hL',hn1,hlen,hac⟩:=hm.at hi
     rw [hL] at hL'; cases hL'
     obtain ⟨k1,k2,k3,k4,k5,k6⟩:=key l.length ho
     have hcap:L.n<=L.cap:=by
      rcases hac with ⟨e1,e2,_⟩ | ⟨b,cap',C,T',e1,_,_,_,hc,_⟩
      . simp_all
      . simp_all
     refine a8g (x8 hs) (N8 h1) hv k1 (by rw [hn1]; exact k2) ⟨k3,k4,by omega⟩ hcap hn ?_
     refine K _ ?_ trivial
     have en:(b.getD l.length).toNat-(a.getD 0).toNat=(b.getD l.length-a.getD 0).toNat:=by omega
     rw [en]
     exact .a2W hL k3 (by omega) (by omega) rfl rfl
  . cases h
 | _=>cases h
theorem c7e {vs:List E.SV} {cs:List Value} {e:Err} (hr:j8 E.N E.T ρ Z w cs vs) (h:c8t E T vs=some e):a5z E.T Z w (.iface T (.agg cs.toArray)) e:=by
 unfold c8t at h
 split at h
 . cases h
 . rename_i k hk
   split at h
   . cases h
     obtain ⟨v1,r1,rfl,h1,_,hr⟩:=j8.cons_inv hr
     obtain ⟨v2,r2,rfl,h2,_,hr⟩:=j8.cons_inv hr
     obtain rfl:=j8.a0Q hr
     cases h1 with | str hs =>
     cases h2 with | int hi =>
     exact .w hk (hi rfl) (fun h=>by omega)
   . cases h
     obtain ⟨v2,r2,rfl,h2,_,hr⟩:=j8.cons_inv hr
     obtain rfl:=j8.a0Q hr
     cases h2 with | int hi =>
     exact .w (s:=[]) hk (hi rfl) (fun h=>by omega)
   . cases h
     obtain ⟨v2,r2,rfl,h2,_,hr⟩:=j8.cons_inv hr
     obtain rfl:=j8.a0Q hr
     cases h2 with | err h2 =>
     cases h2 with | no hi =>
     exact .w (s:=[]) hk hi (fun h=>by omega)
   . rename_i k'
     obtain rfl:=j8.a0Q hr
     split at h
     . rename_i hle
       cases h
       exact .w (s:=[]) hk ⟨by omega,by omega⟩ (fun _=>by omega)
     . cases h
   . cases h
def d0r:TypeDesc->Bool
 | .interface _=>false
 | _=>true
theorem c2p (h:E.a3C T=some true):∃ X:TypeDesc,(∀ w,(underlying T).run E.P w=.ok X w)/\d0r X=true:=by
 unfold Env.a3C at h
 split at h
 . rename_i fs hu; exact ⟨_,J0 hu,rfl⟩
 . rename_i a b hu; exact ⟨_,J0 hu,rfl⟩
 . cases h
 . cases h
theorem a8r {vs:List E.SV} (hx:Rep E.N E.T ρ Z w (ev f x) (.agg vs)) (h:a9l E T (.agg vs)=some q) (hn:Nat.blt d n=true) (K:KQ E m n ops Q rest f w d ρ Z q) :
  WL E.P m n ops Q (⟨some d,.makeInterface T x,ty,pos,after,none⟩::rest) f w:=by
 simp only [a9l] at h
 split at h
 . rename_i hT
   split at h
   . rename_i e he
     obtain ⟨X,h1,h2⟩:=c2p hT
     obtain ⟨cs,hv,hr⟩:=Rep.a1J hx
     exact J1 h1 (by cases X <;> first | rfl | cases h2) hv hn (K.q0 h (.err (c7e hr he)))
   . cases h
 . cases h
theorem c3j {sx:E.SV} (hx:Rep E.N E.T ρ Z w (ev f x) sx) (h:a9l E T sx=some q) (hn:Nat.blt d n=true) (K:KQ E m n ops Q rest f w d ρ Z q) :
  WL E.P m n ops Q (⟨some d,.makeInterface T x,ty,pos,after,none⟩::rest) f w:=by
 generalize hv:ev f x=vx at hx
 unfold a9l at h
 cases hx with
 | @int k a ha =>
  cases k with
  | i64 =>
   have ⟨h1,h2⟩:=j7 h
   simp only [b3R] at h1
   obtain ⟨e1,e2⟩:=h1
   have e1:=b3Q e1
   cases hi:E.intOf T with
   | none=>simp_all
   | some k =>
    refine J1 (I4 hi) rfl hv hn (K.q0 h2 (.err ?_))
    rw [e1]; exact .no (ha rfl)
  | _=>cases h
 | ref hL =>
  have ⟨h1,h2⟩:=j7 h
  simp only [b3R] at h1
  obtain ⟨e,hT⟩:=Z3 h1.1
  exact J1 hT rfl hv hn (K.q0 h2 (.ifc (.ref hL)))
 | a2M=>exact a8r (vs:=[]) (by rw [hv]; exact .a2M) h hn K
 | a1V h1 hp r=>exact a8r (by rw [hv]; exact .a1V h1 hp r) h hn K
 | _=>cases h
theorem c35 {fs:List Field} {fl:List (Nat×Nat)} (h:fs.mapM (fun f=>(E.size f.type).map fun s=>(f.offset,s))=some fl) (w:World):(fs.mapM (fun (fd:Field)=>do pure (fd.offset,<- sizeOf fd.type)):Sem (List (Nat×Nat))).run E.P w=.ok fl w:=by
 induction fs generalizing fl with
 | nil=>simp_all
 | cons f fs ih =>
  rw [List.mapM_cons] at h
  simp only [Option.bind_eq_bind,b5L,Option.pure_def,b3N,b3Y] at h
  obtain ⟨p,⟨s,hs,rfl⟩,r,hr,rfl⟩:=h
  rw [List.mapM_cons]
  simp only [b3S,J8 hs,b3O,b4E,ih hr]
theorem b0e {e:Operand->E.SV} (he:∀ o,Rep E.N E.T ρ Z w (ev f o) (e o)) {fl:List (Nat×Nat)}:∀ {ps:List (Nat×Operand)} {ls ls':List E.SV} {cs:List Value},b3q E fl e ps ls=some ls'->j8 E.N E.T ρ Z w cs ls ->
  a5g fl cs.length (ps.map fun p=>(p.1,ev f p.2))=true/\j8 E.N E.T ρ Z w (a79 fl cs (ps.map fun p=>(p.1,ev f p.2))) ls'
 | [],ls,ls',cs,h,hr=>by cases h; exact ⟨rfl,hr⟩
 | p::ps,ls,ls',cs,h,hr=>by
  unfold b3q at h
  split at h
  . rename_i o nn hp
    have ⟨h1,h2⟩:=j7 h
    simp only [b3R] at h1
    obtain ⟨⟨a1,a2⟩,a3⟩:=h1
    have a2:=b3Q a2
    have a3:=b4T a3
    have hl:=(he p.2).leaves a1
    have hlen:=hl.len
    have hcl:=hr.len
    have hlt:p.1<fl.length:=by
     rcases b5N p.1 fl.length with h | h
     . exact h
     . simp_all
    have hd:fl.getD p.1 (0,0)=(o,nn):=by simp [b5V,hp]
    have ih:=b0e he h2 (hr.a1A (o:=o) hl)
    rw [E9] at ih
    refine ⟨?_,?_⟩
    . simp only [b4W,a5g,hd,b3R]
      simp_all
    . simp only [b4W,a79,hd]
      exact ih.2
  . cases h
theorem b4l {v:Value} (hi:okc v=true):Rep E.N E.T ρ Z w v (d2a v):=by
 cases v with
 | int k x =>
  cases k with
  | u8 =>
   simp only [okc,b3R,b6L] at hi
   have e:Value.int .u8 x=bv (UInt8.ofNat x.toNat):=by
    unfold bv; rw [b8M]; congr 1
    have:x.toNat % 2 ^ 8=x.toNat:=Nat.mod_eq_of_lt (by omega)
    omega
   show Rep E.N E.T ρ Z w (.int .u8 x) (.byte (UInt8.ofNat x.toNat))
   rw [e]; exact .byte
  | i64=>simp only [okc,b3R,b6L] at hi; exact .int fun _=>hi
  | _=>exact .int fun e=>by cases e
 | bool b =>
  cases b
  . exact .ff
  . exact .tt
 | string b =>
  have e:Value.string b=sv b.data.toList:=by cases b; simp [sv]
  show Rep E.N E.T ρ Z w (.string b) (.str b.data.toList)
  rw [e]; exact .str (b4T hi)
 | slice a n c =>
  cases a with
  | none =>
   cases n with
   | zero =>
    cases c with
    | zero=>exact .a1K
    | succ c=>exact .con rfl
   | succ n=>exact .con rfl
  | some a=>exact .con rfl
 | nilIface=>exact .err .nil
 | agg cs=>cases hi
 | tuple cs=>cases hi
 | _=>exact .con rfl
theorem c4l {v:Value} (h:okc v=true):A2 v=true:=by
 cases v with
 | agg cs=>cases h
 | tuple cs=>cases h
 | _=>rfl
theorem d1a {v:Value}:Rep E.N E.T ρ Z w v (d8h v):=by
 unfold d8h
 cases h:okc v with
 | true=>exact b4l h
 | false=>exact .un
theorem a6t {v:Value}:Rep E.N E.T ρ Z w v (cst v):=by
 unfold cst
 split
 . rename_i cs
   cases h:cs.toList.all okc with
   | false=>exact .un
   | true =>
    rw [b4G]
    have key:∀ l:List Value,l.all okc=true->j8 E.N E.T ρ Z w l (l.map d2a):=by
     intro l
     induction l with
     | nil=>exact fun _=>j8.nil
     | cons v r ih =>
      intro h
      simp only [b7A,b3R] at h
      exact Rep.a1V (b4l h.1) (c4l h.1) (ih h.2)
    exact key _ h
 . exact d1a
theorem c4k {e:Operand->E.SV} (he:∀ o,Rep E.N E.T ρ Z w (ev f o) (e o)) {ps:Array (Nat×Operand)} (h:b9r E e T ps.toList=some q) (hn:Nat.blt d n=true) (K:KQ E m n ops Q rest f w d ρ Z q) :
  WL E.P m n ops Q (⟨some d,.build T ps,ty,pos,after,none⟩::rest) f w:=by
 unfold b9r at h
 split at h
 . rename_i ls fl hz hf
   split at h
   . rename_i ls' hb
     unfold Env.zero at hz
     simp only [b3Y] at hz
     obtain ⟨zv,hz,hc⟩:=hz
     have hr:Rep E.N E.T ρ Z w zv (.agg ls):=by rw [<- hc]; exact a6t
     obtain ⟨cs,rfl,hr⟩:=Rep.a1J hr
     obtain ⟨h1,h2⟩:=b0e he hb hr
     unfold Env.b3B at hf
     split at hf
     . rename_i fs hu
       refine b2f (J0 hu) (a2a hz) (pl:=fl.toArray) (fun w=>?_) (by simpa [Value.cells] using h1) rfl hn (K.q0 h (by simpa [Value.cells,j8] using h2))
       have:=c35 hf w
       rw [Array.mapM_eq_mapM_toList]
       simp_all
     . cases hf
   . cases h
 . cases h
theorem b1f {t:Nat} (h:E.N.tb t=⟨UInt8,n5,⟨0⟩⟩) (l:List (E.N.U t)) (e:List (E.N.U t)=Str) {v:Value} :
  ((q9 (E.N.tb t).r).rd Z w [v] l->(q9 n5).rd Z w [v] (cast e l))/\(∀ bs,Ac (E.N.tb t).r Z w v l bs->Ac n5 Z w v (cast e l) bs):=by
 grind
theorem a5p {t:Nat} {l:List (E.N.U t)} {S D:Nat} (hd:E.isStr D=true) (h:a90 E S t l=some q) (hx:(∃ D:Nat->Prop,(q9 (E.N.tb t).r).rd D w [ev f x] l) ∨ ∃ bs,Ac (E.N.tb t).r Z w (ev f x) l bs/\l.length<=9223372036854775807) (hn:Nat.blt d n=true) (K:KQ E m n ops Q rest f w d ρ Z q) :
  WL E.P m n ops Q (⟨some d,.convert S D x,ty,pos,after,none⟩::rest) f w:=by
 unfold a90 at h
 split at h
 . rename_i e hs
   split at h
   . rename_i hi
     split at h
     . rename_i s hb
       unfold bytesOf at hb
       split at hb
       . rename_i yy hy
         split at hb
         . rename_i h8 hb8
           simp only [b3N] at hb; subst hb
           have hc:=b1f (Z:=Z) (w:=w) (v:=ev f x) h8.down l (by grind)
           have hl:(cast (by grind) l:Str).length=l.length:=by
            have:∀ (α β:Type) (e:α=β) (l:List α) (e2:List α=List β),(cast e2 l:List β).length=l.length:=by intro α β e l e2; subst e; rfl
            exact this (E.N.U t) UInt8 (by rw [Uni.U,h8.down]) l _
           rcases hx with ⟨D,hx⟩ | ⟨bs,hx,hlen⟩
           . have hc:=b1f (Z:=D) (w:=w) (v:=ev f x) h8.down l (by grind)
             exact a7k (x8 hs) (P1 hd) (I4 hi) (Src.data (hc.1 hx)) hn (K.q0 h (.str (a0z (hc.1 hx))))
           . exact a7k (x8 hs) (P1 hd) (I4 hi) (Src.ac (hc.2 bs hx)) hn (K.q0 h (.str (by omega)))
         . cases hb
       . cases hb
     . cases h
   . cases h
 . cases h
theorem e4v {c:UInt8} {k:IntKind} (h:k≠.i8):k.wrap (c.toNat:Int)=c.toNat:=by
 have:=c.toNat_lt
 cases k <;> simp [IntKind.wrap,IntKind.bits,IntKind.signed] at * <;> omega
theorem b4w {S D:Nat} {sx:E.SV} (hm:Mem E C ρ Z w its nx) (hx:Rep E.N E.T ρ Z w (ev f x) sx) (h:V5 E its S D sx=some q) (hn:Nat.blt d n=true) (K:KQ E m n ops Q rest f w d ρ Z q) :
  WL E.P m n ops Q (⟨some d,.convert S D x,ty,pos,after,none⟩::rest) f w:=by
 generalize hv:ev f x=vx at hx
 cases sx with
 | byte c =>
  simp only [V5] at h
  split at h
  . rename_i k0 k hk0 hk
    cases hx
    have hv':ev f x=.int .u8 c.toNat:=hv
    have ci:∀ (hk8:k≠.i8),WL E.P m n ops Q rest (upd f d (.int k c.toNat)) w->WL E.P m n ops Q (⟨some d,.convert S D x,ty,pos,after,none⟩::rest) f w:=fun hk8 K=>b36 (I4 hk0) (I4 hk) hv' hn (by rw [e4v hk8]; exact K)
    cases k with
    | u8=>exact ci (by decide) (K.q0 h .byte)
    | i8=>cases h
    | i64=>refine ci (by decide) (K.q0 h (.int fun _=>?_)); have:=c.toNat_lt; unfold InI; omega
    | _=>exact ci (by decide) (K.q0 h (.int fun e=>by cases e))
  . cases h
 | int ks a =>
  simp only [V5] at h
  split at h
  . rename_i k0 k hk0 hk
    cases hx
    cases k with
    | u8=>exact d2j (I4 hk0) (I4 hk) hv hn (K.q0 h .byte)
    | _=>exact b36 (I4 hk0) (I4 hk) hv hn (K.q0 h (.int (a35 a)))
  . cases h
 | sl t l =>
  simp only [V5] at h
  have ⟨h1,h2⟩:=j7 h
  cases hx with
  | sl hx=>exact a5p h1 h2 (.inl ⟨Z,by simp_all⟩) hn K
 | acc id =>
  simp only [V5] at h
  split at h
  . rename_i t l hi
    have ⟨h1,h2⟩:=j7 h
    cases hx with
    | acc hL =>
     obtain ⟨L,hL',hn1,hlen,hac⟩:=hm.at hi
     rw [hL] at hL'; cases hL'
     exact a5p h1 h2 (.inr ⟨_,by rw [hv]; exact hac,hlen⟩) hn K
  . cases h
 | sub id t2 lo nn =>
  simp only [V5] at h
  split at h
  . rename_i t l hi
    have ⟨h1,h2⟩:=j7 h
    simp only [b3R] at h1
    obtain ⟨e2,h1⟩:=h1
    have e2:=b3Q e2
    subst e2
    obtain ⟨L,hL,hn1,hlen,hac⟩:=hm.at hi
    cases hx with
    | a2W hL' l0 n0 l1 hc hA' =>
     rw [hL] at hL'; cases hL'
     have hrd:=Ac.rd hac hlen
     rw [hn1] at hrd
     have hs:=a9p (a:=lo.toNat) (b:=lo.toNat+nn.toNat) hrd (by omega) (by omega)
     rw [b7B] at hs
     refine a5p h1 h2 (.inl ⟨_,by rw [hv,hc,hA']; exact hs⟩) hn K
  . cases h
 | _=>cases h
theorem c9t {mx:Bool} {Ts:Array TypeId} {sx sy:E.SV} (hx:Rep E.N E.T ρ Z w (ev f x) sx) (hy:Rep E.N E.T ρ Z w (ev f y) sy) (h:qMM mx sx sy=some q) (hn:Nat.blt d n=true) (K:KQ E m n ops Q rest f w d ρ Z q) :
  WL E.P m n ops Q (⟨some d,.call ⟨.builtin (bif mx then .max else .min),#[x,y],Ts⟩,ty,pos,after,none⟩::rest) f w:=by
 generalize hvx:ev f x=vx at hx
 generalize hvy:ev f y=vy at hy
 unfold qMM at h
 split at h
 . rename_i k a k' b
   split at h
   . rename_i e; subst e
     cases hx with
     | int ha =>
      cases hy with
      | int hb =>
       have hr:∀ c,c=a ∨ c=b->k=.i64->InI c:=fun c hc e=>by
        grind
       cases mx with
       | true=>exact c63 hvx hvy hn (K.q0 h (.int (hr _ (by omega))))
       | false=>exact d6r hvx hvy hn (K.q0 h (.int (hr _ (by omega))))
   . cases h
 . cases h
theorem d3e {sx:E.SV} {n0:Int} (hm:Mem E C ρ Z w its nx) (hx:Rep E.N E.T ρ Z w (ev f x) sx) (h:lenOf its T sx=some n0) (hn:Nat.blt d n=true) (K:∀ v,Rep E.N E.T ρ Z w v (.int .i64 n0:E.SV)->WL E.P m n ops Q rest (upd f d v) w) :
  WL E.P m n ops Q (⟨some d,.call ⟨.builtin .len,#[x],#[T]⟩,ty,pos,after,none⟩::rest) f w:=by
 generalize hvx:ev f x=vx at hx
 have inI:∀ k:Nat,k<=9223372036854775807->InI (k:Int):=fun k hk=>by unfold InI; omega
 unfold lenOf at h
 cases hb:E.isStr T with
 | true =>
  rw [hb,b4G] at h
  cases sx with
  | str s =>
   simp only [b3N] at h; subst h
   cases hx with
   | str hl=>exact e01 (P1 hb) hvx hn (K _ (.int fun _=>inI _ hl))
  | _=>cases h
 | false =>
  rw [hb,b4X] at h
  cases hs:E.a0S T with
  | none=>simp_all
  | some e =>
   rw [hs] at h
   replace h:c32 its sx=some n0:=h
   cases sx with
   | sl t l =>
    simp only [c32,b3N] at h; subst h
    cases hx with
    | sl hx=>obtain ⟨A,cap,rfl⟩:=J7 hx; exact a1z (x8 hs) hvx hn (K _ (.int fun _=>inI _ (a0z hx)))
   | a1K =>
    simp only [c32,b3N] at h; subst h
    cases hx
    exact a1z (x8 hs) hvx hn (K _ (.int fun _=>by grind))
   | acc id =>
    simp only [c32] at h
    split at h
    . rename_i t l hi
      simp only [b3N] at h; subst h
      cases hx with
      | acc hL =>
       obtain ⟨L,hL',hn1,hlen,hac⟩:=hm.at hi
       rw [hL] at hL'; cases hL'
       refine a1z (x8 hs) hvx hn ?_
       rw [hn1]; exact K _ (.int fun _=>inI _ hlen)
    . rename_i t nn cells hi
      simp only [b3N] at h; subst h
      cases hx with
      | acc hL =>
       obtain ⟨L,F,hL',hn1,hb,_⟩:=hm.at hi
       rw [hL] at hL'; cases hL'
       refine a1z (x8 hs) hvx hn ?_
       rw [hn1]; exact K _ (.int fun _=>by grind)
    . cases h
   | sub id t lo nn =>
    simp only [c32] at h
    split at h
    . rename_i t' l hi
      simp only [b3N] at h; subst h
      cases hx with
      | a2W hL l0 h0 l1 hc hA =>
       obtain ⟨L,hL',hn1,hlen,hac⟩:=hm.at hi
       rw [hL] at hL'; cases hL'
       refine a1z (x8 hs) hvx hn ?_
       rw [b9I h0]
       exact K _ (.int fun _=>by grind)
    . cases h
   | _=>cases h
theorem e3j {α:Type} {a:Array α} {x:α} (h:a.toList=[x]):a=#[x]:=by grind
theorem b5o {α:Type} {a:Array α} {x y:α} (h:a.toList=[x,y]):a=#[x,y]:=by grind
theorem d0v {e:Operand->E.SV} (hm:Mem E C ρ Z w its nx) (he:∀ o,Rep E.N E.T ρ Z w (ev f o) (e o)) {c:Call} (h:c9y E its e c=some q) (hn:Nat.blt d n=true) (K:KQ E m n ops Q rest f w d ρ Z q) :
  WL E.P m n ops Q (⟨some d,.call c,ty,pos,after,none⟩::rest) f w:=by
 obtain ⟨cal,args,Ts⟩:=c
 unfold c9y at h
 cases cal with
 | builtin b =>
  simp only [b4i] at h
  cases b with
  | len =>
   simp only at h
   split at h
   . rename_i xx TT ha hT
     obtain rfl:=e3j ha
     obtain rfl:=e3j hT
     split at h
     . rename_i n0 hl
       exact d3e hm (he xx) hl hn (fun v hv=>K.q0 h hv)
     . cases h
   . cases h
  | min =>
   simp only at h
   split at h
   . rename_i xx yy ha
     obtain rfl:=b5o ha
     exact c9t (mx:=false) (he xx) (he yy) h hn K
   . cases h
  | max =>
   simp only at h
   split at h
   . rename_i xx yy ha
     obtain rfl:=b5o ha
     exact c9t (mx:=true) (he xx) (he yy) h hn K
   . cases h
  | _=>cases h
 | _=>cases h
theorem d1c {e:Operand->E.SV} (hm:Mem E C ρ Z w its nx) (he:∀ o,Rep E.N E.T ρ Z w (ev f o) (e o)) {op:Op} (h:c57 E its e op=some q) (ho:n6 q.ob) (hn:Nat.blt d n=true) (K:KQ E m n ops Q rest f w d ρ Z q) :
  WL E.P m n ops Q (⟨some d,op,ty,pos,after,none⟩::rest) f w:=by
 unfold c57 at h
 cases op with
 | move x=>exact k9 hn (K.q0 h (he x))
 | assign x=>exact j6 hn (K.q0 h (he x))
 | pick c a b =>
  simp only at h
  have hc:=he c
  generalize e c=sc at h hc
  generalize hv:ev f c=vc at hc
  unfold d5i at h
  cases hc with
  | tt=>exact a4s hv hn (K.q0 h (he a))
  | ff=>exact a1v hv hn (K.q0 h (he b))
  | _=>cases h
 | binOp op T x y T'=>exact d1m (he x) (he y) h ho hn K
 | unOp op T x=>exact d7t (he x) h ho hn K
 | extract x i=>exact b58 (he x) h hn K
 | indexAddr T x i=>exact b00 hm (he x) (he i) h ho hn K
 | fieldAddr T x fi =>
  simp only at h
  split at h
  . rename_i o nn hf
    have ⟨h1,h2⟩:=j7 h
    exact a9v (he x) hf h1 h2 hn K
  . cases h
 | load T x=>exact c5j hm (he x) h hn K
 | field T x fi=>exact c2r (he x) h hn K
 | nilCheck x=>exact d3t (he x) h hn K
 | index T x i=>exact c3b (he x) (he i) h ho hn K
 | slice T x lo hi mx =>
  simp only at h
  split at h
  . rename_i a b ha hb
    exact c3i he ha hb hm h ho hn K
  . cases h
 | makeInterface T x=>exact c3j (he x) h hn K
 | build T ps=>exact c4k he h hn K
 | convert S D x=>exact b4w hm (he x) h hn K
 | makeFunc fn first caps =>
  simp only at h
  cases fn with
  | func K' =>
   have ⟨h1,h2⟩:=j7 h
   simp only [b3R] at h1
   obtain ⟨h1,h3⟩:=h1
   have h1:=b3Q h1
   obtain rfl:first=#[]:=Array.eq_empty_of_size_eq_zero h1
   have ec:caps=caps.toList.toArray:=by simp
   rw [ec]
   refine b9k (xs:=[]) (ys:=caps.toList) hn (K.q0 h2 (.clo ?_))
   have key:∀ l:List Operand,(l.map e).all d5p=true->j8 E.N E.T ρ Z w (l.map (ev f)) (l.map e):=by
    intro l
    induction l with
    | nil=>exact fun _=>j8.nil
    | cons o l ih =>
     intro h
     simp only [b4W,b7A,b3R] at h
     refine Rep.a1V (he o) ((he o).a4Y ?_) (ih h.2)
     have h':=h.1
     generalize e o=so at h'
     cases so <;> first | rfl | cases h'
   exact key _ h3
  | _=>cases h
 | call c=>exact d0v hm he h hn K
 | _=>cases h
end
end Go.Rx
end
section
namespace Go.Rx
open Go Go.Wk Go.Wl
section
variable {B0:List Nat} {w0 w w':World} {Z Z':Nat->Prop} {l l':List It}
structure b92 (B0:List Nat) (Z:Nat->Prop) (w:World) (t t':It):Prop where
 P:t'.P Z w
 a1L:t'.a2B
 F:∀ b∈t'.F,b∈t.F
 O:t'.O=B0
theorem Sep.sel (hs:Sep B0 w0 Z w l) (φ:Nat->Nat) (inj:∀ i j,i<l'.length->j<l'.length->φ i=φ j->i=j) (h:∀ (i:Nat) (t':It),l'[i]?=some t'->∃ t,l[φ i]?=some t/\b92 B0 Z w t t'):Sep B0 w0 Z w l':=by
 have lt:∀ {i:Nat} {t:It},l'[i]?=some t->i<l'.length:=fun {i t} h=>by
  grind
 refine ⟨hs.ext,hs.zlt,fun i t' hi=>?_,fun i j s t hi hj hne b hb hb'=>?_⟩
 . obtain ⟨t,ht,lk⟩:=h i t' hi
   have ok:=hs.ok _ t ht
   exact ⟨lk.P,lk.a1L,fun b hb=>ok.lt b (lk.F b hb),fun b hb=>ok.a1X b (lk.F b hb),fun b hb=>by
    rw [lk.O]
    rcases ok.org b (lk.F b hb) with h | h
    . exact .inl (ok.a3L b h)
    omega,fun b hb=>by rw [lk.O] at hb; exact hb⟩
 . obtain ⟨s1,hs1,lk1⟩:=h i s hi
   obtain ⟨t1,ht1,lk2⟩:=h j t hj
   exact hs.apart _ _ s1 t1 hs1 ht1 (fun e=>hne (inj i j (lt hi) (lt hj) e)) b (lk1.F b hb) (lk2.F b hb')
theorem Sep.conv (hs:Sep B0 w0 Z w l) (hl:l'.length=l.length) (h:∀ (i:Nat) (t t':It),l[i]?=some t->l'[i]?=some t'->b92 B0 Z w t t'):Sep B0 w0 Z w l' :=
 Sep.sel hs (fun i=>i) (fun _ _ _ _ e=>e) fun i t' hi=>by
  grind
end
section
variable {N:Uni} {T:O9} {ρ ρ':r9} {B0:List Nat} {Z Z':Nat->Prop} {w w':World} {id:Nat} {i:Item N}
theorem A8 {L:Loc} {Ty:Nat} {cells:List (SV N)} (h:ρ id=some L):u5 N ρ id (.own Ty cells)=L.bs:=by simp [u5,h]
theorem u6 {L:Loc} {t:Nat} {l:List (N.U t)} (h:ρ id=some L):u5 N ρ id (.ac t l)=L.bs:=by simp [u5,h]
theorem D6 {L:Loc} {k fid:Nat} {x:N.O k} (h:ρ fid=some L):u5 N ρ id (.ob k fid x)=L.bs:=by simp [u5,h]
theorem E7 {L:Loc} {t n:Nat} {cells:List (SV N)} (h:ρ id=some L):u5 N ρ id (.rw t n cells)=L.bs:=by simp [u5,h]
theorem z7:(H2 N T ρ B0 id i).a2B:=fun Z Z' B w w' h x hB hZ=>by
 have hZ':∀ b,Z b->b<w.heap.size->Z' b:=fun b h _=>hZ b h
 cases i with
 | own Ty cells =>
  obtain ⟨L,cs,hL,hbs,ho,hr⟩:=h
  have hF:∀ b∈B,b∈[L.b] ∨ Z b->w.heap.size<=b:=fun b hb h=>hB b hb (by
   rcases h with h | h
   . left; show b∈u5 N ρ id (.own Ty cells); rw [A8 hL]; simp_all
   simp_all)
  exact ⟨L,cs,hL,hbs,ho.ext x (fun hm=>by have:=hF _ hm (.inl (by simp)); have:=ho.lt; omega),hr.a1L x (fun b hb hz=>hF b hb (.inr hz)) hZ' (fun _ _ h=>h)⟩
 | ac t l =>
  obtain ⟨L,hL,hn,hl,hac⟩:=h
  exact ⟨L,hL,hn,hl,hac.a1L x (fun b hb h=>hB b hb (by
   rcases h with h | h
   . left; show b∈u5 N ρ id (.ac t l); rw [u6 hL]; exact h
   simp_all)) hZ⟩
 | fz t l =>
  obtain ⟨L,hL,hn,hr⟩:=h
  exact ⟨L,hL,hn,Rd.mono _ hr x (fun b hb hz=>hB b hb (.inr hz)) hZ'⟩
 | ob k fid x' =>
  obtain ⟨L,Lf,hL,hf,ho⟩:=h
  exact ⟨L,Lf,hL,hf,((N.oj k).ob L.b).a1L Z Z' B w w' ho x (fun b hb h=>hB b hb (by
   rcases h with h | h
   . left; show b∈u5 N ρ id (.ob k fid x'); rw [D6 hf]; exact h
   simp_all)) hZ⟩
 | rw t n cells =>
  obtain ⟨L,F,hL,hn,hb,hA,hr,hrep⟩:=h
  exact ⟨L,F,hL,hn,hb,hA,hr.ext x (fun b hb h=>hB b hb (.inl (by show b∈u5 N ρ id (.rw t n cells); rw [E7 hL]; exact h))),hrep.a1L x (fun b hb hz=>hB b hb (.inr hz)) hZ' (fun _ _ h=>h)⟩
theorem P0 (hρ:∀ i L,ρ i=some L->ρ' i=some L) (h:holds N T ρ id Z w i):holds N T ρ' id Z w i/\u5 N ρ' id i=u5 N ρ id i:=by
 cases i with
 | own Ty cells=>obtain ⟨L,cs,hL,hbs,ho,hr⟩:=h; exact ⟨⟨L,cs,hρ _ _ hL,hbs,ho,Rep.sub hr hρ⟩,by rw [A8 hL,A8 (hρ _ _ hL)]⟩
 | ac t l=>obtain ⟨L,hL,r⟩:=h; exact ⟨⟨L,hρ _ _ hL,r⟩,by rw [u6 hL,u6 (hρ _ _ hL)]⟩
 | fz t l=>obtain ⟨L,hL,r⟩:=h; exact ⟨⟨L,hρ _ _ hL,r⟩,rfl⟩
 | ob k fid x=>obtain ⟨L,Lf,hL,hf,r⟩:=h; exact ⟨⟨L,Lf,hρ _ _ hL,hρ _ _ hf,r⟩,by rw [D6 hf,D6 (hρ _ _ hf)]⟩
 | rw t n cells=>obtain ⟨L,F,hL,hn,hb,hA,hr,hrep⟩:=h; exact ⟨⟨L,F,hρ _ _ hL,hn,hb,hA,hr,Rep.sub hrep hρ⟩,by rw [E7 hL,E7 (hρ _ _ hL)]⟩
theorem a9d (hρ:∀ i L,ρ i=some L->ρ' i=some L) (h:holds N T ρ id Z w i):b92 B0 Z w (H2 N T ρ B0 id i) (H2 N T ρ' B0 id i) :=
 ⟨(P0 hρ h).1,z7,fun b hb=>by show b∈u5 N ρ id i; rw [<- (P0 (T:=T) hρ h).2]; exact hb,rfl⟩
theorem a5j (h:holds N T ρ id Z w i):b92 B0 Z w (H2 N T ρ B0 id i) (H2 N T ρ B0 id i):=⟨h,z7,fun _ h=>h,rfl⟩
theorem B6 {its:a7 N} {k:Nat} {t:It} (h:(s6 N T ρ B0 its)[k]?=some t):∃ p,its[k]?=some p/\t=H2 N T ρ B0 p.1 p.2:=by
 simp only [s6,b5S,b3Y] at h
 grind
end
structure Tn (ρ:r9) (Z:Nat->Prop) (w:World) (ρ':r9) (Z':Nat->Prop) (w':World):Prop where
 rho:∀ i L,ρ i=some L->ρ' i=some L
 z:∀ b,Z b->b<w.heap.size->Z' b
 ext:∃ B,Ext B w w'/\∀ b∈B,Z b->w.heap.size<=b
theorem Tn.refl (ρ:r9) (Z:Nat->Prop) (w:World):Tn ρ Z w ρ Z w:=⟨fun _ _ h=>h,fun _ h _=>h,[],Ext.refl _ _,fun _ h=>by cases h⟩
theorem Tn.rep {N:Uni} {T:O9} {ρ ρ':r9} {Z Z':Nat->Prop} {w w':World} (h:Tn ρ Z w ρ' Z' w') {v:Value} {s:SV N} (r:Rep N T ρ Z w v s):Rep N T ρ' Z' w' v s:=by
 obtain ⟨B,x,hB⟩:=h.ext
 exact r.a1L x hB h.z h.rho
theorem Tn.trans {ρ ρ1 ρ2:r9} {Z Z1 Z2:Nat->Prop} {w w1 w2:World} (h:Tn ρ Z w ρ1 Z1 w1) (k:Tn ρ1 Z1 w1 ρ2 Z2 w2):Tn ρ Z w ρ2 Z2 w2:=by
 obtain ⟨B,x,hB⟩:=h.ext
 obtain ⟨B',x',hB'⟩:=k.ext
 refine ⟨fun i L e=>k.rho _ _ (h.rho _ _ e),fun b hz hb=>k.z b (h.z b hz hb) (by have:=x.size; omega),B++B'.filter (fun b=>decide (b<w.heap.size)),x.trans x' (fun b hb=>.inl (by simp [hb])) (fun b hb=>?_),fun b hb hz=>?_⟩
 . grind
 . rcases b5Y.1 hb with hb | hb
   . simp_all
   . simp only [b7H,b6L] at hb
     have:=hB' b hb.1 (h.z b hz hb.2)
     have:=x.size
     omega
section
variable {E:Env} {C:Ctx} {ρ ρ':r9} {Z Z':Nat->Prop} {w w':World} {its:a7 E.N} {nx:Nat}
def C1 (ρ:r9) (id:Nat) (L:Loc):r9:=fun i=>if i=id then some L else ρ i
theorem k7 {id:Nat} {L:Loc}:C1 ρ id L id=some L:=by simp [C1]
theorem z6 {id:Nat} {L:Loc} (h:ρ id=none):∀ i L',ρ i=some L'->C1 ρ id L i=some L':=fun i L' e=>by
 unfold C1
 grind
theorem Mem.holds (hm:Mem E C ρ Z w its nx) {k:Nat} {p:Nat×Item E.N} (h:its[k]?=some p):holds E.N E.T ρ p.1 Z w p.2 :=
 hm.sep.at k (t:=H2 E.N E.T ρ C.B0 p.1 p.2) (by simp [s6,h])
theorem Mem.laid {t:It} {i:Item E.N} {L:Loc} (hm:Mem E C ρ Z w its nx) (hs:Sep C.B0 C.w0 Z w' (t::s6 E.N E.T ρ C.B0 its)) (hh:Go.Rx.holds E.N E.T (C1 ρ nx L) nx Z w' i) (hF:∀ b∈u5 E.N (C1 ρ nx L) nx i,b∈t.F):Mem E C (C1 ρ nx L) Z w' ((nx,i)::its) (nx+1):=by
 have hρ:=z6 (L:=L) (hm.fr nx (b4H _))
 refine ⟨Sep.conv hs (by simp [s6]) fun k s s' hk hk'=>?_,fun j hj=>?_,fun j L' e=>hρ _ _ (hm.ge j L' e),hm.zge,hm.zle⟩
 . cases k with
   | zero =>
    simp [s6] at hk hk'
    subst hk; subst hk'
    exact ⟨hh,z7,hF,rfl⟩
   | succ k =>
    have hk:(s6 E.N E.T ρ C.B0 its)[k]?=some s:=hk
    have hk':(s6 E.N E.T (C1 ρ nx L) C.B0 its)[k]?=some s':=hk'
    obtain ⟨p,hp,rfl⟩:=B6 hk
    obtain ⟨p',hp',rfl⟩:=B6 hk'
    rw [hp] at hp'; cases hp'
    exact a9d hρ (hs.at (k+1) (t:=H2 E.N E.T ρ C.B0 p.1 p.2) (by omega))
 . unfold C1
   rw [if_neg (by omega)]; exact hm.fr j (by omega)
end
end Go.Rx
end
section
namespace Go.Rx
open Go Go.Wk Go.Wl
def a0j (E:Env) (K:Nat) (args:List E.SV) (c:CR E.N):Prop :=
 ∀ (D:Nat->Prop) (w:World) (vs:List Value),(∀ b,D b->b<w.heap.size)->E.G.is D w->Rep E.N E.T (fun _=>none) D w (.tuple vs.toArray) (.tup args)->A6 E.P K vs w (fun v w'=>Ext [] w w'/\Rep E.N E.T (fun _=>none) (fun _=>False) w' v c.r/\n6 c.hy)
def e46 (E:Env) (K:Nat) (o:OC E.N) (x:E.N.O o.k) (args:List E.SV) (r:OR E.N o.k):Prop :=
 ∀ (Z D:Nat->Prop) (w:World) (vs:List Value) (b:Nat) (F:List Nat),(∀ b,Z b->b<w.heap.size)->(∀ b,D b->b<w.heap.size)->(∀ b∈F,¬ Z b/\¬ D b)->((E.N.oj o.k).ob b).is Z w x F->E.G.is D w->Rep E.N E.T (fun _=>none) D w (.tuple vs.toArray) (.tup args) ->
  A6 E.P K (.pointer (some ⟨b,0,none⟩)::vs) w (fun v w'=>∃ F',((E.N.oj o.k).ob b).is Z w' r.x F'/\S5 w w' F F'/\Rep E.N E.T (fun _=>none) (fun _=>False) w' v r.r/\n6 r.hy)
def e5k (E:Env) (o:OC E.N) (x:E.N.O o.k) (args:List E.SV) (r:OR E.N o.k):Prop :=
 ∀ (Z D:Nat->Prop) (w:World) (vs:List Value) (b:Nat) (F:List Nat),(∀ b,Z b->b<w.heap.size)->(∀ b,D b->b<w.heap.size)->(∀ b∈F,¬ Z b/\¬ D b)->((E.N.oj o.k).ob b).is Z w x F->E.G.is D w->Rep E.N E.T (fun _=>none) D w (.tuple vs.toArray) (.tup args) ->
  a5v E.P b vs w (fun v w'=>∃ F',((E.N.oj o.k).ob b).is Z w' r.x F'/\S5 w w' F F'/\Rep E.N E.T (fun _=>none) (fun _=>False) w' v r.r/\n6 r.hy)
def e3g (E:Env) (K:Nat) (o:WC E.N) (a:E.SV) (x:Int) (r:WR E.N):Prop :=
 ∀ (D:Nat->Prop) (w:World) (v:Value) (b:Nat),(∀ b,D b->b<w.heap.size)->¬ D b->E.G.is D w->Rep E.N E.T (fun _=>none) D w v a->Own w b o.S [.int .i64 x]->InI x ->
  A6 E.P K [v,.iface o.T (.pointer (some ⟨b,0,none⟩))] w (fun v' w'=>Ext [b] w w'/\Own w' b o.S [.int .i64 r.x]/\InI r.x/\Rep E.N E.T (fun _=>none) (fun _=>False) w' v' r.r/\n6 r.hy)
def r6 (P:Program) (N:Uni) (T:O9) (G:a0w) (K:Nat) (args:List (SV N)) (its:a7 N) (nx:Nat) (S:PT N):Prop :=
 ∀ (k:SV N->a7 N->Nat->Prop),S k->∀ (ρ:r9) (Z:Nat->Prop) (w:World) (vs:List Value) (B:List Nat),(∀ i,nx<=i->ρ i=none)->Sep B w Z w (s6 N T ρ B its)->G.is Z w->Rep N T ρ Z w (.tuple vs.toArray) (.tup args) ->
  A6 P K vs w (fun v w'=>∃ (ρ':r9) (Z':Nat->Prop) (s:SV N) (its':a7 N) (nx':Nat),Sep B w Z' w' (s6 N T ρ' B its')/\(∀ i,nx'<=i->ρ' i=none)/\(∀ i L,ρ i=some L->ρ' i=some L)/\(∀ b,Z b->Z' b)/\(∀ b,Z' b->Z b ∨ b∈B ∨ w.heap.size<=b)/\Rep N T ρ' Z' w' v s/\k s its' nx')
def c0n (P:Program) (N:Uni) (T:O9) (G:a0w) (K:Nat) (args:List (SV N)) (its:a7 N) (q:Q1 N):Prop :=
 ∀ (ρ:r9) (Z:Nat->Prop) (w:World) (vs:List Value),G.is Z w->(∀ i x,lk its i=some x->holds N T ρ i Z w x)->Rep N T ρ Z w (.tuple vs.toArray) (.tup args) ->
  A6 P K vs w (fun v w'=>Ext [] w w'/\Rep N T (fun _=>none) (fun _=>False) w' v q.v/\n6 q.hy)
structure l7 (E:Env):Prop where
 mixed:E.P.follows .mixedOrders=true
 zob:∀ T k x,E.zob T=some ⟨k,x⟩->∃ zv,E.zeroV T=some zv/\∀ Z w b,Own w b T zv.cells.toList->((E.N.oj k).ob b).is Z w x [b]
 call:∀ K,((E.con K).isSome || (E.obc K).isSome || (E.inl K).isSome || (E.wrc K).isSome)=true->∀ ars w,(callFunc K ars).run E.P w=.ok (.enter K ars) w
 inl:∀ K fn,E.inl K=some fn->E.P.funcs[K]?=some fn
 con:∀ K f args nx c,E.con K=some f->f args nx=some c->args.all H9=true->n6 c.ob->S9 E.P E.N E.T E.G K args nx c
 a1Y:∀ K f args nx c,E.con K=some f->E.a1Y K=true->f args nx=some c->c.its=[]->n6 c.ob->a0j E K args c
 obc:∀ K o x args r,E.obc K=some o->o.C x args=some r->n6 r.ob->e46 E K o x args r
 wrc:∀ K o a x r,E.wrc K=some o->o.C a x=some r->n6 r.ob->e3g E K o a x r
 a3K:∀ K,(E.fnc K).isSome=true->∀ ars w,(callFunc K ars).run E.P w=.ok (.enter K ars) w
 fnc:∀ K o args its r,E.fnc K=some o->o.C args its=some r->n6 r.ob->r6 E.P E.N E.T E.G K args its (2 * its.length) (fun k=>n6 r.hy->k r.v r.its r.n)
 a3N:∀ K,(E.roc K).isSome=true->∀ ars w,(callFunc K ars).run E.P w=.ok (.enter K ars) w
 roc:∀ K C args its q,E.roc K=some C->C args its=some q->n6 q.ob->c0n E.P E.N E.T E.G K args its q
 yl:∀ o x args r,E.yl=some o->o.C x args=some r->n6 r.ob->e5k E o x args r
def tnI (Z:Nat->Prop) (w:World):It:=⟨[],[],fun Z' w'=>(∀ b,Z b->b<w.heap.size->Z' b)/\∃ B,Ext B w w'/\∀ b∈B,Z b->w.heap.size<=b⟩
theorem c6g {Z:Nat->Prop} {w:World}:(tnI Z w).a2B:=fun Z1 Z2 B w1 w2 h x hB hZ=>by
 obtain ⟨h1,B',x',hB'⟩:=h
 have t1:Tn (fun _=>none) Z w (fun _=>none) Z1 w1:=⟨fun _ _ h=>h,h1,B',x',hB'⟩
 have t2:Tn (fun _=>none) Z1 w1 (fun _=>none) Z2 w2:=⟨fun _ _ h=>h,fun b hz _=>hZ b hz,B,x,fun b hb hz=>hB b hb (.inr hz)⟩
 have t:=t1.trans t2
 exact ⟨t.z,t.ext⟩
section
variable {E:Env} {C:Ctx} {n:Nat} {ops:List Oper} {Q:Exit->Fr->World->Prop} {rest:List Oper} {f:Fr} {w w':World} {d:Nat}
variable {ty T T':TypeId} {pos:String} {after:Array Edge} {x y z:Operand} {a b:Int} {ρ ρ':r9} {Z Z':Nat->Prop} {its lkd:a7 E.N} {nx:Nat} {s:S1 E.N}
theorem Mem.tn (hm:Mem E C ρ Z w its nx):Sep C.B0 C.w0 Z w (tnI Z w::s6 E.N E.T ρ C.B0 its):=Wl.Sep.fact hm.sep (t:=tnI Z w) ⟨fun _ h _=>h,[],Ext.refl _ _,fun _ h=>by cases h⟩ c6g rfl rfl
theorem a19 {k:Nat} {l:List It} {B0:List Nat} {w0:World} (hs:Sep B0 w0 Z' w' l) (hk:l[k]?=some (tnI Z w)) (hρ:∀ i L,ρ i=some L->ρ' i=some L):Tn ρ Z w ρ' Z' w':=by
 have h:=hs.at k hk
 exact ⟨hρ,h.1,h.2⟩
abbrev KE (E:Env) (C:Ctx) (n:Nat) (ops:List Oper) (Q:Exit->Fr->World->Prop) (rest:List Oper) (f:Fr) (w:World) (d:Option Nat) (ρ:r9) (Z:Nat->Prop) (lkd:a7 E.N) (s:S1 E.N):Prop :=
 ∀ v ρ' Z' w',Mem E C ρ' Z' w' (s.items++lkd) s.nx->Tn ρ Z w ρ' Z' w'->Rep E.N E.T ρ' Z' w' v s.v->n6 s.hy->WL E.P false n ops Q rest (M0 f d v) w'
theorem c5x {B0:List Nat} {w0:World} {t u:It} {l:List It} (hs:Sep B0 w0 Z w (t::u::l)):Sep B0 w0 Z w (t::l) :=
 ⟨hs.ext,hs.zlt,fun k s hk=>by
  cases k with
  | zero=>exact hs.ok 0 s hk
  | succ k=>exact hs.ok (k+2) s hk,fun j k s v hj hk hne=>by
  cases j with
  | zero =>
   cases k with
   | zero=>omega
   | succ k=>exact hs.apart 0 (k+2) s v hj hk (by omega)
  | succ j =>
   cases k with
   | zero=>exact hs.apart (j+2) 0 s v hj hk (by omega)
   | succ k=>exact hs.apart (j+2) (k+2) s v hj hk (by omega)⟩
theorem Mem.lay {t:It} {i:Item E.N} {L:Loc} (hm:Mem E C ρ Z w its nx) (hs:Sep C.B0 C.w0 Z w' (t::tnI Z w::s6 E.N E.T ρ C.B0 its)) (hh:Go.Rx.holds E.N E.T (C1 ρ nx L) nx Z w' i) (hF:∀ b∈u5 E.N (C1 ρ nx L) nx i,b∈t.F):Mem E C (C1 ρ nx L) Z w' ((nx,i)::its) (nx+1)/\Tn ρ Z w (C1 ρ nx L) Z w' :=
 ⟨hm.laid (c5x hs) hh hF,a19 (k:=1) hs rfl (z6 (hm.fr nx (b4H _)))⟩
theorem c2x (hE:l7 E) (hm:Mem E C ρ Z w (its++lkd) nx) (h:b79 its nx T=some s) (hn:Nat.blt d n=true) (K:KE E C n ops Q rest f w (some d) ρ Z lkd s) :
  WL E.P false n ops Q (⟨some d,.alloc T,ty,pos,after,none⟩::rest) f w:=by
 unfold b79 at h
 split at h
 . rename_i k x hz
   simp only [b3N] at h; subst h
   obtain ⟨zv,hzv,hob⟩:=hE.zob T k x hz
   refine c17 hm.tn (a2a hzv) hn fun b w' hs=>?_
   have ho:=hs.at 0 rfl
   have ⟨m1,t1⟩:=hm.lay (i:=.ob k nx x) (L:=⟨b,none,0,0,[b]⟩) hs ⟨_,_,k7,k7,hob Z w' b ho⟩ (fun y hy=>by rw [D6 k7] at hy; exact hy)
   exact K _ _ _ _ m1 t1 (.ref k7) trivial
 . split at h
   . rename_i z hz
     have ⟨hf,h⟩:=j7 h
     simp only [b3N] at h; subst h
     unfold Env.zero at hz
     simp only [b3Y] at hz
     obtain ⟨zv,hzv,hc⟩:=hz
     refine c17 hm.tn (a2a hzv) hn fun b w' hs=>?_
     have ho:=hs.at 0 rfl
     have hr:Rep E.N E.T (C1 ρ nx ⟨b,none,0,0,[b]⟩) Z w' zv z:=by rw [<- hc]; exact a6t
     have ⟨m1,t1⟩:=hm.lay (i:=.own T (leaves z)) (L:=⟨b,none,0,0,[b]⟩) hs ⟨_,_,k7,rfl,ho,hr.leaves hf⟩ (fun y hy=>by rw [A8 k7] at hy; exact hy)
     exact K _ _ _ _ m1 t1 (.ref k7) trivial
   . cases h
theorem d3w {sx:E.SV} (hm:Mem E C ρ Z w (its++lkd) nx) (hx:Rep E.N E.T ρ Z w (ev f x) sx) (hf:flat sx=true) (hn:Nat.blt d n=true) (K:KE E C n ops Q rest f w (some d) ρ Z lkd ⟨[],[],.ref nx 0,(nx,.own T (leaves sx))::its,nx+1⟩) :
  WL E.P false n ops Q (⟨some d,.box T x,ty,pos,after,none⟩::rest) f w:=by
 refine d0p hm.tn hn fun b w' hs=>?_
 have ho:=hs.at 0 rfl
 have t0:=a19 (ρ:=ρ) (ρ':=ρ) (k:=1) hs rfl (fun _ _ h=>h)
 have hr:=Rep.sub (t0.rep hx) (z6 (L:=⟨b,none,0,0,[b]⟩) (hm.fr nx (b4H _)))
 have ⟨m1,t1⟩:=hm.lay (i:=.own T (leaves sx)) (L:=⟨b,none,0,0,[b]⟩) hs ⟨_,_,k7,rfl,ho,hr.leaves hf⟩ (fun y hy=>by rw [A8 k7] at hy; exact hy)
 exact K _ _ _ _ m1 t1 (.ref k7) trivial
theorem n8 {l l2:a7 E.N} {j:Nat} {p:Nat×Item E.N} (h:l[j]?=some p):(l++l2)[j]?=some p:=by
 grind
theorem B8 {α:Type} {l:List α} {j:Nat} {p:α} (h:l[j]?=some p):j<l.length:=by
 grind
theorem o5 {l:a7 E.N} {B0:List Nat} {j:Nat} {p:Nat×Item E.N} (h:l[j]?=some p):(s6 E.N E.T ρ B0 l)[j]?=some (H2 E.N E.T ρ B0 p.1 p.2):=by simp [s6,h]
theorem Mem.turn {j id:Nat} {i i':Item E.N} {t':It} (hm:Mem E C ρ Z w its nx) (hj:its[j]?=some (id,i)) (hs:Sep C.B0 C.w0 Z w' ((s6 E.N E.T ρ C.B0 its).set j t')) (hh:Go.Rx.holds E.N E.T ρ id Z w' i') (hF:∀ b∈u5 E.N ρ id i',b∈t'.F):Mem E C ρ Z w' (its.set j (id,i')) nx:=by
 refine ⟨Sep.conv hs (by simp [s6]) fun k s s' hk hk'=>?_,hm.fr,hm.ge,hm.zge,hm.zle⟩
 obtain ⟨p',hp',rfl⟩:=B6 hk'
 have hlt:=B8 hj
 by_cases e:k=j
 . subst e
   rw [b4Z (by grind)] at hk
   rw [b4Z hlt] at hp'
   cases hk; cases hp'
   exact ⟨hh,z7,hF,rfl⟩
 . rw [b5H (b6D e)] at hk hp'
   obtain ⟨p,hp,rfl⟩:=B6 hk
   rw [hp] at hp'; cases hp'
   exact a5j (hs.at k (t:=H2 E.N E.T ρ C.B0 p'.1 p'.2) (by grind))
theorem a45 {B0:List Nat} {w0:World} {u:It} {l:List It} (hs:Sep B0 w0 Z w (u::l)):Sep B0 w0 Z w l:=hs.drop
theorem b8q {sx:E.SV} {id off:Nat} {S:Nat} {cells:List E.SV} (hm:Mem E C ρ Z w (its++lkd) nx) (ha:Rep E.N E.T ρ Z w (ev f x) (.ref id off)) (hx:Rep E.N E.T ρ Z w (ev f y) sx) (hi:lk its id=some (.own S cells)) {mm:Nat} (hz:E.size T=some mm) (hle:off+mm<=cells.length) (hf:flat sx=true) (hl:(leaves sx).length=mm)
  (K:KE E C n ops Q rest f w none ρ Z lkd ⟨[],[],.un,a1w its id (.own S (a1A E cells off (leaves sx))),nx⟩) :
  WL E.P false n ops Q (⟨none,.store T x y,ty,pos,after,none⟩::rest) f w:=by
 obtain ⟨j,hj,hu,_⟩:=v6 hi
 have hj':(its++lkd)[j]?=some (id,.own S cells):=n8 hj
 obtain ⟨L,cs,hL,hbs,ho,hr⟩:=hm.holds hj'
 generalize hv:ev f x=vx at ha
 cases ha with
 | ref hL' =>
  rw [hL] at hL'; cases hL'
  have hlv:=hx.leaves hf
  have hcl:=hr.len
  -- the part ars a block
  have hs1:=Wl.Sep.upd hm.tn (j+1) (t:=H2 E.N E.T ρ C.B0 id (.own S cells)) (t':=K9 L.b S cs C.B0) (w':=w) (by rw [b4B]; exact o5 hj') (Ext.refl _ _) ho b7m (fun b hb=>⟨.inl (by show b∈u5 E.N ρ id (.own S cells); rw [A8 hL,hbs]; exact hb),by have:=ho.lt; simp_all⟩) rfl
  have hjt:j<(s6 E.N E.T ρ C.B0 (its++lkd)).length:=by simpa [s6] using B8 hj'
  refine a6y hs1 (j+1) (E:=S) (O:=C.B0) (by rw [b4Z (by simp_all)]) (J8 hz) hv (c:=(ev f y).cells.toList) rfl (by rw [hlv.len,hl]) (by omega) hlv.plain fun w' hs=>?_
  rw [b8N] at hs
  have t1:=a19 (Z:=Z) (w:=w) (ρ:=ρ) (ρ':=ρ) (k:=0) hs (by simp) (fun _ _ h=>h)
  have hs2:Sep C.B0 C.w0 Z w' ((s6 E.N E.T ρ C.B0 (its++lkd)).set j (K9 L.b S (x7 cs off (ev f y).cells.toList) C.B0)):=a45 (u:=tnI Z w) (by simp_all)
  have m1:=hm.turn (i':=.own S (a1A E cells off (leaves sx))) hj' hs2 ⟨L,_,hL,hbs,hs2.at j (t:=K9 L.b S (x7 cs off (ev f y).cells.toList) C.B0) (by simp_all),j8.a1A (show j8 E.N E.T ρ Z w' cs cells from t1.rep hr) (show j8 E.N E.T ρ Z w' _ _ from t1.rep hlv)⟩ (fun b hb=>by rw [A8 hL,hbs] at hb; exact hb)
  refine K .nilIface ρ Z w' ?_ t1 .un trivial
  grind
theorem Mem.freeze {j id:Nat} {i i':Item E.N} (hm:Mem E C ρ Z w its nx) (hj:its[j]?=some (id,i)) (hh:Go.Rx.holds E.N E.T ρ id (fun b=>Z b ∨ b∈u5 E.N ρ id i) w i') (hF:u5 E.N ρ id i'=[]):Mem E C ρ (fun b=>Z b ∨ b∈u5 E.N ρ id i) w (its.set j (id,i')) nx/\Tn ρ Z w ρ (fun b=>Z b ∨ b∈u5 E.N ρ id i) w:=by
 have hs:=Wl.Sep.freeze hm.sep j (t:=H2 E.N E.T ρ C.B0 id i) (t':=⟨[],[],fun _ _=>True⟩) (o5 hj) trivial (fun _ _ _ _ _ _ _ _ _=>trivial) rfl rfl
 have hlt:=B8 hj
 refine ⟨⟨Sep.conv hs (by simp [s6]) fun k s s' hk hk'=>?_,hm.fr,hm.ge,fun b hb=>.inl (hm.zge b hb),fun b hb=>?_⟩,⟨fun _ _ h=>h,fun b h _=>.inl h,[],Ext.refl _ _,fun _ h=>by cases h⟩⟩
 . obtain ⟨p',hp',rfl⟩:=B6 hk'
   by_cases e:k=j
   . subst e
     rw [b4Z hlt] at hp'
     cases hp'
     exact ⟨hh,z7,fun b hb=>(by rw [show (H2 E.N E.T ρ C.B0 id i').F=u5 E.N ρ id i' from rfl,hF] at hb; cases hb),rfl⟩
   . rw [b5H (b6D e)] at hk hp'
     obtain ⟨p,hp,rfl⟩:=B6 hk
     rw [hp] at hp'; cases hp'
     exact a5j (hs.at k (t:=H2 E.N E.T ρ C.B0 p'.1 p'.2) (by grind))
 . rcases hb with h | h
   . exact hm.zle b h
   . have:=(hm.sep.ok j _ (o5 hj)).org b h
     rcases this with h | h
     . exact .inr (.inl h)
     omega
end
end Go.Rx
end
section
namespace Go.Rx
open Go Go.Wk Go.Wl
section
variable {E:Env} {C:Ctx} {n:Nat} {ops:List Oper} {Q:Exit->Fr->World->Prop} {rest:List Oper} {f:Fr} {w w':World} {d:Nat}
variable {ty T T':TypeId} {pos:String} {after:Array Edge} {x y z:Operand} {a b:Int} {ρ ρ':r9} {Z Z':Nat->Prop} {its its' lkd:a7 E.N} {nx:Nat} {s:S1 E.N}
def Each (E:Env) (ρ:r9) (Z Z':Nat->Prop) (w:World) (vs vs':List E.SV):Prop:=vs'.length=vs.length/\∀ (i:Nat) (s s':E.SV),vs[i]?=some s->vs'[i]?=some s'->∀ v,Rep E.N E.T ρ Z w v s->Rep E.N E.T ρ Z' w v s'
theorem Each.nil:Each E ρ Z Z' w [] []:=⟨rfl,fun i s s' h=>by simp at h⟩
theorem Each.cons {s s':E.SV} {vs vs':List E.SV} (h:∀ v,Rep E.N E.T ρ Z w v s->Rep E.N E.T ρ Z' w v s') (r:Each E ρ Z Z' w vs vs'):Each E ρ Z Z' w (s::vs) (s'::vs') :=
 ⟨by simp [r.1],fun i u u' hu hu'=>by
  cases i with
  | zero=>simp_all
  | succ i=>exact r.2 i u u' (by simp_all) (by simp_all)⟩
theorem Each.b3D {vs vs':List E.SV} (h:Each E ρ Z Z' w vs vs') {cs:List Value} (r:j8 E.N E.T ρ Z w cs vs):j8 E.N E.T ρ Z' w cs vs':=by
 induction vs generalizing vs' cs with
 | nil =>
  have:=h.1
  obtain rfl:=j8.a0Q r
  match vs',this with
  | [],_=>exact j8.nil
 | cons s vs ih =>
  obtain ⟨v,rr,rfl,h1,hp,h2⟩:=j8.cons_inv r
  match vs',h.1 with
  | s'::vs',_=>exact Rep.a1V (h.2 0 s s' rfl rfl v h1) hp (ih (vs':=vs') ⟨by simp_all,fun i u u' hu hu'=>h.2 (i+1) u u' hu hu'⟩ h2)
theorem Each.tup {vs vs':List E.SV} (h:Each E ρ Z Z' w vs vs') {cs:List Value} (r:Rep E.N E.T ρ Z w (.tuple cs.toArray) (.tup vs)):Rep E.N E.T ρ Z' w (.tuple cs.toArray) (.tup vs'):=by
 induction vs generalizing vs' cs with
 | nil =>
  have:=h.1
  generalize e:Value.tuple cs.toArray=u at r
  match vs',this with
  | [],_=>cases r with | a1O=>exact .a1O
 | cons s vs ih =>
  obtain ⟨v,rr,rfl,h1,h2⟩:=Rep.a0H r
  match vs',h.1 with
  | s'::vs',_=>exact Rep.a1F (h.2 0 s s' rfl rfl v h1) (ih (vs':=vs') ⟨by simp_all,fun i u u' hu hu'=>h.2 (i+1) u u' hu hu'⟩ h2)
theorem a2o:∀ {vs vs':List E.SV} {its its':a7 E.N} {Z:Nat->Prop},Mem E C ρ Z w (its++lkd) nx->a7b its vs=some (vs',its')->∃ Z',Mem E C ρ Z' w (its'++lkd) nx/\Tn ρ Z w ρ Z' w/\Each E ρ Z Z' w vs vs'
 | [],vs',its,its',Z,hm,h=>by
  simp [a7b] at h; obtain ⟨rfl,rfl⟩:=h
  exact ⟨Z,hm,Tn.refl _ _ _,Each.nil⟩
 | v::r,vs',its,its',Z,hm,h=>by
  have other:(match a7b its r with | some (r',its')=>some (v::r',its') | none=>none)=some (vs',its')->∃ Z',Mem E C ρ Z' w (its'++lkd) nx/\Tn ρ Z w ρ Z' w/\Each E ρ Z Z' w (v::r) vs':=fun h=>by
   split at h
   . rename_i r' its1 hr
     simp only [b3N,b4P] at h
     obtain ⟨rfl,rfl⟩:=h
     obtain ⟨Z',hm',ht,he⟩:=a2o hm hr
     exact ⟨Z',hm',ht,Each.cons (fun u hu=>ht.rep hu) he⟩
   . cases h
  cases v with
  | acc id =>
   simp only [a7b] at h
   split at h
   . rename_i t l hi
     split at h
     . rename_i r' its1 hr
       simp only [b3N,b4P] at h
       obtain ⟨rfl,rfl⟩:=h
       obtain ⟨j,hj,hu,_⟩:=v6 hi
       obtain ⟨L,hL,hn1,hl,hac⟩:=hm.holds (n8 hj)
       have hrd:=Ac.rd hac hl
       have ⟨m1,t1⟩:=hm.freeze (i':=.fz t l) (n8 hj) ⟨L,hL,hn1,by rw [u6 hL]; exact hrd⟩ rfl
       rw [b7O _ _ (B8 hj),<- hu] at m1
       obtain ⟨Z',hm',ht,he⟩:=a2o m1 hr
       refine ⟨Z',hm',t1.trans ht,?_⟩
       have he':Each E ρ Z Z' w r r':=⟨he.1,fun i s s' hs hs' u hu=>he.2 i s s' hs hs' u (t1.rep hu)⟩
       refine Each.cons (fun u hu'=>?_) he'
       cases hu' with
       | acc hL' =>
        have hL:ρ id=some L:=hL
        rw [hL] at hL'; cases hL'
        have:Rep E.N E.T ρ (fun b=>Z b ∨ b∈u5 E.N ρ id (.ac t l)) w (.slice L.A L.n L.cap) (.sl t l:E.SV):=.sl (by rw [u6 hL]; exact hrd)
        exact ht.rep this
     . cases h
   . rename_i t l hi
     split at h
     . rename_i r' its1 hr
       simp only [b3N,b4P] at h
       obtain ⟨rfl,rfl⟩:=h
       obtain ⟨j,hj,_⟩:=v6 hi
       obtain ⟨L,hL,hn1,hrd⟩:=hm.holds (n8 hj)
       obtain ⟨Z',hm',ht,he⟩:=a2o hm hr
       refine ⟨Z',hm',ht,Each.cons (fun u hu'=>?_) he⟩
       cases hu' with
       | acc hL' =>
        have hL:ρ id=some L:=hL
        rw [hL] at hL'; cases hL'
        exact ht.rep (.sl hrd)
     . cases h
   . cases h
  | ref=>cases h
  | el=>cases h
  | sub=>cases h
  | clo=>cases h
  | yld=>cases h
  | agg=>cases h
  | tup=>cases h
  | _=>exact other h
theorem a6q {v v':E.SV} (hm:Mem E C ρ Z w (its++lkd) nx) (h:c2e its v=some (v',its')):∃ Z',Mem E C ρ Z' w (its'++lkd) nx/\Tn ρ Z w ρ Z' w/\∀ u,Rep E.N E.T ρ Z w u v->Rep E.N E.T ρ Z' w u v':=by
 have other:(match a7b its [v] with | some ([v'],its')=>some (v',its') | _=>none)=some (v',its')->∃ Z',Mem E C ρ Z' w (its'++lkd) nx/\Tn ρ Z w ρ Z' w/\∀ u,Rep E.N E.T ρ Z w u v->Rep E.N E.T ρ Z' w u v':=fun h=>by
  split at h
  . rename_i u its1 hf
    simp only [b3N,b4P] at h
    obtain ⟨rfl,rfl⟩:=h
    obtain ⟨Z',hm',ht,he⟩:=a2o hm hf
    exact ⟨Z',hm',ht,he.2 0 _ _ rfl rfl⟩
  . cases h
 cases v with
 | agg vs =>
  simp only [c2e] at h
  split at h
  . rename_i vs' its1 hf
    simp only [b3N,b4P] at h
    obtain ⟨rfl,rfl⟩:=h
    obtain ⟨Z',hm',ht,he⟩:=a2o hm hf
    refine ⟨Z',hm',ht,fun u hu=>?_⟩
    obtain ⟨cs,rfl,hr⟩:=Rep.a1J hu
    exact he.b3D hr
  . cases h
 | _=>exact other h
theorem c9l:∀ {vs vs':List E.SV} {its its':a7 E.N} {Z:Nat->Prop},Mem E C ρ Z w (its++lkd) nx->frz its vs=some (vs',its')->∃ Z',Mem E C ρ Z' w (its'++lkd) nx/\Tn ρ Z w ρ Z' w/\Each E ρ Z Z' w vs vs'
 | [],vs',its,its',Z,hm,h=>by
  simp [frz] at h; obtain ⟨rfl,rfl⟩:=h
  exact ⟨Z,hm,Tn.refl _ _ _,Each.nil⟩
 | v::r,vs',its,its',Z,hm,h=>by
  unfold frz at h
  split at h
  . rename_i v' its1 h1
    split at h
    . rename_i r' its2 h2
      simp only [b3N,b4P] at h
      obtain ⟨rfl,rfl⟩:=h
      obtain ⟨Z1,m1,t1,e1⟩:=a6q hm h1
      obtain ⟨Z2,m2,t2,e2⟩:=c9l m1 h2
      exact ⟨Z2,m2,t1.trans t2,Each.cons (fun u hu=>t2.rep (e1 u hu)) ⟨e2.1,fun i s s' hs hs' u hu=>e2.2 i s s' hs hs' u (t1.rep hu)⟩⟩
    . cases h
  . cases h
theorem Mem.gone {id S:Nat} {cells:List E.SV} {L:Loc} {j:Nat} (hm:Mem E C ρ Z w (its++lkd) nx) (hj:its[j]?=some (id,.own S cells)) (hr:rmv its id=its.eraseIdx j) (hL:ρ id=some L) (hbs:L.bs=[L.b]) :
  Mem E C ρ (fun b=>Z b ∨ b∈[L.b]) w (rmv its id++lkd) nx/\Tn ρ Z w ρ (fun b=>Z b ∨ b∈[L.b]) w:=by
 have hs:=Wl.Sep.freeze hm.sep j (t:=H2 E.N E.T ρ C.B0 id (.own S cells)) (t':=⟨[],[],fun _ _=>True⟩) (o5 (n8 hj)) trivial (fun _ _ _ _ _ _ _ _ _=>trivial) rfl rfl
 have hF:(H2 E.N E.T ρ C.B0 id (.own S cells)).F=[L.b]:=by show u5 E.N ρ id (.own S cells)=[L.b]; rw [A8 hL]; exact hbs
 rw [hF] at hs
 refine ⟨?_,⟨fun _ _ h=>h,fun b h _=>.inl h,[],Ext.refl _ _,fun _ h=>by cases h⟩⟩
 have hjl:=B8 hj
 rw [hr]
 refine ⟨Sep.sel hs (fun i=>if i<j then i else i+1) (fun i k _ _ e=>by grind) fun i t' hi'=>?_,hm.fr,hm.ge,fun b hb=>.inl (hm.zge b hb),fun b hb=>?_⟩
 . obtain ⟨p,hp,rfl⟩:=B6 hi'
   have hpe:its.eraseIdx j++lkd=(its++lkd).eraseIdx j:=by rw [b8Z hjl]
   rw [hpe,List.getElem?_eraseIdx] at hp
   have key:∀ k,k≠j->(its++lkd)[k]?=some p->∃ t,((s6 E.N E.T ρ C.B0 (its++lkd)).set j ⟨[],[],fun _ _=>True⟩)[k]?=some t/\b92 C.B0 (fun b=>Z b ∨ b∈[L.b]) w t (H2 E.N E.T ρ C.B0 p.1 p.2):=fun k hk hp=>by
    have e:((s6 E.N E.T ρ C.B0 (its++lkd)).set j ⟨[],[],fun _ _=>True⟩)[k]?=some (H2 E.N E.T ρ C.B0 p.1 p.2):=by rw [b5H (b6D hk)]; exact o5 hp
    exact ⟨_,e,a5j (hs.at k e)⟩
   grind
 . rcases hb with h | h
   . exact hm.zle b h
   . have:=(hm.sep.ok j _ (o5 (n8 hj))).org b (by simp_all)
     rcases this with h | h
     . exact .inr (.inl h)
     omega
theorem c4c {sx:E.SV} (hm:Mem E C ρ Z w (its++lkd) nx) (hx:Rep E.N E.T ρ Z w (ev f x) sx) (h:b6w its nx T sx=some s) (ho':n6 s.ob) (hn:Nat.blt d n=true) (K:KE E C n ops Q rest f w (some d) ρ Z lkd s) :
  WL E.P false n ops Q (⟨some d,.makeInterface T x,ty,pos,after,none⟩::rest) f w:=by
 generalize hv:ev f x=vx at hx
 cases sx with
 | ref id off =>
  simp only [b6w] at h
  split at h
  . rename_i S cells hi
    obtain ⟨j,hj,_,hr⟩:=v6 hi
    obtain ⟨L,cs,hL,hbs,ho,hrep⟩:=hm.holds (n8 hj)
    obtain ⟨m1,t1⟩:=Mem.gone hm hj hr hL hbs
    split at h
    . rename_i S' hwp
      have ⟨h1,h2⟩:=j7 h
      simp only [b3R] at h1
      obtain ⟨⟨e1,e2⟩,e4⟩:=h1
      have e1:=b3Q e1
      have e2:=b3Q e2
      subst e1; subst e2
      split at h2
      . rename_i s0 e0
        simp only [b3N] at h2; subst h2
        have ho0:e0=.no e0.n0:=ho'.1
        cases hx with
        | ref hL' =>
         rw [hL] at hL'; cases hL'
         obtain ⟨v1,r1,rfl,ha,_,hrep⟩:=j8.cons_inv hrep
         obtain ⟨v2,r2,rfl,hb,_,hrep⟩:=j8.cons_inv hrep
         obtain rfl:=j8.a0Q hrep
         cases ha with
         | str hl =>
          cases hb with
          | err hb =>
           rw [ho0] at hb
           cases hb with
           | no hn0 =>
            obtain ⟨e,hT⟩:=Z3 e4
            exact J1 hT rfl hv hn (K _ ρ _ w m1 t1 (.err (.p hwp (.inr (by simp)) ho hn0)) trivial)
      . cases h2
    . have ⟨h1,h2⟩:=j7 h
      simp only [b3R] at h1
      obtain ⟨⟨⟨e1,e2⟩,e3⟩,e4,e5⟩:=h1
      have e6:E.T.fp≠0:=fun h=>by simp_all
      have e1:=b3Q e1
      have e2:=b3Q e2
      have e3:=b3Q e3
      subst e1; subst e2; subst e3
      split at h2
      . rename_i a nn
        simp only [b3N] at h2; subst h2
        cases hx with
        | ref hL' =>
         rw [hL] at hL'; cases hL'
         obtain ⟨v1,r1,rfl,ha,_,hrep⟩:=j8.cons_inv hrep
         obtain ⟨v2,r2,rfl,hb,_,hrep⟩:=j8.cons_inv hrep
         obtain rfl:=j8.a0Q hrep
         cases ha with
         | int ha =>
          cases hb with
          | int hb =>
           obtain ⟨e,hT⟩:=Z3 e4
           exact J1 hT rfl hv hn (K _ ρ _ w m1 t1 (.err (.fault (.inr (by simp)) ho (ha rfl) (hb rfl) e6)) trivial)
      . cases h2
  . cases h
 | _=>cases h
theorem c47 {ls:List E.SV} {cs:List Value} (h:j8 E.N E.T ρ Z w cs ls):j8 E.N E.T ρ Z w cs (leaves (d6m ls)):=by
 match ls,h with
 | [],h=>exact h
 | [s],h =>
  obtain ⟨v,rfl,h1,hp⟩:=j8.a4L h
  show j8 E.N E.T ρ Z w [v] (leaves s)
  cases s with
  | agg vs=>obtain ⟨cs,rfl,_⟩:=Rep.a1J h1; cases hp
  | _=>exact h
 | s::u::r,h=>exact h
theorem b5h {sx:E.SV} {id t off:Nat} {i:Int} (hm:Mem E C ρ Z w (its++lkd) nx) (ha:Rep E.N E.T ρ Z w (ev f x) (.el id t i off)) (hx:Rep E.N E.T ρ Z w (ev f y) sx) (h:a8a its nx T id t i off sx=some s) (K:KE E C n ops Q rest f w none ρ Z lkd s) :
  WL E.P false n ops Q (⟨none,.store T x y,ty,pos,after,none⟩::rest) f w:=by
 unfold a8a at h
 split at h
 . rename_i v its1 hf
   obtain ⟨Z1,hm1,t1,hr1⟩:=a6q hm hf
   have hv:=hr1 _ hx
   split at h
   . rename_i t' l hi
     split at h
     . rename_i ht
       subst ht
       split at h
       . rename_i yy hty
         have ⟨h1,h2⟩:=j7 h
         clear h
         simp only [b3R] at h1
         obtain ⟨⟨⟨⟨e1,e2⟩,e3⟩,e4⟩,e5⟩:=h1
         have e1:=b4T e1
         have e4:=b3Q e4
         split at h2
         . rename_i x' hb
           simp only [b3N] at h2; subst h2
           obtain ⟨j,hj,hu,_⟩:=v6 hi
           obtain ⟨L,hL,hn1,hlen,hac⟩:=hm1.holds (n8 hj)
           cases hsz:E.size T with
           | none=>simp_all
           | some mm =>
            rw [hsz] at e1 e4
            simp only [b9B] at e1 e4
            generalize hvx:ev f x=vx at ha
            cases ha with
            | el hL' h0 h1 =>
             have hL:ρ id=some L:=hL
             rw [hL] at hL'; cases hL'
             have hlv:=hv.leaves e2
             have hjt:j<(s6 E.N E.T ρ C.B0 (its1++lkd)).length:=by simpa [s6] using B8 (n8 (l2:=lkd) hj)
             have hs1:=Wl.Sep.upd hm1.tn (j+1) (t:=H2 E.N E.T ρ C.B0 id (.ac t' l)) (t':=iAc (E.N.tb t').r (.slice L.A L.n L.cap) l L.bs C.B0) (w':=w) (by rw [b4B]; exact o5 (n8 hj)) (Ext.refl _ _) hac sAc (fun b hb=>⟨.inl (by show b∈u5 E.N ρ id (.ac t' l); rw [u6 hL]; exact hb),hac.lt b hb⟩) rfl
             have hget:∀ e:E.N.U t',l.getD i.toNat e=ix l i:=fun e=>by
              rw [C5 (by omega),b5V,b3T (by omega)]; rfl
             have hcs:∀ c0,(E.N.tb t').r.rd Z1 w c0 (l.getD i.toNat x')->c0.length=(E.N.tb t').r.sz->off+(ev f y).cells.toList.length<=(E.N.tb t').r.sz/\(E.N.tb t').r.rd Z1 w (x7 c0 off (ev f y).cells.toList) x':=fun c0 hr hc=>by
              rw [hget] at hr
              have hsv:j8 E.N E.T ρ Z1 w c0 (leaves (yy.sv (ix (V6 rfl l) i))):=yy.sv_ok hr
              have hl1:=hsv.len
              have hl2:=hlv.len
              refine ⟨by omega,yy.bk_ok (c47 (hsv.a1A (o:=off) hlv)) hb⟩
             refine a56 hs1 (j+1) (O:=C.B0) (by rw [b4Z (by simp_all)]) (J8 hsz) hvx rfl rfl rfl (by rw [hlv.len,e4]) h0 h1 hcs hlv.plain fun w' hs=>?_
             rw [b8N] at hs
             have t2:=a19 (Z:=Z1) (w:=w) (ρ:=ρ) (ρ':=ρ) (k:=0) hs (by simp) (fun _ _ h=>h)
             have hs2:Sep C.B0 C.w0 Z1 w' ((s6 E.N E.T ρ C.B0 (its1++lkd)).set j (iAc (E.N.tb t').r (.slice L.A L.n L.cap) (l.set i.toNat x') L.bs C.B0)):=a45 (u:=tnI Z1 w) (by simp_all)
             have m1:=hm1.turn (i':=.ac t' (l.set i.toNat x')) (n8 hj) hs2 ⟨L,hL,by simp_all,by simp_all,hs2.at j (t:=iAc (E.N.tb t').r (.slice L.A L.n L.cap) (l.set i.toNat x') L.bs C.B0) (by simp_all)⟩ (fun b hb=>by rw [u6 hL] at hb; exact hb)
             refine K .nilIface ρ Z1 w' ?_ (t1.trans t2) .un trivial
             rw [hu,<- b7O _ _ (B8 hj)]
             exact m1
         . cases h2
       . cases h
     . cases h
   . cases h
 . cases h
theorem S4 {t:Nat} (h:a9y E t=true):(∀ w,(sizeOf t).run E.P w=.ok (E.N.tb t).r.sz w)/\0<(E.N.tb t).r.sz/\∃ info zv,(∀ w,(typeInfo t).run E.P w=.ok info w)/\(E.bytes t).getD 0=info.bytes/\1<=info.bytes/\(∀ w,(zeroValue t).run E.P w=.ok zv w)/\zv.cells.size=(E.N.tb t).r.sz/\E.zeroV t=some zv:=by
 unfold a9y at h
 simp only [b3R] at h
 obtain ⟨⟨⟨h1,h2⟩,h3⟩,h4⟩:=h
 refine ⟨N8 h1,D3 h2,?_⟩
 cases hb:E.bytes t with
 | none=>simp_all
 | some b =>
  rw [hb] at h3
  cases hz:E.zeroV t with
  | none=>simp_all
  | some zv =>
   rw [hz] at h4
   have h3:=D3 h3
   unfold Env.bytes at hb
   simp only [b3Y] at hb
   obtain ⟨info,hi,rfl⟩:=hb
   exact ⟨info,zv,a7v hi,rfl,h3,a2a hz,b3Q h4,rfl⟩
theorem d1s {t:Nat} {sx:E.SV} {xs:List (E.N.U t)} {v:Value} (hm:Mem E C ρ Z w (its++lkd) nx) (hx:Rep E.N E.T ρ Z w v sx) (h:d9r E its t sx=some xs):Src (E.N.tb t).r Z w v xs:=by
 cases sx with
 | acc id =>
  simp only [d9r] at h
  split at h
  . rename_i t' l hi
    split at h
    . rename_i ht; subst ht
      simp only [b3N] at h; subst h
      obtain ⟨j,hj,_⟩:=v6 hi
      obtain ⟨L,hL,hn1,hlen,hac⟩:=hm.holds (n8 hj)
      cases hx with
      | acc hL' =>
       have hL:ρ id=some L:=hL
       rw [hL] at hL'; cases hL'
       exact Src.ac hac
    . cases h
  . cases h
 | _=>exact Src.data (c54 hx h)
end
end Go.Rx
end
