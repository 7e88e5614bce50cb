/- 16 texts, one behind the other. -/
import Derived.Test.YtckpdliipjekgaaGreatWp1
import Derived.Test.YtckpdliipjekgaaGreatWp3
import Derived.Lib.FrozenHead
import Derived.Lib.UnsafeStr
import Derived.Shelf.Small.Bits
import Derived.Shelf.Strconv.Itoa0
import Derived.Shelf.Sort.Plain
import Derived.Ground.Names2Prog
import Derived.Shelf.Slices.Clone
import Derived.Shelf.Slices.SearchI
import Derived.Shelf.Slices.In.SortNone
import Derived.Ground.SlgnProg
import Derived.Shelf.SlicesE.Clone
import Derived.Test.YtckpdliipjekgaaGreatProg
import Derived.Test.YtckpdliipjekgaaGreatChecked
set_option linter.defProp false
set_option linter.unusedVariables false
set_option linter.unusedSimpArgs false
set_option maxRecDepth 100000
noncomputable section
def b3V:=@of_decide_eq_true
def b4K:=@of_decide_eq_false
def b5T:=@Option.isSome_iff_exists
def b6K:=@List.not_mem_nil
def b7X:=@List.foldl_append
def b9O:=@BitVec.toNat_ofInt
def b9P:=@Nat.two_pow_add_eq_or_of_lt
def c0C:=@List.append_cons
def c0D:=@Prod.ext
def c0E:=@Int.pow_succ
section
namespace Go.Rx
open Go Go.Wk Go.Wl
section
variable {E:Env} {C:Ctx} {f fb:Fr} {w wb:World} {ρb ρ:r9} {Z Zb:Nat->Prop} {lkd:a7 E.N} {fx:o7 E.N} {st st':E.St} {inl:Inl E} {an:Ann}
theorem b3m {keep ids:List Nat} {Kα:Prop×Nat->Prop} {G:Prop×Nat->E.St->Prop} (h0:Rel E C fx lkd st ρb Zb fb wb) (h:Rel E (C.at ρb Zb wb) (D4 fx st keep++fx) (n9 st.items ids++lkd) st' ρ Z f w):∀ (ss:List (List LV)) (p:ShP E.N ss),
  rbS E fx st (D4 fx st keep++fx) st' ss p Kα->b2u E fx st ss p G->∃ new ρ2 a,Kα a/\G a new/\Rel E (C.at ρb Zb wb) (D4 fx st keep++fx) (n9 st.items ids++lkd) new ρ2 Z f w
 | [],_,hv,_=>hv.elim
 | vs::r,p,hv,hK=>by
  unfold rbS at hv
  cases hb:fits E fx st (D4 fx st keep++fx) st' vs with
  | true=>rw [hb,b4G] at hv; exact a8z h0 h hv hK.1
  | false=>rw [hb,b4X] at hv; exact b3m h0 h r p.2 hv hK.2
theorem c9m {N:Uni}:∀ {ss:List (List LV)} {k:ShP N ss->Prop},exS N ss k->∃ p,k p
 | [],_,h=>⟨(),h⟩
 | vs::r,k,⟨I,m,h⟩=>by obtain ⟨p,h⟩:=c9m h; grind
def d8t (K:Ks E) (e:Exit) (st:E.St):Prop:=match e with
 | .normal=>K.n st
 | .ret=>K.r st
 | .exit i=>(match lk K.e i with | some k=>k st | none=>False)
 | _=>False
def QK (E:Env) (C:Ctx) (fx:o7 E.N) (lkd:a7 E.N) (K:Ks E):Exit->Fr->World->Prop:=fun e f w=>∃ st ρ Z,Rel E C fx lkd st ρ Z f w/\d8t K e st
theorem d7x {α β:Type} {l:List (Nat×α)} {g:α->β} {i:Nat}:lk (l.map fun p=>(p.1,g p.2)) i=(lk l i).map g:=by
 induction l with
 | nil=>rfl
 | cons p r ih =>
  show (bif Nat.beq p.1 i then some (g p.2) else lk (r.map fun p=>(p.1,g p.2)) i)=(bif Nat.beq p.1 i then some p.2 else lk r i).map g
  grind
theorem Rel.g0 (h:Rel E C fx lkd st ρ Z f w):Rel E C fx lkd ⟨st.slots,[],st.items,st.nx⟩ ρ Z f w:=⟨h.sl,h.fx,fun k j b s e=>(by cases e),h.mem,h.tn,h.g⟩
theorem a5e {keep ids:List Nat} {K:Ks E} {n:E.St->Prop} {e:Exit} (h0:Rel E C fx lkd st ρb Zb fb wb) (hn:e≠.normal)
  (h:QK E (C.at ρb Zb wb) (D4 fx st keep++fx) (n9 st.items ids++lkd) (a7x (D4 fx st keep) (n9 st.items ids) K n) e f w):QK E C fx lkd K e f w:=by
 obtain ⟨st',ρ',Z',hr,he⟩:=h
 have hl:=Rel.leave h0 hr
 cases e with
 | normal=>simp_all
 | ret=>exact ⟨_,_,_,hl,he⟩
 | exit i =>
  simp only [d8t,a7x] at he
  rw [d7x] at he
  cases hk:lk K.e i with
  | none=>simp_all
  | some k=>rw [hk] at he; exact ⟨_,_,_,hl,by simp only [d8t,hk]; exact he⟩
 | _=>exact he.elim
theorem a5s {e:Array Edge} {j:Nat} (h:b5k e j=true):∃ x∈e,x.on=j/\Region.binds .any x=true:=by
 unfold b5k at h
 obtain ⟨x,hx,hh⟩:=List.any_eq_true.1 h
 rw [b3R] at hh
 exact ⟨x,by simp_all,b3Q hh.1,hh.2⟩
theorem b9l {T:Nat} (h:c03 E T=true):(∀ w,(zeroValue T).run E.P w=.ok (.bool false) w)/\(∀ w,(sizeOf T).run E.P w=.ok 1 w)/\(∀ w,(isAgg T).run E.P w=.ok false w):=by
 unfold c03 at h
 rw [b3R,b3R] at h
 obtain ⟨⟨h1,h2⟩,h3⟩:=h
 refine ⟨?_,?_,?_⟩
 . cases hz:E.zeroV T with
   | none=>simp_all
   | some v =>
    rw [hz] at h1
    cases v with
    | bool b=>cases b with
     | true=>cases h1
     | false=>exact a2a hz
    | _=>cases h1
 . cases hz:E.size T with
   | none=>simp_all
   | some s =>
    rw [hz] at h2
    have:=b3Q h2
    subst this
    exact J8 hz
 . cases hz:E.a3C T with
   | none=>simp_all
   | some b =>
    rw [hz] at h3
    cases b with
    | true=>cases h3
    | false=>exact a2g hz
theorem a39.mono {P:Program} {o:Oper} {g:Fr} {w:World} {R R':Value->World->Prop} (h:a39 P o g w R) (k:∀ v w',R v w'->R' v w'):a39 P o g w R':=by
 rcases h with h | h | ⟨K,a,h1,h2⟩
 . exact .inl fun w1 hs=>by grind
 . exact .inr (.inl fun w1 hs=>by grind)
 . exact .inr (.inr ⟨K,a,h1,h2.mono k⟩)
theorem d4x (hE:l7 E) {id n a b:Nat} {l:List Oper} {C:Ctx} {fx:o7 E.N} {lkd:a7 E.N} {st:E.St} {ρ:r9} {Z:Nat->Prop} {f:Fr} {w:World} {K:E.St->Prop} {Q:Exit->Fr->World->Prop} (h:Rel E C fx lkd ⟨st.slots,[],st.items,st.nx⟩ ρ Z f w) (hc:d0a E n fx l=some (a,b))
  (h1:K ⟨(b,.tt)::(a,.un)::st.slots,[],st.items,st.nx⟩) (h2:K ⟨(b,.ff)::(a,.un)::st.slots,[],st.items,st.nx⟩)
  (hQ:∀ st' ρ' Z' f' w',Rel E C fx lkd st' ρ' Z' f' w'->K st'->Q .normal f' w'):W E.P n (.region id l.toArray true) Q f w:=by
 unfold d0a at hc
 split at hc
 . rename_i a' T ty0 pos0 e0 T1 a1 ty1 pos1 e1 T2 a2 ty2 pos2 e2 b' T3 a3 ty3 pos3 e3
   cases hb:(K6 [⟨some a',.alloc T,ty0,pos0,e0,none⟩,⟨none,.store T1 (.tmp a1) (.const (.bool true)),ty1,pos1,e1,none⟩,⟨none,.store T2 (.tmp a2) (.const (.bool false)),ty2,pos2,e2,none⟩,⟨some b',.load T3 (.tmp a3),ty3,pos3,e3,none⟩] && Nat.beq T T1 && Nat.beq T T2 && Nat.beq T T3 && Nat.beq a' a1 && Nat.beq a' a2 && Nat.beq a' a3 && !Nat.beq a' b' && (Nat.blt a' n && (lk fx a').isNone) && (Nat.blt b' n && (lk fx b').isNone) && b5k e1 0 && b5k e2 0 && b5k e3 0 && c03 E T) with
   | false=>simp_all
   | true =>
   rw [hb,b4G] at hc
   cases hc
   simp only [b3R] at hb
   obtain ⟨⟨⟨⟨⟨⟨⟨⟨⟨⟨⟨⟨⟨hao,b1⟩,b2⟩,b3⟩,b4⟩,b5⟩,b6⟩,b7⟩,ha1,ha2⟩,hb1,hb2⟩,he1⟩,he2⟩,he3⟩,hT⟩:=hb
   have b1:=b3Q b1; subst b1
   have b2:=b3Q b2; subst b2
   have b3:=b3Q b3; subst b3
   have b4:=b3Q b4; subst b4
   have b5:=b3Q b5; subst b5
   have b6:=b3Q b6; subst b6
   have hab:a≠b:=fun e=>by
    simp_all
   have hla:=D3 ha1
   have hlb:=D3 hb1
   obtain ⟨hz,hsz,hag⟩:=b9l hT
   obtain ⟨x1,hx1,ho1,hbd1⟩:=a5s he1
   obtain ⟨x2,hx2,ho2,hbd2⟩:=a5s he2
   obtain ⟨x3,hx3,ho3,hbd3⟩:=a5s he3
   have cell:∀ {L:Array Bool} {g:Fr} {w':World},Inv [⟨some a,.alloc T,ty0,pos0,e0,none⟩,⟨none,.store T (.tmp a) (.const (.bool true)),ty1,pos1,e1,none⟩,⟨none,.store T (.tmp a) (.const (.bool false)),ty2,pos2,e2,none⟩,⟨some b,.load T (.tmp a),ty3,pos3,e3,none⟩] (fun v=>Ext [] w v) (fun j v w'=>(j=0->∃ bl c,v=.pointer (some ⟨bl,0,none⟩)/\w.heap.size<=bl/\Own w' bl T [.bool c])/\(j=3->∃ c,v=.bool c)) f L g w'->L[0]?=some true->∃ bl c,g a=.pointer (some ⟨bl,0,none⟩)/\w.heap.size<=bl/\Own w' bl T [.bool c]:=fun hinv h0=>(hinv.done 0 a h0 rfl).1 rfl
   have keep:∀ {w1 w2:World} {bl:Nat} {c:Bool},Own w1 bl T [.bool c]->∀ {B:List Nat},Ext B w1 w2->(∀ x∈B,∃ c',Own w2 x T [.bool c'])->∀ j u,((j=0->∃ bl c,u=.pointer (some ⟨bl,0,none⟩)/\w.heap.size<=bl/\Own w1 bl T [.bool c])/\(j=3->∃ c,u=Value.bool c))->((j=0->∃ bl c,u=.pointer (some ⟨bl,0,none⟩)/\w.heap.size<=bl/\Own w2 bl T [.bool c])/\(j=3->∃ c,u=Value.bool c)):=by
    intro w1 w2 bl c _ B x hB j u hu
    refine ⟨fun hj=>?_,hu.2⟩
    obtain ⟨bl,c,e,hl,ho⟩:=hu.1 hj
    by_cases hm:bl∈B
    . simp_all
    . exact ⟨bl,c,e,hl,ho.ext x hm⟩
   have stor:∀ {ty:TypeId} {pos:String} {e:Array Edge} {g:Fr} {w':World} {bl:Nat} {c c2:Bool},g a=.pointer (some ⟨bl,0,none⟩)->Own w' bl T [.bool c]->a39 E.P ⟨none,.store T (.tmp a) (.const (.bool c2)),ty,pos,e,none⟩ g w' (fun _ w2=>Ext [bl] w' w2/\Own w2 bl T [.bool c2]):=by
    intro ty pos e g w' bl c c2 hga ho
    refine .inr (.inl fun w1 hs=>?_)
    obtain ⟨k,rfl⟩:=hs
    obtain ⟨w2,hr,ho',he,hsz2,hk⟩:=a1q (P:=E.P) [.bool c2] 0 0 [.bool c] w' ho (by simp) (fun v hv=>by simp at hv; subst hv; rfl)
    refine ⟨_,w2,?_,⟨k,rfl⟩,he,by simpa [x7] using ho'⟩
    have hrun:(storeVar T ⟨bl,0,none⟩ (.bool c2)).run E.P { w' with drawn:=k }=.ok () { w2 with drawn:=k }:=by
     unfold storeVar
     simp only [b3S,hsz,b3O]
     rw [if_neg (by simp [Value.cells])]
     exact hk k
    have hga':ev g (.tmp a)=.pointer (some ⟨bl,0,none⟩):=hga
    have hco:ev g (.const (.bool c2))=.bool c2:=rfl
    simp only [execOp,hga',hco,Instr.storeAt,Instr.sureAddr,b3S,b4E,b3O,hrun]
   refine a4u (I:=fun v=>Ext [] w v) (Φ:=fun j v w'=>(j=0->∃ bl c,v=.pointer (some ⟨bl,0,none⟩)/\w.heap.size<=bl/\Own w' bl T [.bool c])/\(j=3->∃ c,v=.bool c)) hE.mixed hao ?_ ?_ (Ext.refl _ _) ?_ ?_
   . intro j t hj
     match j,hj with
     | 0,hj=>cases hj; exact hla
     | 1,hj=>cases hj
     | 2,hj=>cases hj
     | 3,hj=>cases hj; exact hlb
     | _+4,hj=>cases hj
   . intro i j t hi hj
     match i,j,hi,hj with
     | 0,0,_,_=>rfl
     | 3,3,_,_=>rfl
     | 0,3,hi,hj=>cases hi; cases hj; omega
     | 3,0,hi,hj=>cases hi; cases hj; omega
     | 1,_,hi,_=>cases hi
     | 2,_,hi,_=>cases hi
     | _+4,_,hi,_=>cases hi
     | 0,1,_,hj=>cases hj
     | 0,2,_,hj=>cases hj
     | 0,_+4,_,hj=>cases hj
     | 3,1,_,hj=>cases hj
     | 3,2,_,hj=>cases hj
     | 3,_+4,_,hj=>cases hj
   . intro i o L g w' ho hinv hLi hdeps
     match i,ho with
     | 0,ho =>
      cases ho
      refine .inl fun w1 hs=>?_
      obtain ⟨k,rfl⟩:=hs
      have x:=Ext.push w' (.cells #[.bool false] T (0,0))
      have hown:Own { w' with heap:=w'.heap.push (.cells #[.bool false] T (0,0)) } w'.heap.size T [.bool false]:=Own.push w' T #[.bool false]
      refine ⟨.pointer (some ⟨w'.heap.size,0,none⟩),_,{ w' with heap:=w'.heap.push (.cells #[.bool false] T (0,0)) },?_,⟨k,rfl⟩,hinv.world.tr x,⟨fun _=>⟨_,_,rfl,hinv.world.size,hown⟩,fun h=>by cases h⟩,fun j u hu=>⟨fun hj=>?_,hu.2⟩⟩
      . simp [execOp,Instr.alloc,hz,newVar,newRow,newObj,Sem.run,go_sem,Value.cells]
        rfl
      . obtain ⟨bl,c,e,hl,ho⟩:=hu.1 hj
        exact ⟨bl,c,e,hl,ho.ext x (by simp)⟩
     | 1,ho =>
      cases ho
      have h0:=hdeps x1 hx1 hbd1
      rw [ho1] at h0
      obtain ⟨bl,c,hga,hl,how⟩:=cell hinv h0
      refine a39.mono (stor hga how) fun v w2 hh=>?_
      obtain ⟨x,o2⟩:=hh
      exact ⟨hinv.world.own x hl,⟨fun h=>(by cases h),fun h=>(by cases h)⟩,keep how x (fun y hy=>by rw [b4U] at hy; rw [hy]; exact ⟨_,o2⟩)⟩
     | 2,ho =>
      cases ho
      have h0:=hdeps x2 hx2 hbd2
      rw [ho2] at h0
      obtain ⟨bl,c,hga,hl,how⟩:=cell hinv h0
      refine a39.mono (stor hga how) fun v w2 hh=>?_
      obtain ⟨x,o2⟩:=hh
      exact ⟨hinv.world.own x hl,⟨fun h=>(by cases h),fun h=>(by cases h)⟩,keep how x (fun y hy=>by rw [b4U] at hy; rw [hy]; exact ⟨_,o2⟩)⟩
     | 3,ho =>
      cases ho
      have h0:=hdeps x3 hx3 hbd3
      rw [ho3] at h0
      obtain ⟨bl,c,hga,hl,how⟩:=cell hinv h0
      refine .inl fun w1 hs=>?_
      have hga':ev g (.tmp a)=.pointer (some ⟨bl,0,none⟩):=hga
      refine ⟨.bool c,w1,w',?_,hs,hinv.world,⟨fun h=>(by cases h),fun _=>⟨c,rfl⟩⟩,fun j u hu=>hu⟩
      simp only [execOp,hga',b3S,Wk.run_load hag (how.all.sim hs)]
      rfl
     | _+4,ho=>cases ho
   . intro g w' hI hdone hkept
     obtain ⟨c,hc⟩:=(hdone 3 b rfl).2 rfl
     obtain ⟨hm,ht⟩:=h.mem.a7R hI
     have r1:=h.put (n:=n) (d:=some a) (v:=g a) (s:=.un) (items:=st.items) (nx:=st.nx) (by show (Nat.blt a n && (lk fx a).isNone && true && true)=true; rw [ha1,ha2]; rfl) ht hm .un
     have r2:=Rel.b2N (n:=n) (d:=some b) (v:=g b) (s:=bif c then .tt else .ff) r1 (by show (Nat.blt b n && (lk fx b).isNone && true && true)=true; rw [hb1,hb2]; rfl) (by rw [hc]; cases c; exact .ff; exact .tt)
     have eg:M0 (M0 f (some a) (g a)) (some b) (g b)=g:=by
      funext k
      show upd (upd f a (g a)) b (g b) k=g k
      by_cases e1:k=b
      . rw [M6,if_pos e1,e1]
      . rw [M6,if_neg e1]
        by_cases e2:k=a
        . rw [M6,if_pos e2,e2]
        . rw [M6,if_neg e2,hkept k fun j hj=>?_]
          match j,hj with
          | 0,hj=>cases hj; exact e2 rfl
          | 3,hj=>cases hj; exact e1 rfl
          | 1,hj=>cases hj
          | 2,hj=>cases hj
          | _+4,hj=>cases hj
     rw [eg] at r2
     cases c with
     | true=>exact hQ _ _ _ _ _ r2 h1
     | false=>exact hQ _ _ _ _ _ r2 h2
 . cases hc
theorem c9r {s:E.SV} {v:Value} (r:Rep E.N E.T ρ Z w v s):Rep E.N E.T ρ Z w v (d7b s):=by
 cases s with
 | bl p d =>
  cases r
  show Rep E.N E.T ρ Z w _ (bif @decide p d then .tt else .ff)
  cases @decide p d with
  | true=>exact .tt
  | false=>exact .ff
 | _=>exact r
theorem b5x:∀ (ks:List Nat) {st:E.St},Rel E C fx lkd st ρ Z f w->Rel E C fx lkd (c02 ks st) ρ Z f w
 | [],_,h=>h
 | s::r,st,h=>by
  unfold c02
  refine b5x r ?_
  split
  . rename_i v hv
    refine ⟨fun k s' hk=>?_,h.fx,h.gs,h.mem,h.tn,h.g⟩
    rw [H4] at hk
    by_cases e:s=k
    . subst e; rw [if_pos rfl] at hk; cases hk; exact c9r (h.sl _ _ hv)
    . rw [if_neg e] at hk; exact h.sl k s' hk
  . exact h
theorem a2s {id:Nat} {K:Ks E} {st:E.St} (h:Rel E C fx lkd st ρ Z f w) (hk:behind an id K.n st):QK E C fx lkd K .normal f w:=by
 unfold behind at hk
 generalize an.join (2000000+id)=o at hk
 cases o with
 | some a=>exact ⟨_,ρ,Z,b5x _ h,hk⟩
 | none=>exact ⟨st,ρ,Z,h,hk⟩
theorem d4n {ks:List Nat} {st:E.St} {k:E.St->Prop} (h:Rel E C fx lkd st ρ Z f w) (hk:d0b ks fx st k):∃ st',Rel E C fx lkd st' ρ Z f w/\k st':=by
 unfold d0b at hk
 cases hb:ks.isEmpty with
 | true=>grind
 | false =>
  rw [hb,b4X,b6j] at hk
  refine ⟨⟨D4 fx st ks,[],st.items,st.nx⟩,⟨fun k s hs=>?_,h.fx,fun k j b s e=>(by cases e),h.mem,h.tn,h.g⟩,hk⟩
  have hs:lk (D4 fx st ks) k=some s:=hs
  clear hk hb
  induction ks with
  | nil=>cases hs
  | cons a r ih =>
   have hs:lk ((a,s5 fx st a)::D4 fx st r) k=some s:=hs
   rw [H4] at hs
   by_cases e:a=k
   . rw [if_pos e] at hs; cases hs; subst e; exact h.slot a
   simp_all
theorem c2v {b:Bool} {p:Prop} (h:bif b then p else False):b=true/\p:=by
 simp_all
theorem a42 {i:Nat}:∀ {l:List Oper} {k:Nat},i∈c7b l k↔k<=i/\i<k+l.length
 | [],k=>⟨fun h=>(by cases h),fun h=>absurd h.2 (by simp; omega)⟩
 | _::r,k=>by
  unfold c7b
  rw [b4D,a42,b4F]
  omega
theorem b5a {l:List Oper} {done:List Nat}:c2k l done=true↔∀ i,i<l.length->done.elem i=true:=by
 unfold c2k
 rw [b5A]
 exact ⟨fun h i hi=>h i (a42.2 (by omega)),fun h i hi=>h i (by have:=a42.1 hi; omega)⟩
theorem c1b {f:Nat->Prop} {i:Nat}:∀ {L:List Nat},cjF f L->i∈L->f i
 | [],_,h=>by cases h
 | [a],hf,h=>by cases b4U.1 h; exact hf
 | a::b::r,hf,h=>by
  rcases b4D.1 h with rfl | h
  . exact hf.1
  . exact c1b hf.2 h
theorem d02 (hE:l7 E) (hI:N7 E inl) {id n:Nat} {l:List Oper} {C:Ctx} {fx:o7 E.N} {lkd:a7 E.N} {st:E.St} {ρ:r9} {Z:Nat->Prop} {f:Fr} {w:World} {K:E.St->Prop} {Q:Exit->Fr->World->Prop} (h:Rel E C fx lkd st ρ Z f w)
  (ha:K6 l=true) (hv:a8l n inl fx lkd l K l.length [] st) (hQ:∀ st' ρ' Z' f' w',Rel E C fx lkd st' ρ' Z' f' w'->K st'->Q .normal f' w'):W E.P n (.region id l.toArray true) Q f w:=by
 refine b3f hE.mixed ha (fun D g w'=>∃ k done st ρ Z,(∀ j,D j=done.elem j)/\Rel E C fx lkd st ρ Z g w'/\a8l n inl fx lkd l K k done st) ⟨_,[],st,ρ,Z,fun j=>rfl,h,hv⟩ ?_ ?_
 . rintro D g w' ⟨k,done,st,ρ,Z,hD,hR,hv⟩ i o ho hDi hdep
   have hil:i<l.length:=by
    rcases b5N i l.length with h | h
    . exact h
    . simp_all
   have hna:c2k l done=false:=by
    rw [<- Bool.not_eq_true,b5a]
    intro hh
    have:=hh i hil
    rw [<- hD,hDi] at this; cases this
   cases k with
   | zero=>unfold a8l at hv; simp_all
   | succ k =>
    unfold a8l at hv
    rw [hna,b4X] at hv
    have hr:rdy l done i=true:=by
     unfold rdy
     rw [ho]
     simp only [b3R,b7W,b5A,b7I]
     refine ⟨by simp_all,fun e he=>?_⟩
     cases hb:Region.binds .any e with
     | false=>simp_all
     | true=>simp_all
    have hi:=c1b hv (b7H.2 ⟨a42.2 (by omega),hr⟩)
    rw [ho] at hi
    refine a8k hE hI [o] st ρ Z g w' hR hi fun st' ρ' Z' f' w2 hr' _ hk=>⟨rfl,k,i::done,st',ρ',Z',fun j=>?_,hr',hk⟩
    by_cases e:j=i
    . subst e; rw [a2r]; simp
    . rw [M7 e,hD,List.elem_cons]
      grind
 . rintro D g w' ⟨k,done,st,ρ,Z,hD,hR,hv⟩ hall
   have hA:c2k l done=true:=b5a.2 fun i hi=>by simp_all
   cases k <;> (unfold a8l at hv; grind)
theorem e36 (hE:l7 E) (hI:N7 E inl):∀ (c:Code) (C:Ctx) (fx:o7 E.N) (lkd:a7 E.N) (st:E.St) (K:Ks E) (ρ:r9) (Z:Nat->Prop) (f:Fr) (w:World),Rel E C fx lkd st ρ Z f w->vc inl an c fx lkd st K->W E.P an.n c (QK E C fx lkd K) f w:=by
 intro c
 induction c with
 | skip=>intro C fx lkd st K ρ Z f w h hv; exact G0 ⟨st,ρ,Z,h,hv⟩
 | ret=>intro C fx lkd st K ρ Z f w h hv; exact F4 ⟨st,ρ,Z,h,hv⟩
 | exit i=>intro C fx lkd st K ρ Z f w h hv; exact a11 ⟨st,ρ,Z,h,hv⟩
 | region id l dr =>
  intro C fx lkd st K ρ Z f w h hv
  simp only [vc] at hv
  have e:l=l.toList.toArray:=by simp
  cases hb:(!dr || b70 l.toList) with
  | false =>
   rw [hb,b4X] at hv
   have hdr:dr=true:=by
    cases dr with
    | true=>rfl
    | false=>grind
   subst hdr
   split at hv
   . rename_i a b hc
     have:=d4x (id:=id) (Q:=QK E C fx lkd K) hE h.g0 hc hv.1 hv.2 (fun st' ρ' Z' f' w' hr hk=>a2s hr hk)
     omega
   . split at hv
     . have h2:=c2v hv
       have:=d02 (id:=id) (Q:=QK E C fx lkd K) hE hI h.g0 h2.1 h2.2 (fun st' ρ' Z' f' w' hr hk=>a2s hr hk)
       omega
     . have:=a0y (id:=id) (Q:=QK E C fx lkd K) hE h.g0 (fun st' ρ' Z' f' w' hr hk=>a2s hr hk) _ _ hv
       omega
  | true =>
   rw [hb,b4G] at hv
   have key:WL E.P dr an.n l.toList (QK E C fx lkd K) l.toList f w:=a8k hE hI l.toList _ ρ Z f w h.g0 hv (fun st' ρ' Z' f' w' hr _ hk=>a2s hr hk)
   cases dr with
   | false =>
    have:=b9 (id:=id) key
    omega
   | true =>
    have hb2:b2l l.toList=true:=by
     unfold b70 at hb
     simp only [Bool.not_true,Bool.false_or,b3R] at hb
     exact hb.1
    have:=a8o (id:=id) hE.mixed hb2 key
    omega
 | seq a b iha ihb =>
  intro C fx lkd st K ρ Z f w h hv
  simp only [vc] at hv
  split at hv
  . refine k8 (a0q (iha C fx lkd st _ ρ Z f w h hv) fun e f' w' q=>?_)
    obtain ⟨st',ρ',Z',hr,he⟩:=q
    cases e with
    | normal=>exact ihb C fx lkd st' K ρ' Z' f' w' hr he
    | ret=>exact ⟨st',ρ',Z',hr,he⟩
    | exit i=>exact ⟨st',ρ',Z',hr,he⟩
    | _=>exact he.elim
  . rename_i j hj
    split at hv
    . rename_i sl _
      refine k8 (a0q (iha C fx lkd st _ ρ Z f w h hv) fun e f' w' q=>?_)
      obtain ⟨st',ρ',Z',hr,he⟩:=q
      cases e with
      | normal =>
       have he:(match a1d (s5 fx st' sl) with
        | some ⟨p,_⟩=>(p->vc inl an b fx lkd ⟨(sl,.tt)::st'.slots,[],st'.items,st'.nx⟩ K)/\(¬ p->vc inl an b fx lkd ⟨(sl,.ff)::st'.slots,[],st'.items,st'.nx⟩ K)
        | none=>False):=he
       have hs:=hr.slot sl
       split at he
       . rename_i p d hp
         have hv:=hs.a2K hp
         have key:∀ s,Rep E.N E.T ρ' Z' w' (f' sl) s->Rel E C fx lkd ⟨(sl,s)::st'.slots,[],st'.items,st'.nx⟩ ρ' Z' f' w':=fun s hs'=>⟨fun k s2 hk=>by
          have hk:lk ((sl,s)::st'.slots) k=some s2:=hk
          rw [H4] at hk
          by_cases e:sl=k
          . simp_all
          . rw [if_neg e] at hk; exact hr.sl k s2 hk,hr.fx,fun k j b s e=>(by cases e),hr.mem,hr.tn,hr.g⟩
         by_cases hpp:p
         . exact ihb C fx lkd _ K ρ' Z' f' w' (key .tt (by rw [hv]; simp only [hpp,decide_true]; exact .tt)) (he.1 hpp)
         . exact ihb C fx lkd _ K ρ' Z' f' w' (key .ff (by rw [hv]; simp only [hpp,decide_false]; exact .ff)) (he.2 hpp)
       simp_all
      | ret=>exact ⟨st',ρ',Z',hr,he⟩
      | exit i=>exact ⟨st',ρ',Z',hr,he⟩
      | _=>exact he.elim
    obtain ⟨J,hva,hvb⟩:=hv
    refine k8 (a0q (iha _ _ _ _ _ ρ Z f w (h.enter j.keep (D5 E fx st j.vars)) hva) fun e f' w' q=>?_)
    cases e with
    | normal =>
     obtain ⟨st',ρ',Z',hr,he⟩:=q
     obtain ⟨new,ρ2,x,hx,hk,hr2⟩:=a8z h hr he hvb
     exact ihb C fx lkd _ K ρ2 Z' f' w' (Rel.leave h hr2) (hk hx)
    | ret=>exact a5e h (by simp_all) q
    | exit i=>exact a5e h (by simp_all) q
    | _=>obtain ⟨_,_,_,_,he⟩:=q; exact he.elim
 | cond o a b iha ihb =>
  intro C fx lkd st K ρ Z f w h hv
  simp only [vc] at hv
  have hr:=h.ev a1c.nil o
  split at hv
  . rename_i e; rw [e] at hr
    exact J9 (by generalize Wk.ev f o=u at hr; cases hr; rfl) (iha C fx lkd st K ρ Z f w h hv)
  . rename_i e; rw [e] at hr
    exact T8 (by generalize Wk.ev f o=u at hr; cases hr; rfl) (ihb C fx lkd st K ρ Z f w h hv)
  . rename_i p d e; rw [e] at hr
    have e1:Wk.ev f o=.bool (@decide p d):=by generalize Wk.ev f o=u at hr; cases hr; rfl
    exact E3 e1 (fun hp=>iha C fx lkd st K ρ Z f w h (hv.1 (b3V hp))) (fun hp=>ihb C fx lkd st K ρ Z f w h (hv.2 (b4K hp)))
  simp_all
 | block i c ih =>
  intro C fx lkd st K ρ Z f w h hv
  refine I7 (a0q (ih C fx lkd st _ ρ Z f w h hv) fun e f' w' q=>?_)
  obtain ⟨st',ρ',Z',hr,he⟩:=q
  cases e with
  | normal=>exact ⟨st',ρ',Z',hr,he⟩
  | ret=>exact ⟨st',ρ',Z',hr,he⟩
  | exit j =>
   have he:(match (bif Nat.beq i j then some K.n else lk K.e j) with | some k=>k st' | none=>False):=he
   show (bif Nat.beq j i then QK E C fx lkd K .normal f' w' else QK E C fx lkd K (.exit j) f' w')
   have hc:Nat.beq i j=Nat.beq j i:=by
    by_cases e:i=j
    . rw [e]
    . rw [a1s e,a1s (b6D e)]
   rw [hc] at he
   cases hb:Nat.beq j i with
   | true=>rw [hb] at he; exact ⟨st',ρ',Z',hr,he⟩
   | false=>rw [hb] at he; exact ⟨st',ρ',Z',hr,he⟩
  | _=>exact he.elim
 | loop c ih =>
  intro C fx lkd st K ρ Z f w h hv
  simp only [vc] at hv
  split at hv
  . exact hv.elim
  . rename_i a ha
    split at hv
    . rename_i n hk
      refine a2u (fun k f' w'=>∃ (st':E.St) (ρ':r9) (Z':Nat->Prop),Rel E C fx lkd st' ρ' Z' f' w'/\vcU (fun st n'=>d0b a.keep fx st fun st=>vc inl an c fx lkd st ⟨n',K.r,K.e⟩) k st') ⟨n,_,_,_,h.g0,hv⟩ ?_
      rintro k f' w' ⟨st',ρ',Z',hr,hu⟩
      cases k with
      | zero=>exact hu.elim
      | succ k =>
       obtain ⟨st1,hr,hu⟩:=d4n (k:=fun st=>vc inl an c fx lkd st ⟨vcU (fun st n'=>d0b a.keep fx st fun st=>vc inl an c fx lkd st ⟨n',K.r,K.e⟩) k,K.r,K.e⟩) hr hu
       refine a0q (ih C fx lkd st1 _ ρ' Z' f' w' hr hu) fun e f2 w2 q=>?_
       obtain ⟨st2,ρ2,Z2,hr2,he⟩:=q
       cases e with
       | normal=>exact ⟨k,Nat.lt_succ_self k,st2,ρ2,Z2,hr2,he⟩
       | ret=>exact ⟨st2,ρ2,Z2,hr2,he⟩
       | exit i=>exact ⟨st2,ρ2,Z2,hr2,he⟩
       | _=>exact he.elim
    . rename_i ss hk
      obtain ⟨P,h0,hb⟩:=c9m hv
      refine     a2u (fun k f' w' => ∃ (new : E.St) (ρ2 :   r9) (Z2 : Nat -> Prop) (im : Prop × Nat), (im.1 -> vc inl an c (   D4 fx st a.keep ++ fx) (     n9 st.items ( b5v E fx st ss) ++ lkd) new
            (a7x (D4 fx st a.keep) (n9 st.items (b5v E fx st ss)) K (fun st'=>rbS E fx st (D4 fx st a.keep++fx) st' ss P (fun im'=>im'.1/\im'.2<im.2))))/\im.1/\im.2=k/\Rel E (C.at ρ Z w) (D4 fx st a.keep++fx) (n9 st.items (b5v E fx st ss)++lkd) new ρ2 Z2 f' w') ?_ ?_
      . obtain ⟨new,ρ2,im,h1,h2,h3⟩:=b3m h (h.enter a.keep (b5v E fx st ss)) ss P h0 hb
        grind
      . rintro k f' w' ⟨new,ρ2,Z2,im,hbody,hi,rfl,hr⟩
        refine a0q (ih _ _ _ _ _ ρ2 Z2 f' w' hr (hbody hi)) fun e f2 w2 q=>?_
        cases e with
        | normal =>
         obtain ⟨st',ρ',Z',hr',he⟩:=q
         obtain ⟨new2,ρ3,im2,g1,g2,g3⟩:=b3m h hr' ss P he hb
         exact ⟨im2.2,g1.2,new2,ρ3,Z',im2,g2,g1.1,rfl,g3⟩
        | ret=>exact a5e h (by simp_all) q
        | exit i=>exact a5e h (by simp_all) q
        | _=>obtain ⟨_,_,_,_,he⟩:=q; exact he.elim
    obtain ⟨I,m,h0,hb⟩:=hv
    refine     a2u (fun k f' w' => ∃ (new : E.St) (ρ2 :   r9) (Z2 : Nat -> Prop) (im : Prop × Nat), (im.1 -> vc inl an c (   D4 fx st a.keep ++ fx) (     n9 st.items (   D5 E fx st a.vars) ++ lkd) new
          (a7x (D4 fx st a.keep) (n9 st.items (D5 E fx st a.vars)) K (fun st'=>rbP E fx st (D4 fx st a.keep++fx) st' a.vars (a1b a.vars I m) (fun im'=>im'.1/\im'.2<im.2))))/\im.1/\im.2=k/\Rel E (C.at ρ Z w) (D4 fx st a.keep++fx) (n9 st.items (D5 E fx st a.vars)++lkd) new ρ2 Z2 f' w') ?_ ?_
    . obtain ⟨new,ρ2,im,h1,h2,h3⟩:=a8z h (h.enter a.keep (D5 E fx st a.vars)) h0 hb
      grind
    . rintro k f' w' ⟨new,ρ2,Z2,im,hbody,hi,rfl,hr⟩
      refine a0q (ih _ _ _ _ _ ρ2 Z2 f' w' hr (hbody hi)) fun e f2 w2 q=>?_
      cases e with
      | normal =>
       obtain ⟨st',ρ',Z',hr',he⟩:=q
       obtain ⟨new2,ρ3,im2,g1,g2,g3⟩:=a8z h hr' he hb
       exact ⟨im2.2,g1.2,new2,ρ3,Z',im2,g2,g1.1,rfl,g3⟩
      | ret=>exact a5e h (by simp_all) q
      | exit i=>exact a5e h (by simp_all) q
      | _=>obtain ⟨_,_,_,_,he⟩:=q; exact he.elim
 | _=>intro C fx lkd st K ρ Z f w h hv; exact hv.elim
end
end Go.Rx
end
section
namespace Go.Rx
open Go Go.Wk Go.Wl
section
variable {E:Env} {C:Ctx} {w:World} {ρ:r9} {Z:Nat->Prop} {its lkd:a7 E.N} {nx:Nat} {inl:Inl E} {an:Ann} {fn:Func} {K:Nat} {args:List E.SV} {vs:List Value}
def d4p (E:Env) (C:Ctx) (ρ:r9) (Z:Nat->Prop) (w:World) (lkd:a7 E.N) (k:E.SV->a7 E.N->Nat->Prop) (v:Value) (w':World):Prop :=
 ∃ ρ' Z' s its' nx',Mem E C ρ' Z' w' (its'++lkd) nx'/\Tn ρ Z w ρ' Z' w'/\Rep E.N E.T ρ' Z' w' v s/\k s its' nx'
def a1g (tmps:Array Value):ResultVar->Sem Value
 | .tmp t=>pure (tmps.getD t undef)
 | .cell a t=>do loadVar t (<- asAddr (tmps.getD a undef))
section
variable {P:Program} {tmps:Array Value} {v0 v1 v2:Value} {r0 r1 r2:ResultVar}
theorem c3d (h:fn.results=#[]):(results fn tmps).run P w=.ok (.tuple #[]) w:=results_none h _ _ _
theorem c3x (h:fn.results=#[r0]) (h0:(a1g tmps r0).run P w=.ok v0 w):(results fn tmps).run P w=.ok v0 w:=by
 have e:results fn tmps=(do let vs <- fn.results.mapM (a1g tmps); pure (if h:vs.size=1 then vs[0] else .tuple vs)):=rfl
 simp_all
theorem c2y (h:fn.results=#[r0,r1]) (h0:(a1g tmps r0).run P w=.ok v0 w) (h1:(a1g tmps r1).run P w=.ok v1 w):(results fn tmps).run P w=.ok (.tuple #[v0,v1]) w:=by
 have e:results fn tmps=(do let vs <- fn.results.mapM (a1g tmps); pure (if h:vs.size=1 then vs[0] else .tuple vs)):=rfl
 simp_all
theorem c4j (h:fn.results=#[r0,r1,r2]) (h0:(a1g tmps r0).run P w=.ok v0 w) (h1:(a1g tmps r1).run P w=.ok v1 w) (h2:(a1g tmps r2).run P w=.ok v2 w):(results fn tmps).run P w=.ok (.tuple #[v0,v1,v2]) w:=by
 have e:results fn tmps=(do let vs <- fn.results.mapM (a1g tmps); pure (if h:vs.size=1 then vs[0] else .tuple vs)):=rfl
 simp_all
theorem c2h {r3:ResultVar} {v3:Value} (h:fn.results=#[r0,r1,r2,r3]) (h0:(a1g tmps r0).run P w=.ok v0 w) (h1:(a1g tmps r1).run P w=.ok v1 w) (h2:(a1g tmps r2).run P w=.ok v2 w) (h3:(a1g tmps r3).run P w=.ok v3 w):(results fn tmps).run P w=.ok (.tuple #[v0,v1,v2,v3]) w:=by
 have e:results fn tmps=(do let vs <- fn.results.mapM (a1g tmps); pure (if h:vs.size=1 then vs[0] else .tuple vs)):=rfl
 simp_all
end
def d3i (P:Program) (fn:Func) (n:Nat) (f:Fr) (w:World) (v:Value):Prop:=∀ a w1,Is a f n->Sim w w1->(results fn a.tmps).run P w1=.ok v w1
def e71 (P:Program) (fn:Func) (n:Nat) (R:Value->World->Prop):Exit->Fr->World->Prop
 | .ret,f,w=>∃ v,d3i P fn n f w v/\R v w
 | .normal,f,w=>∃ v,d3i P fn n f w v/\R v w
 | _,_,_=>False
theorem e17 {P:Program} {c:Code} {n:Nat} {args:List Value} {R:Value->World->Prop} (hf:P.funcs[K]?=some fn) (hb:fn.body=some c) (hn:fn.ntmps=n) (hs:Nat.ble args.length n=true) (h:W P n c (e71 P fn n R) (nth args) w):A6 P K args w R :=
 a15 hf hb hn hs _ (fun e a w1 f w hf hd hv q=>by
  cases e with
  | ret=>obtain ⟨v,h1,h2⟩:=q; exact ⟨hd,v,h1 a w1 hf hv,v,w,rfl,hv,h2⟩
  | normal=>obtain ⟨v,h1,h2⟩:=q; exact ⟨hd,v,h1 a w1 hf hv,v,w,rfl,hv,h2⟩
  | _=>exact q.elim) h
theorem b6r {P:Program} {T:TypeId} {b mm:Nat} {cs:List Value} (hA:∀ w,(isAgg T).run P w=.ok true w) (hz:∀ w,(sizeOf T).run P w=.ok mm w) (hl:cs.length=mm) (hc:x9 w b 0 cs):(loadVar T ⟨b,0,none⟩).run P w=.ok (.agg cs.toArray) w:=by
 have h:=O0 (P:=P) hc cs.length 0 #[] (by omega)
 simp only [b7E,Array.empty_append] at h
 subst hl
 simp [loadVar,hA,hz,loadCells,h,go_sem]
theorem Q5 {st:E.St} {f:Fr} {n:Nat} {fx:o7 E.N} {r:ResultVar} {s:E.SV} (h:Rel E C fx lkd st ρ Z f w) (e:a6j st r=some s):∃ v,Rep E.N E.T ρ Z w v s/\∀ a w1,Is a f n->Sim w w1->(a1g a.tmps r).run E.P w1=.ok v w1:=by
 cases r with
 | tmp t =>
  exact ⟨f t,h.sl t s e,fun a w1 hi hs=>by simp only [a1g]; rw [hi.get]; rfl⟩
 | cell a0 T =>
  simp only [a6j] at e
  split at e
  . rename_i id off hl
    split at e
    . rename_i Ty cells hi
      split at e
      . rename_i m hA hz
        have ⟨h1,h2⟩:=j7 e
        simp only [b3N] at h2; subst h2
        simp only [b3R] at h1
        have e0:=b3Q h1.1
        have e1:=b3Q h1.2
        subst e0
        have hr:=h.sl a0 _ hl
        obtain ⟨j,hj,_⟩:=v6 hi
        obtain ⟨L,cs,hL,hbs,ho,hrep⟩:=h.mem.holds (n8 (l2:=lkd) hj)
        have hL:ρ id=some L:=hL
        have hp:f a0=.pointer (some ⟨L.b,0,none⟩):=by
         generalize f a0=u at hr
         cases hr with | ref hL'=>simp_all
        refine ⟨.agg cs.toArray,hrep,fun a w1 hi' hs=>?_⟩
        have hc:x9 w1 L.b 0 cs:=x9.sim ho.all hs
        have:=b6r (P:=E.P) (w:=w1) (mm:=m) (a2g hA) (fun w=>J8 hz w) (by rw [hrep.len]; exact e1.symm) hc
        simp only [a1g]
        rw [hi'.get,hp]
        rw [b3S]
        simp only [asAddr,b4E,b3O]
        exact this
      . cases e
    . cases e
  . cases e
theorem U4 (hE:l7 E) (hI:N7 E inl) (hf:E.P.funcs[K]?=some fn) {k:E.SV->a7 E.N->Nat->Prop} (hv:o9 inl an fn args its lkd nx k) (hm:Mem E C ρ Z w (its++lkd) nx) (hg:E.G.is Z w) (ha:Rep E.N E.T ρ Z w (.tuple vs.toArray) (.tup args)):A6 E.P K vs w (d4p E C ρ Z w lkd k):=by
 unfold o9 at hv
 split at hv
 . rename_i c hc
   cases hb:Nat.ble args.length fn.ntmps with
   | false=>simp_all
   | true =>
    rw [hb,b4G] at hv
    have hle:Nat.ble vs.length fn.ntmps=true:=by rw [a81 ha]; exact hb
    have h0:Rel E (C.at ρ Z w) [] lkd ⟨number 0 args,[],its,nx⟩ ρ Z (nth vs) w:=⟨fun k s e=>b2x (n:=0) ha k s (by simpa using e),fun p hp=>(by cases hp),fun k j b s e=>(by cases e),hm.down,Tn.refl _ _ _,hg⟩
    have hw:=e36 (an:=⟨fn.ntmps,an.loop,an.join⟩) hE hI c _ _ _ _ _ ρ Z (nth vs) w h0 hv
    refine e17 hf hc rfl hle (a0q hw fun e f' w' q=>?_)
    obtain ⟨st,ρ',Z',hr,he⟩:=q
    have fin:(match d5e fn st with | some v=>k v st.items st.nx | none=>False)->∃ v,d3i E.P fn fn.ntmps f' w' v/\d4p E C ρ Z w lkd k v w':=fun hk=>by
     split at hk
     . rename_i s hs
       have key:∃ v,Rep E.N E.T ρ' Z' w' v s/\d3i E.P fn fn.ntmps f' w' v:=by
        unfold d5e at hs
        split at hs
        . rename_i e0
          cases hs
          exact ⟨_,.a1O,fun a w1 hi hs=>c3d (by simp_all)⟩
        . rename_i r e0
          obtain ⟨v,h1,h2⟩:=Q5 (n:=fn.ntmps) hr hs
          exact ⟨v,h1,fun a w1 hi hs=>c3x (by grind) (h2 a w1 hi hs)⟩
        . rename_i r1 r2 e0
          split at hs
          . rename_i a b ha hb
            cases hs
            obtain ⟨v1,h1,g1⟩:=Q5 (n:=fn.ntmps) hr ha
            obtain ⟨v2,h2,g2⟩:=Q5 (n:=fn.ntmps) hr hb
            exact ⟨.tuple #[v1,v2],.a1F (cs:=[v2]) h1 (.a1F (cs:=[]) h2 .a1O),fun a w1 hi hs=>c2y (by grind) (g1 a w1 hi hs) (g2 a w1 hi hs)⟩
          . cases hs
        . rename_i r1 r2 r3 e0
          split at hs
          . rename_i a b c ha hb hc
            cases hs
            obtain ⟨v1,h1,g1⟩:=Q5 (n:=fn.ntmps) hr ha
            obtain ⟨v2,h2,g2⟩:=Q5 (n:=fn.ntmps) hr hb
            obtain ⟨v3,h3,g3⟩:=Q5 (n:=fn.ntmps) hr hc
            exact ⟨.tuple #[v1,v2,v3],.a1F (cs:=[v2,v3]) h1 (.a1F (cs:=[v3]) h2 (.a1F (cs:=[]) h3 .a1O)),fun a w1 hi hs=>c4j (by grind) (g1 a w1 hi hs) (g2 a w1 hi hs) (g3 a w1 hi hs)⟩
          . cases hs
        . rename_i r1 r2 r3 r4 e0
          split at hs
          . rename_i a b c d ha hb hc hd
            cases hs
            obtain ⟨v1,h1,g1⟩:=Q5 (n:=fn.ntmps) hr ha
            obtain ⟨v2,h2,g2⟩:=Q5 (n:=fn.ntmps) hr hb
            obtain ⟨v3,h3,g3⟩:=Q5 (n:=fn.ntmps) hr hc
            obtain ⟨v4,h4,g4⟩:=Q5 (n:=fn.ntmps) hr hd
            exact ⟨.tuple #[v1,v2,v3,v4],.a1F (cs:=[v2,v3,v4]) h1 (.a1F (cs:=[v3,v4]) h2 (.a1F (cs:=[v4]) h3 (.a1F (cs:=[]) h4 .a1O))),fun a w1 hi hs=>c2h (by grind) (g1 a w1 hi hs) (g2 a w1 hi hs) (g3 a w1 hi hs) (g4 a w1 hi hs)⟩
          . cases hs
        . cases hs
       obtain ⟨v,h1,h2⟩:=key
       exact ⟨v,h2,ρ',Z',s,st.items,st.nx,Mem.upC hm hr.mem,hr.tn,h1,hk⟩
     simp_all
    cases e with
    | normal=>exact fin he
    | ret=>exact fin he
    | exit i=>exact he.elim
    | _=>exact he.elim
 simp_all
def b01 (ρ:r9) (Z:Nat->Prop) (w:World):Ctx:=⟨ρ,Z,w,[],w⟩
theorem c9w {nx:Nat} (hfr:∀ i,nx<=i->ρ i=none) (hz:∀ b,Z b->b<w.heap.size):Mem E (b01 ρ Z w) ρ Z w [] nx :=
 ⟨Wl.Sep.nil hz,hfr,fun _ _ h=>h,fun _ h=>h,fun _ h=>.inl h⟩
theorem d4p.pure {k:E.SV->a7 E.N->Nat->Prop} {v:Value} {w':World} (h:d4p E (b01 ρ Z w) ρ Z w [] k v w'):∃ ρ' Z' s its' nx',Ext [] w w'/\Mem E (b01 ρ Z w) ρ' Z' w' its' nx'/\Tn ρ Z w ρ' Z' w'/\Rep E.N E.T ρ' Z' w' v s/\k s its' nx':=by
 obtain ⟨ρ',Z',s,its',nx',hm,ht,hr,hk⟩:=h
 rw [b4M] at hm
 exact ⟨ρ',Z',s,its',nx',hm.sep.ext,hm,ht,hr,hk⟩
end
end Go.Rx
end
section
namespace Go.Rx
open Go Go.Wk Go.Wl
section
variable {E:Env} {C:Ctx} {w:World} {ρ:r9} {Z:Nat->Prop} {its:a7 E.N} {nx:Nat} {inl:Inl E} {an:Ann} {fn:Func} {K:Nat} {args:List E.SV} {vs:List Value}
def a38 (E:Env):(k:VK)->k.den E.N->List (Item E.N)
 | .acc t,x=>[.ac t x]
 | _,_=>[]
def a2x (E:Env) (nx:Nat) (k:VK) (x:k.den E.N):E.SV:=(fl1 E nx k x).1
theorem a2q (k:VK) (x:k.den E.N):(fl1 E nx k x).2.1=number nx (a38 E k x)/\(fl1 E nx k x).2.2=nx+(a38 E k x).length:=by cases k <;> exact ⟨rfl,rfl⟩
def c6n {N:Uni}:SV N->Bool
 | .int _ _=>true
 | .byte _=>true
 | .bl _ _=>true
 | .str _=>true
 | _=>false
theorem c2z {v:Value} {s:E.SV} (hb:c6n s=true) (h:Rep E.N E.T ρ Z w v s):Rep E.N E.T (fun _=>none) (fun _=>False) w v s:=by
 cases s with
 | int k x=>cases h with | int h=>exact .int h
 | byte x=>cases h; exact .byte
 | bl p d=>cases h; exact .bl
 | str x=>cases h with | str h=>exact .str h
 | _=>cases hb
theorem b1p:∀ {ls:List E.SV} {cs:List Value},ls.all c6n=true->j8 E.N E.T ρ Z w cs ls->j8 E.N E.T (fun _=>none) (fun _=>False) w cs ls
 | [],cs,_,h=>by
  have:=j8.a0Q h
  subst this; exact j8.nil
 | s::r,cs,hb,h=>by
  obtain ⟨v,t,rfl,h1,hp,h2⟩:=j8.cons_inv h
  rw [b7A,b3R] at hb
  exact Rep.a1V (c2z hb.1 h1) hp (b1p hb.2 h2)
def bare (E:Env):(k:VK)->k.den E.N->Prop
 | .int _,_=>True
 | .byte,_=>True
 | .bool,_=>True
 | .str,_=>True
 | .err,e=>e=.nil ∨ ∃ n,e=.no n
 | .val t,x=>∃ y ls,E.ty t=some y/\y.sv x=.agg ls/\ls.all c6n=true
 | _,_=>False
theorem a8u {k:VK} {x:k.den E.N} {v:Value} (hb:bare E k x) (h:Rep E.N E.T ρ Z w v (a2x E nx k x)):Rep E.N E.T (fun _=>none) (fun _=>False) w v (a2x E nx k x):=by
 cases k with
 | int k=>cases h with | int h=>exact .int h
 | byte=>cases h; exact .byte
 | bool=>change Rep E.N E.T ρ Z w v (blB x) at h; cases h; exact .bl
 | str=>cases h with | str h=>exact .str h
 | err =>
  cases h with
  | err h =>
   rcases hb with rfl | ⟨n,rfl⟩
   . cases h; exact .err .nil
   . cases h with | no h=>exact .err (.no h)
 | val t =>
  obtain ⟨y,ls,e1,e2,e3⟩:=hb
  have e:a2x E nx (.val t) x=.agg ls:=by
   unfold a2x fl1
   simp only [e1,e2]
  rw [e] at h ⊢
  obtain ⟨cs,rfl,hl⟩:=h.a1J
  exact b1p e3 hl
 | _=>exact hb.elim
theorem d5x {k:VK} {x:k.den E.N} {s:E.SV} {i:Nat} (h:a7l E [k] (fun y=>y=x) s its i):rb1 E its k s=some x:=by
 unfold a7l parts at h
 simp only [G9] at h
 grind
theorem d6h {k1 k2:VK} {x1:k1.den E.N} {x2:k2.den E.N} {s:E.SV} {i:Nat} (h:a7l E [k1,k2] (fun y z=>y=x1/\z=x2) s its i):∃ s1 s2,s=.tup [s1,s2]/\rb1 E its k1 s1=some x1/\rb1 E its k2 s2=some x2:=by
 have one:∀ u:E.SV,(match G9 E its [k1,k2] [u] (fun y z=>y=x1/\z=x2) with | some p=>p | none=>False)->False:=fun u h=>by
  simp only [G9] at h
  grind
 unfold a7l at h
 cases s with
 | tup vs =>
  match vs,h with
  | [],h=>exact h.elim
  | [u],h=>exact (one u h).elim
  | [s1,s2],h =>
   simp only [parts,G9] at h
   grind
  | s1::s2::s3::r,h =>
   simp only [parts,G9] at h
   grind
 | _=>exact (one _ h).elim
theorem e3p {k1 k2 k3:VK} {x1:k1.den E.N} {x2:k2.den E.N} {x3:k3.den E.N} {s:E.SV} {i:Nat} (h:a7l E [k1,k2,k3] (fun y z u=>y=x1/\z=x2/\u=x3) s its i):∃ s1 s2 s3,s=.tup [s1,s2,s3]/\rb1 E its k1 s1=some x1/\rb1 E its k2 s2=some x2/\rb1 E its k3 s3=some x3:=by
 have one:∀ u:E.SV,(match G9 E its [k1,k2,k3] [u] (fun y z u=>y=x1/\z=x2/\u=x3) with | some p=>p | none=>False)->False:=fun u h=>by
  simp only [G9] at h
  grind
 unfold a7l at h
 cases s with
 | tup vs =>
  match vs,h with
  | [],h=>exact h.elim
  | [u],h=>exact (one u h).elim
  | [s1,s2],h =>
   simp only [parts,G9] at h
   grind
  | [s1,s2,s3],h =>
   simp only [parts,G9] at h
   grind
  | s1::s2::s3::s4::r,h =>
   simp only [parts,G9] at h
   grind
 | _=>exact (one _ h).elim
theorem kc {V C:Prop} (h:V) (e:@Eq Prop V C):C:=Eq.mp e h
theorem a05 (hE:l7 E) (hI:N7 E inl) (hf:E.P.funcs[K]?=some fn) {k:VK} {x:k.den E.N} {ob:List Prop} (hb:bare E k x) (hv:o9 inl an fn args [] [] 0 (a7l E [k] (fun y=>y=x))) (n:Nat):a0j E K args ⟨ob,[],a2x E n k x,[]⟩:=fun D w vs hD hg ha =>
 (U4 (C:=b01 (fun _=>none) D w) hE hI hf hv (c9w (nx:=0) (fun _ _=>rfl) hD) hg ha).mono fun v w' h=>by
  obtain ⟨ρ',Z',s,its',nx',hx,hm,ht,hr,hk⟩:=h.pure
  obtain ⟨ρ3,os',_,_,_,hr3,_⟩:=Y6 (lkd:=[]) (n2:=n) (ρ2:=fun _=>none) (os:=[]) (new:=[]) (by simpa using hm) hr (d5x hk) (fun _ _=>rfl) .nil
  exact ⟨hx,a8u hb hr3,trivial⟩
theorem b5y {v:Value} {s1 s2:E.SV} (h:Rep E.N E.T ρ Z w v (.tup [s1,s2])):∃ v1 v2,v=.tuple #[v1,v2]/\Rep E.N E.T ρ Z w v1 s1/\Rep E.N E.T ρ Z w v2 s2:=by
 obtain ⟨cs,rfl⟩:=Rep.a2Y h
 obtain ⟨v1,r,rfl,h1,h⟩:=Rep.a0H h
 obtain ⟨v2,r,rfl,h2,h⟩:=Rep.a0H h
 have:r=[]:=by
  generalize e:Value.tuple r.toArray=u at h
  cases h with | a1O=>simpa using e
 grind
theorem c7t {v:Value} {s1 s2 s3:E.SV} (h:Rep E.N E.T ρ Z w v (.tup [s1,s2,s3])):∃ v1 v2 v3,v=.tuple #[v1,v2,v3]/\Rep E.N E.T ρ Z w v1 s1/\Rep E.N E.T ρ Z w v2 s2/\Rep E.N E.T ρ Z w v3 s3:=by
 obtain ⟨cs,rfl⟩:=Rep.a2Y h
 obtain ⟨v1,r,rfl,h1,h⟩:=Rep.a0H h
 obtain ⟨v2,r,rfl,h2,h⟩:=Rep.a0H h
 obtain ⟨v3,r,rfl,h3,h⟩:=Rep.a0H h
 have:r=[]:=by
  generalize e:Value.tuple r.toArray=u at h
  cases h with | a1O=>simpa using e
 grind
theorem d7k {v1 v2:Value} {s1 s2:E.SV} (h1:Rep E.N E.T ρ Z w v1 s1) (h2:Rep E.N E.T ρ Z w v2 s2):Rep E.N E.T ρ Z w (.tuple #[v1,v2]) (.tup [s1,s2]):=.a1F (cs:=[v2]) h1 (.a1F (cs:=[]) h2 .a1O)
theorem e6c {v1 v2 v3:Value} {s1 s2 s3:E.SV} (h1:Rep E.N E.T ρ Z w v1 s1) (h2:Rep E.N E.T ρ Z w v2 s2) (h3:Rep E.N E.T ρ Z w v3 s3):Rep E.N E.T ρ Z w (.tuple #[v1,v2,v3]) (.tup [s1,s2,s3]):=.a1F (cs:=[v2,v3]) h1 (d7k h2 h3)
theorem d6y (hE:l7 E) (hI:N7 E inl) (hf:E.P.funcs[K]?=some fn) {k1 k2:VK} {x1:k1.den E.N} {x2:k2.den E.N} {ob:List Prop} (hb1:bare E k1 x1) (hb2:bare E k2 x2) (hv:o9 inl an fn args [] [] 0 (a7l E [k1,k2] (fun y z=>y=x1/\z=x2))) (n:Nat):a0j E K args ⟨ob,[],.tup [a2x E n k1 x1,a2x E n k2 x2],[]⟩:=fun D w vs hD hg ha =>
 (U4 (C:=b01 (fun _=>none) D w) hE hI hf hv (c9w (nx:=0) (fun _ _=>rfl) hD) hg ha).mono fun v w' h=>by
  obtain ⟨ρ',Z',s,its',nx',hx,hm,ht,hr,hk⟩:=h.pure
  obtain ⟨s1,s2,rfl,e1,e2⟩:=d6h hk
  obtain ⟨v1,v2,rfl,h1,h2⟩:=b5y hr
  obtain ⟨_,_,_,_,_,r1,_⟩:=Y6 (lkd:=[]) (n2:=n) (ρ2:=fun _=>none) (os:=[]) (new:=[]) (by simpa using hm) h1 e1 (fun _ _=>rfl) .nil
  obtain ⟨_,_,_,_,_,r2,_⟩:=Y6 (lkd:=[]) (n2:=n) (ρ2:=fun _=>none) (os:=[]) (new:=[]) (by simpa using hm) h2 e2 (fun _ _=>rfl) .nil
  exact ⟨hx,d7k (a8u hb1 r1) (a8u hb2 r2),trivial⟩
theorem d4t {k:VK} {x:k.den E.N} (h:a38 E k x=[]) (n:Nat):fl1 E n k x=(a2x E nx k x,[],n):=by
 cases k with
 | acc t=>cases h
 | _=>rfl
theorem b7t {k:VK} {s:E.SV} {l:List Nat} (h:l=O6 k s++List.filterMap id ([]:List (Option Nat))):l.Nodup:=by rw [h]; unfold O6; grind
theorem b1u {os:List (Option Nat)} {new:a7 E.N} {n2:Nat} {ρ' ρ2:r9} {Z':Nat->Prop} {w':World} {its':a7 E.N} {nx':Nat} (hm:Mem E (b01 (fun _=>none) Z w) ρ' Z' w' its' nx') (ht:Q8 E [] ρ' Z' w' its' ρ2 os new) (hnd:(os.filterMap id).Nodup) (hfr:∀ i,n2<=i->ρ2 i=none) :
  Sep [] w Z' w' (s6 E.N E.T ρ2 [] new):=by
 have:=Mem.a5X (lkd:=[]) (by simpa using hm) (fun _ h=>by cases h) ht hnd hfr (fun _ _ h=>by cases h)
 simpa [b01] using this.sep
theorem b4q (hE:l7 E) (hI:N7 E inl) (hf:E.P.funcs[K]?=some fn) {k:VK} {x:k.den E.N} {ob:List Prop} (hp:args.all H9=true) (hv:o9 inl an fn args [] [] 0 (a7l E [k] (fun y=>y=x))):S9 E.P E.N E.T E.G K args nx ⟨ob,[],a2x E nx k x,a38 E k x⟩ :=
 ⟨fun ρ Z w vs hfr hz hg ha=>(U4 (C:=b01 (fun _=>none) Z w) hE hI hf hv (c9w (fun _ _=>rfl) hz) hg (K5 hp ha _)).mono fun v w' h=>by
  obtain ⟨ρ',Z',s,its',nx',hx,hm,ht,hr,hk⟩:=h.pure
  obtain ⟨ρ3,os,t1,f1,s1,r1,o1⟩:=Y6 (lkd:=[]) (n2:=nx) (ρ2:=ρ) (os:=[]) (new:=[]) (by simpa using hm) hr (d5x hk) hfr .nil
  rw [(a2q k x).1,b4M] at t1
  rw [(a2q k x).2] at f1
  refine ⟨ρ3,Z',s1,f1,hm.zge,fun b hb=>?_,r1,b1u hm t1 (b7t o1) f1,trivial⟩
  rcases hm.zle b hb with h | h | h
  . exact .inl h
  . cases h
  . exact .inr h⟩
theorem b2o {os:List (Option Nat)} {new:a7 E.N} {n2:Nat} {ρ' ρ2:r9} {Z':Nat->Prop} {w':World} {its':a7 E.N} {nx':Nat} {C:Ctx} {k:VK} {x:k.den E.N} {v:Value} {s:E.SV} (hm:Mem E C ρ' Z' w' its' nx') (hu:Rep E.N E.T ρ' Z' w' v s) (h:rb1 E its' k s=some x) (hn:a38 E k x=[]) (hfr:∀ i,n2<=i->ρ2 i=none) (ht:Q8 E C.B0 ρ' Z' w' its' ρ2 os new) (hnd:(os.filterMap id).Nodup) :
  ∃ ρ3 os',Q8 E C.B0 ρ' Z' w' its' ρ3 os' new/\(∀ i,n2<=i->ρ3 i=none)/\(∀ i L,ρ2 i=some L->ρ3 i=some L)/\Rep E.N E.T ρ3 Z' w' v (a2x E nx k x)/\(os'.filterMap id).Nodup:=by
 obtain ⟨ρ3,os',t,f,s1,r,o⟩:=Y6 (lkd:=[]) (by simpa using hm) hu h hfr ht
 rw [d4t (nx:=nx) hn n2] at t f r
 refine ⟨ρ3,os',by simpa using t,f,s1,r,?_⟩
 rw [o]
 cases k with
 | acc t=>cases hn
 | _=>exact hnd
theorem e4r (hE:l7 E) (hI:N7 E inl) (hf:E.P.funcs[K]?=some fn) {k1 k2:VK} {x1:k1.den E.N} {x2:k2.den E.N} {ob:List Prop} (h2:a38 E k2 x2=[]) (hp:args.all H9=true) (hv:o9 inl an fn args [] [] 0 (a7l E [k1,k2] (fun y z=>y=x1/\z=x2))) :
  S9 E.P E.N E.T E.G K args nx ⟨ob,[],.tup [a2x E nx k1 x1,a2x E nx k2 x2],a38 E k1 x1⟩ :=
 ⟨fun ρ Z w vs hfr hz hg ha=>(U4 (C:=b01 (fun _=>none) Z w) hE hI hf hv (c9w (fun _ _=>rfl) hz) hg (K5 hp ha _)).mono fun v w' h=>by
  obtain ⟨ρ',Z',s,its',nx',hx,hm,ht,hr,hk⟩:=h.pure
  obtain ⟨s1,s2,rfl,e1,e2⟩:=d6h hk
  obtain ⟨v1,v2,rfl,g1,g2⟩:=b5y hr
  obtain ⟨ρ3,os,t1,f1,b1,r1,o1⟩:=Y6 (lkd:=[]) (n2:=nx) (ρ2:=ρ) (os:=[]) (new:=[]) (by simpa using hm) g1 e1 hfr .nil
  rw [(a2q k1 x1).1,b4M] at t1
  rw [(a2q k1 x1).2] at f1
  obtain ⟨ρ4,os2,t2,f2,b2,r2,nd2⟩:=b2o (nx:=nx) hm g2 e2 h2 f1 t1 (b7t o1)
  refine ⟨ρ4,Z',B7 b1 b2,f2,hm.zge,fun b hb=>?_,d7k (Rep.sub r1 b2) r2,b1u hm t2 nd2 f2,trivial⟩
  rcases hm.zle b hb with h | h | h
  . exact .inl h
  . cases h
  . exact .inr h⟩
theorem e7n (hE:l7 E) (hI:N7 E inl) (hf:E.P.funcs[K]?=some fn) {k1 k2 k3:VK} {x1:k1.den E.N} {x2:k2.den E.N} {x3:k3.den E.N} {ob:List Prop} (h2:a38 E k2 x2=[]) (h3:a38 E k3 x3=[]) (hp:args.all H9=true) (hv:o9 inl an fn args [] [] 0 (a7l E [k1,k2,k3] (fun y z u=>y=x1/\z=x2/\u=x3))) :
  S9 E.P E.N E.T E.G K args nx ⟨ob,[],.tup [a2x E nx k1 x1,a2x E nx k2 x2,a2x E nx k3 x3],a38 E k1 x1⟩ :=
 ⟨fun ρ Z w vs hfr hz hg ha=>(U4 (C:=b01 (fun _=>none) Z w) hE hI hf hv (c9w (fun _ _=>rfl) hz) hg (K5 hp ha _)).mono fun v w' h=>by
  obtain ⟨ρ',Z',s,its',nx',hx,hm,ht,hr,hk⟩:=h.pure
  obtain ⟨s1,s2,s3,rfl,e1,e2,e3⟩:=e3p hk
  obtain ⟨v1,v2,v3,rfl,g1,g2,g3⟩:=c7t hr
  obtain ⟨ρ3,os,t1,f1,b1,r1,o1⟩:=Y6 (lkd:=[]) (n2:=nx) (ρ2:=ρ) (os:=[]) (new:=[]) (by simpa using hm) g1 e1 hfr .nil
  rw [(a2q k1 x1).1,b4M] at t1
  rw [(a2q k1 x1).2] at f1
  obtain ⟨ρ4,os2,t2,f2,b2,r2,nd2⟩:=b2o (nx:=nx) hm g2 e2 h2 f1 t1 (b7t o1)
  obtain ⟨ρ5,os3,t3,f3,b3,r3,nd3⟩:=b2o (nx:=nx) hm g3 e3 h3 f2 t2 nd2
  refine ⟨ρ5,Z',B7 (B7 b1 b2) b3,f3,hm.zge,fun b hb=>?_,e6c (Rep.sub (Rep.sub r1 b2) b3) (Rep.sub r2 b3) r3,b1u hm t3 nd3 f3,trivial⟩
  rcases hm.zle b hb with h | h | h
  . exact .inl h
  . cases h
  . exact .inr h⟩
end
end Go.Rx
end
section
namespace Go.Rx
open Go Go.Wk Go.Wl
section
variable {N:Uni} {T:O9} {ρ:r9} {Z:Nat->Prop} {w:World} {cs cs':List Value} {ls ls':List (SV N)}
theorem j8.split (n:Nat) (h:j8 N T ρ Z w cs ls):j8 N T ρ Z w (cs.take n) (ls.take n)/\j8 N T ρ Z w (cs.drop n) (ls.drop n):=by
 induction n generalizing cs ls with
 | zero=>exact ⟨by simpa using j8.nil,by simpa using h⟩
 | succ n ih =>
  cases ls with
  | nil=>obtain rfl:=j8.a0Q h; simp_all
  | cons s r =>
   obtain ⟨v,rr,rfl,h1,hp,h2⟩:=j8.cons_inv h
   obtain ⟨a,b⟩:=ih h2
   exact ⟨j8.cons h1 hp a,b⟩
def pb {α:Type} (f:SV N->Option α):List (SV N)->Option α
 | [s]=>f s
 | _=>none
def b1z (N:Uni) (t:Nat):SV N->Option (List (N.U t))
 | .a1K=>some []
 | .sl t' l=>if h:t'=t then some (V6 h l) else none
 | _=>none
theorem d2m {t:Nat} {v:Value} {s:SV N} {l:List (N.U t)} (h:Rep N T ρ Z w v s) (e:b1z N t s=some l):(q9 (N.tb t).r).rd Z w [v] l:=by
 cases h with
 | a1K=>simp [b1z] at e; subst e; exact V1
 | sl h =>
  simp only [b1z] at e
  split at e
  . rename_i ht; subst ht; simp [V6] at e; simp_all
  . cases e
 | _=>simp [b1z] at e
theorem b7p {α:Type} {f:SV N->Option α} {x:α} {r:Rd α} (hr:∀ (v:Value) (s:SV N),Rep N T ρ Z w v s->f s=some x->r.rd Z w [v] x) (h:j8 N T ρ Z w cs ls) (e:pb f ls=some x):r.rd Z w cs x:=by
 unfold pb at e
 split at e
 . obtain ⟨v,rfl,h1,_⟩:=j8.a4L h; grind
 . cases e
theorem b7y {x:Int} (h:j8 N T ρ Z w cs ls) (e:pb a43 ls=some x):G2.rd Z w cs x:=b7p (fun v s h e=>by have ⟨a,b⟩:=b55 h e; rw [a]; exact ⟨rfl,b⟩) h e
theorem e1h {x:Str} (h:j8 N T ρ Z w cs ls) (e:pb asS ls=some x):a09.rd Z w cs x:=b7p (r:=a09) (fun v s h e=>by have ⟨a,b⟩:=c9d h e; rw [a]; exact ⟨rfl,b⟩) h e
theorem c1d {t:Nat} {x:List (N.U t)} (h:j8 N T ρ Z w cs ls) (e:pb (b1z N t) ls=some x):(q9 (N.tb t).r).rd Z w cs x:=b7p (r:=q9 (N.tb t).r) (fun v s h e=>d2m h e) h e
theorem c1m {t:Nat} {x:List (N.U t)} (h:(q9 (N.tb t).r).rd Z w cs x):j8 N T ρ Z w cs [.sl t x]:=by
 have hl:=Rd.len _ h
 have hp:=Rd.plain _ h
 match cs,hl with
 | [v],_ =>
  simp only [b7A,List.all_nil,Bool.and_true] at hp
  exact j8.one (.sl h) hp
end
end Go.Rx
end
section
namespace Go.Rx
open Go Go.Wk Go.Wl
def S7 {α:Type} (K:Nat) (x:α) (f:Nat->Option α):Nat->Option α:=fun k=>bif Nat.beq k K then some x else f k
def Env.a1R (E:Env) (K:Nat) (C:List E.SV->Option (Q1 E.N)):Env:=⟨E.P,E.N,E.T,E.ty,E.zob,S7 K (fun a _=>(C a).map fun q=>⟨q.ob,q.hy,q.v,[]⟩) E.con,fun k=>bif Nat.beq k K then true else E.a1Y k,E.obc,E.inl,E.G,E.wrc,E.rws,E.fnc,E.roc,E.yl⟩
def Env.a2A (E:Env) (K:Nat) (C:List E.SV->Nat->Option (CR E.N)):Env:=⟨E.P,E.N,E.T,E.ty,E.zob,S7 K C E.con,fun k=>bif Nat.beq k K then false else E.a1Y k,E.obc,E.inl,E.G,E.wrc,E.rws,E.fnc,E.roc,E.yl⟩
def Env.a0K (E:Env) (K:Nat) (fn:Func):Env:=⟨E.P,E.N,E.T,E.ty,E.zob,E.con,E.a1Y,E.obc,S7 K fn E.inl,E.G,E.wrc,E.rws,E.fnc,E.roc,E.yl⟩
def Env.a0N (E:Env) (K:Nat) (o:FC E.N):Env:=⟨E.P,E.N,E.T,E.ty,E.zob,E.con,E.a1Y,E.obc,E.inl,E.G,E.wrc,E.rws,S7 K o E.fnc,E.roc,E.yl⟩
def Env.a6N (E:Env) (K:Nat) (C:List E.SV->a7 E.N->Option (Q1 E.N)):Env:=⟨E.P,E.N,E.T,E.ty,E.zob,E.con,E.a1Y,E.obc,E.inl,E.G,E.wrc,E.rws,E.fnc,S7 K C E.roc,E.yl⟩
section
variable {E:Env} {K:Nat}
abbrev a8j (P:Program) (K:Nat):Prop:=∀ xs w,(callFunc K xs).run P w=.ok (.enter K xs) w
theorem N6 {α:Type} {x y:α} {f:Nat->Option α} {k:Nat} (h:S7 K x f k=some y):(k=K/\y=x) ∨ f k=some y:=by
 unfold S7 at h
 cases hb:Nat.beq k K with
 | true=>simp_all
 | false=>simp_all
theorem a08 {α:Type} {x:α} {f:Nat->Option α} {k:Nat} (h:(S7 K x f k).isSome=true):k=K ∨ (f k).isSome=true:=by
 obtain ⟨y,hy⟩:=b5T.1 h
 rcases N6 hy with ⟨e,_⟩ | e
 all_goals simp_all
theorem a0j.con {args:List E.SV} {c:CR E.N} {nx:Nat} (h:a0j E K args c) (hi:c.its=[]) (hp:args.all H9=true):S9 E.P E.N E.T E.G K args nx c :=
 ⟨fun ρ Z w vs hfr hz hg ha=>(h Z w vs hz hg (K5 hp ha _)).mono fun v w' ⟨x,r,hy⟩=>⟨ρ,Z,fun _ _ h=>h,by simp_all,fun _ h=>h,fun _ h=>.inl h,Rep.bare r,by
  rw [hi]
  exact ⟨x,fun b hb=>by have:=hz b hb; have:=x.size; omega,fun k t h=>by simp [s6,number] at h,fun j k s t h=>by simp [s6,number] at h⟩,hy⟩⟩
theorem l7.a1R (h:l7 E) {C:List E.SV->Option (Q1 E.N)} (hc:a8j E.P K) (ok:∀ args q,C args=some q->n6 q.ob->a0j E K args ⟨q.ob,q.hy,q.v,[]⟩):l7 (E.a1R K C):=by
 refine ⟨h.mixed,h.zob,fun k hk=>?_,h.inl,fun k f args nx c hf hr hp ho=>?_,fun k f args nx c hf hl hr hi ho=>?_,h.obc,h.wrc,h.a3K,h.fnc,h.a3N,h.roc,h.yl⟩
 . by_cases e:k=K
   . subst e; exact hc
   . refine h.call k ?_
     simp only [b7I] at hk ⊢
     rcases hk with ((hk | hk) | hk) | hk
     . rcases a08 hk with e' | e'
       . omega
       . exact .inl (.inl (.inl e'))
     . exact .inl (.inl (.inr hk))
     . exact .inl (.inr hk)
     . exact .inr hk
 . rcases N6 hf with ⟨e1,e2⟩ | hf
   . rw [e2] at hr
     obtain ⟨q,hq,e3⟩:=b3Y.1 hr
     subst e3
     rw [e1]
     exact (ok args q hq ho).con rfl hp
   . exact h.con k f args nx c hf hr hp ho
 . rcases N6 hf with ⟨e1,e2⟩ | hf'
   . rw [e2] at hr
     obtain ⟨q,hq,e3⟩:=b3Y.1 hr
     subst e3
     rw [e1]
     exact ok args q hq ho
   . by_cases e:k=K
     . have hf:S7 K (fun a _=>(C a).map fun q=>(⟨q.ob,q.hy,q.v,[]⟩:CR E.N)) E.con k=some f:=hf
       unfold S7 at hf
       rw [e,b7Y,b4G] at hf
       have e2:=b6E hf
       rw [<- e2] at hr
       obtain ⟨q,hq,e3⟩:=b3Y.1 hr
       subst e3
       rw [e]
       exact ok args q hq ho
     . refine h.a1Y k f args nx c hf' ?_ hr hi ho
       have hl:(bif Nat.beq k K then true else E.a1Y k)=true:=hl
       simp_all
theorem l7.a2A (h:l7 E) {C:List E.SV->Nat->Option (CR E.N)} (hc:a8j E.P K) (ok:∀ args nx c,C args nx=some c->args.all H9=true->n6 c.ob->S9 E.P E.N E.T E.G K args nx c):l7 (E.a2A K C):=by
 refine ⟨h.mixed,h.zob,fun k hk=>?_,h.inl,fun k f args nx c hf hr hp ho=>?_,fun k f args nx c hf hl hr hi ho=>?_,h.obc,h.wrc,h.a3K,h.fnc,h.a3N,h.roc,h.yl⟩
 . by_cases e:k=K
   . subst e; exact hc
   . refine h.call k ?_
     simp only [b7I] at hk ⊢
     rcases hk with ((hk | hk) | hk) | hk
     . rcases a08 hk with e' | e'
       . omega
       . exact .inl (.inl (.inl e'))
     . exact .inl (.inl (.inr hk))
     . exact .inl (.inr hk)
     . exact .inr hk
 . rcases N6 hf with ⟨e1,e2⟩ | hf
   . rw [e2] at hr
     rw [e1]; exact ok args nx c hr hp ho
   . exact h.con k f args nx c hf hr hp ho
 . have hl:(bif Nat.beq k K then false else E.a1Y k)=true:=hl
   have e:k≠K:=fun e=>by simp_all
   rw [a1s e,b4X] at hl
   rcases N6 hf with ⟨e',_⟩ | hf'
   . omega
   . exact h.a1Y k f args nx c hf' hl hr hi ho
theorem l7.a0K (h:l7 E) {fn:Func} (hc:a8j E.P K) (hf:E.P.funcs[K]?=some fn):l7 (E.a0K K fn):=by
 refine ⟨h.mixed,h.zob,fun k hk=>?_,fun k g hg=>?_,h.con,h.a1Y,h.obc,h.wrc,h.a3K,h.fnc,h.a3N,h.roc,h.yl⟩
 . by_cases e:k=K
   . subst e; exact hc
   . refine h.call k ?_
     simp only [b7I] at hk ⊢
     rcases hk with ((hk | hk) | hk) | hk
     . exact .inl (.inl (.inl hk))
     . exact .inl (.inl (.inr hk))
     . rcases a08 hk with e' | e'
       all_goals simp_all
     . exact .inr hk
 . rcases N6 hg with ⟨rfl,rfl⟩ | hg
   . exact hf
   . exact h.inl k g hg
theorem l7.a0N (h:l7 E) {o:FC E.N} (hc:a8j E.P K) (ok:∀ args its r,o.C args its=some r->n6 r.ob->r6 E.P E.N E.T E.G K args its (2 * its.length) (fun k=>n6 r.hy->k r.v r.its r.n)):l7 (E.a0N K o):=by
 refine ⟨h.mixed,h.zob,h.call,h.inl,h.con,h.a1Y,h.obc,h.wrc,fun k hk=>?_,fun k o' args its r ho hr hob=>?_,h.a3N,h.roc,h.yl⟩
 . rcases a08 hk with e | e
   . subst e; exact hc
   . exact h.a3K k e
 . rcases N6 ho with ⟨e1,e2⟩ | ho
   . cases e2
     rw [e1]; exact ok args its r hr hob
   . exact h.fnc k o' args its r ho hr hob
theorem l7.a6N (h:l7 E) {C:List E.SV->a7 E.N->Option (Q1 E.N)} (hc:a8j E.P K) (ok:∀ args its q,C args its=some q->n6 q.ob->c0n E.P E.N E.T E.G K args its q):l7 (E.a6N K C):=by
 refine ⟨h.mixed,h.zob,h.call,h.inl,h.con,h.a1Y,h.obc,h.wrc,h.a3K,h.fnc,fun k hk=>?_,fun k C' args its q ho hr hob=>?_,h.yl⟩
 . rcases a08 hk with e | e
   . subst e; exact hc
   . exact h.a3N k e
 . rcases N6 ho with ⟨e1,e2⟩ | ho
   . cases e2
     rw [e1]; exact ok args its q hr hob
   . exact h.roc k C' args its q ho hr hob
end
end Go.Rx
end
section
namespace Go.Rx
open Go Go.Wk Go.Wl
def Err.num:Err->Option Int
 | .nil=>none
 | .no n=>some n
 | .fault _ n=>some n
 | .w _ _ e=>e.num
 | .p _ _ n=>some n
def Err.is (e:Err) (n:Int):Prop:=e.num=some n
instance (e:Err) (n:Int):Decidable (e.is n):=by unfold Err.is; infer_instance
def Err.nr (e:Err):Int:=match e with
 | .nil=>0
 | e=>match e.num with | some n=>if 1<=n/\n<=16 then n else -1 | none=>-1
def Err.at_:Err->Int
 | .fault a _=>a
 | .w _ _ e=>e.at_
 | _=>0
section
open Go.Lib
variable {P:Program} (w:World)
end
end Go.Rx
end
section
namespace Go.Rx
open Go Go.Wk Go.Wl
def e4q (N:Uni):List VK->Type
 | []=>Unit
 | k::r=>k.den N×e4q N r
section
variable {E:Env} {C:Ctx} {w w':World} {ρ ρ':r9} {Z Z':Nat->Prop} {its lkd:a7 E.N} {nx:Nat} {inl:Inl E}
def e6l (E:Env):(ks:List VK)->e4q E.N ks->List E.SV
 | [],_=>[]
 | k::r,X=>a2x E 0 k X.1::e6l E r X.2
theorem c1i:∀ {ps qs:List Prop},cjl (ps++qs)->cjl ps/\cjl qs
 | [],_,h=>⟨trivial,h⟩
 | [p],[],h=>⟨h,trivial⟩
 | [p],q::r,h=>⟨h.1,h.2⟩
 | p::q::r,qs,h=>by
  have:=c1i (ps:=q::r) h.2
  exact ⟨⟨h.1,this.1⟩,this.2⟩
end
end Go.Rx
end
section
namespace Go.Proofs
open Go.Shelf
def Tryz.lays189_ren:Go.Shelf.Ren:=⟨fun | 189=>84 | 125=>87 | 257=>86 | 128=>97 | 129=>98 | 294=>88 | 295=>89 | 296=>90 | 297=>91 | 298=>92 | 299=>93 | 216=>94 | 300=>95 | 301=>96 | 328=>99 | 329=>100 | 330=>101 | 331=>102 | 332=>103 | 215=>104 | 343=>105 | n=>n,fun | 28=>42 | 3=>3 | 46=>141 | 0=>0 | 51=>127 | 53=>158 | 4=>4 | 183=>149 | 182=>148 | 131=>154 | 5=>5 | 9=>9 | 218=>159 | 222=>163 | 228=>166 | 229=>167 | n=>n,fun | n=>n⟩
theorem Tryz.lays189:Go.Proofs.Lays.n189 Tryz.prog Tryz.lays189_ren:={
 mixed:=by kernel_rfl
 f125:=Tryz.func87.trans (congrArg some (by kernel_rfl))
 f128:=Tryz.func97.trans (congrArg some (by kernel_rfl))
 f129:=Tryz.func98.trans (congrArg some (by kernel_rfl))
 f189:=Tryz.func84.trans (congrArg some (by kernel_rfl))
 f215:=Tryz.func104.trans (congrArg some (by kernel_rfl))
 f216:=Tryz.func94.trans (congrArg some (by kernel_rfl))
 f257:=Tryz.func86.trans (congrArg some (by kernel_rfl))
 f294:=Tryz.func88.trans (congrArg some (by kernel_rfl))
 f295:=Tryz.func89.trans (congrArg some (by kernel_rfl))
 f296:=Tryz.func90.trans (congrArg some (by kernel_rfl))
 f297:=Tryz.func91.trans (congrArg some (by kernel_rfl))
 f298:=Tryz.func92.trans (congrArg some (by kernel_rfl))
 f299:=Tryz.func93.trans (congrArg some (by kernel_rfl))
 f300:=Tryz.func95.trans (congrArg some (by kernel_rfl))
 f301:=Tryz.func96.trans (congrArg some (by kernel_rfl))
 f328:=Tryz.func99.trans (congrArg some (by kernel_rfl))
 f329:=Tryz.func100.trans (congrArg some (by kernel_rfl))
 f330:=Tryz.func101.trans (congrArg some (by kernel_rfl))
 f331:=Tryz.func102.trans (congrArg some (by kernel_rfl))
 f332:=Tryz.func103.trans (congrArg some (by kernel_rfl))
 f343:=Tryz.func105.trans (congrArg some (by kernel_rfl))
 t0:=Tryz.underlying0
 a0:=Tryz.isAgg0
 z0:=Tryz.sizeOf0
 v0:=Tryz.zeroValue0
 t3:=Tryz.underlying3
 a3:=Tryz.isAgg3
 z3:=Tryz.sizeOf3
 v3:=Tryz.zeroValue3
 t4:=Tryz.underlying4
 a4:=Tryz.isAgg4
 z4:=Tryz.sizeOf4
 v4:=Tryz.zeroValue4
 t5:=Tryz.underlying5
 a5:=Tryz.isAgg5
 z5:=Tryz.sizeOf5
 v5:=Tryz.zeroValue5
 t9:=Tryz.underlying9
 a9:=Tryz.isAgg9
 z9:=Tryz.sizeOf9
 v9:=Tryz.zeroValue9
 t28:=Tryz.underlying42
 a28:=Tryz.isAgg42
 z28:=Tryz.sizeOf42
 v28:=Tryz.zeroValue42
 t46:=Tryz.underlying141
 a46:=Tryz.isAgg141
 z46:=Tryz.sizeOf141
 v46:=Tryz.zeroValue141
 t51:=Tryz.underlying127
 a51:=Tryz.isAgg127
 z51:=Tryz.sizeOf127
 v51:=Tryz.zeroValue127
 t53:=Tryz.underlying158
 a53:=Tryz.isAgg158
 z53:=Tryz.sizeOf158
 v53:=Tryz.zeroValue158
 t131:=Tryz.underlying154
 a131:=Tryz.isAgg154
 z131:=Tryz.sizeOf154
 v131:=Tryz.zeroValue154
 t182:=Tryz.underlying148
 a182:=Tryz.isAgg148
 z182:=Tryz.sizeOf148
 v182:=Tryz.zeroValue148
 t183:=Tryz.underlying149
 a183:=Tryz.isAgg149
 z183:=Tryz.sizeOf149
 v183:=Tryz.zeroValue149
 t218:=Tryz.underlying159
 a218:=Tryz.isAgg159
 z218:=Tryz.sizeOf159
 v218:=Tryz.zeroValue159
 t222:=Tryz.underlying163
 a222:=Tryz.isAgg163
 z222:=Tryz.sizeOf163
 v222:=Tryz.zeroValue163
 t228:=Tryz.underlying166
 a228:=Tryz.isAgg166
 z228:=Tryz.sizeOf166
 v228:=Tryz.zeroValue166
 t229:=Tryz.underlying167
 a229:=Tryz.isAgg167
 z229:=Tryz.sizeOf167
 v229:=Tryz.zeroValue167 }
open Go.Sort Go.RowKit in
theorem Tryz.slices_Sort_int (blk off cap:Nat) (zs:List Int) (w:World) (hH:Holds (Value.int .i64) w blk off zs.toArray) (hblk:blk<w.heap.size) (hsz:zs.length<4611686018427387904) :
  Calls Tryz.prog 84 #[.slice (some ⟨blk,off,none⟩) zs.length cap] w fun e w' =>
   e=.returned (.tuple #[])/\∃ n os,w'=grow (putRow (Value.int .i64) (Sort.ahead w n) blk off (zs.mergeSort fun x y=>decide (x<=y)).toArray) os:=Any.slices_Sort_int Tryz.lays189 blk off cap zs w hH hblk hsz
def Tryz.laysNm216_ren:Go.Shelf.Ren:=⟨fun | 16=>43 | n=>n,fun | 24=>41 | 9=>9 | 4=>4 | n=>n,fun | n=>n⟩
theorem Tryz.laysNm216:Go.Proofs.Lays2.n16 Tryz.prog Tryz.laysNm216_ren:={
 mixed:=by kernel_rfl
 f16:=Tryz.func43.trans (congrArg some (by kernel_rfl))
 t4:=Tryz.underlying4
 a4:=Tryz.isAgg4
 z4:=Tryz.sizeOf4
 v4:=Tryz.zeroValue4
 t9:=Tryz.underlying9
 a9:=Tryz.isAgg9
 z9:=Tryz.sizeOf9
 v9:=Tryz.zeroValue9
 t24:=Tryz.underlying41
 a24:=Tryz.isAgg41
 z24:=Tryz.sizeOf41
 v24:=Tryz.zeroValue41
 i9:=by kernel_rfl }
open Go.RowKit Go.Lib in
theorem Tryz.slices_Clone_string (b off n c:Nat) (zs:List ByteArray) (w:World) (hz:n<=zs.length) (hbig:n * 16<=140737488355328) (hc:∀ j,j<zs.length->w.cell? ⟨b,off+j,none⟩=some (.string (zs.getD j ByteArray.empty))) :
  Calls Tryz.prog 43 #[.slice (some ⟨b,off,none⟩) n c] w fun e w'=>∃ v',e=.returned v'/\w'.ownsRow w.heap.size 9 1 v' n ((zs.take n).map (Value.string))/\v'≠.slice none 0 0/\Below w.heap.size w w':=Any.slices_Clone_string Tryz.laysNm216 b off n c zs w hz hbig hc
open Go.RowKit Go.Lib in
theorem Tryz.slices_Clone_string_nil (n c:Nat) (w:World) :
  Calls Tryz.prog 43 #[.slice none n c] w fun e w'=>e=.returned (.slice none 0 0)/\w'=w:=Any.slices_Clone_string_nil Tryz.laysNm216 n c w
open Go.RowKit Go.Lib in
theorem Tryz.slices_Clone_string_zero (a:Addr) (c:Nat) (w:World) :
  Calls Tryz.prog 43 #[.slice (some a) 0 c] w fun e w'=>∃ v',e=.returned v'/\w'.ownsRow w.heap.size 9 1 v' 0 []/\v'≠.slice none 0 0/\Below w.heap.size w w':=Any.slices_Clone_string_zero Tryz.laysNm216 a c w
open Go.RowKit Go.Sort in
theorem Tryz.slices_Sort_int_none (p:Option Addr) (cap:Nat) (w:World) :
  Calls Tryz.prog 84 #[.slice p 0 cap] w fun e w'=>e=.returned (.tuple #[])/\w'=w:=Any.slices_Sort_int_none Tryz.lays189 p cap w
end Go.Proofs
end
section
namespace Go.Proofs.YtckpdliipjekgaaGreat
open Go Go.Wk Go.Wl Classical
theorem a3u:Value.agg Tryz.zeroCells107=av (List.replicate 256 0):=by kernel_rfl
structure Dk where
 a0B:List Str
 fresh:List (Int×Str)
 left:Int
 off:Bool
 deriving Inhabited
structure Dk.Ok (x:Dk):Prop where
 pos:1<=x.a0B.length
 max:x.a0B.length<=8192
 len:∀ s∈x.a0B,s.length=256
 a4B:∀ p∈x.fresh,p.2.length=256/\0<=p.1/\p.1<x.a0B.length
 left:InI x.left
 keys:(x.fresh.map (·.1)).Nodup
def Dk.a0I (x:Dk) (at_:Int):Int:=if at_<0 ∨ (x.a0B.length:Int)<=at_ then 3 else 0
def Dk.act (x:Dk) (w:Int):Int×Dk :=
 if w=1 then (1,x) else if w=2 then (2,x) else if w=3 then (3,x) else if x.left=0 then (9,{ x with off:=true }) else if x.off=true then (9,x) else if 0<x.left then (0,{ x with left:=x.left-1 }) else (0,x)
def B9 (d:Nat) (w:World) (x:Dk) (F:List Nat):Prop :=
 ∃ A cap bm bs,F=d::bm::bs/\Own w d 56 [.slice A x.a0B.length cap,.map (some bm),.int .i64 x.left,.bool x.off]/\F5 E5 w bm (u9 (fun s=>av s) x.fresh)/\Ac (C6 256) (fun _=>False) w (.slice A x.a0B.length cap) x.a0B bs/\F.Nodup
theorem B9.lt {d:Nat} {w:World} {x:Dk} {F:List Nat} (h:B9 d w x F):∀ b∈F,b<w.heap.size:=by
 obtain ⟨A,cap,bm,bs,rfl,h1,h2,h3,_⟩:=h
 intro b hb
 rcases b4D.1 hb with rfl | hb
 . exact h1.lt
 rcases b4D.1 hb with rfl | hb
 . exact F5.lt h2
 . exact h3.lt b hb
def d2t (d:Nat):Ob Dk where
 is:=fun _ w x F=>B9 d w x F
 a1L:=fun {x F} Z Z' B w w' ⟨A,cap,bm,bs,e1,h1,h2,h3,h4⟩ e hB _=>by
  have lt:=B9.lt ⟨A,cap,bm,bs,e1,h1,h2,h3,h4⟩
  have nin:∀ b∈F,b ∉ B:=fun b hb hm=>by have:=hB b hm (.inl hb); have:=lt b hb; omega
  exact ⟨A,cap,bm,bs,e1,h1.ext e (nin d (by simp [e1])),h2.ext e (nin bm (by simp [e1])),Ac.a1L h3 e (fun b hb h=>hB b hb (.inl (by rcases h with h | h; simp [e1,h]; exact h.elim))) (fun _ h=>h),h4⟩
 lt:=fun h=>B9.lt h
section
variable {d:Nat} {w w0:World} {x:Dk} {F:List Nat} {Z:Nat->Prop}
theorem B9.sep (h:B9 d w x F) (zlt:∀ b,Z b->b<w.heap.size) (hZ:∀ b∈F,¬ Z b):∃ A cap bm bs,F=d::bm::bs /\
  Sep F w Z w [K9 d 56 [.slice A x.a0B.length cap,.map (some bm),.int .i64 x.left,.bool x.off] [d],L7 E5 bm (u9 (fun s=>av s) x.fresh) [bm],iAc (C6 256) (.slice A x.a0B.length cap) x.a0B bs bs]:=by
 obtain ⟨A,cap,bm,bs,rfl,h1,h2,h3,h4⟩:=h
 simp only [b5U,b4D,not_or] at h4
 refine ⟨A,cap,bm,bs,rfl,?_⟩
 refine (Sep.a9Z (Sep.a9Z (Sep.a9Z (Sep.nil zlt) (t:=iAc (C6 256) (.slice A x.a0B.length cap) x.a0B bs bs) h3 sAc h3.lt (fun b hb=>hZ b (by simp [hb])) rfl (fun b hb=>by simp [hb]) (fun k s hk=>by simp at hk)) (t:=L7 E5 bm (u9 (fun s=>av s) x.fresh) [bm]) h2 c6l (fun b hb=>by simp at hb; subst hb; exact F5.lt h2) (fun b hb=>hZ b (by simp at hb; simp [hb])) rfl (fun b hb=>by simp at hb; simp [hb]) ?_) (t:=K9 d 56 _ [d]) h1 b7m (fun b hb=>by simp at hb; subst hb; exact h1.lt) (fun b hb=>hZ b (by simp at hb; simp [hb])) rfl (fun b hb=>by simp at hb; simp [hb]) ?_)
 . intro k s hk b hb hb'
   simp at hb; subst hb
   match k,hk with
   | 0,hk=>simp at hk; subst hk; exact h4.2.1 hb'
   | k+1,hk=>simp at hk
 . intro k s hk b hb hb'
   simp at hb; subst hb
   match k,hk with
   | 0,hk=>simp at hk; subst hk; simp at hb'; exact h4.1.1 hb'
   | 1,hk=>simp at hk; subst hk; exact h4.1.2 hb'
   | k+2,hk=>simp at hk
theorem B9.close {A:Option Addr} {n cap bm:Nat} {bs O:List Nat} {l:Int} {o:Bool} {fr:List (Int×Str)} {la:List Str} {r:List It} {O1 O2:List Nat} (hs:Sep F w0 Z w (K9 d 56 [.slice A n cap,.map (some bm),.int .i64 l,.bool o] O1::L7 E5 bm (u9 (fun s=>av s) fr) O2::iAc (C6 256) (.slice A n cap) la bs O::r)) (hbs:bs.length<=1) :
  B9 d w ⟨la,fr,l,o⟩ (d::bm::bs)/\S5 w0 w F (d::bm::bs):=by
 have h1:=hs.at 0 rfl
 have h2:=hs.at 1 rfl
 have h3:=hs.at 2 rfl
 have hn:=Ac.len h3
 subst hn
 refine ⟨⟨A,cap,bm,bs,rfl,h1,h2,h3,?_⟩,hs.ext,fun b hb=>?_⟩
 . have a1:=hs.ap 0 1 rfl rfl rfl d (by simp)
   have a2:=hs.ap 0 2 rfl rfl rfl d (by simp)
   have a3:=hs.ap 1 2 rfl rfl rfl bm (by simp)
   simp only [b4D,b6K,or_false] at a1
   simp only [b5U,b4D,not_or]
   refine ⟨⟨a1,a2⟩,a3,?_⟩
   match bs,hbs with
   | [],_=>simp
   | [b],_=>simp
 . rcases b4D.1 hb with rfl | hb
   . exact ((hs.org 0 rfl) b (by simp)).imp (fun h=>(hs.ok 0 _ rfl).a3L b h) id
   rcases b4D.1 hb with rfl | hb
   . exact ((hs.org 1 rfl) b (by simp)).imp (fun h=>(hs.ok 1 _ rfl).a3L b h) id
   . exact ((hs.org 2 rfl) b hb).imp (fun h=>(hs.ok 2 _ rfl).a3L b h) id
theorem Ac.bs1 {α:Type} {r:Rd α} {v:Value} {l:List α} {bs:List Nat} (h:Ac r Z w v l bs):bs.length<=1:=by
 rcases h with ⟨_,_,rfl⟩ | ⟨b,_,_,_,_,rfl,_⟩ <;> simp
theorem B9.fix (h:B9 d w x F):∃ A cap bm,Sep [] w (fun b=>b∈F) w [J6 d 56 [.slice A x.a0B.length cap,.map (some bm),.int .i64 x.left,.bool x.off],J3 E5 bm (u9 (fun s=>av s) x.fresh),U7 (C6 256) (.slice A x.a0B.length cap) x.a0B]:=by
 have lt:=h.lt
 obtain ⟨A,cap,bm,bs,rfl,h1,h2,h3,h4⟩:=h
 refine ⟨A,cap,bm,?_⟩
 have s0:Sep [] w (fun b=>b∈d::bm::bs) w []:=Sep.nil lt
 exact ((s0.fact (t:=U7 (C6 256) (.slice A x.a0B.length cap) x.a0B) ⟨bs,fun b hb=>by simp [hb],h3⟩ e4z rfl rfl).fact (t:=J3 E5 bm (u9 (fun s=>av s) x.fresh)) ⟨by simp,h2⟩ d5v rfl rfl).fact (t:=J6 d 56 _) ⟨by simp,h1⟩ d5m rfl rfl
end
theorem Sep.a4C {B0:List Nat} {d:Nat} {w w0:World} {x:Dk} {F O:List Nat} {Z:Nat->Prop} {l:List It} (hs:Sep B0 w0 Z w (iOb (d2t d) x F O::l)):∃ A cap bm bs,
  Sep B0 w0 Z w (K9 d 56 [.slice A x.a0B.length cap,.map (some bm),.int .i64 x.left,.bool x.off] O::L7 E5 bm (u9 (fun s=>av s) x.fresh) O::iAc (C6 256) (.slice A x.a0B.length cap) x.a0B bs O::l):=by
 obtain ⟨A,cap,bm,bs,e,h1,h2,h3,h4⟩:=hs.at 0 rfl
 have e':F=d::bm::bs:=e
 subst e'
 simp only [b5U,b4D,not_or] at h4
 refine ⟨A,cap,bm,bs,Sep.split (ts:=[_,_,_]) hs ?_ ?_⟩
 . intro u hu
   simp only [b4D,b6K,or_false] at hu
   rcases hu with rfl | rfl | rfl
   . exact ⟨h1,b7m,fun b hb=>by simp at hb; simp [hb],rfl⟩
   . exact ⟨h2,c6l,fun b hb=>by simp at hb; simp [hb],rfl⟩
   . exact ⟨h3,sAc,fun b hb=>by simp [hb],rfl⟩
 . refine List.Pairwise.cons (fun u hu y hy=>?_) (List.Pairwise.cons (fun u hu y hy=>?_) (List.Pairwise.cons (fun u hu=>by cases hu) List.Pairwise.nil))
   . have hy':y=d:=by simpa using hy
     subst hy'
     simp only [b4D,b6K,or_false] at hu
     rcases hu with rfl | rfl
     . intro hm; exact h4.1.1 (by simpa using hm)
     . exact h4.1.2
   . have hy':y=bm:=by simpa using hy
     subst hy'
     simp only [b4D,b6K,or_false] at hu
     subst hu
     exact h4.2.1
theorem B9.b3G {d:Nat} {w:World} {x:Dk} {F:List Nat} {Z:Nat->Prop} (h:B9 d w x F) (zlt:∀ b,Z b->b<w.heap.size) (hZ:∀ b∈F,Z b):∃ A cap bm,Sep [] w Z w [J6 d 56 [.slice A x.a0B.length cap,.map (some bm),.int .i64 x.left,.bool x.off],J3 E5 bm (u9 (fun s=>av s) x.fresh),U7 (C6 256) (.slice A x.a0B.length cap) x.a0B]:=by
 obtain ⟨A,cap,bm,bs,rfl,h1,h2,h3,h4⟩:=h
 refine ⟨A,cap,bm,?_⟩
 exact (((Sep.nil (B0:=[]) zlt).fact (t:=U7 (C6 256) (.slice A x.a0B.length cap) x.a0B) ⟨bs,fun b hb=>hZ b (by simp [hb]),h3⟩ e4z rfl rfl).fact (t:=J3 E5 bm (u9 (fun s=>av s) x.fresh)) ⟨hZ bm (by simp),h2⟩ d5v rfl rfl).fact (t:=J6 d 56 _) ⟨hZ d (by simp),h1⟩ d5m rfl rfl
theorem e67:(Value.agg Tryz.zeroCells107).cells=((List.replicate 256 (0:UInt8)).map bv).toArray:=by kernel_rfl
theorem e6r:(Value.agg Tryz.zeroCells107).cells.size=256:=by kernel_rfl
theorem b3o:∀ {l m:List Int},l.Nodup->(∀ x∈l,x∈m)->l.length<=m.length
 | [],m,_,_=>by simp
 | a::l,m,h,hs=>by
  simp only [b5U] at h
  have ha:a∈m:=hs a (by simp)
  have:=b3o (m:=m.erase a) h.2 (fun x hx=>(List.mem_erase_of_ne (fun e=>h.1 (by rw [<- e]; exact hx))).2 (hs x (by simp [hx])))
  rw [List.length_erase_of_mem ha] at this
  have:0<m.length:=List.length_pos_of_mem ha
  simp only [b4F]; omega
theorem e18 {l:List Int} {n:Nat} (h:l.Nodup) (hb:∀ x∈l,0<=x/\x<n):l.length<=n:=by
 have:=b3o (m:=(List.range n).map Int.ofNat) h (fun x hx=>by
  have:=hb x hx
  exact b5C.2 ⟨x.toNat,by simp; omega,by simp; omega⟩)
 simpa using this
theorem b6e:∀ {a b:List Int},a.Pairwise (· < ·)->b.Pairwise (· < ·)->(∀ x,x∈a↔x∈b)->a=b
 | [],b,_,_,h=>by
  cases b with
  | nil=>rfl
  | cons y b=>have:=(h y).2 (by simp); cases this
 | x::a,[],_,_,h=>by have:=(h x).1 (by simp); cases this
 | x::a,y::b,ha,hb,h=>by
  simp only [List.pairwise_cons] at ha hb
  have e:x=y:=by
   have h1:=(h x).1 (by simp)
   have h2:=(h y).2 (by simp)
   rcases b4D.1 h1 with e | h1
   . exact e
   rcases b4D.1 h2 with e | h2
   . exact e.symm
   have:=ha.1 y h2; have:=hb.1 x h1; omega
  subst e
  rw [b6e ha.2 hb.2 (fun z=>by
   constructor
   . intro hz
     rcases b4D.1 ((h z).1 (by simp [hz])) with e | h'
     . subst e; have:=ha.1 z hz; omega
     . exact h'
   . intro hz
     rcases b4D.1 ((h z).2 (by simp [hz])) with e | h'
     . subst e; have:=hb.1 z hz; omega
     . exact h')]
theorem d3m {a b:List Int} (ha:a.Nodup) (hb:b.Nodup) (h:∀ x,x∈a↔x∈b):srt a=srt b :=
 b6e (c6q ha) (c6q hb) fun x=>by rw [a6z,a6z]; exact h x
theorem b9i {α:Type} [Inhabited α] {l:List α} {i:Int} (h0:0<=i) (h1:i<l.length):ix l i∈l:=by
 rw [C5 (by omega)]; exact b5J _
def Dk.a0J (x:Dk):List Int:=srt (x.fresh.map (·.1))
def Dk.write (x:Dk) (at_:Int) (b:Str):Int×Dk :=
 let r:=x.act (if b.length≠256 then 2 else x.a0I at_)
 if r.1=0 then (0,{ r.2 with fresh:=O4 r.2.fresh at_ b }) else r
def Dk.read (x:Dk) (at_:Int):Str×Int :=
 if x.a0I at_=3 then ([],3) else if x.off=true then ([],9) else ((s9 x.fresh at_).getD (ix x.a0B at_),0)
def E6 (p:List Str×List (Int×Str)) (k:Int):List Str×List (Int×Str):=(p.1.set k.toNat ((s9 p.2 k).getD (List.replicate 256 0)),a6g p.2 k)
def Dk.flush (x:Dk):Int×Dk :=
 let r:=x.act 0
 if r.1=0 then (0,{ r.2 with a0B:=(r.2.a0J.foldl E6 (r.2.a0B,r.2.fresh)).1,fresh:=(r.2.a0J.foldl E6 (r.2.a0B,r.2.fresh)).2 }) else r
def Dk.a0W (x:Dk) (t cut:Int):List Str :=
 match s9 x.fresh t with
 | some s=>x.a0B.set t.toNat (s.take (max 0 (min cut 256)).toNat++(ix x.a0B t).drop (max 0 (min cut 256)).toNat)
 | none=>x.a0B
def G7 (fr:List (Int×Str)) (l:List Str) (k:Int):List Str :=
 match s9 fr k with
 | some s=>l.set k.toNat s
 | none=>l
def Dk.a0P (x:Dk) (t cut:Int) (kept:List Int):Dk:=⟨kept.foldl (G7 x.fresh) (x.a0W t cut),[],-1,false⟩
def Dk.limit (x:Dk) (n:Int):Dk:={ x with left:=max n (-1) }
theorem M2 {x:Dk} (ok:x.Ok) {k:Int} {s:Str} (h:s9 x.fresh k=some s):s.length=256/\0<=k/\k<x.a0B.length:=by
 have hm:(k,s)∈x.fresh:=by
  have:∀ L:List (Int×Str),s9 L k=some s->(k,s)∈L:=by
   intro L
   induction L with
   | nil=>intro h; cases h
   | cons p r ih =>
    intro h; simp only [s9] at h
    by_cases hk:k=p.1
    . rw [if_pos hk] at h; simp only [b3N] at h
      exact b4D.2 (.inl (by rw [hk,<- h]))
    . rw [if_neg hk] at h; exact b5O _ (ih h)
  exact this _ h
 exact ok.a4B _ hm
theorem N5 {x:Dk} (ok:x.Ok) (k:Int):((s9 x.fresh k).getD (List.replicate 256 0)).length=256:=by
 cases h:s9 x.fresh k with
 | none=>exact b3X
 | some s=>exact (M2 ok h).1
theorem a7p {x:Dk} (ok:x.Ok) {k:Int} (h0:0<=k) (h1:k<x.a0B.length):(ix x.a0B k).length=256:=ok.len _ (b9i h0 h1)
theorem b0n {x:Dk} (ok:x.Ok):x.fresh.length<=8192:=by
 have:=e18 ok.keys (n:=x.a0B.length) (fun k hk=>by
  obtain ⟨p,hp,rfl⟩:=b5C.1 hk
  exact (ok.a4B p hp).2)
 have:=ok.max
 simp only [b6F] at *; omega
theorem b1i {x:Dk} {a:Int} {p:Bool} (h1:¬ x.a0I a=3) (h2:x.off=false) (h3:(s9 x.fresh a).isSome=p):x.read a=(bif p then (s9 x.fresh a).getD (List.replicate 256 0) else ix x.a0B a,0):=by
 rw [Dk.read,if_neg h1,if_neg (by simp [h2])]
 subst h3
 cases h:s9 x.fresh a <;> rfl
theorem a0n {x:Dk} (ok:x.Ok) (wr:Int):(x.act wr).2.Ok:=by
 have ⟨a,b,c,d,e,f⟩:=ok
 simp only [Dk.act]
 split; exact ok
 split; exact ok
 split; exact ok
 split; exact ⟨a,b,c,d,e,f⟩
 split; exact ok
 split
 . exact ⟨a,b,c,d,⟨by have:=e.1; simp only; omega,by have:=e.2; simp only; omega⟩,f⟩
 . exact ok
theorem b1d {x:Dk} (wr:Int):(x.act wr).2.a0B=x.a0B/\(x.act wr).2.fresh=x.fresh:=by
 simp only [Dk.act]
 split; exact ⟨rfl,rfl⟩
 split; exact ⟨rfl,rfl⟩
 split; exact ⟨rfl,rfl⟩
 split; exact ⟨rfl,rfl⟩
 split; exact ⟨rfl,rfl⟩
 split <;> exact ⟨rfl,rfl⟩
theorem M4 {x:Dk} {a:Int} {b:Str} {wr:Int} (hw:wr=if b.length≠256 then 2 else x.a0I a) (h:(x.act wr).1≠0):x.write a b=x.act wr:=by
 subst hw; simp only [Dk.write]; rw [if_neg h]
theorem L9 {x:Dk} {a:Int} {b:Str} {wr:Int} (hw:wr=if b.length≠256 then 2 else x.a0I a) (h:(x.act wr).1=0):x.write a b=(0,{ (x.act wr).2 with fresh:=O4 (x.act wr).2.fresh a b }):=by
 subst hw; simp only [Dk.write]; rw [if_pos h]
theorem a4f {x:Dk} {wr:Int} (h:(x.act wr).1=0):wr≠1/\wr≠2/\wr≠3:=by
 refine ⟨?_,?_,?_⟩ <;> rintro rfl <;> simp [Dk.act] at h
theorem e1u {x:Dk} (ok:x.Ok) {a:Int} {b:Str} (h0:0<=a) (h1:a<x.a0B.length) (hb:b.length=256):Dk.Ok { x with fresh:=O4 x.fresh a b }:=by
 have ⟨p,m,l,fl,e,f⟩:=ok
 refine ⟨p,m,l,fun q hq=>?_,e,b87 f⟩
 have:∀ L:List (Int×Str),(∀ p∈L,p.2.length=256/\0<=p.1/\p.1<x.a0B.length)->∀ p∈O4 L a b,p.2.length=256/\0<=p.1/\p.1<x.a0B.length:=by
  intro L
  induction L with
  | nil=>intro _ p hp; simp [O4] at hp; subst hp; exact ⟨hb,h0,h1⟩
  | cons p r ih =>
   intro hL q hq
   simp only [O4] at hq
   split at hq
   . rcases b4D.1 hq with rfl | hq
     . exact ⟨hb,h0,h1⟩
     . exact hL q (by simp [hq])
   . rcases b4D.1 hq with rfl | hq
     . exact hL _ (by simp)
     . exact ih (fun p hp=>hL p (by simp [hp])) q hq
 exact this _ fl q hq
theorem a01 {x:Dk} (ok:x.Ok) (a:Int) (b:Str):(x.write a b).2.Ok:=by
 by_cases h:(x.act (if b.length≠256 then 2 else x.a0I a)).1=0
 . rw [L9 rfl h]
   have hz:=a4f h
   have hb:b.length=256:=by
    apply b4V; intro hb; rw [if_pos hb] at hz; exact hz.2.1 rfl
   rw [if_neg (by simp [hb])] at hz
   have hw:0<=a/\a<x.a0B.length:=by
    have:=hz.2.2; simp only [Dk.a0I] at this; split at this <;> omega
   have e:=b1d (x:=x) (if b.length≠256 then 2 else x.a0I a)
   exact e1u (a0n ok _) hw.1 (by rw [e.1]; exact hw.2) hb
 . rw [M4 rfl h]; exact a0n ok _
theorem b08 {L dm:List (Int×Str)} {k:Int} {v:Str} (h:(dm.map (·.1)).Nodup) (hk:k ∉ dm.map (·.1)):((dm++[(k,v)]).map (·.1)).Nodup:=by
 rw [b6W,b9T]
 refine ⟨h,by simp,fun a ha b hb=>?_⟩
 simp at hb; subst hb
 intro e; subst e; exact hk ha
theorem b6d {L dm:List (Int×Str)} {k:Int} {v:Str} (h:∀ p∈dm.map (·.1),p∈L.map (·.1)) (hm:(k,v)∈L):∀ p∈(dm++[(k,v)]).map (·.1),p∈L.map (·.1):=by
 intro p hp
 rw [b6W,b5Y] at hp
 rcases hp with hp | hp
 . exact h p hp
 . have hp:p=k:=by simpa using hp
   rw [hp]; exact b5C.2 ⟨(k,v),hm,rfl⟩
theorem b64 {L dm:List (Int×Str)} (h:(dm.map (·.1)).Nodup) (hs:∀ p∈dm.map (·.1),p∈L.map (·.1)):dm.length<=L.length:=by
 have:=b3o h hs; simpa using this
theorem c78 {x:Dk} (ok:x.Ok) {dm:List (Int×Str)} (h:(dm.map (·.1)).Nodup) (hs:∀ p∈dm.map (·.1),p∈x.fresh.map (·.1)) (ho:∀ k,k∈x.fresh.map (·.1)->k∈dm.map (·.1)):srt (dm.map (·.1))=x.a0J :=
 d3m h ok.keys fun k=>⟨hs k,ho k⟩
theorem c4g {x:Dk} (ok:x.Ok):x.a0J.length<=8192:=by
 unfold Dk.a0J; rw [a73]; have:=b0n ok; simpa using this
theorem Z5 {x:Dk} {k:Int}:k∈x.a0J↔(s9 x.fresh k).isSome=true:=by
 unfold Dk.a0J; rw [a6z,c69]
theorem e19 {x:Dk} (ok:x.Ok) {k:Int} {v:Str} (h:(k,v)∈x.fresh):InI k:=by
 have:=ok.a4B _ h; have:=ok.max; simp only [InI]; omega
theorem X3 {x:Dk} (ok:x.Ok) {k:Int} (h:(s9 x.fresh k).isSome=true):0<=k/\k<x.a0B.length:=by
 obtain ⟨s,hs⟩:=b5T.1 h
 exact (M2 ok hs).2
theorem b0c {x:Dk} {t cut:Int} (h:(s9 x.fresh t).isSome=true):List.set x.a0B t.toNat (List.take (max 0 (min cut 256)).toNat ((s9 x.fresh t).getD (List.replicate 256 (0:UInt8)))++List.drop (max 0 (min cut 256)).toNat (ix x.a0B t))=x.a0W t cut:=by
 obtain ⟨s,hs⟩:=b5T.1 h
 simp only [Dk.a0W,hs,b9B]
theorem b0p {x:Dk} {t cut:Int} (h:(s9 x.fresh t).isSome=false):x.a0B=x.a0W t cut:=by
 have hs:s9 x.fresh t=none:=by cases e:s9 x.fresh t with | none=>rfl | some s=>rw [e] at h; cases h
 simp only [Dk.a0W,hs]
theorem a5q {α:Type} [Inhabited α] {l:List α} {i:Int} (h0:0<=i) (h1:i<l.length):l.take (i+1).toNat=l.take i.toNat++[ix l i]:=by
 have e:(i+1).toNat=i.toNat+1:=by omega
 have hi:i.toNat<l.length:=by omega
 rw [e,List.take_succ_eq_append_getElem hi,C5 hi]
theorem b0h {fr:List (Int×Str)} {kept:List Int} {i:Int} {l l0:List Str} (h:l=(kept.take i.toNat).foldl (G7 fr) l0) (h0:0<=i) (h1:i<kept.length) (hs:(s9 fr (ix kept i)).isSome=true) :
  List.set l (ix kept i).toNat ((s9 fr (ix kept i)).getD (List.replicate 256 (0:UInt8)))=(kept.take (i+1).toNat).foldl (G7 fr) l0:=by
 obtain ⟨s,hs⟩:=b5T.1 hs
 rw [a5q h0 h1,b7X,<- h]
 simp only [b7T,List.foldl_nil,G7,hs,b9B]
theorem b11 {fr:List (Int×Str)} {kept:List Int} {i:Int} {l l0:List Str} (h:l=(kept.take i.toNat).foldl (G7 fr) l0) (h0:0<=i) (h1:i<kept.length) (hs:(s9 fr (ix kept i)).isSome=false) :
  l=(kept.take (i+1).toNat).foldl (G7 fr) l0:=by
 have hs:s9 fr (ix kept i)=none:=by cases e:s9 fr (ix kept i) with | none=>rfl | some s=>rw [e] at hs; cases hs
 rw [a5q h0 h1,b7X,<- h]
 simp only [b7T,List.foldl_nil,G7,hs]
def Dk.new (n:Int):Dk:=⟨List.replicate n.toNat (List.replicate 256 0),[],-1,false⟩
theorem b9f {n:Int} (h0:1<=n) (h1:n<=8192):(Dk.new n).Ok:=by
 have e:(Dk.new n).a0B.length=n.toNat:=b3X
 refine ⟨by rw [e]; omega,by rw [e]; omega,fun s hs=>?_,fun p hp=>(by cases hp),⟨by show (-9223372036854775808:Int)<=-1; omega,by show (-1:Int)<=9223372036854775807; omega⟩,b8R⟩
 have:=List.eq_of_mem_replicate hs
 rw [this]; exact b3X
theorem b8d {L:List Int} {i:Int} {la:List Str} {fr:List (Int×Str)} {p0:List Str×List (Int×Str)} (h:(la,fr)=(L.take i.toNat).foldl E6 p0) (h0:0<=i) (h1:i<L.length) :
  (List.set la (ix L i).toNat ((s9 fr (ix L i)).getD (List.replicate 256 (0:UInt8))),a6g fr (ix L i))=(L.take (i+1).toNat).foldl E6 p0:=by
 rw [a5q h0 h1,b7X,<- h]; rfl
theorem c4h {fr:List (Int×Str)} {k:Int} (h:∀ j s,s9 fr j=some s->s.length=256):∀ j s,s9 (a6g fr k) j=some s->s.length=256:=by
 intro j s hs
 rw [a9q] at hs
 split at hs
 . cases hs
 . exact h j s hs
theorem a7n {fr:List (Int×Str)} (h:∀ j s,s9 fr j=some s->s.length=256) (k:Int):((s9 fr k).getD (List.replicate 256 (0:UInt8))).length=256:=by
 cases e:s9 fr k with
 | none=>exact b3X
 | some s=>exact h k s e
theorem a2w {x:Dk} (h:(x.act 0).1≠0):x.flush=x.act 0:=by simp only [Dk.flush]; rw [if_neg h]
theorem a8m {x:Dk} (h:(x.act 0).1=0) {la:List Str} {fr:List (Int×Str)} (e:(la,fr)=(x.act 0).2.a0J.foldl E6 ((x.act 0).2.a0B,(x.act 0).2.fresh)):x.flush=(0,⟨la,fr,(x.act 0).2.left,(x.act 0).2.off⟩):=by
 simp only [Dk.flush]; rw [if_pos h,<- e]
theorem c9z {x:Dk} (ok:x.Ok) {i:Int} (h0:0<=i) (h1:i<x.a0J.length):0<=ix x.a0J i/\ix x.a0J i<x.a0B.length:=X3 ok (Z5.1 (b9i h0 h1))
end Go.Proofs.YtckpdliipjekgaaGreat
end
section
namespace Go.Rx
open Go Go.Wk Go.Wl
section
variable {E:Env} {C:Ctx} {ρ:r9} {Z:Nat->Prop} {w:World} {its lkd:a7 E.N} {nx:Nat} {inl:Inl E}
def b2z (E:Env) (its:a7 E.N):o7 E.N:=its.filterMap fun p=>match p.2 with | .own _ _=>some (200+p.1,.ref p.1 0) | .ob _ _ _=>some (200+p.1,.ref p.1 0) | _=>none
def st0 (E:Env) (its:a7 E.N) (nx:Nat):E.St:=⟨b2z E its,[],its,nx⟩
def e0g (n:Nat) (s:E.SV):Option (List E.SV):=match n with
 | 1=>some [s]
 | _=>(match s with | .tup vs=>bif Nat.beq vs.length n then some vs else none | _=>none)
def a4c (E:Env) (its0:a7 E.N) (nx0 n:Nat) (ss:List (List LV)) (P:ShP E.N ss):E.SV->a7 E.N->Nat->Prop:=fun s its nx=>match e0g n s with
 | some vs=>rbS E [] (st0 E its0 nx0) [] ⟨number 0 vs++b2z E its0,[],its,nx⟩ ss P (fun im=>im.1)
 | none=>False
def X0 (E:Env) (n:Nat) (st:E.St):E.SV:=match n with
 | 1=>s5 [] st 0
 | n=>.tup (Q6 E st n 0)
theorem c42 {vs:List E.SV} {r:o7 E.N}:∀ (i k:Nat) (s:E.SV),lk (number i vs++r) k=some s->(∃ j,k=i+j/\vs[j]?=some s) ∨ ((∀ j,j<vs.length->k≠i+j)/\lk r k=some s):=by
 induction vs with
 | nil=>intro i k s h; exact .inr ⟨fun j hj=>by simp at hj,h⟩
 | cons v vs ih =>
  intro i k s h
  have h:(bif Nat.beq i k then some v else lk (number (i+1) vs++r) k)=some s:=h
  cases hb:Nat.beq i k with
  | true =>
   simp_all
  | false =>
   rw [hb,b4X] at h
   have hne:i≠k:=fun e=>by simp_all
   rcases ih (i+1) k s h with ⟨j,e,hj⟩ | ⟨h1,h2⟩
   . exact .inl ⟨j+1,by omega,by simp_all⟩
   . refine .inr ⟨fun j hj=>?_,h2⟩
     cases j with
     | zero=>omega
     | succ j=>have:=h1 j (by simp_all); omega
theorem b1r (hE:l7 E) (hI:N7 E inl) {K n:Nat} {fn:Func} {an:Ann} (hf:E.P.funcs[K]?=some fn) (hn:Nat.ble n 200=true) {args:List E.SV} {ss:List (List LV)} {P:ShP E.N ss} {S:PT E.N}
  (hv:o9 inl an fn args its [] nx (a4c E its nx n ss P)) (hS:∀ k,S k->b2u E [] (st0 E its nx) ss P (fun im new=>im.1->k (X0 E n new) new.items new.nx)):r6 E.P E.N E.T E.G K args its nx S:=by
 intro k hk ρ Z w vs B hfr hsep hg ha
 have hn:=b4T hn
 let C:Ctx:=⟨ρ,Z,w,B,w⟩
 have hm:Mem E C ρ Z w (its++[]) nx:=⟨by grind,hfr,fun _ _ h=>h,fun _ h=>h,fun _ h=>.inl h⟩
 refine (U4 hE hI hf hv hm hg ha).mono fun v w' ⟨ρ',Z',s,its',nx',hm',ht,hr,hp⟩=>?_
 unfold a4c at hp
 split at hp
 . rename_i vs' hvs
   let fb:Fr:=fun k=>match ρ (k-200) with | some L=>.pointer (some ⟨L.b,0,none⟩) | none=>Go.undef
   have hb:∀ k s,lk (b2z E its) k=some s->∃ i L,k=200+i/\s=.ref i 0/\ρ i=some L:=fun k s h=>by
    obtain ⟨j,hj,_⟩:=v6 h
    obtain ⟨p,hp,e⟩:=b8L.1 (b4S hj)
    obtain ⟨j2,hj2⟩:=b6Z hp
    have hh:=hm.holds (n8 (l2:=[]) hj2)
    obtain ⟨L,hL⟩:=(P7 hh).1
    grind
   have hfb:∀ i L,ρ i=some L->fb (200+i)=.pointer (some ⟨L.b,0,none⟩):=fun i L h=>by
    grind
   have h0:Rel E C [] [] (st0 E its nx) ρ Z fb w:=⟨fun k s h=>by
    obtain ⟨i,L,rfl,rfl,hL⟩:=hb k s h
    rw [hfb i L hL]; exact .ref hL,fun p hp=>(by cases hp),fun k j b s e=>(by cases e),hm,Tn.refl _ _ _,hg⟩
   -- the answers
   have hans:∃ us:List Value,us.length=vs'.length/\vs'.length<=200/\(∀ (i:Nat) (u:Value) (s:E.SV),us[i]?=some u->vs'[i]?=some s->Rep E.N E.T ρ' Z' w' u s) /\
     ∀ (f:Fr) (new:E.St) (ρ2:r9),(∀ i u,us[i]?=some u->f i=u)->(∀ i,i<vs'.length->Rep E.N E.T ρ2 Z' w' (f i) (s5 [] new i))->Rep E.N E.T ρ2 Z' w' v (X0 E n new):=by
    by_cases e:n=1
    . subst e
      simp only [e0g,b3N] at hvs
      subst hvs
      refine ⟨[v],rfl,(by simp),fun i u s hu hs=>?_,fun f new ρ2 h1 h2=>?_⟩
      . grind
      . have:=h2 0 (by simp)
        rw [h1 0 v rfl] at this; exact this
    . have h':∃ vs,s=.tup vs/\vs'=vs/\vs.length=n:=by
        unfold e0g at hvs
        split at hvs
        . omega
        . split at hvs
          . rename_i vs
            have ⟨h1,h2⟩:=j7 hvs
            simp_all
          . cases hvs
      obtain ⟨vs2,rfl,rfl,hl⟩:=h'
      obtain ⟨cs,rfl⟩:=Rep.a2Y hr
      obtain ⟨g1,g2⟩:=a5P.get hr
      refine ⟨cs,g1,by omega,g2,fun f new ρ2 h1 h2=>?_⟩
      have:X0 E n new=.tup (Q6 E new n 0):=by
       unfold X0
       split
       . omega
       . rfl
      rw [this]
      refine a5P.a5N (by rw [g1,hl,a1p]) fun i u s hu hs=>?_
      obtain ⟨a,b⟩:=a1r n 0 i s hs
      grind
   obtain ⟨us,u1,u200,u2,u3⟩:=hans
   let f':Fr:=fun k=>match us[k]? with | some u=>u | none=>fb k
   have hf1:∀ i u,us[i]?=some u->f' i=u:=fun i u h=>by grind
   have hf2:∀ i,us.length<=i->f' i=fb i:=fun i h=>by grind
   let st1:E.St:=⟨number 0 vs'++b2z E its,[],its',nx'⟩
   have hwo:n9 its (its.map (·.1))=[]:=by
    unfold n9
    rw [List.filter_eq_nil_iff]
    intro p hp
    have:(its.map (·.1)).elem p.1=true:=List.elem_eq_true_of_mem (b5C.2 ⟨p,hp,rfl⟩)
    rw [this]; simp
   have h1:Rel E (C.at ρ Z w) (D4 [] (st0 E its nx) []++[]) (n9 (st0 E its nx).items (its.map (·.1))++[]) st1 ρ' Z' f' w':=by
    refine ⟨fun k s h=>?_,fun p hp=>(by cases hp),fun k j b s e=>(by cases e),?_,ht,hg⟩
    . rcases c42 0 k s h with ⟨j,rfl,hj⟩ | ⟨h1,h2⟩
      . grind
      . obtain ⟨i,L,rfl,rfl,hL⟩:=hb k s h2
        rw [hf2 _ (by omega),hfb i L hL]
        exact .ref (ht.rho _ _ hL)
    . show Mem E _ ρ' Z' w' (its'++(n9 its (its.map (·.1))++[])) nx'
      rw [hwo]; exact hm'
   obtain ⟨new,ρ2,a,ha1,hG,hrel⟩:=b3m (keep:=[]) (ids:=its.map (·.1)) h0 h1 ss P hp (hS k hk)
   have hmn:Mem E (C.at ρ Z w) ρ2 Z' w' (new.items++(n9 its (its.map (·.1))++[])) new.nx:=hrel.mem
   rw [hwo,b4M,b4M] at hmn
   refine ⟨ρ2,Z',X0 E n new,new.items,new.nx,hmn.sep,hmn.fr,hmn.ge,hmn.zge,hmn.zle,u3 f' new ρ2 hf1 (fun i hi=>?_),hG ha1⟩
   have:=hrel.slot i
   exact this
 simp_all
end
end Go.Rx
end
section
namespace Go.Rx
open Go Go.Wk Go.Wl
section
variable {N:Uni} {T:O9} {ρ:r9} {Z:Nat->Prop} {w:World} {P:Program} {G:a0w} {K nx:Nat} {c:CR N}
theorem S9.a2T {a b:List (SV N)} (h:S9 P N T G K b nx c) (hw:∀ ρ Z w v,Rep N T ρ Z w v (.tup a)->Rep N T ρ Z w v (.tup b)):S9 P N T G K a nx c :=
 ⟨fun ρ Z w vs h1 h2 h3 h4=>h.run ρ Z w vs h1 h2 h3 (hw ρ Z w _ h4)⟩
end
end Go.Rx
end
section
namespace Go.Rx
open Go Go.Wk Go.Wl
def vTc (N:Uni):List TK->Type
 | []=>Unit
 | .v k::r=>k.den N×vTc N r
 | .to _::r=>vTc N r
 | .a0U::r=>vTc N r
 | .any::r=>vTc N r
def vTp (N:Uni):List TP->Type
 | []=>Unit
 | .own _ _ ks::r=>vTc N ks×vTp N r
 | .ob _ k::r=>N.O k×vTp N r
def vC (N:Uni):List LV->Type
 | []=>Unit
 | .slot _ k::r=>k.den N×vC N r
 | .tree _ ps::r=>vTp N ps×vC N r
 | _::_=>Unit
def a1m {N:Uni} {α:Type}:(ks:List TK)->tcD N α ks->vTc N ks->α
 | [],f,_=>f
 | .v _::r,f,X=>a1m r (f X.1) X.2
 | .to _::r,f,X=>a1m r f X
 | .a0U::r,f,X=>a1m r f X
 | .any::r,f,X=>a1m r f X
def a1k {N:Uni} {α:Type}:(ps:List TP)->tpD N α ps->vTp N ps->α
 | [],f,_=>f
 | .own _ _ ks::r,f,X=>a1k r (a1m ks f X.1) X.2
 | .ob _ _::r,f,X=>a1k r (f X.1) X.2
def a9w {N:Uni} {α:Type} (d:α):(vs:List LV)->Cur N α vs->vC N vs->α
 | [],f,_=>f
 | .slot _ _::r,f,X=>a9w d r (f X.1) X.2
 | .tree _ ps::r,f,X=>a9w d r (a1k ps f X.1) X.2
 | _::_,_,_=>d
def b93 {N:Uni} {γ:Type}:(ks:List TK)->vTc N ks->List Prop->(List Prop->γ)->tcD N γ ks
 | [],_,ps,K=>K ps
 | .v _::r,X,ps,K=>fun y=>b93 r X.2 (ps++[y=X.1]) K
 | .to _::r,X,ps,K=>b93 r X ps K
 | .a0U::r,X,ps,K=>b93 r X ps K
 | .any::r,X,ps,K=>b93 r X ps K
def b75 {N:Uni} {γ:Type}:(ps:List TP)->vTp N ps->List Prop->(List Prop->γ)->tpD N γ ps
 | [],_,qs,K=>K qs
 | .own _ _ ks::r,X,qs,K=>b93 ks X.1 qs (fun qs=>b75 r X.2 qs K)
 | .ob _ _::r,X,qs,K=>fun y=>b75 r X.2 (qs++[y=X.1]) K
def eqC {N:Uni}:(vs:List LV)->vC N vs->List Prop->Cur N Prop vs
 | [],_,ps=>cjl ps
 | .slot _ _::r,X,ps=>fun y=>eqC r X.2 (ps++[y=X.1])
 | .tree _ qs::r,X,ps=>b75 qs X.1 ps (fun ps=>eqC r X.2 ps)
 | v::r,_,ps=>P4 (cjl ps) (v::r)
def a34 (E:Env) (nm:List Nat):(ks:List TK)->Nat->a7 E.N->List E.SV->vTc E.N ks->Nat×a7 E.N×List E.SV
 | [],nx,its,acc,_=>(nx,its,acc)
 | .v k::r,nx,its,acc,X=>a34 E nm r (fl1 E nx k X.1).2.2 ((fl1 E nx k X.1).2.1++its) (acc++[(fl1 E nx k X.1).1]) X.2
 | .to j::r,nx,its,acc,X=>a34 E nm r nx its (acc++[.ref (nm.getD j 0) 0]) X
 | .a0U::r,nx,its,acc,X=>a34 E nm r nx its (acc++[.con (.pointer none)]) X
 | .any::r,nx,its,acc,X=>a34 E nm r nx its (acc++[.un]) X
def b0w (E:Env) (nm:List Nat):(ps:List TP)->Nat->Nat->a7 E.N->vTp E.N ps->Nat×a7 E.N
 | [],_,nx,its,_=>(nx,its)
 | .own _ T ks::r,i,nx,its,X=>b0w E nm r (i+1) (a34 E nm ks nx its [] X.1).1 ((nm.getD i 0,.own T (a34 E nm ks nx its [] X.1).2.2)::(a34 E nm ks nx its [] X.1).2.1) X.2
 | .ob _ k::r,i,nx,its,X=>b0w E nm r (i+1) (nx+1) ((nm.getD i 0,.ob k nx X.1)::its) X.2
def c7i (E:Env) (fx:o7 E.N) (st:E.St):(vs:List LV)->vC E.N vs->E.St->E.St
 | [],_,new=>new
 | .slot s k::r,X,new=>c7i E fx st r X.2 ⟨(s,(fl1 E new.nx k X.1).1)::new.slots,[],(fl1 E new.nx k X.1).2.1++new.items,(fl1 E new.nx k X.1).2.2⟩
 | .tree ss ps::r,X,new=>c7i E fx st r X.2 ⟨(ss.map fun p=>(p.1,.ref ((tnm new.nx 0 (a0g fx st ps)).getD p.2 0) 0))++new.slots,[],(b0w E (tnm new.nx 0 (a0g fx st ps)) ps 0 (new.nx+ps.length) new.items X.1).2,(b0w E (tnm new.nx 0 (a0g fx st ps)) ps 0 (new.nx+ps.length) new.items X.1).1⟩
 | _::_,_,new=>new
section
variable {E:Env} {fx:o7 E.N} {st:E.St}
theorem a1x {nm:List Nat} {α:Type} {G:α->Nat->a7 E.N->List E.SV->Prop}:∀ (ks:List TK) (f:tcD E.N α ks) (nx:Nat) (its:a7 E.N) (acc:List E.SV),(∀ Y,G (a1m ks f Y) (a34 E nm ks nx its acc Y).1 (a34 E nm ks nx its acc Y).2.1 (a34 E nm ks nx its acc Y).2.2)->a6b E nm ks nx its acc f G
 | [],f,nx,its,acc,h=>h ()
 | .v k::r,f,nx,its,acc,h=>fun x=>a1x r (f x) _ _ _ fun Y=>h (x,Y)
 | .to j::r,f,nx,its,acc,h=>a1x r f _ _ _ h
 | .a0U::r,f,nx,its,acc,h=>a1x r f _ _ _ h
 | .any::r,f,nx,its,acc,h=>a1x r f _ _ _ h
theorem a8h {nm:List Nat} {α:Type} {G:α->Nat->a7 E.N->Prop}:∀ (ps:List TP) (f:tpD E.N α ps) (i nx:Nat) (its:a7 E.N),(∀ Y,G (a1k ps f Y) (b0w E nm ps i nx its Y).1 (b0w E nm ps i nx its Y).2)->b19 E nm ps i nx its f G
 | [],f,i,nx,its,h=>h ()
 | .own _ T ks::r,f,i,nx,its,h=>a1x ks f nx its [] fun Y=>a8h r _ _ _ _ fun Z=>h (Y,Z)
 | .ob _ k::r,f,i,nx,its,h=>fun x=>a8h r (f x) _ _ _ fun Z=>h (x,Z)
theorem b2c {α:Type} {d:α} {G:α->E.St->Prop}:∀ (vs:List LV) (f:Cur E.N α vs) (new:E.St),a6m vs=true->(∀ Y,G (a9w d vs f Y) (c7i E fx st vs Y new))->S6 E fx st vs f new G
 | [],f,new,_,h=>h ()
 | .slot s k::r,f,new,ho,h=>fun x=>b2c r (f x) _ ho fun Y=>h (x,Y)
 | .tree ss ps::r,f,new,ho,h=>a8h ps f 0 _ _ fun Y=>b2c r _ _ ho fun Z=>h (Y,Z)
 | .own _ _::_,_,_,ho,_=>by cases ho
 | .ob _ _::_,_,_,ho,_=>by cases ho
 | .cont _ _::_,_,_,ho,_=>by cases ho
 | .chain _ _ _ _::_,_,_,ho,_=>by cases ho
 | .rows _ _ _ _::_,_,_,ho,_=>by cases ho
 | .alt::_,_,_,ho,_=>by cases ho
 | .unr _::_,_,_,ho,_=>by cases ho
end
section
variable {N:Uni}
theorem a00 {α β γ:Type} {g:α->β->γ}:∀ (ks:List TK) (a:tcD N α ks) (b:tcD N β ks) (Y:vTc N ks),a1m ks (b0k g ks a b) Y=g (a1m ks a Y) (a1m ks b Y)
 | [],_,_,_=>rfl
 | .v k::r,a,b,Y=>a00 r (a Y.1) (b Y.1) Y.2
 | .to _::r,a,b,Y=>a00 r a b Y
 | .a0U::r,a,b,Y=>a00 r a b Y
 | .any::r,a,b,Y=>a00 r a b Y
theorem a5a {α β γ:Type} {g:α->β->γ}:∀ (ps:List TP) (a:tpD N α ps) (b:tpD N β ps) (Y:vTp N ps),a1k ps (b5r g ps a b) Y=g (a1k ps a Y) (a1k ps b Y)
 | [],_,_,_=>rfl
 | .own _ _ ks::r,a,b,Y =>
  have e:=a00 (g:=b5r g r) ks (show tcD N (tpD N α r) ks from a) (show tcD N (tpD N β r) ks from b) Y.1
  (congrArg (fun z=>a1k r z Y.2) e).trans (a5a r _ _ Y.2)
 | .ob _ _::r,a,b,Y=>a5a r (a Y.1) (b Y.1) Y.2
theorem a8p {α β:Type} {d:α} {e:β}:∀ (vs:List LV) (a:Cur N α vs) (b:Cur N β vs) (Y:vC N vs),a6m vs=true->a9w (d,e) vs (a1b vs a b) Y=(a9w d vs a Y,a9w e vs b Y)
 | [],_,_,_,_=>rfl
 | .slot s k::r,a,b,Y,ho=>a8p r (a Y.1) (b Y.1) Y.2 ho
 | .tree ss ps::r,a,b,Y,ho =>
  have h:=a5a (g:=a1b r) ps (show tpD N (Cur N α r) ps from a) (show tpD N (Cur N β r) ps from b) Y.1
  (congrArg (fun z=>a9w (d,e) r z Y.2) h).trans (a8p r _ _ Y.2 ho)
 | .own _ _::_,_,_,_,ho=>by cases ho
 | .ob _ _::_,_,_,_,ho=>by cases ho
 | .cont _ _::_,_,_,_,ho=>by cases ho
 | .chain _ _ _ _::_,_,_,_,ho=>by cases ho
 | .rows _ _ _ _::_,_,_,_,ho=>by cases ho
 | .alt::_,_,_,_,ho=>by cases ho
 | .unr _::_,_,_,_,ho=>by cases ho
theorem c0a:∀ {l:List Prop},cjl l->∀ p∈l,p
 | [],_,p,hp=>by cases hp
 | [q],h,p,hp=>by rw [b4U.1 hp]; exact h
 | q::r::l,h,p,hp=>by
  rcases b4D.1 hp with e | hp
  . rw [e]; exact h.1
  . exact c0a h.2 p hp
theorem a1f {γ:Type}:∀ (ks:List TK) (X Y:vTc N ks) (ps:List Prop) (K:List Prop->γ),∃ l:List Prop,a1m ks (b93 ks X ps K) Y=K (ps++l)/\((∀ p∈l,p)->Y=X)
 | [],_,_,ps,K=>⟨[],by rw [b4M]; rfl,fun _=>rfl⟩
 | .v k::r,X,Y,ps,K=>by
  obtain ⟨l,h1,h2⟩:=a1f r X.2 Y.2 (ps++[Y.1=X.1]) K
  exact ⟨(Y.1=X.1)::l,by rw [c0C]; exact h1,fun h=>c0D (h _ (b6B ..)) (h2 fun p hp=>h p (b5O _ hp))⟩
 | .to _::r,X,Y,ps,K=>a1f r X Y ps K
 | .a0U::r,X,Y,ps,K=>a1f r X Y ps K
 | .any::r,X,Y,ps,K=>a1f r X Y ps K
theorem a8v {γ:Type}:∀ (qs:List TP) (X Y:vTp N qs) (ps:List Prop) (K:List Prop->γ),∃ l:List Prop,a1k qs (b75 qs X ps K) Y=K (ps++l)/\((∀ p∈l,p)->Y=X)
 | [],_,_,ps,K=>⟨[],by rw [b4M]; rfl,fun _=>rfl⟩
 | .own _ _ ks::r,X,Y,ps,K=>by
  obtain ⟨l1,h1,h2⟩:=a1f ks X.1 Y.1 ps (fun ps=>b75 r X.2 ps K)
  obtain ⟨l2,h3,h4⟩:=a8v r X.2 Y.2 (ps++l1) K
  refine ⟨l1++l2,?_,fun h=>c0D (h2 fun p hp=>h p (b6V _ hp)) (h4 fun p hp=>h p (b7J _ hp))⟩
  show a1k r (a1m ks (b93 ks X.1 ps (fun ps=>b75 r X.2 ps K)) Y.1) Y.2=_
  simp_all
 | .ob _ _::r,X,Y,ps,K=>by
  obtain ⟨l,h1,h2⟩:=a8v r X.2 Y.2 (ps++[Y.1=X.1]) K
  exact ⟨(Y.1=X.1)::l,by rw [c0C]; exact h1,fun h=>c0D (h _ (b6B ..)) (h2 fun p hp=>h p (b5O _ hp))⟩
theorem b1x:∀ (vs:List LV) (X Y:vC N vs) (ps:List Prop),a6m vs=true->∃ l:List Prop,a9w False vs (eqC vs X ps) Y=cjl (ps++l)/\((∀ p∈l,p)->Y=X)
 | [],_,_,ps,_=>⟨[],by rw [b4M]; rfl,fun _=>rfl⟩
 | .slot s k::r,X,Y,ps,ho=>by
  obtain ⟨l,h1,h2⟩:=b1x r X.2 Y.2 (ps++[Y.1=X.1]) ho
  exact ⟨(Y.1=X.1)::l,by rw [c0C]; exact h1,fun h=>c0D (h _ (b6B ..)) (h2 fun p hp=>h p (b5O _ hp))⟩
 | .tree ss qs::r,X,Y,ps,ho=>by
  obtain ⟨l1,h1,h2⟩:=a8v qs X.1 Y.1 ps (fun ps=>eqC r X.2 ps)
  obtain ⟨l2,h3,h4⟩:=b1x r X.2 Y.2 (ps++l1) ho
  refine ⟨l1++l2,?_,fun h=>c0D (h2 fun p hp=>h p (b6V _ hp)) (h4 fun p hp=>h p (b7J _ hp))⟩
  show a9w False r (a1k qs (b75 qs X.1 ps (fun ps=>eqC r X.2 ps)) Y.1) Y.2=_
  simp_all
 | .own _ _::_,_,_,_,ho=>by cases ho
 | .ob _ _::_,_,_,_,ho=>by cases ho
 | .cont _ _::_,_,_,_,ho=>by cases ho
 | .chain _ _ _ _::_,_,_,_,ho=>by cases ho
 | .rows _ _ _ _::_,_,_,_,ho=>by cases ho
 | .alt::_,_,_,_,ho=>by cases ho
 | .unr _::_,_,_,_,ho=>by cases ho
end
section
variable {E:Env} {fx:o7 E.N} {st:E.St}
theorem d3r {vs:List LV} {X:vC E.N vs} {ps:List Prop} {m:Cur E.N Nat vs} {new:E.St} {K:E.St->Prop} (ho:a6m vs=true) (h:cjl ps->K (c7i E fx st vs X new)):S6 E fx st vs (a1b vs (eqC vs X ps) m) new (fun im new'=>im.1->K new') :=
 b2c (d:=(False,0)) vs _ new ho fun Y=>by
  rw [a8p _ _ _ _ ho]
  intro hc
  obtain ⟨l,e,hl⟩:=b1x vs X Y ps ho
  have hc:a9w False vs (eqC vs X ps) Y:=hc
  rw [e] at hc
  obtain ⟨h1,h2⟩:=c1i hc
  have:=hl (c0a h2)
  simp_all
def RS (N:Uni):List (List LV)->Type
 | []=>Unit
 | vs::r=>(List Prop×vC N vs)×RS N r
def shP {N:Uni}:(ss:List (List LV))->RS N ss->ShP N ss
 | [],_=>()
 | vs::r,R=>((eqC vs R.1.2 R.1.1,P4 0 vs),shP r R.2)
def stC (E:Env) (its:a7 E.N) (nx:Nat) (vs:List LV) (X:vC E.N vs):E.St:=c7i E [] (st0 E its nx) vs X ⟨[],[],[],nx⟩
def a3r (E:Env) (its:a7 E.N) (nx n:Nat):(ss:List (List LV))->RS E.N ss->PT E.N
 | [],_,_=>True
 | [vs],R,k=>cjl R.1.1->k (X0 E n (stC E its nx vs R.1.2)) (stC E its nx vs R.1.2).items (stC E its nx vs R.1.2).nx
 | vs::v2::r,R,k=>(cjl R.1.1->k (X0 E n (stC E its nx vs R.1.2)) (stC E its nx vs R.1.2).items (stC E its nx vs R.1.2).nx)/\a3r E its nx n (v2::r) R.2 k
theorem c3o {its:a7 E.N} {nx n:Nat} {vs:List LV}:∀ {r:List (List LV)} {R:RS E.N (vs::r)} {k:E.SV->a7 E.N->Nat->Prop},a3r E its nx n (vs::r) R k->(cjl R.1.1->k (X0 E n (stC E its nx vs R.1.2)) (stC E its nx vs R.1.2).items (stC E its nx vs R.1.2).nx)/\a3r E its nx n r R.2 k
 | [],_,_,h=>⟨h,trivial⟩
 | _::_,_,_,h=>h
theorem a7j {its:a7 E.N} {nx n:Nat} {k:E.SV->a7 E.N->Nat->Prop}:∀ (ss:List (List LV)) (R:RS E.N ss),ss.all a6m=true->a3r E its nx n ss R k->b2u E [] (st0 E its nx) ss (shP ss R) (fun im new=>im.1->k (X0 E n new) new.items new.nx)
 | [],_,_,_=>trivial
 | vs::r,R,ho,h=>by
  simp only [b7A,b3R] at ho
  obtain ⟨h1,h2⟩:=c3o h
  exact ⟨d3r ho.1 fun hp=>h1 hp,a7j r R.2 ho.2 h2⟩
def K8 (E:Env) (obs:List Prop) (its:a7 E.N) (nx n:Nat) (vs:List LV) (X:vC E.N vs):FR E.N:=⟨obs,[],X0 E n (stC E its nx vs X),(stC E its nx vs X).items,(stC E its nx vs X).nx⟩
variable {inl:Inl E}
theorem G8 (hE:l7 E) (hI:N7 E inl) {K n:Nat} {fn:Func} {an:Ann} (hf:E.P.funcs[K]?=some fn) (hn:Nat.ble n 200=true) {args:List E.SV} {its:a7 E.N} {nx:Nat} {vs:List LV} {X:vC E.N vs} {obs:List Prop} (ho:a6m vs=true)
  (hv:o9 inl an fn args its [] nx (a4c E its nx n [vs] (shP [vs] (([],X),())))):r6 E.P E.N E.T E.G K args its nx (fun k=>n6 (K8 E obs its nx n vs X).hy->k (K8 E obs its nx n vs X).v (K8 E obs its nx n vs X).its (K8 E obs its nx n vs X).n) :=
 b1r hE hI hf hn hv fun k hk=>a7j [vs] (([],X),()) (by simp [ho]) fun _=>hk trivial
theorem a44 (hE:l7 E) (hI:N7 E inl) {K n:Nat} {fn:Func} {an:Ann} (hf:E.P.funcs[K]?=some fn) (hn:Nat.ble n 200=true) {args:List E.SV} {its:a7 E.N} {nx:Nat} {ss:List (List LV)} {R:RS E.N ss} {obs:List Prop} (ho:ss.all a6m=true)
  (hv:n6 obs->o9 inl an fn args its [] nx (a4c E its nx n ss (shP ss R))):r6 E.P E.N E.T E.G K args its nx (fun k=>cj obs (a3r E its nx n ss R k)) :=
 fun k hk=>by
  obtain ⟨h1,h2⟩:=R2 hk
  exact b1r hE hI hf hn (hv h1) (S:=fun k=>a3r E its nx n ss R k) (fun k hk=>a7j ss R ho hk) k h2
structure GD (N:Uni) where
 fz:List Nat
 ss:List (List LV)
 C:GC N
def d1q (E:Env) (M:Nat->Option (GD E.N)) (inl:Inl E):Inl E:=fun K args its lkd nx k=>match M K with
 | none=>inl K args its lkd nx k
 | some o=>(match b3l (E:=E) ⟨o.fz,o.ss,fun _ _=>none⟩ args its nx with
  | none=>inl K args its lkd nx k
  | some (a,i,m)=>bif (E.inl K).isSome && distinct (reach i 60 (a.flatMap a8w) []) then
   (match a98 (a0r (E8 i (reach i 60 (a.flatMap a8w) [])) 0) a,c2l i (a0r (E8 i (reach i 60 (a.flatMap a8w) [])) 0) 0 (reach i 60 (a.flatMap a8w) []) with
   | some a',some i'=>(match o.C a' i' with
    | some S=>S (fun s it n=>match c90 (a66 (E8 i (reach i 60 (a.flatMap a8w) [])) m) s,b0r (a66 (E8 i (reach i 60 (a.flatMap a8w) [])) m) it with
     | some s',some it'=>k s' (it'++n9 i (reach i 60 (a.flatMap a8w) [])) (m+(n-(E8 i (reach i 60 (a.flatMap a8w) [])).length))
     | _,_=>False)
    | none=>inl K args its lkd nx k)
   | _,_=>False) else False)
theorem c1h {M:Nat->Option (GD E.N)} (hM:∀ K o args its S,M K=some o->o.C args its=some S->r6 E.P E.N E.T E.G K args its (2 * its.length) S) (hI:N7 E inl):N7 E (d1q E M inl):=by
 intro K args its lkd nx k hv
 unfold d1q at hv
 split at hv
 . exact hI K args its lkd nx k hv
 . rename_i o hC
   split at hv
   . exact hI K args its lkd nx k hv
   . rename_i a i m hA
     cases hb:((E.inl K).isSome && distinct (reach i 60 (a.flatMap a8w) [])) with
     | false=>simp_all
     | true =>
      rw [hb,b4G] at hv
      simp only [b3R] at hb
      obtain ⟨hin,hd⟩:=hb
      refine ⟨hin,fun C ρ Z w vs hm hg ha0=>?_⟩
      obtain ⟨ρ1,Z1,m1,t1,a1⟩:=b14 hg hm hA ha0
      split at hv
      . rename_i a' i' ha hi
        split at hv
        . rename_i S hS
          exact (c1o hd ha hi (hM K o a' i' S hC hS) hv m1 (a0w.turn hg t1) a1).mono fun v w' ⟨ρ',Z',s,its',nx',q1,q2,q3,q4⟩=>⟨ρ',Z',s,its',nx',q1,t1.trans q2,q3,q4⟩
        . exact (hI K args its lkd nx k hv).2 C ρ Z w vs hm hg ha0
      simp_all
def Z4 (E:Env) (H:Nat->Option (GD E.N)) (an:Nat->Ann):Nat->Inl E
 | 0=>d1q E H (fun _ _ _ _ _ _=>False)
 | n+1=>d1q E H (fun K args its lkd nx k=>match E.inl K with | some fn=>o9 (Z4 E H an n) (an K) fn args its lkd nx k | none=>False)
theorem l5 (hE:l7 E) {H:Nat->Option (GD E.N)} (hH:∀ K o args its S,H K=some o->o.C args its=some S->r6 E.P E.N E.T E.G K args its (2 * its.length) S) (an:Nat->Ann):∀ m,N7 E (Z4 E H an m)
 | 0=>c1h hH fun _ _ _ _ _ _ h=>h.elim
 | m+1=>c1h hH fun K args its lkd nx k h=>by
  have h:(match E.inl K with | some fn=>o9 (Z4 E H an m) (an K) fn args its lkd nx k | none=>False):=h
  split at h
  . rename_i fn hf
    exact ⟨by rw [hf]; rfl,fun C ρ Z w vs hm hg ha=>U4 hE (l5 hE hH an m) (hE.inl K fn hf) h hm hg ha⟩
  simp_all
def noH {N:Uni}:Nat->Option (GD N):=fun _=>none
theorem d9y {P:Program} {N:Uni} {T:O9} {G:a0w}:∀ K o args its S,(noH:Nat->Option (GD N)) K=some o->o.C args its=some S->r6 P N T G K args its (2 * its.length) S:=fun _ _ _ _ _ h=>by cases h
theorem I8 {P:Program} {N:Uni} {T:O9} {G:a0w} {M:Nat->Option (GD N)} {K:Nat} {o:GD N} (h:∀ args its S,o.C args its=some S->r6 P N T G K args its (2 * its.length) S) (hM:∀ K o args its S,M K=some o->o.C args its=some S->r6 P N T G K args its (2 * its.length) S):∀ K' o' args its S,S7 K o M K'=some o'->o'.C args its=some S->r6 P N T G K' args its (2 * its.length) S:=fun K' o' args its S e hr=>by
 rcases N6 e with ⟨e1,e2⟩ | e
 all_goals simp_all
theorem P3 {P:Program} {N:Uni} {T:O9} {G:a0w} {K nx nx':Nat} {args:List (SV N)} {its new:a7 N} {s:SV N}
  (h:∀ (ρ:r9) (Z:Nat->Prop) (w:World) (vs:List Value),(∀ i,nx<=i->ρ i=none)->(∀ b,Z b->b<w.heap.size)->G.is Z w->Rep N T ρ Z w (.tuple vs.toArray) (.tup args)->(∀ p∈its,Go.Rx.holds N T ρ p.1 Z w p.2/\∀ b∈u5 N ρ p.1 p.2,¬ Z b) ->
   A6 P K vs w (fun v w'=>∃ (ρ':r9) (Z':Nat->Prop),(∀ i L,ρ i=some L->ρ' i=some L)/\(∀ i,nx'<=i->ρ' i=none)/\(∀ b,Z b->Z' b)/\(∀ b,Z' b->Z b ∨ w.heap.size<=b)/\Sep [] w Z' w' (s6 N T ρ' [] new)/\Rep N T ρ' Z' w' v s)) :
  r6 P N T G K args its nx (fun k=>True->k s (new++its) nx'):=by
 intro k hk ρ Z w vs B hfr hsep hg ha
 refine (h ρ Z w vs hfr hsep.zlt hg ha fun p hp=>?_).mono fun v w' ⟨ρ',Z',h1,h2,h3,h4,h5,h6⟩=>?_
 . obtain ⟨j,hj⟩:=b6Z hp
   have hj':(s6 N T ρ B its)[j]?=some (H2 N T ρ B p.1 p.2):=by simp [s6,hj]
   have ok:=hsep.ok j _ hj'
   exact ⟨ok.holds,fun b hb=>ok.a1X b hb⟩
 . let E0:Env:=⟨P,N,T,fun _=>none,fun _=>none,fun _=>none,fun _=>false,fun _=>none,fun _=>none,G,fun _=>none,fun _=>false,fun _=>none,fun _=>none,none⟩
   have hm:Mem E0 ⟨ρ,Z,w,B,w⟩ ρ Z w its nx:=⟨hsep,hfr,fun _ _ h=>h,fun _ h=>h,fun _ h=>.inl h⟩
   have ⟨m,t⟩:=hm.join (E:=E0) h1 h2 h3 h4 h5
   exact ⟨ρ',Z',s,new++its,nx',m.sep,m.fr,h1,h3,fun b hb=>(h4 b hb).imp id .inr,h6,hk trivial⟩
theorem a9u {P:Program} {N:Uni} {T:O9} {G:a0w} {K k:Nat} {rest:List (SV N)} {x x':N.O k} {s:SV N} (hp:rest.all H9=true)
  (h:∀ (Z:Nat->Prop) (w:World) (vs:List Value) (b:Nat) (F:List Nat),(∀ b,Z b->b<w.heap.size)->(∀ b∈F,¬ Z b)->((N.oj k).ob b).is Z w x F->G.is Z w->Rep N T (fun _=>none) Z w (.tuple vs.toArray) (.tup rest) ->
   A6 P K (.pointer (some ⟨b,0,none⟩)::vs) w (fun v w'=>∃ F',((N.oj k).ob b).is Z w' x' F'/\S5 w w' F F'/\Rep N T (fun _=>none) (fun _=>False) w' v s)) :
  r6 P N T G K (.ref 0 0::rest) [(0,.ob k 1 x)] 2 (fun k'=>True->k' s [(0,.ob k 2 x')] 3):=by
 intro kk hk ρ Z w vs B hfr hsep hg ha
 let E0:Env:=⟨P,N,T,fun _=>none,fun _=>none,fun _=>none,fun _=>false,fun _=>none,fun _=>none,G,fun _=>none,fun _=>false,fun _=>none,fun _=>none,none⟩
 have ok:=hsep.ok 0 (H2 N T ρ B 0 (.ob k 1 x)) rfl
 obtain ⟨L,Lf,hL,hLf,hob⟩:=ok.holds
 have hF:(H2 N T ρ B 0 (.ob k 1 x)).F=Lf.bs:=by show u5 N ρ 0 (.ob k 1 x)=_; exact D6 hLf
 obtain ⟨v1,vr,hvs,hv1,hvr⟩:=Rep.a0H ha
 have hv1':v1=.pointer (some ⟨L.b,0,none⟩):=by
  cases hv1 with | ref hL'=>simp_all
 subst hv1'
 rw [hvs]
 have hnz:∀ b∈Lf.bs,¬ Z b:=fun b hb=>ok.a1X b (by simp_all)
 refine (h Z w vr L.b Lf.bs hsep.zlt hnz hob hg (K5 (E:=E0) hp hvr _)).mono fun v w' ⟨F',hob',⟨x1,hF'⟩,hrep⟩=>?_
 have lt':=((N.oj k).ob L.b).lt hob'
 have hρ:=z6 (L:=⟨0,none,0,0,F'⟩) (hfr 2 (b4H _))
 have hs1:=Wl.Sep.upd hsep 0 (t:=H2 N T ρ B 0 (.ob k 1 x)) (t':=H2 N T (C1 ρ 2 ⟨0,none,0,0,F'⟩) B 0 (.ob k 2 x')) rfl (by simp_all) ⟨L,_,hρ _ _ hL,k7,hob'⟩ z7 (fun b hb=>by
  have hb:b∈u5 N (C1 ρ 2 ⟨0,none,0,0,F'⟩) 0 (.ob k 2 x'):=hb
  rw [D6 k7] at hb
  simp_all) rfl
 exact ⟨C1 ρ 2 ⟨0,none,0,0,F'⟩,Z,s,[(0,.ob k 2 x')],3,hs1,fun i hi=>by unfold C1; grind,hρ,fun _ h=>h,fun _ h=>.inl h,Rep.bare (E:=E0) hrep,hk trivial⟩
end
end Go.Rx
end
section
namespace Go.Wa
open Go Go.Wk Go.Wl Go.Rx
def leN:Str->Int
 | []=>0
 | c::r=>c.toNat+256 * leN r
def D2 (b:Str):Int:=IntKind.i64.wrap (leN b)
theorem Y5:∀ (b:Str),0<=leN b
 | []=>b5G _
 | c::r=>by have:=Y5 r; unfold leN; omega
theorem a5y:∀ (b:Str),leN b<256 ^ b.length
 | []=>by show (0:Int)<1; decide
 | c::r=>by
  have h:=a5y r
  have hc:c.toNat<256:=c.toNat_lt
  have e:(256:Int) ^ (c::r).length=256 ^ r.length * 256:=by rw [b4F,c0E]
  unfold leN
  rw [e]; omega
theorem I0 (n:Int):IntKind.i64.wrap n=(n+9223372036854775808) % 18446744073709551616-9223372036854775808:=IntKind.wrap_i64 n
theorem H5 {α:Type} [Inhabited α] {l:List α} {i:Int} (h0:0<=i) (h1:i<l.length):l.drop i.toNat=ix l i::l.drop (i+1).toNat:=by
 have hl:i.toNat<l.length:=by omega
 rw [b7M hl,C5 hl]
 congr 2
 omega
theorem c97 (z:Int):((BitVec.ofInt 64 z).toNat:Int)=z % 18446744073709551616:=by
 rw [b9O]
 omega
theorem c98 (x:Int) (c:UInt8):IntKind.i64.wrap ((BitVec.ofInt IntKind.i64.bits (IntKind.i64.wrap (x * 2 ^ min (Int.toNat 8) IntKind.i64.bits)) ||| BitVec.ofInt IntKind.i64.bits (c.toNat:Int)).toNat:Int)=IntKind.i64.wrap (c.toNat+256 * x):=by
 have hc:c.toNat<256:=c.toNat_lt
 have e8:(2:Int) ^ min (Int.toNat 8) IntKind.i64.bits=256:=by decide
 rw [e8]
 show IntKind.i64.wrap ((BitVec.ofInt 64 (IntKind.i64.wrap (x * 256)) ||| BitVec.ofInt 64 (c.toNat:Int)).toNat:Int)=_
 rw [BitVec.toNat_or]
 have h1:=c97 (IntKind.i64.wrap (x * 256))
 have h2:=c97 (c.toNat:Int)
 generalize (BitVec.ofInt 64 (IntKind.i64.wrap (x * 256))).toNat=a at h1 ⊢
 generalize (BitVec.ofInt 64 (c.toNat:Int)).toNat=d at h2 ⊢
 rw [I0] at h1
 have hd:d=c.toNat:=by omega
 have ha:a % 256=0:=by omega
 have hq:a=2 ^ 8 * (a / 256):=by omega
 have hor:(a ||| d:Nat)=a+d:=by
  rw [hq,hd]
  exact (b9P (by omega) _).symm
 rw [hor,I0,I0]
 omega
theorem c3w {b:Str} {i:Int} (h0:0<=i) (h1:i<b.length):IntKind.i64.wrap ((ix b i).toNat+256 * D2 (b.drop (i+1).toNat))=D2 (b.drop i.toNat):=by
 rw [H5 h0 h1]
 unfold D2
 rw [show leN (ix b i::b.drop (i+1).toNat)=(ix b i).toNat+256 * leN (b.drop (i+1).toNat) from rfl]
 generalize leN (b.drop (i+1).toNat)=L
 rw [I0,I0,I0]
 omega
def leB (x:Int):Nat->Str
 | 0=>[]
 | k+1=>UInt8.ofInt x::leB (x.fdiv 256) k
end Go.Wa
end
section
namespace Go.Proofs.YtckpdliipjekgaaGreat
open Go Go.Wk Go.Wl Go.Rx Go.Wa
structure Act where
 Kind:Int
 S:Str
 a0T:List Str
 N:Int
 Cut:Int
 Kept:List Int
 deriving Inhabited,DecidableEq
def b9t:Rd Act where
 sz:=6
 rd:=fun D w cs x=>∃ c0 c1 c2 c3 c4 c5,cs=c0++(c1++(c2++(c3++(c4++(c5)))))/\G2.rd D w c0 x.Kind/\a09.rd D w c1 x.S/\(q9 a09).rd D w c2 x.a0T/\G2.rd D w c3 x.N/\G2.rd D w c4 x.Cut/\(q9 G2).rd D w c5 x.Kept
 len:=fun ⟨c0,c1,c2,c3,c4,c5,e,h0,h1,h2,h3,h4,h5⟩=>by rw [e]; simp only [b3P,Rd.len _ h0,Rd.len _ h1,Rd.len _ h2,Rd.len _ h3,Rd.len _ h4,Rd.len _ h5]; rfl
 mono:=fun ⟨c0,c1,c2,c3,c4,c5,e,h0,h1,h2,h3,h4,h5⟩ a b c=>⟨c0,c1,c2,c3,c4,c5,e,Rd.mono _ h0 a b c,Rd.mono _ h1 a b c,Rd.mono _ h2 a b c,Rd.mono _ h3 a b c,Rd.mono _ h4 a b c,Rd.mono _ h5 a b c⟩
 plain:=fun ⟨c0,c1,c2,c3,c4,c5,e,h0,h1,h2,h3,h4,h5⟩=>by rw [e]; simp only [List.all_append,Rd.plain _ h0,Rd.plain _ h1,Rd.plain _ h2,Rd.plain _ h3,Rd.plain _ h4,Rd.plain _ h5]; rfl
def e3w:Rd Unit where
 sz:=0
 rd:=fun _ _ _ _=>False
 len:=fun h=>h.elim
 mono:=fun h _ _ _=>h
 plain:=fun h=>h.elim
def e0f (_:Nat):Ob Unit where
 is:=fun _ _ _ _=>False
 a1L:=fun Z Z' B w w' h _ _ _=>h
 lt:=fun h=>h.elim
def U:Uni where
 tb:=fun | 3=>⟨Int,G2,inferInstance⟩ | 5=>⟨UInt8,n5,inferInstance⟩ | 9=>⟨Str,a09,inferInstance⟩ | 41=>⟨List Str,(q9 a09),inferInstance⟩ | 42=>⟨List Int,(q9 G2),inferInstance⟩ | 44=>⟨Act,b9t,inferInstance⟩ | _=>⟨Unit,e3w,⟨()⟩⟩
 oj:=fun | 0=>⟨Dk,d2t⟩ | _=>⟨Unit,e0f⟩
def eT:O9:=⟨52,0,0,fun t=>bif Nat.beq t 144 then some 2 else none,fun t=>bif Nat.beq t 132 then some 134 else none⟩
theorem e0k {t S:Nat} (h:eT.wp t=some S):t=132/\S=134:=by
 have h:(bif Nat.beq t 132 then some 134 else none)=some S:=h
 cases hb:Nat.beq t 132 with
 | true=>rw [hb,b4G] at h; cases h; exact ⟨b3Q hb,rfl⟩
 | false=>rw [hb,b4X] at h; cases h
theorem d7l {t k:Nat} (h:eT.wr t=some k):(t=144/\k=2):=by
 have h:(bif Nat.beq t 144 then some 2 else none)=some k:=h
 cases hb0:Nat.beq t 144 with
 | true=>rw [hb0,b4G] at h; cases h; exact ⟨b3Q hb0,rfl⟩
 | false =>
  rw [hb0,b4X] at h
  cases h
def y3:TyI U eT 3 where
 sv:=fun (x:Int)=>.int .i64 x
 bk:=a43
 sv_ok:=b40
 bk_ok:=e1b
 hy:=fun (x:Int)=>[i6 x]
 hy_ok:=fun {_ _ _ x} h p hp=>by
  have h:G2.rd _ _ _ x:=h
  simp only [b4U] at hp; subst hp; exact h.2
def y5:TyI U eT 5 where
 sv:=fun (x:UInt8)=>.byte x
 bk:=asY
 sv_ok:=d2o
 bk_ok:=d4o
 by8:=some ⟨rfl⟩
def y9:TyI U eT 9 where
 sv:=fun (x:Str)=>.str x
 bk:=asS
 sv_ok:=c86
 bk_ok:=e1q
def y41:TyI U eT 41 where
 sv:=fun (x:List Str)=>.sl 9 x
 bk:=fun s=>pb (b1z U 9) (leaves s)
 sv_ok:=c1m (N:=U) (t:=9)
 bk_ok:=c1d (N:=U) (t:=9)
def y42:TyI U eT 42 where
 sv:=fun (x:List Int)=>.sl 3 x
 bk:=fun s=>pb (b1z U 3) (leaves s)
 sv_ok:=c1m (N:=U) (t:=3)
 bk_ok:=c1d (N:=U) (t:=3)
def e1i (ls:List (SV U)):Option Act :=
 (pb a43 (ls.take 1)).bind fun x0 =>
 (pb asS ((ls.drop 1).take 1)).bind fun x1 =>
 (pb (b1z U 9) (((ls.drop 1).drop 1).take 1)).bind fun x2 =>
 (pb a43 ((((ls.drop 1).drop 1).drop 1).take 1)).bind fun x3 =>
 (pb a43 (((((ls.drop 1).drop 1).drop 1).drop 1).take 1)).bind fun x4 =>
 (pb (b1z U 3) ((((((ls.drop 1).drop 1).drop 1).drop 1).drop 1))).bind fun x5 =>
 some ⟨x0,x1,x2,x3,x4,x5⟩
theorem e7i {ρ:r9} {Z:Nat->Prop} {w:World} {cs:List Value} {ls:List (SV U)} {x:Act} (h:j8 U eT ρ Z w cs ls) (e:e1i ls=some x):b9t.rd Z w cs x:=by
 unfold e1i at e
 obtain ⟨x0,e0,e⟩:=b5L.1 e
 obtain ⟨x1,e1,e⟩:=b5L.1 e
 obtain ⟨x2,e2,e⟩:=b5L.1 e
 obtain ⟨x3,e3,e⟩:=b5L.1 e
 obtain ⟨x4,e4,e⟩:=b5L.1 e
 obtain ⟨x5,e5,e⟩:=b5L.1 e
 cases e
 have g1:=j8.split 1 h
 have g2:=j8.split 1 g1.2
 have g3:=j8.split 1 g2.2
 have g4:=j8.split 1 g3.2
 have g5:=j8.split 1 g4.2
 exact ⟨(cs.take 1),((cs.drop 1).take 1),(((cs.drop 1).drop 1).take 1),((((cs.drop 1).drop 1).drop 1).take 1),(((((cs.drop 1).drop 1).drop 1).drop 1).take 1),(((((cs.drop 1).drop 1).drop 1).drop 1).drop 1),by simp only [b6I],b7y g1.1 e0,e1h g2.1 e1,c1d (N:=U) (t:=9) g3.1 e2,b7y g4.1 e3,b7y g5.1 e4,c1d (N:=U) (t:=3) g5.2 e5⟩
def y44:TyI U eT 44 where
 sv:=fun (x:Act)=>.agg ([.int .i64 x.Kind]++([.str x.S]++([.sl 9 x.a0T]++([.int .i64 x.N]++([.int .i64 x.Cut]++([.sl 3 x.Kept]))))))
 bk:=fun s=>e1i (leaves s)
 sv_ok:=fun {ρ Z w cs x} h=>by
  obtain ⟨c0,c1,c2,c3,c4,c5,e,h0,h1,h2,h3,h4,h5⟩:=(show b9t.rd Z w cs x from h)
  subst e
  exact j8.app (b40 h0) (j8.app (c86 h1) (j8.app (c1m (N:=U) (t:=9) h2) (j8.app (b40 h3) (j8.app (b40 h4) (c1m (N:=U) (t:=3) h5)))))
 bk_ok:=e7i
 hy:=fun (x:Act)=>[i6 x.Kind]++[i6 x.N]++[i6 x.Cut]
 hy_ok:=fun {Z w cs x} h p hp=>by
  obtain ⟨c0,c1,c2,c3,c4,c5,e,h0,h1,h2,h3,h4,h5⟩:=(show b9t.rd Z w cs x from h)
  rcases b5Y.1 hp with hp | hp
  . rcases b5Y.1 hp with hp | hp
    . · simp only [b4U] at hp; subst hp; exact h0.2
    . simp only [b4U] at hp; subst hp; exact h3.2
  . simp only [b4U] at hp; subst hp; exact h4.2
def tyU:∀ t,Option (TyI U eT t)
 | 3=>some y3
 | 5=>some y5
 | 9=>some y9
 | 41=>some y41
 | 42=>some y42
 | 44=>some y44
 | _=>none
end Go.Proofs.YtckpdliipjekgaaGreat
end
