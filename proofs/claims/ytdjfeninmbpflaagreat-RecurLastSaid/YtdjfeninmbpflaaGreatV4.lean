/- 18 texts, one behind the other. -/
import Derived.Test.YtdjfeninmbpflaaGreatV1
import Derived.Test.YtdjfeninmbpflaaGreatV3
import Derived.Lib.FrozenHead
import Derived.Lib.UnsafeStr
import GoSem.Claim
import Derived.Test.YtdjfeninmbpflaaGreatChecked
set_option linter.unusedVariables false
set_option linter.unusedSimpArgs false
set_option maxRecDepth 100000
section
namespace Go.Rx
open Go Go.Wk Go.Wl
section
variable {E:Env} {C:Ctx} {f fb:Fr} {w wb:World} {ρb ρ:n9} {Z Zb:Nat->Prop} {lkd:i6 E.N} {fx:m6 E.N} {st st':E.St} {inl:Inl E} {an:Ann}
theorem b52 {keep ids:List Nat} {Kα:Prop×Nat->Prop} {G:Prop×Nat->E.St->Prop} (h0:Rel E C fx lkd st ρb Zb fb wb) (h:Rel E (C.at ρb Zb wb) (n8 fx st keep++fx) (l6 st.items ids++lkd) st' ρ Z f w):∀ (ss:List (List LV)) (p:ShP E.N ss),
  rbS E fx st (n8 fx st keep++fx) st' ss p Kα->allS E fx st ss p G->∃ new ρ2 a,Kα a/\G a new/\Rel E (C.at ρb Zb wb) (n8 fx st keep++fx) (l6 st.items ids++lkd) new ρ2 Z f w
 | [],_,hv,_=>hv.elim
 | vs::r,p,hv,hK=>by
  unfold rbS at hv
  cases hb:fits E fx st (n8 fx st keep++fx) st' vs with
  | true=>rw [hb,cond_true] at hv; exact a2z h0 h hv hK.1
  | false=>rw [hb,cond_false] at hv; exact b52 h0 h r p.2 hv hK.2
theorem c3r {N:Uni}:∀ {ss:List (List LV)} {k:ShP N ss->Prop},exS N ss k->∃ p,k p
 | [],_,h=>⟨(),h⟩
 | vs::r,k,⟨I,m,h⟩=>by obtain ⟨p,h⟩:=c3r h; grind
def c15 (K:Ks E) (e:Exit) (st:E.St):Prop:=match e with
 | .normal=>K.n st
 | .ret=>K.r st
 | .exit i=>(match lk K.e i with | some k=>k st | none=>False)
 | _=>False
def QK (E:Env) (C:Ctx) (fx:m6 E.N) (lkd:i6 E.N) (K:Ks E):Exit->Fr->World->Prop:=fun e f w=>∃ st ρ Z,Rel E C fx lkd st ρ Z f w/\c15 K e st
theorem c53 {α β:Type} {l:List (Nat×α)} {g:α->β} {i:Nat}:lk (l.map fun p=>(p.1,g p.2)) i=(lk l i).map g:=by
 induction l with
 | nil=>rfl
 | cons p r ih =>
  show (bif Nat.beq p.1 i then some (g p.2) else lk (r.map fun p=>(p.1,g p.2)) i)=(bif Nat.beq p.1 i then some p.2 else lk r i).map g
  grind
theorem Rel.g0 (h:Rel E C fx lkd st ρ Z f w):Rel E C fx lkd ⟨st.slots,[],st.items,st.nx⟩ ρ Z f w:=⟨h.sl,h.fx,fun k j b s e=>(by cases e),h.mem,h.tn,h.g⟩
theorem a3m {keep ids:List Nat} {K:Ks E} {n:E.St->Prop} {e:Exit} (h0:Rel E C fx lkd st ρb Zb fb wb) (hn:e≠.normal)
  (h:QK E (C.at ρb Zb wb) (n8 fx st keep++fx) (l6 st.items ids++lkd) (Z6 (n8 fx st keep) (l6 st.items ids) K n) e f w):QK E C fx lkd K e f w:=by
 obtain ⟨st',ρ',Z',hr,he⟩:=h
 have hl:=Rel.leave h0 hr
 cases e with
 | normal=>simp_all
 | ret=>exact ⟨_,_,_,hl,he⟩
 | exit i =>
  simp only [c15,Z6] at he
  rw [c53] at he
  cases hk:lk K.e i with
  | none=>simp_all
  | some k=>rw [hk] at he; exact ⟨_,_,_,hl,by simp only [c15,hk]; exact he⟩
 | _=>exact he.elim
theorem a34 {e:Array Edge} {j:Nat} (h:hasE e j=true):∃ x∈e,x.on=j/\Region.binds .any x=true:=by
 unfold hasE at h
 obtain ⟨x,hx,hh⟩:=List.any_eq_true.1 h
 rw [Bool.and_eq_true] at hh
 exact ⟨x,by simp_all,Nat.eq_of_beq_eq_true hh.1,hh.2⟩
theorem b5h {T:Nat} (h:b86 E T=true):(∀ w,(zeroValue T).run E.P w=.ok (.bool false) w)/\(∀ w,(sizeOf T).run E.P w=.ok 1 w)/\(∀ w,(isAgg T).run E.P w=.ok false w):=by
 unfold b86 at h
 rw [Bool.and_eq_true,Bool.and_eq_true] at h
 obtain ⟨⟨h1,h2⟩,h3⟩:=h
 refine ⟨?_,?_,?_⟩
 . cases hz:E.zeroV T with
   | none=>simp_all
   | some v =>
    rw [hz] at h1
    cases v with
    | bool b=>cases b with
     | true=>cases h1
     | false=>exact a08 hz
    | _=>cases h1
 . cases hz:E.size T with
   | none=>simp_all
   | some s =>
    rw [hz] at h2
    have:=Nat.eq_of_beq_eq_true h2
    subst this
    exact H1 hz
 . cases hz:E.aggOf T with
   | none=>simp_all
   | some b =>
    rw [hz] at h3
    cases b with
    | true=>cases h3
    | false=>exact X3 hz
theorem a10.mono {P:Program} {o:Oper} {g:Fr} {w:World} {R R':Value->World->Prop} (h:a10 P o g w R) (k:∀ v w',R v w'->R' v w'):a10 P o g w R':=by
 rcases h with h | h | ⟨K,a,h1,h2⟩
 . exact .inl fun w1 hs=>by grind
 . exact .inr (.inl fun w1 hs=>by grind)
 . exact .inr (.inr ⟨K,a,h1,h2.mono k⟩)
theorem c86 (hE:j7 E) {id n a b:Nat} {l:List Oper} {C:Ctx} {fx:m6 E.N} {lkd:i6 E.N} {st:E.St} {ρ:n9} {Z:Nat->Prop} {f:Fr} {w:World} {K:E.St->Prop} {Q:Exit->Fr->World->Prop} (h:Rel E C fx lkd ⟨st.slots,[],st.items,st.nx⟩ ρ Z f w) (hc:c3t E n fx l=some (a,b))
  (h1:K ⟨(b,.tt)::(a,.un)::st.slots,[],st.items,st.nx⟩) (h2:K ⟨(b,.ff)::(a,.un)::st.slots,[],st.items,st.nx⟩)
  (hQ:∀ st' ρ' Z' f' w',Rel E C fx lkd st' ρ' Z' f' w'->K st'->Q .normal f' w'):W E.P n (.region id l.toArray true) Q f w:=by
 unfold c3t at hc
 split at hc
 . rename_i a' T ty0 pos0 e0 T1 a1 ty1 pos1 e1 T2 a2 ty2 pos2 e2 b' T3 a3 ty3 pos3 e3
   cases hb:(H3 [⟨some a',.alloc T,ty0,pos0,e0,none⟩,⟨none,.store T1 (.tmp a1) (.const (.bool true)),ty1,pos1,e1,none⟩,⟨none,.store T2 (.tmp a2) (.const (.bool false)),ty2,pos2,e2,none⟩,⟨some b',.load T3 (.tmp a3),ty3,pos3,e3,none⟩] && Nat.beq T T1 && Nat.beq T T2 && Nat.beq T T3 && Nat.beq a' a1 && Nat.beq a' a2 && Nat.beq a' a3 && !Nat.beq a' b' && (Nat.blt a' n && (lk fx a').isNone) && (Nat.blt b' n && (lk fx b').isNone) && hasE e1 0 && hasE e2 0 && hasE e3 0 && b86 E T) with
   | false=>simp_all
   | true =>
   rw [hb,cond_true] at hc
   cases hc
   simp only [Bool.and_eq_true] at hb
   obtain ⟨⟨⟨⟨⟨⟨⟨⟨⟨⟨⟨⟨⟨hao,b1⟩,b2⟩,b3⟩,b4⟩,b5⟩,b6⟩,b7⟩,ha1,ha2⟩,hb1,hb2⟩,he1⟩,he2⟩,he3⟩,hT⟩:=hb
   have b1:=Nat.eq_of_beq_eq_true b1; subst b1
   have b2:=Nat.eq_of_beq_eq_true b2; subst b2
   have b3:=Nat.eq_of_beq_eq_true b3; subst b3
   have b4:=Nat.eq_of_beq_eq_true b4; subst b4
   have b5:=Nat.eq_of_beq_eq_true b5; subst b5
   have b6:=Nat.eq_of_beq_eq_true b6; subst b6
   have hab:a≠b:=fun e=>by
    simp_all
   have hla:=A1 ha1
   have hlb:=A1 hb1
   obtain ⟨hz,hsz,hag⟩:=b5h hT
   obtain ⟨x1,hx1,ho1,hbd1⟩:=a34 he1
   obtain ⟨x2,hx2,ho2,hbd2⟩:=a34 he2
   obtain ⟨x3,hx3,ho3,hbd3⟩:=a34 he3
   have cell:∀ {L:Array Bool} {g:Fr} {w':World},Inv [⟨some a,.alloc T,ty0,pos0,e0,none⟩,⟨none,.store T (.tmp a) (.const (.bool true)),ty1,pos1,e1,none⟩,⟨none,.store T (.tmp a) (.const (.bool false)),ty2,pos2,e2,none⟩,⟨some b,.load T (.tmp a),ty3,pos3,e3,none⟩] (fun v=>Ext [] w v) (fun j v w'=>(j=0->∃ bl c,v=.pointer (some ⟨bl,0,none⟩)/\w.heap.size<=bl/\Own w' bl T [.bool c])/\(j=3->∃ c,v=.bool c)) f L g w'->L[0]?=some true->∃ bl c,g a=.pointer (some ⟨bl,0,none⟩)/\w.heap.size<=bl/\Own w' bl T [.bool c]:=fun hinv h0=>(hinv.done 0 a h0 rfl).1 rfl
   have keep:∀ {w1 w2:World} {bl:Nat} {c:Bool},Own w1 bl T [.bool c]->∀ {B:List Nat},Ext B w1 w2->(∀ x∈B,∃ c',Own w2 x T [.bool c'])->∀ j u,((j=0->∃ bl c,u=.pointer (some ⟨bl,0,none⟩)/\w.heap.size<=bl/\Own w1 bl T [.bool c])/\(j=3->∃ c,u=Value.bool c))->((j=0->∃ bl c,u=.pointer (some ⟨bl,0,none⟩)/\w.heap.size<=bl/\Own w2 bl T [.bool c])/\(j=3->∃ c,u=Value.bool c)):=by
    intro w1 w2 bl c _ B x hB j u hu
    refine ⟨fun hj=>?_,hu.2⟩
    obtain ⟨bl,c,e,hl,ho⟩:=hu.1 hj
    by_cases hm:bl∈B
    . simp_all
    . exact ⟨bl,c,e,hl,ho.ext x hm⟩
   have stor:∀ {ty:TypeId} {pos:String} {e:Array Edge} {g:Fr} {w':World} {bl:Nat} {c c2:Bool},g a=.pointer (some ⟨bl,0,none⟩)->Own w' bl T [.bool c]->a10 E.P ⟨none,.store T (.tmp a) (.const (.bool c2)),ty,pos,e,none⟩ g w' (fun _ w2=>Ext [bl] w' w2/\Own w2 bl T [.bool c2]):=by
    intro ty pos e g w' bl c c2 hga ho
    refine .inr (.inl fun w1 hs=>?_)
    obtain ⟨k,rfl⟩:=hs
    obtain ⟨w2,hr,ho',he,hsz2,hk⟩:=Z7 (P:=E.P) [.bool c2] 0 0 [.bool c] w' ho (by simp) (fun v hv=>by simp at hv; subst hv; rfl)
    refine ⟨_,w2,?_,⟨k,rfl⟩,he,by simpa [v7] using ho'⟩
    have hrun:(storeVar T ⟨bl,0,none⟩ (.bool c2)).run E.P { w' with drawn:=k }=.ok () { w2 with drawn:=k }:=by
     unfold storeVar
     simp only [Sem.run_bind,hsz,Result.andThen_ok]
     rw [if_neg (by simp [Value.cells])]
     exact hk k
    have hga':ev g (.tmp a)=.pointer (some ⟨bl,0,none⟩):=hga
    have hco:ev g (.const (.bool c2))=.bool c2:=rfl
    simp only [execOp,hga',hco,Instr.storeAt,Instr.sureAddr,Sem.run_bind,Sem.run_pure,Result.andThen_ok,hrun]
   refine a1u (I:=fun v=>Ext [] w v) (Φ:=fun j v w'=>(j=0->∃ bl c,v=.pointer (some ⟨bl,0,none⟩)/\w.heap.size<=bl/\Own w' bl T [.bool c])/\(j=3->∃ c,v=.bool c)) hE.mixed hao ?_ ?_ (Ext.refl _ _) ?_ ?_
   . intro j t hj
     match j,hj with
     | 0,hj=>cases hj; exact hla
     | 1,hj=>cases hj
     | 2,hj=>cases hj
     | 3,hj=>cases hj; exact hlb
     | _+4,hj=>cases hj
   . intro i j t hi hj
     match i,j,hi,hj with
     | 0,0,_,_=>rfl
     | 3,3,_,_=>rfl
     | 0,3,hi,hj=>cases hi; cases hj; omega
     | 3,0,hi,hj=>cases hi; cases hj; omega
     | 1,_,hi,_=>cases hi
     | 2,_,hi,_=>cases hi
     | _+4,_,hi,_=>cases hi
     | 0,1,_,hj=>cases hj
     | 0,2,_,hj=>cases hj
     | 0,_+4,_,hj=>cases hj
     | 3,1,_,hj=>cases hj
     | 3,2,_,hj=>cases hj
     | 3,_+4,_,hj=>cases hj
   . intro i o L g w' ho hinv hLi hdeps
     match i,ho with
     | 0,ho =>
      cases ho
      refine .inl fun w1 hs=>?_
      obtain ⟨k,rfl⟩:=hs
      have x:=Ext.push w' (.cells #[.bool false] T (0,0))
      have hown:Own { w' with heap:=w'.heap.push (.cells #[.bool false] T (0,0)) } w'.heap.size T [.bool false]:=Own.push w' T #[.bool false]
      refine ⟨.pointer (some ⟨w'.heap.size,0,none⟩),_,{ w' with heap:=w'.heap.push (.cells #[.bool false] T (0,0)) },?_,⟨k,rfl⟩,hinv.world.tr x,⟨fun _=>⟨_,_,rfl,hinv.world.size,hown⟩,fun h=>by cases h⟩,fun j u hu=>⟨fun hj=>?_,hu.2⟩⟩
      . simp [execOp,Instr.alloc,hz,newVar,newRow,newObj,Sem.run,go_sem,Value.cells]
        rfl
      . obtain ⟨bl,c,e,hl,ho⟩:=hu.1 hj
        exact ⟨bl,c,e,hl,ho.ext x (by simp)⟩
     | 1,ho =>
      cases ho
      have h0:=hdeps x1 hx1 hbd1
      rw [ho1] at h0
      obtain ⟨bl,c,hga,hl,how⟩:=cell hinv h0
      refine a10.mono (stor hga how) fun v w2 hh=>?_
      obtain ⟨x,o2⟩:=hh
      exact ⟨hinv.world.own x hl,⟨fun h=>(by cases h),fun h=>(by cases h)⟩,keep how x (fun y hy=>by rw [List.mem_singleton] at hy; rw [hy]; exact ⟨_,o2⟩)⟩
     | 2,ho =>
      cases ho
      have h0:=hdeps x2 hx2 hbd2
      rw [ho2] at h0
      obtain ⟨bl,c,hga,hl,how⟩:=cell hinv h0
      refine a10.mono (stor hga how) fun v w2 hh=>?_
      obtain ⟨x,o2⟩:=hh
      exact ⟨hinv.world.own x hl,⟨fun h=>(by cases h),fun h=>(by cases h)⟩,keep how x (fun y hy=>by rw [List.mem_singleton] at hy; rw [hy]; exact ⟨_,o2⟩)⟩
     | 3,ho =>
      cases ho
      have h0:=hdeps x3 hx3 hbd3
      rw [ho3] at h0
      obtain ⟨bl,c,hga,hl,how⟩:=cell hinv h0
      refine .inl fun w1 hs=>?_
      have hga':ev g (.tmp a)=.pointer (some ⟨bl,0,none⟩):=hga
      refine ⟨.bool c,w1,w',?_,hs,hinv.world,⟨fun h=>(by cases h),fun _=>⟨c,rfl⟩⟩,fun j u hu=>hu⟩
      simp only [execOp,hga',Sem.run_bind,Wk.run_load hag (how.all.sim hs)]
      rfl
     | _+4,ho=>cases ho
   . intro g w' hI hdone hkept
     obtain ⟨c,hc⟩:=(hdone 3 b rfl).2 rfl
     obtain ⟨hm,ht⟩:=h.mem.ext0 hI
     have r1:=h.put (n:=n) (d:=some a) (v:=g a) (s:=.un) (items:=st.items) (nx:=st.nx) (by show (Nat.blt a n && (lk fx a).isNone && true && true)=true; rw [ha1,ha2]; rfl) ht hm .un
     have r2:=Rel.put0 (n:=n) (d:=some b) (v:=g b) (s:=bif c then .tt else .ff) r1 (by show (Nat.blt b n && (lk fx b).isNone && true && true)=true; rw [hb1,hb2]; rfl) (by rw [hc]; cases c; exact .ff; exact .tt)
     have eg:J1 (J1 f (some a) (g a)) (some b) (g b)=g:=by
      funext k
      show upd (upd f a (g a)) b (g b) k=g k
      by_cases e1:k=b
      . rw [H7,if_pos e1,e1]
      . rw [H7,if_neg e1]
        by_cases e2:k=a
        . rw [H7,if_pos e2,e2]
        . rw [H7,if_neg e2,hkept k fun j hj=>?_]
          match j,hj with
          | 0,hj=>cases hj; exact e2 rfl
          | 3,hj=>cases hj; exact e1 rfl
          | 1,hj=>cases hj
          | 2,hj=>cases hj
          | _+4,hj=>cases hj
     rw [eg] at r2
     cases c with
     | true=>exact hQ _ _ _ _ _ r2 h1
     | false=>exact hQ _ _ _ _ _ r2 h2
 . cases hc
theorem c5j {s:E.SV} {v:Value} (r:Rep E.N E.T ρ Z w v s):Rep E.N E.T ρ Z w v (d0v s):=by
 cases s with
 | bl p d =>
  cases r
  show Rep E.N E.T ρ Z w _ (bif @decide p d then .tt else .ff)
  cases @decide p d with
  | true=>exact .tt
  | false=>exact .ff
 | _=>exact r
theorem b2s:∀ (ks:List Nat) {st:E.St},Rel E C fx lkd st ρ Z f w->Rel E C fx lkd (b8q ks st) ρ Z f w
 | [],_,h=>h
 | s::r,st,h=>by
  unfold b8q
  refine b2s r ?_
  split
  . rename_i v hv
    refine ⟨fun k s' hk=>?_,h.fx,h.gs,h.mem,h.tn,h.g⟩
    rw [D9] at hk
    by_cases e:s=k
    . subst e; rw [if_pos rfl] at hk; cases hk; exact c5j (h.sl _ _ hv)
    . rw [if_neg e] at hk; exact h.sl k s' hk
  . exact h
theorem a0h {id:Nat} {K:Ks E} {st:E.St} (h:Rel E C fx lkd st ρ Z f w) (hk:behind an id K.n st):QK E C fx lkd K .normal f w:=by
 unfold behind at hk
 generalize an.join (2000000+id)=o at hk
 cases o with
 | some a=>exact ⟨_,ρ,Z,b2s _ h,hk⟩
 | none=>exact ⟨st,ρ,Z,h,hk⟩
theorem d0a {ks:List Nat} {st:E.St} {k:E.St->Prop} (h:Rel E C fx lkd st ρ Z f w) (hk:c58 ks fx st k):∃ st',Rel E C fx lkd st' ρ Z f w/\k st':=by
 unfold c58 at hk
 cases hb:ks.isEmpty with
 | true=>grind
 | false =>
  rw [hb,cond_false,b2d] at hk
  refine ⟨⟨n8 fx st ks,[],st.items,st.nx⟩,⟨fun k s hs=>?_,h.fx,fun k j b s e=>(by cases e),h.mem,h.tn,h.g⟩,hk⟩
  have hs:lk (n8 fx st ks) k=some s:=hs
  clear hk hb
  induction ks with
  | nil=>cases hs
  | cons a r ih =>
   have hs:lk ((a,p5 fx st a)::n8 fx st r) k=some s:=hs
   rw [D9] at hs
   by_cases e:a=k
   . rw [if_pos e] at hs; cases hs; subst e; exact h.slot a
   simp_all
theorem c0v {b:Bool} {p:Prop} (h:bif b then p else False):b=true/\p:=by
 simp_all
theorem a1l {i:Nat}:∀ {l:List Oper} {k:Nat},i∈c3b l k↔k<=i/\i<k+l.length
 | [],k=>⟨fun h=>(by cases h),fun h=>absurd h.2 (by simp; omega)⟩
 | _::r,k=>by
  unfold c3b
  rw [List.mem_cons,a1l,List.length_cons]
  omega
theorem b2u {l:List Oper} {done:List Nat}:c1i l done=true↔∀ i,i<l.length->done.elem i=true:=by
 unfold c1i
 rw [List.all_eq_true]
 exact ⟨fun h i hi=>h i (a1l.2 (by omega)),fun h i hi=>h i (by have:=a1l.1 hi; omega)⟩
theorem b9x {f:Nat->Prop} {i:Nat}:∀ {L:List Nat},cjF f L->i∈L->f i
 | [],_,h=>by cases h
 | [a],hf,h=>by cases List.mem_singleton.1 h; exact hf
 | a::b::r,hf,h=>by
  rcases List.mem_cons.1 h with rfl | h
  . exact hf.1
  . exact b9x hf.2 h
theorem c3u (hE:j7 E) (hI:F1 E inl) {id n:Nat} {l:List Oper} {C:Ctx} {fx:m6 E.N} {lkd:i6 E.N} {st:E.St} {ρ:n9} {Z:Nat->Prop} {f:Fr} {w:World} {K:E.St->Prop} {Q:Exit->Fr->World->Prop} (h:Rel E C fx lkd st ρ Z f w)
  (ha:H3 l=true) (hv:a77 n inl fx lkd l K l.length [] st) (hQ:∀ st' ρ' Z' f' w',Rel E C fx lkd st' ρ' Z' f' w'->K st'->Q .normal f' w'):W E.P n (.region id l.toArray true) Q f w:=by
 refine b0e hE.mixed ha (fun D g w'=>∃ k done st ρ Z,(∀ j,D j=done.elem j)/\Rel E C fx lkd st ρ Z g w'/\a77 n inl fx lkd l K k done st) ⟨_,[],st,ρ,Z,fun j=>rfl,h,hv⟩ ?_ ?_
 . rintro D g w' ⟨k,done,st,ρ,Z,hD,hR,hv⟩ i o ho hDi hdep
   have hil:i<l.length:=by
    rcases Nat.lt_or_ge i l.length with h | h
    . exact h
    . simp_all
   have hna:c1i l done=false:=by
    rw [<- Bool.not_eq_true,b2u]
    intro hh
    have:=hh i hil
    rw [<- hD,hDi] at this; cases this
   cases k with
   | zero=>unfold a77 at hv; simp_all
   | succ k =>
    unfold a77 at hv
    rw [hna,cond_false] at hv
    have hr:rdy l done i=true:=by
     unfold rdy
     rw [ho]
     simp only [Bool.and_eq_true,Bool.not_eq_true',List.all_eq_true,Bool.or_eq_true]
     refine ⟨by simp_all,fun e he=>?_⟩
     cases hb:Region.binds .any e with
     | false=>simp_all
     | true=>simp_all
    have hi:=b9x hv (List.mem_filter.2 ⟨a1l.2 (by omega),hr⟩)
    rw [ho] at hi
    refine a5u hE hI [o] st ρ Z g w' hR hi fun st' ρ' Z' f' w2 hr' _ hk=>⟨rfl,k,i::done,st',ρ',Z',fun j=>?_,hr',hk⟩
    by_cases e:j=i
    . subst e; rw [a0e]; simp
    . rw [J5 e,hD,List.elem_cons]
      grind
 . rintro D g w' ⟨k,done,st,ρ,Z,hD,hR,hv⟩ hall
   have hA:c1i l done=true:=b2u.2 fun i hi=>by simp_all
   cases k <;> (unfold a77 at hv; grind)
theorem b9s (hE:j7 E) (hI:F1 E inl):∀ (c:Code) (C:Ctx) (fx:m6 E.N) (lkd:i6 E.N) (st:E.St) (K:Ks E) (ρ:n9) (Z:Nat->Prop) (f:Fr) (w:World),Rel E C fx lkd st ρ Z f w->vc inl an c fx lkd st K->W E.P an.n c (QK E C fx lkd K) f w:=by
 intro c
 induction c with
 | skip=>intro C fx lkd st K ρ Z f w h hv; exact d5f ⟨st,ρ,Z,h,hv⟩
 | ret=>intro C fx lkd st K ρ Z f w h hv; exact d9p ⟨st,ρ,Z,h,hv⟩
 | exit i=>intro C fx lkd st K ρ Z f w h hv; exact d3e ⟨st,ρ,Z,h,hv⟩
 | region id l dr =>
  intro C fx lkd st K ρ Z f w h hv
  simp only [vc] at hv
  have e:l=l.toList.toArray:=by simp
  cases hb:(!dr || b7s l.toList) with
  | false =>
   rw [hb,cond_false] at hv
   have hdr:dr=true:=by
    cases dr with
    | true=>rfl
    | false=>grind
   subst hdr
   split at hv
   . rename_i a b hc
     have:=c86 (id:=id) (Q:=QK E C fx lkd K) hE h.g0 hc hv.1 hv.2 (fun st' ρ' Z' f' w' hr hk=>a0h hr hk)
     omega
   . split at hv
     . have h2:=c0v hv
       have:=c3u (id:=id) (Q:=QK E C fx lkd K) hE hI h.g0 h2.1 h2.2 (fun st' ρ' Z' f' w' hr hk=>a0h hr hk)
       omega
     . have:=V6 (id:=id) (Q:=QK E C fx lkd K) hE h.g0 (fun st' ρ' Z' f' w' hr hk=>a0h hr hk) _ _ hv
       omega
  | true =>
   rw [hb,cond_true] at hv
   have key:WL E.P dr an.n l.toList (QK E C fx lkd K) l.toList f w:=a5u hE hI l.toList _ ρ Z f w h.g0 hv (fun st' ρ' Z' f' w' hr _ hk=>a0h hr hk)
   cases dr with
   | false =>
    have:=c61 (id:=id) key
    omega
   | true =>
    have hb2:a9e l.toList=true:=by
     unfold b7s at hb
     simp only [Bool.not_true,Bool.false_or,Bool.and_eq_true] at hb
     exact hb.1
    have:=a62 (id:=id) hE.mixed hb2 key
    omega
 | seq a b iha ihb =>
  intro C fx lkd st K ρ Z f w h hv
  simp only [vc] at hv
  split at hv
  . refine c6m (S5 (iha C fx lkd st _ ρ Z f w h hv) fun e f' w' q=>?_)
    obtain ⟨st',ρ',Z',hr,he⟩:=q
    cases e with
    | normal=>exact ihb C fx lkd st' K ρ' Z' f' w' hr he
    | ret=>exact ⟨st',ρ',Z',hr,he⟩
    | exit i=>exact ⟨st',ρ',Z',hr,he⟩
    | _=>exact he.elim
  . rename_i j hj
    split at hv
    . rename_i sl _
      refine c6m (S5 (iha C fx lkd st _ ρ Z f w h hv) fun e f' w' q=>?_)
      obtain ⟨st',ρ',Z',hr,he⟩:=q
      cases e with
      | normal =>
       have he:(match Y7 (p5 fx st' sl) with
        | some ⟨p,_⟩=>(p->vc inl an b fx lkd ⟨(sl,.tt)::st'.slots,[],st'.items,st'.nx⟩ K)/\(¬ p->vc inl an b fx lkd ⟨(sl,.ff)::st'.slots,[],st'.items,st'.nx⟩ K)
        | none=>False):=he
       have hs:=hr.slot sl
       split at he
       . rename_i p d hp
         have hv:=hs.boolv hp
         have key:∀ s,Rep E.N E.T ρ' Z' w' (f' sl) s->Rel E C fx lkd ⟨(sl,s)::st'.slots,[],st'.items,st'.nx⟩ ρ' Z' f' w':=fun s hs'=>⟨fun k s2 hk=>by
          have hk:lk ((sl,s)::st'.slots) k=some s2:=hk
          rw [D9] at hk
          by_cases e:sl=k
          . simp_all
          . rw [if_neg e] at hk; exact hr.sl k s2 hk,hr.fx,fun k j b s e=>(by cases e),hr.mem,hr.tn,hr.g⟩
         by_cases hpp:p
         . exact ihb C fx lkd _ K ρ' Z' f' w' (key .tt (by rw [hv]; simp only [hpp,decide_true]; exact .tt)) (he.1 hpp)
         . exact ihb C fx lkd _ K ρ' Z' f' w' (key .ff (by rw [hv]; simp only [hpp,decide_false]; exact .ff)) (he.2 hpp)
       simp_all
      | ret=>exact ⟨st',ρ',Z',hr,he⟩
      | exit i=>exact ⟨st',ρ',Z',hr,he⟩
      | _=>exact he.elim
    obtain ⟨J,hva,hvb⟩:=hv
    refine c6m (S5 (iha _ _ _ _ _ ρ Z f w (h.enter j.keep (s8 E fx st j.vars)) hva) fun e f' w' q=>?_)
    cases e with
    | normal =>
     obtain ⟨st',ρ',Z',hr,he⟩:=q
     obtain ⟨new,ρ2,x,hx,hk,hr2⟩:=a2z h hr he hvb
     exact ihb C fx lkd _ K ρ2 Z' f' w' (Rel.leave h hr2) (hk hx)
    | ret=>exact a3m h (by simp_all) q
    | exit i=>exact a3m h (by simp_all) q
    | _=>obtain ⟨_,_,_,_,he⟩:=q; exact he.elim
 | cond o a b iha ihb =>
  intro C fx lkd st K ρ Z f w h hv
  simp only [vc] at hv
  have hr:=h.ev W8.nil o
  split at hv
  . rename_i e; rw [e] at hr
    exact b2i (by generalize Wk.ev f o=u at hr; cases hr; rfl) (iha C fx lkd st K ρ Z f w h hv)
  . rename_i e; rw [e] at hr
    exact b0c (by generalize Wk.ev f o=u at hr; cases hr; rfl) (ihb C fx lkd st K ρ Z f w h hv)
  . rename_i p d e; rw [e] at hr
    have e1:Wk.ev f o=.bool (@decide p d):=by generalize Wk.ev f o=u at hr; cases hr; rfl
    exact b5p e1 (fun hp=>iha C fx lkd st K ρ Z f w h (hv.1 (of_decide_eq_true hp))) (fun hp=>ihb C fx lkd st K ρ Z f w h (hv.2 (of_decide_eq_false hp)))
  simp_all
 | block i c ih =>
  intro C fx lkd st K ρ Z f w h hv
  refine c8o (S5 (ih C fx lkd st _ ρ Z f w h hv) fun e f' w' q=>?_)
  obtain ⟨st',ρ',Z',hr,he⟩:=q
  cases e with
  | normal=>exact ⟨st',ρ',Z',hr,he⟩
  | ret=>exact ⟨st',ρ',Z',hr,he⟩
  | exit j =>
   have he:(match (bif Nat.beq i j then some K.n else lk K.e j) with | some k=>k st' | none=>False):=he
   show (bif Nat.beq j i then QK E C fx lkd K .normal f' w' else QK E C fx lkd K (.exit j) f' w')
   have hc:Nat.beq i j=Nat.beq j i:=by
    by_cases e:i=j
    . rw [e]
    . rw [O1 e,O1 (Ne.symm e)]
   rw [hc] at he
   cases hb:Nat.beq j i with
   | true=>rw [hb] at he; exact ⟨st',ρ',Z',hr,he⟩
   | false=>rw [hb] at he; exact ⟨st',ρ',Z',hr,he⟩
  | _=>exact he.elim
 | loop c ih =>
  intro C fx lkd st K ρ Z f w h hv
  simp only [vc] at hv
  split at hv
  . exact hv.elim
  . rename_i a ha
    split at hv
    . rename_i n hk
      refine b01 (fun k f' w'=>∃ (st':E.St) (ρ':n9) (Z':Nat->Prop),Rel E C fx lkd st' ρ' Z' f' w'/\vcU (fun st n'=>c58 a.keep fx st fun st=>vc inl an c fx lkd st ⟨n',K.r,K.e⟩) k st') ⟨n,_,_,_,h.g0,hv⟩ ?_
      rintro k f' w' ⟨st',ρ',Z',hr,hu⟩
      cases k with
      | zero=>exact hu.elim
      | succ k =>
       obtain ⟨st1,hr,hu⟩:=d0a (k:=fun st=>vc inl an c fx lkd st ⟨vcU (fun st n'=>c58 a.keep fx st fun st=>vc inl an c fx lkd st ⟨n',K.r,K.e⟩) k,K.r,K.e⟩) hr hu
       refine S5 (ih C fx lkd st1 _ ρ' Z' f' w' hr hu) fun e f2 w2 q=>?_
       obtain ⟨st2,ρ2,Z2,hr2,he⟩:=q
       cases e with
       | normal=>exact ⟨k,Nat.lt_succ_self k,st2,ρ2,Z2,hr2,he⟩
       | ret=>exact ⟨st2,ρ2,Z2,hr2,he⟩
       | exit i=>exact ⟨st2,ρ2,Z2,hr2,he⟩
       | _=>exact he.elim
    . rename_i ss hk
      obtain ⟨P,h0,hb⟩:=c3r hv
      refine     b01 (fun k f' w' => ∃ (new : E.St) (ρ2 :   n9) (Z2 : Nat -> Prop) (im : Prop × Nat), (im.1 -> vc inl an c (   n8 fx st a.keep ++ fx) (     l6 st.items ( b28 E fx st ss) ++ lkd) new
            (Z6 (n8 fx st a.keep) (l6 st.items (b28 E fx st ss)) K (fun st'=>rbS E fx st (n8 fx st a.keep++fx) st' ss P (fun im'=>im'.1/\im'.2<im.2))))/\im.1/\im.2=k/\Rel E (C.at ρ Z w) (n8 fx st a.keep++fx) (l6 st.items (b28 E fx st ss)++lkd) new ρ2 Z2 f' w') ?_ ?_
      . obtain ⟨new,ρ2,im,h1,h2,h3⟩:=b52 h (h.enter a.keep (b28 E fx st ss)) ss P h0 hb
        grind
      . rintro k f' w' ⟨new,ρ2,Z2,im,hbody,hi,rfl,hr⟩
        refine S5 (ih _ _ _ _ _ ρ2 Z2 f' w' hr (hbody hi)) fun e f2 w2 q=>?_
        cases e with
        | normal =>
         obtain ⟨st',ρ',Z',hr',he⟩:=q
         obtain ⟨new2,ρ3,im2,g1,g2,g3⟩:=b52 h hr' ss P he hb
         exact ⟨im2.2,g1.2,new2,ρ3,Z',im2,g2,g1.1,rfl,g3⟩
        | ret=>exact a3m h (by simp_all) q
        | exit i=>exact a3m h (by simp_all) q
        | _=>obtain ⟨_,_,_,_,he⟩:=q; exact he.elim
    obtain ⟨I,m,h0,hb⟩:=hv
    refine     b01 (fun k f' w' => ∃ (new : E.St) (ρ2 :   n9) (Z2 : Nat -> Prop) (im : Prop × Nat), (im.1 -> vc inl an c (   n8 fx st a.keep ++ fx) (     l6 st.items (   s8 E fx st a.vars) ++ lkd) new
          (Z6 (n8 fx st a.keep) (l6 st.items (s8 E fx st a.vars)) K (fun st'=>rbP E fx st (n8 fx st a.keep++fx) st' a.vars (W9 a.vars I m) (fun im'=>im'.1/\im'.2<im.2))))/\im.1/\im.2=k/\Rel E (C.at ρ Z w) (n8 fx st a.keep++fx) (l6 st.items (s8 E fx st a.vars)++lkd) new ρ2 Z2 f' w') ?_ ?_
    . obtain ⟨new,ρ2,im,h1,h2,h3⟩:=a2z h (h.enter a.keep (s8 E fx st a.vars)) h0 hb
      grind
    . rintro k f' w' ⟨new,ρ2,Z2,im,hbody,hi,rfl,hr⟩
      refine S5 (ih _ _ _ _ _ ρ2 Z2 f' w' hr (hbody hi)) fun e f2 w2 q=>?_
      cases e with
      | normal =>
       obtain ⟨st',ρ',Z',hr',he⟩:=q
       obtain ⟨new2,ρ3,im2,g1,g2,g3⟩:=a2z h hr' he hb
       exact ⟨im2.2,g1.2,new2,ρ3,Z',im2,g2,g1.1,rfl,g3⟩
      | ret=>exact a3m h (by simp_all) q
      | exit i=>exact a3m h (by simp_all) q
      | _=>obtain ⟨_,_,_,_,he⟩:=q; exact he.elim
 | _=>intro C fx lkd st K ρ Z f w h hv; exact hv.elim
end
end Go.Rx
end
section
namespace Go.Rx
open Go Go.Wk Go.Wl
section
variable {E:Env} {C:Ctx} {w:World} {ρ:n9} {Z:Nat->Prop} {its lkd:i6 E.N} {nx:Nat} {inl:Inl E} {an:Ann} {fn:Func} {K:Nat} {args:List E.SV} {vs:List Value}
def c2n (E:Env) (C:Ctx) (ρ:n9) (Z:Nat->Prop) (w:World) (lkd:i6 E.N) (k:E.SV->i6 E.N->Nat->Prop) (v:Value) (w':World):Prop :=
 ∃ ρ' Z' s its' nx',Mem E C ρ' Z' w' (its'++lkd) nx'/\Tn ρ Z w ρ' Z' w'/\Rep E.N E.T ρ' Z' w' v s/\k s its' nx'
def W7 (tmps:Array Value):ResultVar->Sem Value
 | .tmp t=>pure (tmps.getD t undef)
 | .cell a t=>do loadVar t (<- asAddr (tmps.getD a undef))
section
variable {P:Program} {tmps:Array Value} {v0 v1 v2:Value} {r0 r1 r2:ResultVar}
theorem c0t (h:fn.results=#[]):(results fn tmps).run P w=.ok (.tuple #[]) w:=results_none h _ _ _
theorem a8y (h:fn.results=#[r0]) (h0:(W7 tmps r0).run P w=.ok v0 w):(results fn tmps).run P w=.ok v0 w:=by
 have e:results fn tmps=(do let vs <- fn.results.mapM (W7 tmps); pure (if h:vs.size=1 then vs[0] else .tuple vs)):=rfl
 simp_all
theorem c29 (h:fn.results=#[r0,r1]) (h0:(W7 tmps r0).run P w=.ok v0 w) (h1:(W7 tmps r1).run P w=.ok v1 w):(results fn tmps).run P w=.ok (.tuple #[v0,v1]) w:=by
 have e:results fn tmps=(do let vs <- fn.results.mapM (W7 tmps); pure (if h:vs.size=1 then vs[0] else .tuple vs)):=rfl
 simp_all
theorem c2l (h:fn.results=#[r0,r1,r2]) (h0:(W7 tmps r0).run P w=.ok v0 w) (h1:(W7 tmps r1).run P w=.ok v1 w) (h2:(W7 tmps r2).run P w=.ok v2 w):(results fn tmps).run P w=.ok (.tuple #[v0,v1,v2]) w:=by
 have e:results fn tmps=(do let vs <- fn.results.mapM (W7 tmps); pure (if h:vs.size=1 then vs[0] else .tuple vs)):=rfl
 simp_all
theorem c27 {r3:ResultVar} {v3:Value} (h:fn.results=#[r0,r1,r2,r3]) (h0:(W7 tmps r0).run P w=.ok v0 w) (h1:(W7 tmps r1).run P w=.ok v1 w) (h2:(W7 tmps r2).run P w=.ok v2 w) (h3:(W7 tmps r3).run P w=.ok v3 w):(results fn tmps).run P w=.ok (.tuple #[v0,v1,v2,v3]) w:=by
 have e:results fn tmps=(do let vs <- fn.results.mapM (W7 tmps); pure (if h:vs.size=1 then vs[0] else .tuple vs)):=rfl
 simp_all
end
def c28 (P:Program) (fn:Func) (n:Nat) (f:Fr) (w:World) (v:Value):Prop:=∀ a w1,Is a f n->Sim w w1->(results fn a.tmps).run P w1=.ok v w1
def e34 (P:Program) (fn:Func) (n:Nat) (R:Value->World->Prop):Exit->Fr->World->Prop
 | .ret,f,w=>∃ v,c28 P fn n f w v/\R v w
 | .normal,f,w=>∃ v,c28 P fn n f w v/\R v w
 | _,_,_=>False
theorem d3j {P:Program} {c:Code} {n:Nat} {args:List Value} {R:Value->World->Prop} (hf:P.funcs[K]?=some fn) (hb:fn.body=some c) (hn:fn.ntmps=n) (hs:Nat.ble args.length n=true) (h:W P n c (e34 P fn n R) (nth args) w):D4 P K args w R :=
 b5c hf hb hn hs _ (fun e a w1 f w hf hd hv q=>by
  cases e with
  | ret=>obtain ⟨v,h1,h2⟩:=q; exact ⟨hd,v,h1 a w1 hf hv,v,w,rfl,hv,h2⟩
  | normal=>obtain ⟨v,h1,h2⟩:=q; exact ⟨hd,v,h1 a w1 hf hv,v,w,rfl,hv,h2⟩
  | _=>exact q.elim) h
theorem b2z {P:Program} {T:TypeId} {b mm:Nat} {cs:List Value} (hA:∀ w,(isAgg T).run P w=.ok true w) (hz:∀ w,(sizeOf T).run P w=.ok mm w) (hl:cs.length=mm) (hc:Cells w b 0 cs):(loadVar T ⟨b,0,none⟩).run P w=.ok (.agg cs.toArray) w:=by
 have h:=J2 (P:=P) hc cs.length 0 #[] (by omega)
 simp only [List.drop_zero,Array.empty_append] at h
 subst hl
 simp [loadVar,hA,hz,loadCells,h,go_sem]
theorem K4 {st:E.St} {f:Fr} {n:Nat} {fx:m6 E.N} {r:ResultVar} {s:E.SV} (h:Rel E C fx lkd st ρ Z f w) (e:a3n st r=some s):∃ v,Rep E.N E.T ρ Z w v s/\∀ a w1,Is a f n->Sim w w1->(W7 a.tmps r).run E.P w1=.ok v w1:=by
 cases r with
 | tmp t =>
  exact ⟨f t,h.sl t s e,fun a w1 hi hs=>by simp only [W7]; rw [hi.get]; rfl⟩
 | cell a0 T =>
  simp only [a3n] at e
  split at e
  . rename_i id off hl
    split at e
    . rename_i Ty cells hi
      split at e
      . rename_i m hA hz
        have ⟨h1,h2⟩:=j3 e
        simp only [Option.some.injEq] at h2; subst h2
        simp only [Bool.and_eq_true] at h1
        have e0:=Nat.eq_of_beq_eq_true h1.1
        have e1:=Nat.eq_of_beq_eq_true h1.2
        subst e0
        have hr:=h.sl a0 _ hl
        obtain ⟨j,hj,_⟩:=p8 hi
        obtain ⟨L,cs,hL,hbs,ho,hrep⟩:=h.mem.holds (l8 (l2:=lkd) hj)
        have hL:ρ id=some L:=hL
        have hp:f a0=.pointer (some ⟨L.b,0,none⟩):=by
         generalize f a0=u at hr
         cases hr with | ref hL'=>simp_all
        refine ⟨.agg cs.toArray,hrep,fun a w1 hi' hs=>?_⟩
        have hc:Cells w1 L.b 0 cs:=Cells.sim ho.all hs
        have:=b2z (P:=E.P) (w:=w1) (mm:=m) (X3 hA) (fun w=>H1 hz w) (by rw [hrep.len]; exact e1.symm) hc
        simp only [W7]
        rw [hi'.get,hp]
        rw [Sem.run_bind]
        simp only [asAddr,Sem.run_pure,Result.andThen_ok]
        exact this
      . cases e
    . cases e
  . cases e
theorem J4 (hE:j7 E) (hI:F1 E inl) (hf:E.P.funcs[K]?=some fn) {k:E.SV->i6 E.N->Nat->Prop} (hv:m7 inl an fn args its lkd nx k) (hm:Mem E C ρ Z w (its++lkd) nx) (hg:E.G.is Z w) (ha:Rep E.N E.T ρ Z w (.tuple vs.toArray) (.tup args)):D4 E.P K vs w (c2n E C ρ Z w lkd k):=by
 unfold m7 at hv
 split at hv
 . rename_i c hc
   cases hb:Nat.ble args.length fn.ntmps with
   | false=>simp_all
   | true =>
    rw [hb,cond_true] at hv
    have hle:Nat.ble vs.length fn.ntmps=true:=by rw [a2t ha]; exact hb
    have h0:Rel E (C.at ρ Z w) [] lkd ⟨number 0 args,[],its,nx⟩ ρ Z (nth vs) w:=⟨fun k s e=>a4i (n:=0) ha k s (by simpa using e),fun p hp=>(by cases hp),fun k j b s e=>(by cases e),hm.down,Tn.refl _ _ _,hg⟩
    have hw:=b9s (an:=⟨fn.ntmps,an.loop,an.join⟩) hE hI c _ _ _ _ _ ρ Z (nth vs) w h0 hv
    refine d3j hf hc rfl hle (S5 hw fun e f' w' q=>?_)
    obtain ⟨st,ρ',Z',hr,he⟩:=q
    have fin:(match c9o fn st with | some v=>k v st.items st.nx | none=>False)->∃ v,c28 E.P fn fn.ntmps f' w' v/\c2n E C ρ Z w lkd k v w':=fun hk=>by
     split at hk
     . rename_i s hs
       have key:∃ v,Rep E.N E.T ρ' Z' w' v s/\c28 E.P fn fn.ntmps f' w' v:=by
        unfold c9o at hs
        split at hs
        . rename_i e0
          cases hs
          exact ⟨_,.tup0,fun a w1 hi hs=>c0t (by simp_all)⟩
        . rename_i r e0
          obtain ⟨v,h1,h2⟩:=K4 (n:=fn.ntmps) hr hs
          exact ⟨v,h1,fun a w1 hi hs=>a8y (by grind) (h2 a w1 hi hs)⟩
        . rename_i r1 r2 e0
          split at hs
          . rename_i a b ha hb
            cases hs
            obtain ⟨v1,h1,g1⟩:=K4 (n:=fn.ntmps) hr ha
            obtain ⟨v2,h2,g2⟩:=K4 (n:=fn.ntmps) hr hb
            exact ⟨.tuple #[v1,v2],.tup1 (cs:=[v2]) h1 (.tup1 (cs:=[]) h2 .tup0),fun a w1 hi hs=>c29 (by grind) (g1 a w1 hi hs) (g2 a w1 hi hs)⟩
          . cases hs
        . rename_i r1 r2 r3 e0
          split at hs
          . rename_i a b c ha hb hc
            cases hs
            obtain ⟨v1,h1,g1⟩:=K4 (n:=fn.ntmps) hr ha
            obtain ⟨v2,h2,g2⟩:=K4 (n:=fn.ntmps) hr hb
            obtain ⟨v3,h3,g3⟩:=K4 (n:=fn.ntmps) hr hc
            exact ⟨.tuple #[v1,v2,v3],.tup1 (cs:=[v2,v3]) h1 (.tup1 (cs:=[v3]) h2 (.tup1 (cs:=[]) h3 .tup0)),fun a w1 hi hs=>c2l (by grind) (g1 a w1 hi hs) (g2 a w1 hi hs) (g3 a w1 hi hs)⟩
          . cases hs
        . rename_i r1 r2 r3 r4 e0
          split at hs
          . rename_i a b c d ha hb hc hd
            cases hs
            obtain ⟨v1,h1,g1⟩:=K4 (n:=fn.ntmps) hr ha
            obtain ⟨v2,h2,g2⟩:=K4 (n:=fn.ntmps) hr hb
            obtain ⟨v3,h3,g3⟩:=K4 (n:=fn.ntmps) hr hc
            obtain ⟨v4,h4,g4⟩:=K4 (n:=fn.ntmps) hr hd
            exact ⟨.tuple #[v1,v2,v3,v4],.tup1 (cs:=[v2,v3,v4]) h1 (.tup1 (cs:=[v3,v4]) h2 (.tup1 (cs:=[v4]) h3 (.tup1 (cs:=[]) h4 .tup0))),fun a w1 hi hs=>c27 (by grind) (g1 a w1 hi hs) (g2 a w1 hi hs) (g3 a w1 hi hs) (g4 a w1 hi hs)⟩
          . cases hs
        . cases hs
       obtain ⟨v,h1,h2⟩:=key
       exact ⟨v,h2,ρ',Z',s,st.items,st.nx,Mem.upC hm hr.mem,hr.tn,h1,hk⟩
     simp_all
    cases e with
    | normal=>exact fin he
    | ret=>exact fin he
    | exit i=>exact he.elim
    | _=>exact he.elim
 simp_all
def a3g (ρ:n9) (Z:Nat->Prop) (w:World):Ctx:=⟨ρ,Z,w,[],w⟩
theorem b1p {nx:Nat} (hfr:∀ i,nx<=i->ρ i=none) (hz:∀ b,Z b->b<w.heap.size):Mem E (a3g ρ Z w) ρ Z w [] nx :=
 ⟨Wl.Sep.nil hz,hfr,fun _ _ h=>h,fun _ h=>h,fun _ h=>.inl h⟩
theorem c2n.pure {k:E.SV->i6 E.N->Nat->Prop} {v:Value} {w':World} (h:c2n E (a3g ρ Z w) ρ Z w [] k v w'):∃ ρ' Z' s its' nx',Ext [] w w'/\Mem E (a3g ρ Z w) ρ' Z' w' its' nx'/\Tn ρ Z w ρ' Z' w'/\Rep E.N E.T ρ' Z' w' v s/\k s its' nx':=by
 obtain ⟨ρ',Z',s,its',nx',hm,ht,hr,hk⟩:=h
 rw [List.append_nil] at hm
 exact ⟨ρ',Z',s,its',nx',hm.sep.ext,hm,ht,hr,hk⟩
end
end Go.Rx
end
section
namespace Go.Rx
open Go Go.Wk Go.Wl
section
variable {E:Env} {C:Ctx} {w:World} {ρ:n9} {Z:Nat->Prop} {its:i6 E.N} {nx:Nat} {inl:Inl E} {an:Ann} {fn:Func} {K:Nat} {args:List E.SV} {vs:List Value}
def Z8 (E:Env):(k:VK)->k.den E.N->List (Item E.N)
 | .acc t,x=>[.ac t x]
 | _,_=>[]
def Z9 (E:Env) (nx:Nat) (k:VK) (x:k.den E.N):E.SV:=(fl1 E nx k x).1
theorem Q4 (k:VK) (x:k.den E.N):(fl1 E nx k x).2.1=number nx (Z8 E k x)/\(fl1 E nx k x).2.2=nx+(Z8 E k x).length:=by cases k <;> exact ⟨rfl,rfl⟩
def c7g {N:Uni}:SV N->Bool
 | .int _ _=>true
 | .byte _=>true
 | .bl _ _=>true
 | .str _=>true
 | _=>false
theorem c24 {v:Value} {s:E.SV} (hb:c7g s=true) (h:Rep E.N E.T ρ Z w v s):Rep E.N E.T (fun _=>none) (fun _=>False) w v s:=by
 cases s with
 | int k x=>cases h with | int h=>exact .int h
 | byte x=>cases h; exact .byte
 | bl p d=>cases h; exact .bl
 | str x=>cases h with | str h=>exact .str h
 | _=>cases hb
theorem a96:∀ {ls:List E.SV} {cs:List Value},ls.all c7g=true->i7 E.N E.T ρ Z w cs ls->i7 E.N E.T (fun _=>none) (fun _=>False) w cs ls
 | [],cs,_,h=>by
  have:=i7.nil_inv h
  subst this; exact i7.nil
 | s::r,cs,hb,h=>by
  obtain ⟨v,t,rfl,h1,hp,h2⟩:=i7.cons_inv h
  rw [List.all_cons,Bool.and_eq_true] at hb
  exact Rep.agg1 (c24 hb.1 h1) hp (a96 hb.2 h2)
def bare (E:Env):(k:VK)->k.den E.N->Prop
 | .int _,_=>True
 | .byte,_=>True
 | .bool,_=>True
 | .str,_=>True
 | .err,e=>e=.nil ∨ ∃ n,e=.no n
 | .val t,x=>∃ y ls,E.ty t=some y/\y.sv x=.agg ls/\ls.all c7g=true
 | _,_=>False
theorem a79 {k:VK} {x:k.den E.N} {v:Value} (hb:bare E k x) (h:Rep E.N E.T ρ Z w v (Z9 E nx k x)):Rep E.N E.T (fun _=>none) (fun _=>False) w v (Z9 E nx k x):=by
 cases k with
 | int k=>cases h with | int h=>exact .int h
 | byte=>cases h; exact .byte
 | bool=>change Rep E.N E.T ρ Z w v (blB x) at h; cases h; exact .bl
 | str=>cases h with | str h=>exact .str h
 | err =>
  cases h with
  | err h =>
   rcases hb with rfl | ⟨n,rfl⟩
   . cases h; exact .err .nil
   . cases h with | no h=>exact .err (.no h)
 | val t =>
  obtain ⟨y,ls,e1,e2,e3⟩:=hb
  have e:Z9 E nx (.val t) x=.agg ls:=by
   unfold Z9 fl1
   simp only [e1,e2]
  rw [e] at h ⊢
  obtain ⟨cs,rfl,hl⟩:=h.agg_inv
  exact a96 e3 hl
 | _=>exact hb.elim
theorem c5x {k:VK} {x:k.den E.N} {s:E.SV} {i:Nat} (h:a2o E [k] (fun y=>y=x) s its i):rb1 E its k s=some x:=by
 unfold a2o parts at h
 simp only [B5] at h
 grind
theorem d1k {k1 k2:VK} {x1:k1.den E.N} {x2:k2.den E.N} {s:E.SV} {i:Nat} (h:a2o E [k1,k2] (fun y z=>y=x1/\z=x2) s its i):∃ s1 s2,s=.tup [s1,s2]/\rb1 E its k1 s1=some x1/\rb1 E its k2 s2=some x2:=by
 have one:∀ u:E.SV,(match B5 E its [k1,k2] [u] (fun y z=>y=x1/\z=x2) with | some p=>p | none=>False)->False:=fun u h=>by
  simp only [B5] at h
  grind
 unfold a2o at h
 cases s with
 | tup vs =>
  match vs,h with
  | [],h=>exact h.elim
  | [u],h=>exact (one u h).elim
  | [s1,s2],h =>
   simp only [parts,B5] at h
   grind
  | s1::s2::s3::r,h =>
   simp only [parts,B5] at h
   grind
 | _=>exact (one _ h).elim
theorem e16 {k1 k2 k3:VK} {x1:k1.den E.N} {x2:k2.den E.N} {x3:k3.den E.N} {s:E.SV} {i:Nat} (h:a2o E [k1,k2,k3] (fun y z u=>y=x1/\z=x2/\u=x3) s its i):∃ s1 s2 s3,s=.tup [s1,s2,s3]/\rb1 E its k1 s1=some x1/\rb1 E its k2 s2=some x2/\rb1 E its k3 s3=some x3:=by
 have one:∀ u:E.SV,(match B5 E its [k1,k2,k3] [u] (fun y z u=>y=x1/\z=x2/\u=x3) with | some p=>p | none=>False)->False:=fun u h=>by
  simp only [B5] at h
  grind
 unfold a2o at h
 cases s with
 | tup vs =>
  match vs,h with
  | [],h=>exact h.elim
  | [u],h=>exact (one u h).elim
  | [s1,s2],h =>
   simp only [parts,B5] at h
   grind
  | [s1,s2,s3],h =>
   simp only [parts,B5] at h
   grind
  | s1::s2::s3::s4::r,h =>
   simp only [parts,B5] at h
   grind
 | _=>exact (one _ h).elim
theorem kc {V C:Prop} (h:V) (e:@Eq Prop V C):C:=Eq.mp e h
theorem q8 (hE:j7 E) (hI:F1 E inl) (hf:E.P.funcs[K]?=some fn) {k:VK} {x:k.den E.N} {ob:List Prop} (hb:bare E k x) (hv:m7 inl an fn args [] [] 0 (a2o E [k] (fun y=>y=x))) (n:Nat):A3 E K args ⟨ob,[],Z9 E n k x,[]⟩:=fun D w vs hD hg ha =>
 (J4 (C:=a3g (fun _=>none) D w) hE hI hf hv (b1p (nx:=0) (fun _ _=>rfl) hD) hg ha).mono fun v w' h=>by
  obtain ⟨ρ',Z',s,its',nx',hx,hm,ht,hr,hk⟩:=h.pure
  obtain ⟨ρ3,os',_,_,_,hr3,_⟩:=M9 (lkd:=[]) (n2:=n) (ρ2:=fun _=>none) (os:=[]) (new:=[]) (by simpa using hm) hr (c5x hk) (fun _ _=>rfl) .nil
  exact ⟨hx,a79 hb hr3,trivial⟩
theorem b3t {v:Value} {s1 s2:E.SV} (h:Rep E.N E.T ρ Z w v (.tup [s1,s2])):∃ v1 v2,v=.tuple #[v1,v2]/\Rep E.N E.T ρ Z w v1 s1/\Rep E.N E.T ρ Z w v2 s2:=by
 obtain ⟨cs,rfl⟩:=Rep.tup_inv h
 obtain ⟨v1,r,rfl,h1,h⟩:=Rep.tup_cons h
 obtain ⟨v2,r,rfl,h2,h⟩:=Rep.tup_cons h
 have:r=[]:=by
  generalize e:Value.tuple r.toArray=u at h
  cases h with | tup0=>simpa using e
 grind
theorem c6c {v:Value} {s1 s2 s3:E.SV} (h:Rep E.N E.T ρ Z w v (.tup [s1,s2,s3])):∃ v1 v2 v3,v=.tuple #[v1,v2,v3]/\Rep E.N E.T ρ Z w v1 s1/\Rep E.N E.T ρ Z w v2 s2/\Rep E.N E.T ρ Z w v3 s3:=by
 obtain ⟨cs,rfl⟩:=Rep.tup_inv h
 obtain ⟨v1,r,rfl,h1,h⟩:=Rep.tup_cons h
 obtain ⟨v2,r,rfl,h2,h⟩:=Rep.tup_cons h
 obtain ⟨v3,r,rfl,h3,h⟩:=Rep.tup_cons h
 have:r=[]:=by
  generalize e:Value.tuple r.toArray=u at h
  cases h with | tup0=>simpa using e
 grind
theorem d4s {v1 v2:Value} {s1 s2:E.SV} (h1:Rep E.N E.T ρ Z w v1 s1) (h2:Rep E.N E.T ρ Z w v2 s2):Rep E.N E.T ρ Z w (.tuple #[v1,v2]) (.tup [s1,s2]):=.tup1 (cs:=[v2]) h1 (.tup1 (cs:=[]) h2 .tup0)
theorem e1z {v1 v2 v3:Value} {s1 s2 s3:E.SV} (h1:Rep E.N E.T ρ Z w v1 s1) (h2:Rep E.N E.T ρ Z w v2 s2) (h3:Rep E.N E.T ρ Z w v3 s3):Rep E.N E.T ρ Z w (.tuple #[v1,v2,v3]) (.tup [s1,s2,s3]):=.tup1 (cs:=[v2,v3]) h1 (d4s h2 h3)
theorem d1w (hE:j7 E) (hI:F1 E inl) (hf:E.P.funcs[K]?=some fn) {k1 k2:VK} {x1:k1.den E.N} {x2:k2.den E.N} {ob:List Prop} (hb1:bare E k1 x1) (hb2:bare E k2 x2) (hv:m7 inl an fn args [] [] 0 (a2o E [k1,k2] (fun y z=>y=x1/\z=x2))) (n:Nat):A3 E K args ⟨ob,[],.tup [Z9 E n k1 x1,Z9 E n k2 x2],[]⟩:=fun D w vs hD hg ha =>
 (J4 (C:=a3g (fun _=>none) D w) hE hI hf hv (b1p (nx:=0) (fun _ _=>rfl) hD) hg ha).mono fun v w' h=>by
  obtain ⟨ρ',Z',s,its',nx',hx,hm,ht,hr,hk⟩:=h.pure
  obtain ⟨s1,s2,rfl,e1,e2⟩:=d1k hk
  obtain ⟨v1,v2,rfl,h1,h2⟩:=b3t hr
  obtain ⟨_,_,_,_,_,r1,_⟩:=M9 (lkd:=[]) (n2:=n) (ρ2:=fun _=>none) (os:=[]) (new:=[]) (by simpa using hm) h1 e1 (fun _ _=>rfl) .nil
  obtain ⟨_,_,_,_,_,r2,_⟩:=M9 (lkd:=[]) (n2:=n) (ρ2:=fun _=>none) (os:=[]) (new:=[]) (by simpa using hm) h2 e2 (fun _ _=>rfl) .nil
  exact ⟨hx,d4s (a79 hb1 r1) (a79 hb2 r2),trivial⟩
theorem c9g {k:VK} {x:k.den E.N} (h:Z8 E k x=[]) (n:Nat):fl1 E n k x=(Z9 E nx k x,[],n):=by
 cases k with
 | acc t=>cases h
 | _=>rfl
theorem a9p {k:VK} {s:E.SV} {l:List Nat} (h:l=K7 k s++List.filterMap id ([]:List (Option Nat))):l.Nodup:=by rw [h]; unfold K7; grind
theorem a50 {os:List (Option Nat)} {new:i6 E.N} {n2:Nat} {ρ' ρ2:n9} {Z':Nat->Prop} {w':World} {its':i6 E.N} {nx':Nat} (hm:Mem E (a3g (fun _=>none) Z w) ρ' Z' w' its' nx') (ht:M1 E [] ρ' Z' w' its' ρ2 os new) (hnd:(os.filterMap id).Nodup) (hfr:∀ i,n2<=i->ρ2 i=none) :
  Sep [] w Z' w' (o0 E.N E.T ρ2 [] new):=by
 have:=Mem.rebuild (lkd:=[]) (by simpa using hm) (fun _ h=>by cases h) ht hnd hfr (fun _ _ h=>by cases h)
 simpa [a3g] using this.sep
theorem d5n (hE:j7 E) (hI:F1 E inl) (hf:E.P.funcs[K]?=some fn) {k:VK} {x:k.den E.N} {ob:List Prop} (hp:args.all B3=true) (hv:m7 inl an fn args [] [] 0 (a2o E [k] (fun y=>y=x))):E2 E.P E.N E.T E.G K args nx ⟨ob,[],Z9 E nx k x,Z8 E k x⟩ :=
 ⟨fun ρ Z w vs hfr hz hg ha=>(J4 (C:=a3g (fun _=>none) Z w) hE hI hf hv (b1p (fun _ _=>rfl) hz) hg (E6 hp ha _)).mono fun v w' h=>by
  obtain ⟨ρ',Z',s,its',nx',hx,hm,ht,hr,hk⟩:=h.pure
  obtain ⟨ρ3,os,t1,f1,s1,r1,o1⟩:=M9 (lkd:=[]) (n2:=nx) (ρ2:=ρ) (os:=[]) (new:=[]) (by simpa using hm) hr (c5x hk) hfr .nil
  rw [(Q4 k x).1,List.append_nil] at t1
  rw [(Q4 k x).2] at f1
  refine ⟨ρ3,Z',s1,f1,hm.zge,fun b hb=>?_,r1,a50 hm t1 (a9p o1) f1,trivial⟩
  rcases hm.zle b hb with h | h | h
  . exact .inl h
  . cases h
  . exact .inr h⟩
theorem b12 {os:List (Option Nat)} {new:i6 E.N} {n2:Nat} {ρ' ρ2:n9} {Z':Nat->Prop} {w':World} {its':i6 E.N} {nx':Nat} {C:Ctx} {k:VK} {x:k.den E.N} {v:Value} {s:E.SV} (hm:Mem E C ρ' Z' w' its' nx') (hu:Rep E.N E.T ρ' Z' w' v s) (h:rb1 E its' k s=some x) (hn:Z8 E k x=[]) (hfr:∀ i,n2<=i->ρ2 i=none) (ht:M1 E C.B0 ρ' Z' w' its' ρ2 os new) (hnd:(os.filterMap id).Nodup) :
  ∃ ρ3 os',M1 E C.B0 ρ' Z' w' its' ρ3 os' new/\(∀ i,n2<=i->ρ3 i=none)/\(∀ i L,ρ2 i=some L->ρ3 i=some L)/\Rep E.N E.T ρ3 Z' w' v (Z9 E nx k x)/\(os'.filterMap id).Nodup:=by
 obtain ⟨ρ3,os',t,f,s1,r,o⟩:=M9 (lkd:=[]) (by simpa using hm) hu h hfr ht
 rw [c9g (nx:=nx) hn n2] at t f r
 refine ⟨ρ3,os',by simpa using t,f,s1,r,?_⟩
 rw [o]
 cases k with
 | acc t=>cases hn
 | _=>exact hnd
theorem c7d (hE:j7 E) (hI:F1 E inl) (hf:E.P.funcs[K]?=some fn) {k1 k2:VK} {x1:k1.den E.N} {x2:k2.den E.N} {ob:List Prop} (h2:Z8 E k2 x2=[]) (hp:args.all B3=true) (hv:m7 inl an fn args [] [] 0 (a2o E [k1,k2] (fun y z=>y=x1/\z=x2))) :
  E2 E.P E.N E.T E.G K args nx ⟨ob,[],.tup [Z9 E nx k1 x1,Z9 E nx k2 x2],Z8 E k1 x1⟩ :=
 ⟨fun ρ Z w vs hfr hz hg ha=>(J4 (C:=a3g (fun _=>none) Z w) hE hI hf hv (b1p (fun _ _=>rfl) hz) hg (E6 hp ha _)).mono fun v w' h=>by
  obtain ⟨ρ',Z',s,its',nx',hx,hm,ht,hr,hk⟩:=h.pure
  obtain ⟨s1,s2,rfl,e1,e2⟩:=d1k hk
  obtain ⟨v1,v2,rfl,g1,g2⟩:=b3t hr
  obtain ⟨ρ3,os,t1,f1,b1,r1,o1⟩:=M9 (lkd:=[]) (n2:=nx) (ρ2:=ρ) (os:=[]) (new:=[]) (by simpa using hm) g1 e1 hfr .nil
  rw [(Q4 k1 x1).1,List.append_nil] at t1
  rw [(Q4 k1 x1).2] at f1
  obtain ⟨ρ4,os2,t2,f2,b2,r2,nd2⟩:=b12 (nx:=nx) hm g2 e2 h2 f1 t1 (a9p o1)
  refine ⟨ρ4,Z',w9 b1 b2,f2,hm.zge,fun b hb=>?_,d4s (Rep.sub r1 b2) r2,a50 hm t2 nd2 f2,trivial⟩
  rcases hm.zle b hb with h | h | h
  . exact .inl h
  . cases h
  . exact .inr h⟩
theorem d8y (hE:j7 E) (hI:F1 E inl) (hf:E.P.funcs[K]?=some fn) {k1 k2 k3:VK} {x1:k1.den E.N} {x2:k2.den E.N} {x3:k3.den E.N} {ob:List Prop} (h2:Z8 E k2 x2=[]) (h3:Z8 E k3 x3=[]) (hp:args.all B3=true) (hv:m7 inl an fn args [] [] 0 (a2o E [k1,k2,k3] (fun y z u=>y=x1/\z=x2/\u=x3))) :
  E2 E.P E.N E.T E.G K args nx ⟨ob,[],.tup [Z9 E nx k1 x1,Z9 E nx k2 x2,Z9 E nx k3 x3],Z8 E k1 x1⟩ :=
 ⟨fun ρ Z w vs hfr hz hg ha=>(J4 (C:=a3g (fun _=>none) Z w) hE hI hf hv (b1p (fun _ _=>rfl) hz) hg (E6 hp ha _)).mono fun v w' h=>by
  obtain ⟨ρ',Z',s,its',nx',hx,hm,ht,hr,hk⟩:=h.pure
  obtain ⟨s1,s2,s3,rfl,e1,e2,e3⟩:=e16 hk
  obtain ⟨v1,v2,v3,rfl,g1,g2,g3⟩:=c6c hr
  obtain ⟨ρ3,os,t1,f1,b1,r1,o1⟩:=M9 (lkd:=[]) (n2:=nx) (ρ2:=ρ) (os:=[]) (new:=[]) (by simpa using hm) g1 e1 hfr .nil
  rw [(Q4 k1 x1).1,List.append_nil] at t1
  rw [(Q4 k1 x1).2] at f1
  obtain ⟨ρ4,os2,t2,f2,b2,r2,nd2⟩:=b12 (nx:=nx) hm g2 e2 h2 f1 t1 (a9p o1)
  obtain ⟨ρ5,os3,t3,f3,b3,r3,nd3⟩:=b12 (nx:=nx) hm g3 e3 h3 f2 t2 nd2
  refine ⟨ρ5,Z',w9 (w9 b1 b2) b3,f3,hm.zge,fun b hb=>?_,e1z (Rep.sub (Rep.sub r1 b2) b3) (Rep.sub r2 b3) r3,a50 hm t3 nd3 f3,trivial⟩
  rcases hm.zle b hb with h | h | h
  . exact .inl h
  . cases h
  . exact .inr h⟩
end
end Go.Rx
end
section
namespace Go.Rx
open Go Go.Wk Go.Wl
section
variable {N:Uni} {T:N3} {ρ:n9} {Z:Nat->Prop} {w:World} {cs cs':List Value} {ls ls':List (SV N)}
theorem i7.split (n:Nat) (h:i7 N T ρ Z w cs ls):i7 N T ρ Z w (cs.take n) (ls.take n)/\i7 N T ρ Z w (cs.drop n) (ls.drop n):=by
 induction n generalizing cs ls with
 | zero=>exact ⟨by simpa using i7.nil,by simpa using h⟩
 | succ n ih =>
  cases ls with
  | nil=>obtain rfl:=i7.nil_inv h; simp_all
  | cons s r =>
   obtain ⟨v,rr,rfl,h1,hp,h2⟩:=i7.cons_inv h
   obtain ⟨a,b⟩:=ih h2
   exact ⟨i7.cons h1 hp a,b⟩
def pb {α:Type} (f:SV N->Option α):List (SV N)->Option α
 | [s]=>f s
 | _=>none
def Y6 (N:Uni) (t:Nat):SV N->Option (List (N.U t))
 | .nils=>some []
 | .sl t' l=>if h:t'=t then some (O5 h l) else none
 | _=>none
theorem c9h {t:Nat} {v:Value} {s:SV N} {l:List (N.U t)} (h:Rep N T ρ Z w v s) (e:Y6 N t s=some l):(v8 (N.tb t).r).rd Z w [v] l:=by
 cases h with
 | nils=>simp [Y6] at e; subst e; exact W5
 | sl h =>
  simp only [Y6] at e
  split at e
  . rename_i ht; subst ht; simp [O5] at e; simp_all
  . cases e
 | _=>simp [Y6] at e
theorem b82 {α:Type} {f:SV N->Option α} {x:α} {r:Rd α} (hr:∀ (v:Value) (s:SV N),Rep N T ρ Z w v s->f s=some x->r.rd Z w [v] x) (h:i7 N T ρ Z w cs ls) (e:pb f ls=some x):r.rd Z w cs x:=by
 unfold pb at e
 split at e
 . obtain ⟨v,rfl,h1,_⟩:=i7.one_inv h; grind
 . cases e
theorem L3 {x:Int} (h:i7 N T ρ Z w cs ls) (e:pb J7 ls=some x):B4.rd Z w cs x:=b82 (fun v s h e=>by have ⟨a,b⟩:=b49 h e; rw [a]; exact ⟨rfl,b⟩) h e
theorem b94 {x:Bool} (h:i7 N T ρ Z w cs ls) (e:pb asB ls=some x):a2h.rd Z w cs x:=b82 (r:=a2h) (fun v s h e=>by obtain rfl:=c4u h e; rfl) h e
theorem U0 {t:Nat} {x:List (N.U t)} (h:i7 N T ρ Z w cs ls) (e:pb (Y6 N t) ls=some x):(v8 (N.tb t).r).rd Z w cs x:=b82 (r:=v8 (N.tb t).r) (fun v s h e=>c9h h e) h e
theorem U8 {t:Nat} {x:List (N.U t)} (h:(v8 (N.tb t).r).rd Z w cs x):i7 N T ρ Z w cs [.sl t x]:=by
 have hl:=Rd.len _ h
 have hp:=Rd.plain _ h
 match cs,hl with
 | [v],_ =>
  simp only [List.all_cons,List.all_nil,Bool.and_true] at hp
  exact i7.one (.sl h) hp
end
end Go.Rx
end
section
namespace Go.Rx
open Go Go.Wk Go.Wl
def a7p {α:Type} (K:Nat) (x:α) (f:Nat->Option α):Nat->Option α:=fun k=>bif Nat.beq k K then some x else f k
def Env.addL (E:Env) (K:Nat) (C:List E.SV->Option (Q1 E.N)):Env:=⟨E.P,E.N,E.T,E.ty,E.zob,a7p K (fun a _=>(C a).map fun q=>⟨q.ob,q.hy,q.v,[]⟩) E.con,fun k=>bif Nat.beq k K then true else E.lend k,E.obc,E.inl,E.G,E.wrc,E.rws,E.fnc,E.roc,E.yl⟩
def Env.addC (E:Env) (K:Nat) (C:List E.SV->Nat->Option (CR E.N)):Env:=⟨E.P,E.N,E.T,E.ty,E.zob,a7p K C E.con,fun k=>bif Nat.beq k K then false else E.lend k,E.obc,E.inl,E.G,E.wrc,E.rws,E.fnc,E.roc,E.yl⟩
def Env.addI (E:Env) (K:Nat) (fn:Func):Env:=⟨E.P,E.N,E.T,E.ty,E.zob,E.con,E.lend,E.obc,a7p K fn E.inl,E.G,E.wrc,E.rws,E.fnc,E.roc,E.yl⟩
def Env.addX (E:Env) (K:Nat) (o:FC E.N):Env:=⟨E.P,E.N,E.T,E.ty,E.zob,E.con,E.lend,E.obc,E.inl,E.G,E.wrc,E.rws,a7p K o E.fnc,E.roc,E.yl⟩
def Env.addR (E:Env) (K:Nat) (C:List E.SV->i6 E.N->Option (Q1 E.N)):Env:=⟨E.P,E.N,E.T,E.ty,E.zob,E.con,E.lend,E.obc,E.inl,E.G,E.wrc,E.rws,E.fnc,a7p K C E.roc,E.yl⟩
section
variable {E:Env} {K:Nat}
abbrev a7l (P:Program) (K:Nat):Prop:=∀ xs w,(callFunc K xs).run P w=.ok (.enter K xs) w
theorem M8 {α:Type} {x y:α} {f:Nat->Option α} {k:Nat} (h:a7p K x f k=some y):(k=K/\y=x) ∨ f k=some y:=by
 unfold a7p at h
 cases hb:Nat.beq k K with
 | true=>simp_all
 | false=>simp_all
theorem T7 {α:Type} {x:α} {f:Nat->Option α} {k:Nat} (h:(a7p K x f k).isSome=true):k=K ∨ (f k).isSome=true:=by
 obtain ⟨y,hy⟩:=Option.isSome_iff_exists.1 h
 rcases M8 hy with ⟨e,_⟩ | e
 all_goals simp_all
theorem A3.con {args:List E.SV} {c:CR E.N} {nx:Nat} (h:A3 E K args c) (hi:c.its=[]) (hp:args.all B3=true):E2 E.P E.N E.T E.G K args nx c :=
 ⟨fun ρ Z w vs hfr hz hg ha=>(h Z w vs hz hg (E6 hp ha _)).mono fun v w' ⟨x,r,hy⟩=>⟨ρ,Z,fun _ _ h=>h,by simp_all,fun _ h=>h,fun _ h=>.inl h,Rep.bare r,by
  rw [hi]
  exact ⟨x,fun b hb=>by have:=hz b hb; have:=x.size; omega,fun k t h=>by simp [o0,number] at h,fun j k s t h=>by simp [o0,number] at h⟩,hy⟩⟩
theorem j7.addL (h:j7 E) {C:List E.SV->Option (Q1 E.N)} (hc:a7l E.P K) (ok:∀ args q,C args=some q->q6 q.ob->A3 E K args ⟨q.ob,q.hy,q.v,[]⟩):j7 (E.addL K C):=by
 refine ⟨h.mixed,h.zob,fun k hk=>?_,h.inl,fun k f args nx c hf hr hp ho=>?_,fun k f args nx c hf hl hr hi ho=>?_,h.obc,h.wrc,h.callf,h.fnc,h.callr,h.roc,h.yl⟩
 . by_cases e:k=K
   . subst e; exact hc
   . refine h.call k ?_
     simp only [Bool.or_eq_true] at hk ⊢
     rcases hk with ((hk | hk) | hk) | hk
     . rcases T7 hk with e' | e'
       . omega
       . exact .inl (.inl (.inl e'))
     . exact .inl (.inl (.inr hk))
     . exact .inl (.inr hk)
     . exact .inr hk
 . rcases M8 hf with ⟨e1,e2⟩ | hf
   . rw [e2] at hr
     obtain ⟨q,hq,e3⟩:=Option.map_eq_some_iff.1 hr
     subst e3
     rw [e1]
     exact (ok args q hq ho).con rfl hp
   . exact h.con k f args nx c hf hr hp ho
 . rcases M8 hf with ⟨e1,e2⟩ | hf'
   . rw [e2] at hr
     obtain ⟨q,hq,e3⟩:=Option.map_eq_some_iff.1 hr
     subst e3
     rw [e1]
     exact ok args q hq ho
   . by_cases e:k=K
     . have hf:a7p K (fun a _=>(C a).map fun q=>(⟨q.ob,q.hy,q.v,[]⟩:CR E.N)) E.con k=some f:=hf
       unfold a7p at hf
       rw [e,Nat.beq_refl,cond_true] at hf
       have e2:=Option.some.inj hf
       rw [<- e2] at hr
       obtain ⟨q,hq,e3⟩:=Option.map_eq_some_iff.1 hr
       subst e3
       rw [e]
       exact ok args q hq ho
     . refine h.lend k f args nx c hf' ?_ hr hi ho
       have hl:(bif Nat.beq k K then true else E.lend k)=true:=hl
       simp_all
theorem j7.addC (h:j7 E) {C:List E.SV->Nat->Option (CR E.N)} (hc:a7l E.P K) (ok:∀ args nx c,C args nx=some c->args.all B3=true->q6 c.ob->E2 E.P E.N E.T E.G K args nx c):j7 (E.addC K C):=by
 refine ⟨h.mixed,h.zob,fun k hk=>?_,h.inl,fun k f args nx c hf hr hp ho=>?_,fun k f args nx c hf hl hr hi ho=>?_,h.obc,h.wrc,h.callf,h.fnc,h.callr,h.roc,h.yl⟩
 . by_cases e:k=K
   . subst e; exact hc
   . refine h.call k ?_
     simp only [Bool.or_eq_true] at hk ⊢
     rcases hk with ((hk | hk) | hk) | hk
     . rcases T7 hk with e' | e'
       . omega
       . exact .inl (.inl (.inl e'))
     . exact .inl (.inl (.inr hk))
     . exact .inl (.inr hk)
     . exact .inr hk
 . rcases M8 hf with ⟨e1,e2⟩ | hf
   . rw [e2] at hr
     rw [e1]; exact ok args nx c hr hp ho
   . exact h.con k f args nx c hf hr hp ho
 . have hl:(bif Nat.beq k K then false else E.lend k)=true:=hl
   have e:k≠K:=fun e=>by simp_all
   rw [O1 e,cond_false] at hl
   rcases M8 hf with ⟨e',_⟩ | hf'
   . omega
   . exact h.lend k f args nx c hf' hl hr hi ho
theorem j7.addI (h:j7 E) {fn:Func} (hc:a7l E.P K) (hf:E.P.funcs[K]?=some fn):j7 (E.addI K fn):=by
 refine ⟨h.mixed,h.zob,fun k hk=>?_,fun k g hg=>?_,h.con,h.lend,h.obc,h.wrc,h.callf,h.fnc,h.callr,h.roc,h.yl⟩
 . by_cases e:k=K
   . subst e; exact hc
   . refine h.call k ?_
     simp only [Bool.or_eq_true] at hk ⊢
     rcases hk with ((hk | hk) | hk) | hk
     . exact .inl (.inl (.inl hk))
     . exact .inl (.inl (.inr hk))
     . rcases T7 hk with e' | e'
       all_goals simp_all
     . exact .inr hk
 . rcases M8 hg with ⟨rfl,rfl⟩ | hg
   . exact hf
   . exact h.inl k g hg
theorem j7.addX (h:j7 E) {o:FC E.N} (hc:a7l E.P K) (ok:∀ args its r,o.C args its=some r->q6 r.ob->R9 E.P E.N E.T E.G K args its (2 * its.length) (fun k=>q6 r.hy->k r.v r.its r.n)):j7 (E.addX K o):=by
 refine ⟨h.mixed,h.zob,h.call,h.inl,h.con,h.lend,h.obc,h.wrc,fun k hk=>?_,fun k o' args its r ho hr hob=>?_,h.callr,h.roc,h.yl⟩
 . rcases T7 hk with e | e
   . subst e; exact hc
   . exact h.callf k e
 . rcases M8 ho with ⟨e1,e2⟩ | ho
   . cases e2
     rw [e1]; exact ok args its r hr hob
   . exact h.fnc k o' args its r ho hr hob
theorem j7.addR (h:j7 E) {C:List E.SV->i6 E.N->Option (Q1 E.N)} (hc:a7l E.P K) (ok:∀ args its q,C args its=some q->q6 q.ob->c3h E.P E.N E.T E.G K args its q):j7 (E.addR K C):=by
 refine ⟨h.mixed,h.zob,h.call,h.inl,h.con,h.lend,h.obc,h.wrc,h.callf,h.fnc,fun k hk=>?_,fun k C' args its q ho hr hob=>?_,h.yl⟩
 . rcases T7 hk with e | e
   . subst e; exact hc
   . exact h.callr k e
 . rcases M8 ho with ⟨e1,e2⟩ | ho
   . cases e2
     rw [e1]; exact ok args its q hr hob
   . exact h.roc k C' args its q ho hr hob
end
end Go.Rx
end
section
namespace Go.Rx
open Go Go.Wk Go.Wl
def Err.num:Err->Option Int
 | .nil=>none
 | .no n=>some n
 | .fault _ n=>some n
 | .w _ _ e=>e.num
 | .p _ _ n=>some n
def Err.is (e:Err) (n:Int):Prop:=e.num=some n
instance (e:Err) (n:Int):Decidable (e.is n):=by unfold Err.is; infer_instance
def Err.nr (e:Err):Int:=match e with
 | .nil=>0
 | e=>match e.num with | some n=>if 1<=n/\n<=16 then n else -1 | none=>-1
section
open Go.Lib
variable {P:Program} (w:World)
end
end Go.Rx
end
section
namespace Go.Rx
open Go Go.Wk Go.Wl
def b2g (N:Uni):List VK->Type
 | []=>Unit
 | k::r=>k.den N×b2g N r
def eqs (N:Uni):(ks:List VK)->b2g N ks->List Prop->D0 N Prop ks
 | [],_,ps=>cjl ps
 | _::r,X,ps=>fun x=>eqs N r X.2 (ps++[x=X.1])
section
variable {E:Env} {C:Ctx} {w w':World} {ρ ρ':n9} {Z Z':Nat->Prop} {its lkd:i6 E.N} {nx:Nat} {inl:Inl E}
theorem c6q {v:Value} {s:E.SV} (h:Rep E.N E.T (fun _=>none) Z w v s):Rep E.N E.T ρ Z w v s:=Rep.sub h (fun _ _ h=>by cases h)
theorem a8a {cs:List Value} {ss:List E.SV} (hp:ss.all B3=true) (h:i7 E.N E.T ρ Z w cs ss) (ρ':n9):i7 E.N E.T ρ' Z w cs ss:=by
 induction ss generalizing cs with
 | nil=>obtain rfl:=i7.nil_inv h; exact i7.nil
 | cons s ss ih =>
  obtain ⟨v,r,rfl,h1,hv,h2⟩:=i7.cons_inv h
  simp only [List.all_cons,Bool.and_eq_true] at hp
  exact i7.cons (a95 hp.1 h1 ρ') hv (ih hp.2 h2)
theorem a6y {j id S:Nat} {cells:List E.SV}:∀ {vs vs':List E.SV} {its its':i6 E.N},a1g its vs=some (vs',its')->its[j]?=some (id,.own S cells)->its'[j]?=some (id,.own S cells)
 | [],vs',its,its',h,hj=>by
  simp [a1g] at h; simp_all
 | v::r,vs',its,its',h,hj=>by
  have other:(match a1g its r with | some (r',its')=>some (v::r',its') | none=>none)=some (vs',its')->its'[j]?=some (id,.own S cells):=fun h=>by
   split at h
   . rename_i r' its1 hr
     simp only [Option.some.injEq,Prod.mk.injEq] at h
     obtain ⟨rfl,rfl⟩:=h
     exact a6y hr hj
   . cases h
  cases v with
  | acc id2 =>
   simp only [a1g] at h
   split at h
   . rename_i t l hi
     split at h
     . rename_i r' its1 hr
       simp only [Option.some.injEq,Prod.mk.injEq] at h
       obtain ⟨rfl,rfl⟩:=h
       obtain ⟨i,hi1,hu,_⟩:=p8 hi
       refine a6y hr ?_
       grind
     . cases h
   . split at h
     . rename_i r' its1 hr
       simp only [Option.some.injEq,Prod.mk.injEq] at h
       obtain ⟨rfl,rfl⟩:=h
       exact a6y hr hj
     . cases h
   . cases h
  | ref=>cases h
  | el=>cases h
  | sub=>cases h
  | clo=>cases h
  | yld=>cases h
  | agg=>cases h
  | tup=>cases h
  | _=>exact other h
def c72 (n:Nat) (s:E.SV):Option (List E.SV):=match n with
 | 1=>some [s]
 | _=>(match s with | .tup vs=>some vs | _=>none)
def a6p {N:Uni} (n:Nat) (vs:List (SV N)):SV N:=match n with
 | 1=>vs.headD .un
 | _=>.tup vs
def e38 (E:Env) (S m n:Nat) (ks:List VK) (Q:D0 E.N Prop ks):E.SV->i6 E.N->Nat->Prop:=fun s its _=>match lk its 0,c72 n s with
 | some (.own S' cells),some ars=>bif Nat.beq S' S && Nat.beq cells.length m then (match frz its (cells++ars) with
  | some (vs,its')=>(match B5 E its' ks vs Q with | some p=>p | none=>False)
  | none=>False) else False
 | _,_=>False
def b18 (E:Env):(ks:List VK)->b2g E.N ks->List E.SV
 | [],_=>[]
 | k::r,X=>Z9 E 0 k X.1::b18 E r X.2
theorem b4b:∀ (ks:List VK) (X:b2g E.N ks),(b18 E ks X).length=ks.length
 | [],_=>rfl
 | _::r,X=>by simp [b18,b4b r X.2]
def c6l:VK->Bool
 | .acc _=>false
 | _=>true
theorem b98:∀ {ps qs:List Prop},cjl (ps++qs)->cjl ps/\cjl qs
 | [],_,h=>⟨trivial,h⟩
 | [p],[],h=>⟨h,trivial⟩
 | [p],q::r,h=>⟨h.1,h.2⟩
 | p::q::r,qs,h=>by
  have:=b98 (ps:=q::r) h.2
  exact ⟨⟨h.1,this.1⟩,this.2⟩
theorem c4t (its:i6 E.N):∀ (ks:List VK) (vs:List E.SV) (X:b2g E.N ks) (ps:List Prop) (p:Prop),B5 E its ks vs (eqs E.N ks X ps)=some p->p->cjl ps/\vs.length=ks.length /\
  ∀ {ρ:n9} {Z:Nat->Prop} {w:World} {C:Ctx} {nx:Nat} {us:List Value},Mem E C ρ Z w its nx->ks.all c6l=true->(us.length=vs.length/\∀ (i:Nat) (u:Value) (s:E.SV),us[i]?=some u->vs[i]?=some s->Rep E.N E.T ρ Z w u s)->∀ (i:Nat) (u:Value) (s:E.SV),us[i]?=some u->(b18 E ks X)[i]?=some s->Rep E.N E.T (fun _=>none) Z w u s
 | [],[],X,ps,p,h,hp=>by
  have h:=Option.some.inj (show some (cjl ps)=some p from h)
  simp_all
 | [],_::_,X,ps,p,h,hp=>by cases h
 | _::_,[],X,ps,p,h,hp=>by cases h
 | k::ks,v::vs,X,ps,p,h,hp=>by
  simp only [B5] at h
  split at h
  . rename_i x hx
    obtain ⟨h1,h2,h3⟩:=c4t its ks vs X.2 (ps++[x=X.1]) p h hp
    obtain ⟨h4,h5⟩:=b98 h1
    have h5:x=X.1:=h5
    subst h5
    refine ⟨h4,by simp [h2],fun {ρ Z w C nx us} hm hk hlr i u s hu hs=>?_⟩
    obtain ⟨hl,hr⟩:=hlr
    simp only [List.all_cons,Bool.and_eq_true] at hk
    cases us with
    | nil=>simp at hu
    | cons u0 us =>
     cases i with
     | zero =>
      simp only [List.getElem?_cons_zero,Option.some.injEq,b18] at hu hs
      subst hu; subst hs
      have r0:=hr 0 u0 v rfl rfl
      obtain ⟨ρ3,os',_,f,_,r1,_⟩:=M9 (lkd:=[]) (n2:=0) (ρ2:=fun _=>none) (os:=[]) (new:=[]) (by simpa using hm) r0 hx (fun _ _=>rfl) .nil
      have e2:(fl1 E 0 k X.1).2.2=0:=by cases k <;> first | rfl | (cases hk.1)
      have e3:ρ3=fun _=>none:=by funext i; exact f i (by omega)
      rw [e3] at r1; exact r1
     | succ i =>
      exact h3 (us:=us) hm hk.2 ⟨by simpa using hl,fun i u s hu hs=>hr (i+1) u s hu hs⟩ i u s hu hs
  . cases h
theorem c44 {n:Nat} {s:E.SV} {ars:List E.SV} {v:Value} (h:c72 n s=some ars) (r:Rep E.N E.T ρ Z w v s):∃ us:List Value,us.length=ars.length/\(∀ (i:Nat) (u:Value) (s:E.SV),us[i]?=some u->ars[i]?=some s->Rep E.N E.T ρ Z w u s) /\
  ∀ {ρ':n9} {Z':Nat->Prop} {w':World} {ss:List E.SV},ss.length=ars.length->(∀ (i:Nat) (u:Value) (s:E.SV),us[i]?=some u->ss[i]?=some s->Rep E.N E.T ρ' Z' w' u s)->Rep E.N E.T ρ' Z' w' v (a6p n ss):=by
 by_cases e:n=1
 . subst e
   simp only [c72,Option.some.injEq] at h
   subst h
   refine ⟨[v],rfl,fun i u s' hu hs=>?_,fun {ρ' Z' w' ss} hl hr=>?_⟩
   . grind
   . match ss,hl with
     | [s'],_=>exact hr 0 v s' rfl rfl
 . have h':∃ vs,s=.tup vs/\ars=vs:=by
     unfold c72 at h
     split at h
     . omega
     . grind
   obtain ⟨vs,rfl,rfl⟩:=h'
   obtain ⟨cs,rfl⟩:=Rep.tup_inv r
   obtain ⟨g1,g2⟩:=RepT.get r
   refine ⟨cs,g1,g2,fun {ρ' Z' w' ss} hl hr=>?_⟩
   have:a6p n ss=.tup ss:=by
    unfold a6p
    split
    . omega
    . rfl
   rw [this]
   exact RepT.of_get (by rw [g1,hl]) hr
def c7e (E:Env) (n:Nat) (ks:List VK) (Q:D0 E.N Prop ks):E.SV->i6 E.N->Nat->Prop:=fun s its _=>match c72 n s with
 | some ars=>(match frz its ars with
  | some (vs,its')=>(match B5 E its' ks vs Q with | some p=>p | none=>False)
  | none=>False)
 | none=>False
theorem e20 (hE:j7 E) (hI:F1 E inl) {K n:Nat} {fn:Func} {an:Ann} (hf:E.P.funcs[K]?=some fn) {ks:List VK} {X:b2g E.N ks} {args:List E.SV} {ob:List Prop} (hk:ks.all c6l=true) (hp:args.all B3=true)
  (hv:m7 inl an fn args [] [] 0 (c7e E n ks (eqs E.N ks X []))):E2 E.P E.N E.T E.G K args nx ⟨ob,[],a6p n (b18 E ks X),[]⟩ :=
 ⟨fun ρ Z w vs hfr hz hg ha=>(J4 (C:=a3g (fun _=>none) Z w) hE hI hf hv (b1p (fun _ _=>rfl) hz) hg (E6 hp ha _)).mono fun v w' h=>by
  obtain ⟨ρ',Z',s,its',nx',hx,hm,ht,hr,hk'⟩:=h.pure
  unfold c7e at hk'
  split at hk'
  . rename_i ars has
    split at hk'
    . rename_i vs' its2 hfz
      split at hk'
      . rename_i p hrb
        obtain ⟨us,u1,u2,u3⟩:=c44 has hr
        obtain ⟨Z2,m2,t2,he⟩:=b7y (lkd:=[]) (by simpa using hm) hfz
        rw [List.append_nil] at m2
        obtain ⟨_,hlen,hget⟩:=c4t its2 ks vs' X [] p hrb hk'
        have hvl:vs'.length=ars.length:=he.1
        have all:us.length=vs'.length/\∀ (i:Nat) (u:Value) (s:E.SV),us[i]?=some u->vs'[i]?=some s->Rep E.N E.T ρ' Z2 w' u s:=by
         refine ⟨by rw [hvl,u1],fun i u s' hu hs=>?_⟩
         have hil:i<ars.length:=by rw [<- hvl]; exact s6 hs
         exact he.2 i _ s' (List.getElem?_eq_getElem hil) hs u (u2 i u _ hu (List.getElem?_eq_getElem hil))
        have fin:=hget m2 hk all
        refine ⟨ρ,Z2,fun _ _ h=>h,fun i hi=>hfr i (by omega),m2.zge,fun b hb=>?_,c6q (u3 (by rw [b4b,<- hlen,hvl]) fun i u s' hu hs=>fin i u s' hu hs),?_,trivial⟩
        . rcases m2.zle b hb with h | h | h
          . exact .inl h
          . cases h
          . exact .inr h
        . exact ⟨m2.sep.ext,m2.sep.zlt,fun k t h=>by simp [o0,number] at h,fun j k s t h=>by simp [o0,number] at h⟩
      simp_all
    simp_all
  simp_all⟩
theorem A3.conv {K:Nat} {args args':List E.SV} {c:CR E.N} (h:A3 E K args' c) (ha:∀ (D:Nat->Prop) (w:World) (vs:List Value),Rep E.N E.T (fun _=>none) D w (.tuple vs.toArray) (.tup args)->Rep E.N E.T (fun _=>none) D w (.tuple vs.toArray) (.tup args')):A3 E K args c :=
 fun D w vs hD hg hr=>h D w vs hD hg (ha D w vs hr)
def b0b {N:Uni}:SV N->Option Bool
 | .tt=>some true
 | .ff=>some false
 | .bl p d=>some (@decide p d)
 | _=>none
theorem a18 {s:E.SV} {b:Bool} {v:Value} (h:b0b s=some b) (r:Rep E.N E.T ρ Z w v s):Rep E.N E.T ρ Z w v (blB b):=by
 have hb:∀ y:Bool,Value.bool y=.bool (@decide (y=true) inferInstance):=fun y=>by simp_all
 cases r with
 | tt=>cases h; rw [hb true]; exact .bl
 | ff=>cases h; rw [hb false]; exact .bl
 | @bl p d=>cases h; rw [hb (@decide p d)]; exact .bl
 | _=>cases h
end
end Go.Rx
end
section
namespace Go.Rx
open Go Go.Wk Go.Wl
def HZ (E:Env) (inl:Inl E) (an:Ann) (fn:Func) (args:List E.SV) (n:Nat) (ks:List VK) (X:b2g E.N ks):Prop:=m7 inl an fn args [] [] 0 (c7e E n ks (eqs E.N ks X []))
theorem e0m {E:Env} {inl:Inl E} {nx K n:Nat} {fn:Func} {an:Ann} {ks:List VK} {X:b2g E.N ks} {args:List E.SV} {ob:List Prop} (hE:j7 E) (hI:F1 E inl) (hf:E.P.funcs[K]?=some fn) (hk:ks.all c6l=true) (hp:args.all B3=true)
  (hv:HZ E inl an fn args n ks X):E2 E.P E.N E.T E.G K args nx ⟨ob,[],a6p n (b18 E ks X),[]⟩:=e20 hE hI hf hk hp hv
end Go.Rx
end
section
namespace Go.Rx
open Go Go.Wk Go.Wl
section
variable {E:Env} {C:Ctx} {ρ:n9} {Z:Nat->Prop} {w:World} {its lkd:i6 E.N} {nx:Nat} {inl:Inl E}
def d2x (E:Env) (its:i6 E.N):m6 E.N:=its.filterMap fun p=>match p.2 with | .own _ _=>some (200+p.1,.ref p.1 0) | .ob _ _ _=>some (200+p.1,.ref p.1 0) | _=>none
def st0 (E:Env) (its:i6 E.N) (nx:Nat):E.St:=⟨d2x E its,[],its,nx⟩
end
end Go.Rx
end
section
namespace Go.Rx
open Go Go.Wk Go.Wl
section
variable {N:Uni} {T:N3} {ρ:n9} {Z:Nat->Prop} {w:World} {P:Program} {G:Y2} {K nx:Nat} {c:CR N}
theorem E2.weak {a b:List (SV N)} (h:E2 P N T G K b nx c) (hw:∀ ρ Z w v,Rep N T ρ Z w v (.tup a)->Rep N T ρ Z w v (.tup b)):E2 P N T G K a nx c :=
 ⟨fun ρ Z w vs h1 h2 h3 h4=>h.run ρ Z w vs h1 h2 h3 (hw ρ Z w _ h4)⟩
end
end Go.Rx
end
section
namespace Go.Rx
open Go Go.Wk Go.Wl
def vTc (N:Uni):List TK->Type
 | []=>Unit
 | .v k::r=>k.den N×vTc N r
 | .to _::r=>vTc N r
 | .nilp::r=>vTc N r
def vTp (N:Uni):List TP->Type
 | []=>Unit
 | .own _ _ ks::r=>vTc N ks×vTp N r
 | .ob _ k::r=>N.O k×vTp N r
def vC (N:Uni):List LV->Type
 | []=>Unit
 | .slot _ k::r=>k.den N×vC N r
 | .tree _ ps::r=>vTp N ps×vC N r
 | _::_=>Unit
def a8s {N:Uni} {α:Type}:(ks:List TK)->tcD N α ks->vTc N ks->α
 | [],f,_=>f
 | .v _::r,f,X=>a8s r (f X.1) X.2
 | .to _::r,f,X=>a8s r f X
 | .nilp::r,f,X=>a8s r f X
def a88 {N:Uni} {α:Type}:(ps:List TP)->tpD N α ps->vTp N ps->α
 | [],f,_=>f
 | .own _ _ ks::r,f,X=>a88 r (a8s ks f X.1) X.2
 | .ob _ _::r,f,X=>a88 r (f X.1) X.2
def b7q {N:Uni} {α:Type} (d:α):(vs:List LV)->Cur N α vs->vC N vs->α
 | [],f,_=>f
 | .slot _ _::r,f,X=>b7q d r (f X.1) X.2
 | .tree _ ps::r,f,X=>b7q d r (a88 ps f X.1) X.2
 | _::_,_,_=>d
def X7 (E:Env) (nm:List Nat):(ks:List TK)->Nat->i6 E.N->List E.SV->vTc E.N ks->Nat×i6 E.N×List E.SV
 | [],nx,its,acc,_=>(nx,its,acc)
 | .v k::r,nx,its,acc,X=>X7 E nm r (fl1 E nx k X.1).2.2 ((fl1 E nx k X.1).2.1++its) (acc++[(fl1 E nx k X.1).1]) X.2
 | .to j::r,nx,its,acc,X=>X7 E nm r nx its (acc++[.ref (nm.getD j 0) 0]) X
 | .nilp::r,nx,its,acc,X=>X7 E nm r nx its (acc++[.con (.pointer none)]) X
def a43 (E:Env) (nm:List Nat):(ps:List TP)->Nat->Nat->i6 E.N->vTp E.N ps->Nat×i6 E.N
 | [],_,nx,its,_=>(nx,its)
 | .own _ T ks::r,i,nx,its,X=>a43 E nm r (i+1) (X7 E nm ks nx its [] X.1).1 ((nm.getD i 0,.own T (X7 E nm ks nx its [] X.1).2.2)::(X7 E nm ks nx its [] X.1).2.1) X.2
 | .ob _ k::r,i,nx,its,X=>a43 E nm r (i+1) (nx+1) ((nm.getD i 0,.ob k nx X.1)::its) X.2
def c0w (E:Env) (fx:m6 E.N) (st:E.St):(vs:List LV)->vC E.N vs->E.St->E.St
 | [],_,new=>new
 | .slot s k::r,X,new=>c0w E fx st r X.2 ⟨(s,(fl1 E new.nx k X.1).1)::new.slots,[],(fl1 E new.nx k X.1).2.1++new.items,(fl1 E new.nx k X.1).2.2⟩
 | .tree ss ps::r,X,new=>c0w E fx st r X.2 ⟨(ss.map fun p=>(p.1,.ref ((tnm new.nx 0 (U2 fx st ps)).getD p.2 0) 0))++new.slots,[],(a43 E (tnm new.nx 0 (U2 fx st ps)) ps 0 (new.nx+ps.length) new.items X.1).2,(a43 E (tnm new.nx 0 (U2 fx st ps)) ps 0 (new.nx+ps.length) new.items X.1).1⟩
 | _::_,_,new=>new
section
variable {E:Env} {fx:m6 E.N} {st:E.St}
theorem a2u {nm:List Nat} {α:Type} {G:α->Nat->i6 E.N->List E.SV->Prop}:∀ (ks:List TK) (f:tcD E.N α ks) (nx:Nat) (its:i6 E.N) (acc:List E.SV),(∀ Y,G (a8s ks f Y) (X7 E nm ks nx its acc Y).1 (X7 E nm ks nx its acc Y).2.1 (X7 E nm ks nx its acc Y).2.2)->a3x E nm ks nx its acc f G
 | [],f,nx,its,acc,h=>h ()
 | .v k::r,f,nx,its,acc,h=>fun x=>a2u r (f x) _ _ _ fun Y=>h (x,Y)
 | .to j::r,f,nx,its,acc,h=>a2u r f _ _ _ h
 | .nilp::r,f,nx,its,acc,h=>a2u r f _ _ _ h
theorem a6s {nm:List Nat} {α:Type} {G:α->Nat->i6 E.N->Prop}:∀ (ps:List TP) (f:tpD E.N α ps) (i nx:Nat) (its:i6 E.N),(∀ Y,G (a88 ps f Y) (a43 E nm ps i nx its Y).1 (a43 E nm ps i nx its Y).2)->a7i E nm ps i nx its f G
 | [],f,i,nx,its,h=>h ()
 | .own _ T ks::r,f,i,nx,its,h=>a2u ks f nx its [] fun Y=>a6s r _ _ _ _ fun Z=>h (Y,Z)
 | .ob _ k::r,f,i,nx,its,h=>fun x=>a6s r (f x) _ _ _ fun Z=>h (x,Z)
theorem a4o {α:Type} {d:α} {G:α->E.St->Prop}:∀ (vs:List LV) (f:Cur E.N α vs) (new:E.St),a7n vs=true->(∀ Y,G (b7q d vs f Y) (c0w E fx st vs Y new))->H8 E fx st vs f new G
 | [],f,new,_,h=>h ()
 | .slot s k::r,f,new,ho,h=>fun x=>a4o r (f x) _ ho fun Y=>h (x,Y)
 | .tree ss ps::r,f,new,ho,h=>a6s ps f 0 _ _ fun Y=>a4o r _ _ ho fun Z=>h (Y,Z)
 | .own _ _::_,_,_,ho,_=>by cases ho
 | .ob _ _::_,_,_,ho,_=>by cases ho
 | .cont _ _::_,_,_,ho,_=>by cases ho
 | .chain _ _ _ _::_,_,_,ho,_=>by cases ho
 | .rows _ _ _ _::_,_,_,ho,_=>by cases ho
 | .alt::_,_,_,ho,_=>by cases ho
 | .unr _::_,_,_,ho,_=>by cases ho
end
section
variable {N:Uni}
end
section
variable {E:Env} {fx:m6 E.N} {st:E.St}
variable {inl:Inl E}
structure GD (N:Uni) where
 fz:List Nat
 ss:List (List LV)
 C:GC N
def c8q (E:Env) (M:Nat->Option (GD E.N)) (inl:Inl E):Inl E:=fun K args its lkd nx k=>match M K with
 | none=>inl K args its lkd nx k
 | some o=>(match a98 (E:=E) ⟨o.fz,o.ss,fun _ _=>none⟩ args its nx with
  | none=>inl K args its lkd nx k
  | some (a,i,m)=>bif (E.inl K).isSome && distinct (reach i 60 (a.flatMap a63) []) then
   (match a7h (X0 (B6 i (reach i 60 (a.flatMap a63) [])) 0) a,c19 i (X0 (B6 i (reach i 60 (a.flatMap a63) [])) 0) 0 (reach i 60 (a.flatMap a63) []) with
   | some a',some i'=>(match o.C a' i' with
    | some S=>S (fun s it n=>match c2t (a44 (B6 i (reach i 60 (a.flatMap a63) [])) m) s,a82 (a44 (B6 i (reach i 60 (a.flatMap a63) [])) m) it with
     | some s',some it'=>k s' (it'++l6 i (reach i 60 (a.flatMap a63) [])) (m+(n-(B6 i (reach i 60 (a.flatMap a63) [])).length))
     | _,_=>False)
    | none=>inl K args its lkd nx k)
   | _,_=>False) else False)
theorem b91 {M:Nat->Option (GD E.N)} (hM:∀ K o args its S,M K=some o->o.C args its=some S->R9 E.P E.N E.T E.G K args its (2 * its.length) S) (hI:F1 E inl):F1 E (c8q E M inl):=by
 intro K args its lkd nx k hv
 unfold c8q at hv
 split at hv
 . exact hI K args its lkd nx k hv
 . rename_i o hC
   split at hv
   . exact hI K args its lkd nx k hv
   . rename_i a i m hA
     cases hb:((E.inl K).isSome && distinct (reach i 60 (a.flatMap a63) [])) with
     | false=>simp_all
     | true =>
      rw [hb,cond_true] at hv
      simp only [Bool.and_eq_true] at hb
      obtain ⟨hin,hd⟩:=hb
      refine ⟨hin,fun C ρ Z w vs hm hg ha0=>?_⟩
      obtain ⟨ρ1,Z1,m1,t1,a1⟩:=a8i hg hm hA ha0
      split at hv
      . rename_i a' i' ha hi
        split at hv
        . rename_i S hS
          exact (c00 hd ha hi (hM K o a' i' S hC hS) hv m1 (Y2.turn hg t1) a1).mono fun v w' ⟨ρ',Z',s,its',nx',q1,q2,q3,q4⟩=>⟨ρ',Z',s,its',nx',q1,t1.trans q2,q3,q4⟩
        . exact (hI K args its lkd nx k hv).2 C ρ Z w vs hm hg ha0
      simp_all
def P7 (E:Env) (H:Nat->Option (GD E.N)) (an:Nat->Ann):Nat->Inl E
 | 0=>c8q E H (fun _ _ _ _ _ _=>False)
 | n+1=>c8q E H (fun K args its lkd nx k=>match E.inl K with | some fn=>m7 (P7 E H an n) (an K) fn args its lkd nx k | none=>False)
theorem j6 (hE:j7 E) {H:Nat->Option (GD E.N)} (hH:∀ K o args its S,H K=some o->o.C args its=some S->R9 E.P E.N E.T E.G K args its (2 * its.length) S) (an:Nat->Ann):∀ m,F1 E (P7 E H an m)
 | 0=>b91 hH fun _ _ _ _ _ _ h=>h.elim
 | m+1=>b91 hH fun K args its lkd nx k h=>by
  have h:(match E.inl K with | some fn=>m7 (P7 E H an m) (an K) fn args its lkd nx k | none=>False):=h
  split at h
  . rename_i fn hf
    exact ⟨by rw [hf]; rfl,fun C ρ Z w vs hm hg ha=>J4 hE (j6 hE hH an m) (hE.inl K fn hf) h hm hg ha⟩
  simp_all
def noH {N:Uni}:Nat->Option (GD N):=fun _=>none
theorem d2u {P:Program} {N:Uni} {T:N3} {G:Y2}:∀ K o args its S,(noH:Nat->Option (GD N)) K=some o->o.C args its=some S->R9 P N T G K args its (2 * its.length) S:=fun _ _ _ _ _ h=>by cases h
end
end Go.Rx
end
section
namespace Go.Rx
open Go Go.Wk Go.Wl
structure Cl (P:Program) where
 J:Nat->(Nat->Prop)->World->List Int->List Nat->Prop
 stab:∀ {b:Nat} {xs:List Int} {F:List Nat},It.Stab ⟨F,[],fun Z w=>J b Z w xs F⟩
 lt:∀ {b:Nat} {Z:Nat->Prop} {w:World} {xs:List Int} {F:List Nat},J b Z w xs F->∀ b∈F,b<w.heap.size
 pre:List Int->Int->Prop
 res:List Int->Int->Bool
 step:∀ (Z:Nat->Prop) (w:World) (b:Nat) (F:List Nat) (xs:List Int) (t:Int),(∀ b,Z b->b<w.heap.size)->(∀ b∈F,¬ Z b)->J b Z w xs F->pre xs t->b9 t ->
  T5 P b [.int .i64 t] w (fun v w'=>v=.bool (res xs t)/\∃ F',J b Z w' (xs++[t]) F'/\c2f w w' F F')
abbrev ClX (P:Program):=Cl P×List Int
def obY (P:Program) (b:Nat):Ob (ClX P) where
 is:=fun Z w x F=>x.1.J b Z w x.2 F
 stab:=fun {x}=>x.1.stab
 lt:=fun {_ _ x _} h=>x.1.lt h
def ClX.pre {P:Program} (x:ClX P) (t:Int):Prop:=x.1.pre x.2 t
def ClX.res {P:Program} (x:ClX P) (t:Int):Bool:=x.1.res x.2 t
def ClX.put {P:Program} (x:ClX P) (t:Int):ClX P:=(x.1,x.2++[t])
theorem ClX.bl {N:Uni} {T:N3} {ρ:n9} {Z:Nat->Prop} {w:World} {b:Bool}:Rep N T ρ Z w (.bool b) (blB b):=by
 have h:Rep N T ρ Z w (.bool (decide (b=true))) (blB b):=.bl
 simp_all
theorem d5q {N:Uni} {T:N3} {ρ:n9} {Z:Nat->Prop} {w:World} {cs:List Value} (h:Rep N T ρ Z w (.tuple cs.toArray) (.tup [])):cs=[]:=by
 generalize e:Value.tuple cs.toArray=u at h
 cases h with | tup0=>simpa using e
end Go.Rx
end
section
namespace Go.Rx
open Go Go.Wk Go.Wl
section
variable {E:Env} {K t i:Nat} {x:E.N.U t} {cells:List E.SV} {ars:List E.SV} {its:i6 E.N} {ob:List Prop} {v:E.SV}
theorem c94 {w:World} {b T:Nat} {cs:List Value} {D:Nat->Prop} (ho:Own w b T cs) (hD:D b) (hr:(E.N.tb t).r.rd D w cs x):(v8 (E.N.tb t).r).rd D w [.slice (some ⟨b,0,none⟩) [x].length 1] [x] :=
 ⟨by simp_all,_,_,rfl,⟨fun h=>(by cases h),Nat.le_refl _⟩,fun i hi=>by
  have hi:i<1:=hi
  have e:i=0:=by omega
  subst e
  refine ⟨_,_,_,rfl,hD,Own.cells ho _ cs [] ?_,hr⟩
  simp_all⟩
end
end Go.Rx
end
section
namespace Go.Re
structure Dy where
 Year:Int
 Month:Int
 Date:Int
 deriving DecidableEq,Inhabited
structure Tm where
 Day:Dy
 Hour:Int
 Min:Int
 Sec:Int
 Bare:Bool
 UTC:Bool
 deriving DecidableEq,Inhabited
structure Nt where
 N:Int
 Day:Int
 deriving DecidableEq,Inhabited
structure Rl where
 Freq:Int
 Interval:Int
 Count:Int
 Until:List Tm
 Month:List Int
 WeekNo:List Int
 YearDay:List Int
 MonthDay:List Int
 Days:List Nt
 Hour:List Int
 Minute:List Int
 Second:List Int
 SetPos:List Int
 Wkst:Int
 deriving DecidableEq,Inhabited
def u9 (y m:Int):Int :=
 if y<1 ∨ 9999<y then 0 else
 if m=2 then (if y % 4=0/\(y % 100≠0 ∨ y % 400=0) then 29 else 28) else
 if m=1 ∨ m=3 ∨ m=5 ∨ m=7 ∨ m=8 ∨ m=10 ∨ m=12 then 31 else
 if m=4 ∨ m=6 ∨ m=9 ∨ m=11 then 30 else 0
def A9 (d:Dy):Prop:=1<=d.Date/\d.Date<=u9 d.Year d.Month
instance:DecidablePred A9:=fun d=>inferInstanceAs (Decidable (_/\_))
def G1 (d:Dy):Bool:=decide (A9 d)
def j4 (y:Int):Int:=365 * (y-1)+(y-1) / 4-(y-1) / 100+(y-1) / 400
def F9 (y m:Int):Int :=
 if m<=1 then 0 else if m=2 then 31 else
 (if y % 4=0/\(y % 100≠0 ∨ y % 400=0) then 1 else 0) +
 (if m=3 then 59 else if m=4 then 90 else if m=5 then 120 else if m=6 then 151 else if m=7 then 181 else if m=8 then 212 else if m=9 then 243 else if m=10 then 273 else if m=11 then 304 else 334)
def D7 (d:Dy):Int:=j4 d.Year+F9 d.Year d.Month+d.Date
def j9 (d:Dy):Int:=if A9 d then D7 d else 0
def E1 (y m d:Int):Int :=
 if m<3 then 365 * (y-1)+(y-1) / 4-(y-1) / 100+(y-1) / 400+(153 * (m+12-3)+2) / 5+d-306
 else 365 * y+y / 4-y / 100+y / 400+(153 * (m-3)+2) / 5+d-306
theorem A9.ym {d:Dy} (h:A9 d):1<=d.Year/\d.Year<=9999/\1<=d.Month/\d.Month<=12/\1<=d.Date/\d.Date<=31:=by
 obtain ⟨h1,h2⟩:=h
 unfold u9 at h2
 (repeat' split at h2) <;> omega
theorem a2s {y m:Int} (h0:1<=y) (h1:y<=9999) (m0:1<=m) (m1:m<=12):u9 y m=F9 y (m+1)-F9 y m ∨ m=12/\u9 y m=31:=by
 have hm:m=1 ∨ m=2 ∨ m=3 ∨ m=4 ∨ m=5 ∨ m=6 ∨ m=7 ∨ m=8 ∨ m=9 ∨ m=10 ∨ m=11 ∨ m=12:=by omega
 unfold u9 F9
 rw [if_neg (by omega)]
 rcases hm with rfl | rfl | rfl | rfl | rfl | rfl | rfl | rfl | rfl | rfl | rfl | rfl <;> simp <;> split <;> omega
theorem a0m {y m d:Int} (m0:1<=m) (m1:m<=12):E1 y m d=j4 y+F9 y m+d:=by
 have hm:m=1 ∨ m=2 ∨ m=3 ∨ m=4 ∨ m=5 ∨ m=6 ∨ m=7 ∨ m=8 ∨ m=9 ∨ m=10 ∨ m=11 ∨ m=12:=by omega
 unfold E1 j4 F9
 by_cases hl:y % 4=0/\(y % 100≠0 ∨ y % 400=0)
 . rw [if_pos hl]
   rcases hm with rfl | rfl | rfl | rfl | rfl | rfl | rfl | rfl | rfl | rfl | rfl | rfl <;> simp <;> omega
 . rw [if_neg hl]
   rcases hm with rfl | rfl | rfl | rfl | rfl | rfl | rfl | rfl | rfl | rfl | rfl | rfl <;> simp <;> omega
theorem I7 (y:Int):j4 (y+1)=j4 y+(if y % 4=0/\(y % 100≠0 ∨ y % 400=0) then 366 else 365):=by
 unfold j4
 split <;> omega
theorem A2 {a b:Int} (h:a<=b):j4 a<=j4 b:=by
 unfold j4; omega
theorem b08 (y m:Int):0<=F9 y m/\F9 y m<=335:=by
 unfold F9
 (repeat' split) <;> omega
theorem K9 {d:Dy} (h:A9 d):j4 d.Year<D7 d/\D7 d<=j4 (d.Year+1):=by
 obtain ⟨y0,y1,m0,m1,d0,d1⟩:=h.ym
 have h2:=h.2
 obtain ⟨c0,c1⟩:=b08 d.Year d.Month
 refine ⟨by unfold D7; omega,?_⟩
 rw [I7]
 unfold D7
 have hm:d.Month=1 ∨ d.Month=2 ∨ d.Month=3 ∨ d.Month=4 ∨ d.Month=5 ∨ d.Month=6 ∨ d.Month=7 ∨ d.Month=8 ∨ d.Month=9 ∨ d.Month=10 ∨ d.Month=11 ∨ d.Month=12:=by omega
 unfold u9 at h2
 unfold F9
 generalize d.Month=m at *
 generalize d.Year=y at *
 generalize d.Date=t at *
 rw [if_neg (by omega)] at h2
 by_cases hl:y % 4=0/\(y % 100≠0 ∨ y % 400=0)
 . rw [if_pos hl] at h2 ⊢
   rw [if_pos hl]
   rcases hm with rfl | rfl | rfl | rfl | rfl | rfl | rfl | rfl | rfl | rfl | rfl | rfl <;> simp at h2 ⊢ <;> omega
 . rw [if_neg hl] at h2 ⊢
   rw [if_neg hl]
   rcases hm with rfl | rfl | rfl | rfl | rfl | rfl | rfl | rfl | rfl | rfl | rfl | rfl <;> simp at h2 ⊢ <;> omega
theorem a4s {y m:Int} (h0:1<=y) (h1:y<=9999) (m0:1<=m) (m1:m<=12):28<=u9 y m:=by
 unfold u9
 rw [if_neg (by omega)]
 (repeat' split) <;> omega
theorem a2c {y a b:Int} (h0:1<=y) (h1:y<=9999) (ha:1<=a) (hb:b<=12) (h:a<b):F9 y a+u9 y a<=F9 y b:=by
 rcases a2s h0 h1 ha (by omega:a<=12) with e | ⟨e,_⟩
 . rw [e]
   have up:∀ j:Nat,a+1+j<=12->F9 y (a+1)<=F9 y (a+1+j):=fun j=>by
    induction j with
    | zero=>intro _; rw [show a+1+((0:Nat):Int)=a+1 by omega]; exact Int.le_refl _
    | succ j ih =>
     intro hj
     have h2:=ih (by omega)
     have h3:=a4s h0 h1 (m:=a+1+j) (by omega) (by omega)
     rcases a2s h0 h1 (m:=a+1+j) (by omega) (by omega) with e | ⟨e,_⟩
     . rw [show a+1+((j+1:Nat):Int)=a+1+j+1 by omega]; omega
     . omega
   have:=up (b-(a+1)).toNat (by omega)
   rw [show a+1+((b-(a+1)).toNat:Int)=b by omega] at this
   omega
 . omega
def wdS (n:Int):Int:=(n+6) % 7
theorem c8e {a b:Dy} (ha:A9 a) (hb:A9 b) (h:D7 a=D7 b):a=b:=by
 obtain ⟨a0,a1⟩:=K9 ha
 obtain ⟨b0,b1⟩:=K9 hb
 obtain ⟨y0,y1,m0,m1,d0,d1⟩:=ha.ym
 obtain ⟨y0',y1',m0',m1',d0',d1'⟩:=hb.ym
 have ey:a.Year=b.Year:=by
  rcases Int.lt_trichotomy a.Year b.Year with hl | hl | hl
  . have:=A2 (show a.Year+1<=b.Year by omega); omega
  . exact hl
  . have:=A2 (show b.Year+1<=a.Year by omega); omega
 have a2:=ha.2
 have b2:=hb.2
 unfold D7 at h
 rw [ey] at h a2
 have em:a.Month=b.Month:=by
  rcases Int.lt_trichotomy a.Month b.Month with hl | hl | hl
  . have:=a2c (y:=b.Year) y0' y1' m0 m1' hl; omega
  . exact hl
  . have:=a2c (y:=b.Year) y0' y1' m0' m1 hl; omega
 rw [em] at h
 have ed:a.Date=b.Date:=by omega
 cases a; cases b
 simp only at ey em ed
 rw [ey,em,ed]
def oh (N:Int):Int:=min (N % 146097 / 36524) 3
def o2 (N:Int):Int:=N % 146097-oh N * 36524
def oo (N:Int):Int:=min (o2 N % 1461 / 365) 3
def o4 (N:Int):Int:=o2 N % 1461-oo N * 365
def oy (N:Int):Int:=400 * (N / 146097)+100 * oh N+4 * (o2 N / 1461)+oo N
def om (N:Int):Int:=(5 * o4 N+2) / 153
def ofN (N:Int):Dy :=
 if 12<om N+3 then ⟨oy N+1,om N+3-12,o4 N-(153 * om N+2) / 5+1⟩ else ⟨oy N,om N+3,o4 N-(153 * om N+2) / 5+1⟩
theorem e26 (N:Int):(0<=oh N/\oh N<=3)/\(0<=o2 N/\o2 N<=36524)/\(0<=oo N/\oo N<=3)/\(0<=o4 N/\o4 N<=365)/\0<=om N/\om N<=11:=by
 have h1:0<=oh N/\oh N<=3:=by unfold oh; omega
 have h2:0<=o2 N/\o2 N<=36524:=by
  unfold o2 oh
  omega
 have h3:0<=oo N/\oo N<=3:=by unfold oo; omega
 have h4:0<=o4 N/\o4 N<=365:=by unfold o4 oo; omega
 exact ⟨h1,h2,h3,h4,by unfold om; omega⟩
def ofS (n:Int):Dy:=if n<1 ∨ 3652059<n then ⟨0,0,0⟩ else ofN (n+305)
theorem d6e {n:Int} (h0:1<=n) (h1:n<=3652059):A9 (ofN (n+305))/\D7 (ofN (n+305))=n:=by
 have hd:∀ y m t:Int,1<=m->m<=12->D7 ⟨y,m,t⟩=E1 y m t:=fun y m t a b=>(a0m a b).symm
 unfold ofN oy om o4 oo o2 oh
 generalize eN:n+305=N
 generalize e1:N % 146097=r1
 generalize eq:N / 146097=q
 generalize eh:min (r1 / 36524) 3=h
 generalize e2:r1-h * 36524=r2
 generalize ef:r2 / 1461=f
 generalize e3:r2 % 1461=r3
 generalize eo:min (r3 / 365) 3=o
 generalize e4:r3-o * 365=r4
 have b1:0<=r1/\r1<146097:=by omega
 have bh:0<=h/\h<=3:=by omega
 have b2:0<=r2/\r2<=36524/\(h<3->r2<36524):=by
  have hc:h=0 ∨ h=1 ∨ h=2 ∨ h=3:=by omega
  rcases hc with rfl | rfl | rfl | rfl <;> omega
 have bf:0<=f/\f<=24:=by omega
 have b3:0<=r3/\r3<1461:=by omega
 have bo:0<=o/\o<=3:=by omega
 have b4:0<=r4/\r4<=365/\(r4=365->o=3/\r3=1460):=by
  have hc:o=0 ∨ o=1 ∨ o=2 ∨ o=3:=by omega
  rcases hc with rfl | rfl | rfl | rfl <;> omega
 generalize em:(5 * r4+2) / 153=m
 have bm:0<=m/\m<=11:=by omega
 have hY:(400 * q+100 * h+4 * f+o) / 4=100 * q+25 * h+f:=by omega
 have hY1:(400 * q+100 * h+4 * f+o) / 100=4 * q+h:=by omega
 have hY4:(400 * q+100 * h+4 * f+o) / 400=q:=by omega
 have eN2:N=146097 * q+r1:=by omega
 have er2:r2=1461 * f+r3:=by omega
 have hc:∀ t,365 * (400 * q+100 * h+4 * f+o)+(400 * q+100 * h+4 * f+o) / 4-(400 * q+100 * h+4 * f+o) / 100+(400 * q+100 * h+4 * f+o) / 400+t-306=146097 * q+36524 * h+1461 * f+365 * o+t-306:=fun t=>by rw [hY,hY1,hY4]; omega
 have hq:0<=q/\q<=25:=by omega
 have bd:1<=r4-(153 * m+2) / 5+1:=by omega
 by_cases h12:12<m+3
 . rw [if_pos h12]
   have hm:m=10 ∨ m=11:=by omega
   refine ⟨⟨bd,?_⟩,?_⟩
   . show r4-(153 * m+2) / 5+1<=u9 (400 * q+100 * h+4 * f+o+1) (m+3-12)
     have hy:1<=400 * q+100 * h+4 * f+o+1:=by omega
     have hy2:400 * q+100 * h+4 * f+o+1<=9999:=by omega
     unfold u9
     rw [if_neg (by omega)]
     rcases hm with rfl | rfl
     . simp; omega
     . simp
       split
       . omega
       . rename_i hl
         by_cases h5:r4=365
         . exfalso
           obtain ⟨o3,r60⟩:=b4.2.2 h5
           apply hl
           by_cases hf:f=24
           . have:h=3:=by omega
             omega
           . omega
         . omega
   . rw [hd _ _ _ (by omega) (by omega)]
     unfold E1
     rw [if_pos (by omega),show 400 * q+100 * h+4 * f+o+1-1=400 * q+100 * h+4 * f+o by omega,show m+3-12+12-3=m by omega,hY,hY1,hY4]
     omega
 . rw [if_neg h12]
   refine ⟨⟨bd,?_⟩,?_⟩
   . show r4-(153 * m+2) / 5+1<=u9 (400 * q+100 * h+4 * f+o) (m+3)
     have hy:1<=400 * q+100 * h+4 * f+o:=by omega
     have hy2:400 * q+100 * h+4 * f+o<=9999:=by omega
     have hm:m=0 ∨ m=1 ∨ m=2 ∨ m=3 ∨ m=4 ∨ m=5 ∨ m=6 ∨ m=7 ∨ m=8 ∨ m=9:=by omega
     unfold u9
     rw [if_neg (by omega)]
     rcases hm with rfl | rfl | rfl | rfl | rfl | rfl | rfl | rfl | rfl | rfl <;> simp <;> omega
   . rw [hd _ _ _ (by omega) (by omega)]
     unfold E1
     rw [if_neg (by omega),show m+3-3=m by omega,hY,hY1,hY4]
     omega
theorem Q5 {n:Int} (h0:1<=n) (h1:n<=3652059):A9 (ofS n)/\D7 (ofS n)=n:=by
 unfold ofS
 rw [if_neg (by omega)]
 exact d6e h0 h1
theorem of_eq {d:Dy} {n:Int} (h:A9 d) (hn:D7 d=n) (h0:1<=n) (h1:n<=3652059):d=ofS n:=by
 obtain ⟨a,b⟩:=Q5 h0 h1
 exact c8e h a (hn.trans b.symm)
theorem H6 {d:Dy} (h:A9 d):1<=D7 d/\D7 d<=3652059:=by
 obtain ⟨a0,a1⟩:=K9 h
 obtain ⟨y0,y1,_⟩:=h.ym
 have h1:=A2 (show (1:Int)<=d.Year by omega)
 have h2:=A2 (show d.Year+1<=10000 by omega)
 have e1:j4 1=0:=by decide
 have e2:j4 10000=3652059:=by decide
 omega
theorem c3n {d:Dy} (h:A9 d):ofS (D7 d)=d:=(of_eq h rfl (H6 h).1 (H6 h).2).symm
theorem F4 {d:Dy}:G1 d=true↔A9 d:=decide_eq_true_iff
def ydS (d:Dy):Int:=if A9 d then D7 d-j4 d.Year else 0
def z8 (y f:Int):Int:=j4 y+4-(wdS (j4 y+4)-f+7) % 7
def wkY (n f:Int):Int:=if z8 ((ofS n).Year+1) f<=n then (ofS n).Year+1 else if n<z8 (ofS n).Year f then (ofS n).Year-1 else (ofS n).Year
def w8 (n f:Int):Int×Int:=if ((n<1 ∨ 3652059<n) ∨ f<0) ∨ 6<f then (0,0) else (wkY n f,(n-z8 (wkY n f) f) / 7+1)
def F3 (y f:Int):Int:=if ((y<1 ∨ 9999<y) ∨ f<0) ∨ 6<f then 0 else (z8 (y+1) f-z8 y f) / 7
theorem N1 (y f:Int):j4 y+4-6<=z8 y f/\z8 y f<=j4 y+4:=by
 unfold z8
 generalize j4 y+4=a
 omega
theorem C3 {y:Int} (h0:0<=y) (h1:y<=10000):-366<=j4 y/\j4 y<=3652059:=by
 have a0:=A2 h0
 have a1:=A2 h1
 have a2:j4 0=-366:=by decide
 have a3:j4 10000=3652059:=by decide
 omega
def a09 (t:Tm):Prop:=A9 t.Day/\(0<=t.Hour/\t.Hour<=23)/\(0<=t.Min/\t.Min<=59)/\(0<=t.Sec/\t.Sec<=59)/\¬ (t.Bare=true/\(((t.Hour≠0 ∨ t.Min≠0) ∨ t.Sec≠0) ∨ t.UTC=true))
instance:DecidablePred a09:=fun t=>inferInstanceAs (Decidable (_/\_))
def n7 (t:Tm):Bool:=decide (a09 t)
theorem u7 {t:Tm}:n7 t=true↔a09 t:=decide_eq_true_iff
def N4 (t:Tm):Int:=(D7 t.Day-1) * 86400+t.Hour * 3600+t.Min * 60+t.Sec
def b8 (t:Tm):Int:=if a09 t then N4 t else -1
theorem a1v {t:Tm} (h:a09 t):0<=N4 t/\N4 t<3652059 * 86400:=by
 obtain ⟨hd,hh,hm,hs,_⟩:=h
 have:=H6 hd
 unfold N4
 omega
def atS (n:Int) (like:Tm):Tm :=
 if n<0 ∨ (like.Bare=true/\(like.UTC=true ∨ n % 86400≠0)) ∨ 3652059<n / 86400+1 then ⟨⟨0,0,0⟩,0,0,0,false,false⟩
 else ⟨ofS (n / 86400+1),n % 86400 / 3600,n % 86400 / 60 % 60,n % 86400 % 60,like.Bare,like.UTC⟩
theorem tm0 {a b:Int}:a.tmod b=0↔a % b=0:=by
 rw [<- Int.dvd_iff_tmod_eq_zero,<- Int.dvd_iff_emod_eq_zero]
def a1f (y:Int):Int:=if y % 4=0/\(y % 100≠0 ∨ y % 400=0) then 366 else 365
theorem a80 {y m:Int} (m0:1<=m) (m1:m<=12) (h0:1<=y) (h1:y<=9999) (m2:m<12):F9 y (m+1)=F9 y m+u9 y m:=by
 rcases a2s h0 h1 m0 m1 with e | ⟨e,_⟩
 . omega
 . omega
theorem b3z (y:Int):j4 (y+1)=j4 y+F9 y 12+31:=by
 rw [I7]
 unfold F9
 by_cases hl:y % 4=0/\(y % 100≠0 ∨ y % 400=0)
 . rw [if_pos hl,if_pos hl]; simp; omega
 . rw [if_neg hl,if_neg hl]; simp; omega
theorem d1b (y:Int):F9 y 1=0:=by unfold F9; rw [if_pos (by decide)]
theorem c25 {y:Int} (h:1<=y):j4 y<=366 * (y-1):=by unfold j4; omega
theorem a9n (n y:Int) {f:Int} (f0:0<=f) (f1:f<=6):(z8 y f<=n↔j4 y+1<=n-(wdS n-f+7) % 7+3)/\(z8 y f<=n->(n-z8 y f) / 7=(n-(wdS n-f+7) % 7+3-(j4 y+1)) / 7):=by
 unfold z8 wdS
 generalize j4 y=A
 omega
theorem b6f (y x:Int) {f:Int} (f0:0<=f) (f1:f<=6):(x+1-z8 y f+3) / 7=(x-z8 y f+3) / 7+(if (wdS x-f+7) % 7=3 then 1 else 0):=by
 unfold z8 wdS
 generalize j4 y=A
 split <;> omega
theorem c0z (y:Int) {f:Int} (f0:0<=f) (f1:f<=6):(j4 (y+1)+1-z8 y f+3) / 7=(z8 (y+1) f-z8 y f) / 7/\(j4 y+1-z8 y f+3) / 7=0:=by
 unfold z8 wdS
 generalize j4 (y+1)=B
 generalize j4 y=A
 omega
end Go.Re
end
section
namespace Go.Re
open Go Go.Wk Go.Wl Go.Rx
structure Ls where
 wd:Str
 lo:Int
 hi:Int
 both:Bool
 deriving Inhabited
def dLs:Rd Ls where
 sz:=5
 rd:=fun _ _ cs x=>∃ c,cs=[sv x.wd,c,.int .i64 x.lo,.int .i64 x.hi,.bool x.both]/\w5 c=true/\x.wd.length<=9223372036854775807/\InI x.lo/\InI x.hi
 len:=fun ⟨_,e,_⟩=>by rw [e]; rfl
 mono:=fun h _ _ _=>h
 plain:=fun ⟨_,e,h,_⟩=>by rw [e]; simp only [List.all_cons,List.all_nil,h]; rfl
structure Lk where
 Rule:Rl
 start:Tm
 day:Int
 deriving DecidableEq,Inhabited
end Go.Re
end
section
namespace Go.Proofs.YtdjfeninmbpflaaGreat
open Go Go.Wk Go.Wl Go.Rx Go.Re
def dDy:Rd Dy where
 sz:=3
 rd:=fun D w cs x=>∃ c0 c1 c2,cs=c0++(c1++(c2))/\B4.rd D w c0 x.Year/\B4.rd D w c1 x.Month/\B4.rd D w c2 x.Date
 len:=fun ⟨c0,c1,c2,e,h0,h1,h2⟩=>by rw [e]; simp only [List.length_append,Rd.len _ h0,Rd.len _ h1,Rd.len _ h2]; rfl
 mono:=fun ⟨c0,c1,c2,e,h0,h1,h2⟩ a b c=>⟨c0,c1,c2,e,Rd.mono _ h0 a b c,Rd.mono _ h1 a b c,Rd.mono _ h2 a b c⟩
 plain:=fun ⟨c0,c1,c2,e,h0,h1,h2⟩=>by rw [e]; simp only [List.all_append,Rd.plain _ h0,Rd.plain _ h1,Rd.plain _ h2]; rfl
def dTm:Rd Tm where
 sz:=8
 rd:=fun D w cs x=>∃ c0 c1 c2 c3 c4 c5,cs=c0++(c1++(c2++(c3++(c4++(c5)))))/\dDy.rd D w c0 x.Day/\B4.rd D w c1 x.Hour/\B4.rd D w c2 x.Min/\B4.rd D w c3 x.Sec/\a2h.rd D w c4 x.Bare/\a2h.rd D w c5 x.UTC
 len:=fun ⟨c0,c1,c2,c3,c4,c5,e,h0,h1,h2,h3,h4,h5⟩=>by rw [e]; simp only [List.length_append,Rd.len _ h0,Rd.len _ h1,Rd.len _ h2,Rd.len _ h3,Rd.len _ h4,Rd.len _ h5]; rfl
 mono:=fun ⟨c0,c1,c2,c3,c4,c5,e,h0,h1,h2,h3,h4,h5⟩ a b c=>⟨c0,c1,c2,c3,c4,c5,e,Rd.mono _ h0 a b c,Rd.mono _ h1 a b c,Rd.mono _ h2 a b c,Rd.mono _ h3 a b c,Rd.mono _ h4 a b c,Rd.mono _ h5 a b c⟩
 plain:=fun ⟨c0,c1,c2,c3,c4,c5,e,h0,h1,h2,h3,h4,h5⟩=>by rw [e]; simp only [List.all_append,Rd.plain _ h0,Rd.plain _ h1,Rd.plain _ h2,Rd.plain _ h3,Rd.plain _ h4,Rd.plain _ h5]; rfl
def dNt:Rd Nt where
 sz:=2
 rd:=fun D w cs x=>∃ c0 c1,cs=c0++(c1)/\B4.rd D w c0 x.N/\B4.rd D w c1 x.Day
 len:=fun ⟨c0,c1,e,h0,h1⟩=>by rw [e]; simp only [List.length_append,Rd.len _ h0,Rd.len _ h1]; rfl
 mono:=fun ⟨c0,c1,e,h0,h1⟩ a b c=>⟨c0,c1,e,Rd.mono _ h0 a b c,Rd.mono _ h1 a b c⟩
 plain:=fun ⟨c0,c1,e,h0,h1⟩=>by rw [e]; simp only [List.all_append,Rd.plain _ h0,Rd.plain _ h1]; rfl
def dRl:Rd Rl where
 sz:=14
 rd:=fun D w cs x=>∃ c0 c1 c2 c3 c4 c5 c6 c7 c8 c9 c10 c11 c12 c13,cs=c0++(c1++(c2++(c3++(c4++(c5++(c6++(c7++(c8++(c9++(c10++(c11++(c12++(c13)))))))))))))/\B4.rd D w c0 x.Freq/\B4.rd D w c1 x.Interval/\B4.rd D w c2 x.Count/\(v8 dTm).rd D w c3 x.Until/\(v8 B4).rd D w c4 x.Month/\(v8 B4).rd D w c5 x.WeekNo/\(v8 B4).rd D w c6 x.YearDay/\(v8 B4).rd D w c7 x.MonthDay/\(v8 dNt).rd D w c8 x.Days/\(v8 B4).rd D w c9 x.Hour/\(v8 B4).rd D w c10 x.Minute/\(v8 B4).rd D w c11 x.Second/\(v8 B4).rd D w c12 x.SetPos/\B4.rd D w c13 x.Wkst
 len:=fun ⟨c0,c1,c2,c3,c4,c5,c6,c7,c8,c9,c10,c11,c12,c13,e,h0,h1,h2,h3,h4,h5,h6,h7,h8,h9,h10,h11,h12,h13⟩=>by rw [e]; simp only [List.length_append,Rd.len _ h0,Rd.len _ h1,Rd.len _ h2,Rd.len _ h3,Rd.len _ h4,Rd.len _ h5,Rd.len _ h6,Rd.len _ h7,Rd.len _ h8,Rd.len _ h9,Rd.len _ h10,Rd.len _ h11,Rd.len _ h12,Rd.len _ h13]; rfl
 mono:=fun ⟨c0,c1,c2,c3,c4,c5,c6,c7,c8,c9,c10,c11,c12,c13,e,h0,h1,h2,h3,h4,h5,h6,h7,h8,h9,h10,h11,h12,h13⟩ a b c=>⟨c0,c1,c2,c3,c4,c5,c6,c7,c8,c9,c10,c11,c12,c13,e,Rd.mono _ h0 a b c,Rd.mono _ h1 a b c,Rd.mono _ h2 a b c,Rd.mono _ h3 a b c,Rd.mono _ h4 a b c,Rd.mono _ h5 a b c,Rd.mono _ h6 a b c,Rd.mono _ h7 a b c,Rd.mono _ h8 a b c,Rd.mono _ h9 a b c,Rd.mono _ h10 a b c,Rd.mono _ h11 a b c,Rd.mono _ h12 a b c,Rd.mono _ h13 a b c⟩
 plain:=fun ⟨c0,c1,c2,c3,c4,c5,c6,c7,c8,c9,c10,c11,c12,c13,e,h0,h1,h2,h3,h4,h5,h6,h7,h8,h9,h10,h11,h12,h13⟩=>by rw [e]; simp only [List.all_append,Rd.plain _ h0,Rd.plain _ h1,Rd.plain _ h2,Rd.plain _ h3,Rd.plain _ h4,Rd.plain _ h5,Rd.plain _ h6,Rd.plain _ h7,Rd.plain _ h8,Rd.plain _ h9,Rd.plain _ h10,Rd.plain _ h11,Rd.plain _ h12,Rd.plain _ h13]; rfl
def dLk:Rd Lk where
 sz:=23
 rd:=fun D w cs x=>∃ c0 c1 c2,cs=c0++(c1++(c2))/\dRl.rd D w c0 x.Rule/\dTm.rd D w c1 x.start/\B4.rd D w c2 x.day
 len:=fun ⟨c0,c1,c2,e,h0,h1,h2⟩=>by rw [e]; simp only [List.length_append,Rd.len _ h0,Rd.len _ h1,Rd.len _ h2]; rfl
 mono:=fun ⟨c0,c1,c2,e,h0,h1,h2⟩ a b c=>⟨c0,c1,c2,e,Rd.mono _ h0 a b c,Rd.mono _ h1 a b c,Rd.mono _ h2 a b c⟩
 plain:=fun ⟨c0,c1,c2,e,h0,h1,h2⟩=>by rw [e]; simp only [List.all_append,Rd.plain _ h0,Rd.plain _ h1,Rd.plain _ h2]; rfl
def d8i:Rd Unit where
 sz:=0
 rd:=fun _ _ _ _=>False
 len:=fun h=>h.elim
 mono:=fun h _ _ _=>h
 plain:=fun h=>h.elim
def d2w (_:Nat):Ob Unit where
 is:=fun _ _ _ _=>False
 stab:=fun Z Z' B w w' h _ _ _=>h
 lt:=fun h=>h.elim
def U:Uni where
 tb:=fun | 3=>⟨Int,B4,inferInstance⟩ | 4=>⟨Bool,a2h,inferInstance⟩ | 23=>⟨Dy,dDy,inferInstance⟩ | 25=>⟨Tm,dTm,inferInstance⟩ | 26=>⟨List Tm,(v8 dTm),inferInstance⟩ | 27=>⟨List Int,(v8 B4),inferInstance⟩ | 28=>⟨List Nt,(v8 dNt),inferInstance⟩ | 30=>⟨Rl,dRl,inferInstance⟩ | 60=>⟨Nt,dNt,inferInstance⟩ | 85=>⟨Lk,dLk,inferInstance⟩ | 101=>⟨Ls,dLs,inferInstance⟩ | _=>⟨Unit,d8i,⟨()⟩⟩
 oj:=fun | 0=>⟨ClX Tryz.prog,obY Tryz.prog⟩ | _=>⟨Unit,d2w⟩
def eT:N3:=⟨61,0,0,fun t=>bif Nat.beq t 87 then some 1 else none,fun _=>none⟩
theorem d2q {t k:Nat} (h:eT.wr t=some k):(t=87/\k=1):=by
 have h:(bif Nat.beq t 87 then some 1 else none)=some k:=h
 cases hb0:Nat.beq t 87 with
 | true=>rw [hb0,cond_true] at h; cases h; exact ⟨Nat.eq_of_beq_eq_true hb0,rfl⟩
 | false =>
  rw [hb0,cond_false] at h
  cases h
def y3:TyI U eT 3 where
 sv:=fun (x:Int)=>.int .i64 x
 bk:=J7
 sv_ok:=K3
 bk_ok:=d4z
 hy:=fun (x:Int)=>[b9 x]
 hy_ok:=fun {_ _ _ x} h p hp=>by
  have h:B4.rd _ _ _ x:=h
  simp only [List.mem_singleton] at hp; subst hp; exact h.2
def y4:TyI U eT 4 where
 sv:=fun (x:Bool)=>blB x
 bk:=asB
 sv_ok:=fun {_ _ _ _ x} h=>b0a (x:=x) h
 bk_ok:=c9r
def d5t (ls:List (SV U)):Option Dy :=
 (pb J7 (ls.take 1)).bind fun x0 =>
 (pb J7 ((ls.drop 1).take 1)).bind fun x1 =>
 (pb J7 (((ls.drop 1).drop 1))).bind fun x2 =>
 some ⟨x0,x1,x2⟩
theorem e1y {ρ:n9} {Z:Nat->Prop} {w:World} {cs:List Value} {ls:List (SV U)} {x:Dy} (h:i7 U eT ρ Z w cs ls) (e:d5t ls=some x):dDy.rd Z w cs x:=by
 unfold d5t at e
 obtain ⟨x0,e0,e⟩:=Option.bind_eq_some_iff.1 e
 obtain ⟨x1,e1,e⟩:=Option.bind_eq_some_iff.1 e
 obtain ⟨x2,e2,e⟩:=Option.bind_eq_some_iff.1 e
 cases e
 have g1:=i7.split 1 h
 have g2:=i7.split 1 g1.2
 exact ⟨(cs.take 1),((cs.drop 1).take 1),((cs.drop 1).drop 1),by simp only [List.take_append_drop],L3 g1.1 e0,L3 g2.1 e1,L3 g2.2 e2⟩
def y23:TyI U eT 23 where
 sv:=fun (x:Dy)=>.agg ([.int .i64 x.Year]++([.int .i64 x.Month]++([.int .i64 x.Date])))
 bk:=fun s=>d5t (leaves s)
 sv_ok:=fun {ρ Z w cs x} h=>by
  obtain ⟨c0,c1,c2,e,h0,h1,h2⟩:=(show dDy.rd Z w cs x from h)
  subst e
  exact i7.app (K3 h0) (i7.app (K3 h1) (K3 h2))
 bk_ok:=e1y
 hy:=fun (x:Dy)=>[b9 x.Year]++[b9 x.Month]++[b9 x.Date]
 hy_ok:=fun {Z w cs x} h p hp=>by
  obtain ⟨c0,c1,c2,e,h0,h1,h2⟩:=(show dDy.rd Z w cs x from h)
  rcases List.mem_append.1 hp with hp | hp
  . rcases List.mem_append.1 hp with hp | hp
    . · simp only [List.mem_singleton] at hp; subst hp; exact h0.2
    . simp only [List.mem_singleton] at hp; subst hp; exact h1.2
  . simp only [List.mem_singleton] at hp; subst hp; exact h2.2
def d5u (ls:List (SV U)):Option Tm :=
 (y23.bk (.agg (ls.take 3))).bind fun x0 =>
 (pb J7 ((ls.drop 3).take 1)).bind fun x1 =>
 (pb J7 (((ls.drop 3).drop 1).take 1)).bind fun x2 =>
 (pb J7 ((((ls.drop 3).drop 1).drop 1).take 1)).bind fun x3 =>
 (pb asB (((((ls.drop 3).drop 1).drop 1).drop 1).take 1)).bind fun x4 =>
 (pb asB ((((((ls.drop 3).drop 1).drop 1).drop 1).drop 1))).bind fun x5 =>
 some ⟨x0,x1,x2,x3,x4,x5⟩
theorem e35 {ρ:n9} {Z:Nat->Prop} {w:World} {cs:List Value} {ls:List (SV U)} {x:Tm} (h:i7 U eT ρ Z w cs ls) (e:d5u ls=some x):dTm.rd Z w cs x:=by
 unfold d5u at e
 obtain ⟨x0,e0,e⟩:=Option.bind_eq_some_iff.1 e
 obtain ⟨x1,e1,e⟩:=Option.bind_eq_some_iff.1 e
 obtain ⟨x2,e2,e⟩:=Option.bind_eq_some_iff.1 e
 obtain ⟨x3,e3,e⟩:=Option.bind_eq_some_iff.1 e
 obtain ⟨x4,e4,e⟩:=Option.bind_eq_some_iff.1 e
 obtain ⟨x5,e5,e⟩:=Option.bind_eq_some_iff.1 e
 cases e
 have g1:=i7.split 3 h
 have g2:=i7.split 1 g1.2
 have g3:=i7.split 1 g2.2
 have g4:=i7.split 1 g3.2
 have g5:=i7.split 1 g4.2
 exact ⟨(cs.take 3),((cs.drop 3).take 1),(((cs.drop 3).drop 1).take 1),((((cs.drop 3).drop 1).drop 1).take 1),(((((cs.drop 3).drop 1).drop 1).drop 1).take 1),(((((cs.drop 3).drop 1).drop 1).drop 1).drop 1),by simp only [List.take_append_drop],y23.bk_ok (s:=.agg _) g1.1 e0,L3 g2.1 e1,L3 g3.1 e2,L3 g4.1 e3,b94 g5.1 e4,b94 g5.2 e5⟩
def y25:TyI U eT 25 where
 sv:=fun (x:Tm)=>.agg (leaves (y23.sv x.Day)++([.int .i64 x.Hour]++([.int .i64 x.Min]++([.int .i64 x.Sec]++([blB x.Bare]++([blB x.UTC]))))))
 bk:=fun s=>d5u (leaves s)
 sv_ok:=fun {ρ Z w cs x} h=>by
  obtain ⟨c0,c1,c2,c3,c4,c5,e,h0,h1,h2,h3,h4,h5⟩:=(show dTm.rd Z w cs x from h)
  subst e
  exact i7.app (y23.sv_ok h0) (i7.app (K3 h1) (i7.app (K3 h2) (i7.app (K3 h3) (i7.app (b0a h4) (b0a h5)))))
 bk_ok:=e35
 hy:=fun (x:Tm)=>y23.hy x.Day++[b9 x.Hour]++[b9 x.Min]++[b9 x.Sec]
 hy_ok:=fun {Z w cs x} h p hp=>by
  obtain ⟨c0,c1,c2,c3,c4,c5,e,h0,h1,h2,h3,h4,h5⟩:=(show dTm.rd Z w cs x from h)
  rcases List.mem_append.1 hp with hp | hp
  . rcases List.mem_append.1 hp with hp | hp
    . rcases List.mem_append.1 hp with hp | hp
      . · exact y23.hy_ok h0 p hp
      . simp only [List.mem_singleton] at hp; subst hp; exact h1.2
    . simp only [List.mem_singleton] at hp; subst hp; exact h2.2
  . simp only [List.mem_singleton] at hp; subst hp; exact h3.2
def y26:TyI U eT 26 where
 sv:=fun (x:List Tm)=>.sl 25 x
 bk:=fun s=>pb (Y6 U 25) (leaves s)
 sv_ok:=U8 (N:=U) (t:=25)
 bk_ok:=U0 (N:=U) (t:=25)
def y27:TyI U eT 27 where
 sv:=fun (x:List Int)=>.sl 3 x
 bk:=fun s=>pb (Y6 U 3) (leaves s)
 sv_ok:=U8 (N:=U) (t:=3)
 bk_ok:=U0 (N:=U) (t:=3)
def y28:TyI U eT 28 where
 sv:=fun (x:List Nt)=>.sl 60 x
 bk:=fun s=>pb (Y6 U 60) (leaves s)
 sv_ok:=U8 (N:=U) (t:=60)
 bk_ok:=U0 (N:=U) (t:=60)
def d4e (ls:List (SV U)):Option Rl :=
 (pb J7 (ls.take 1)).bind fun x0 =>
 (pb J7 ((ls.drop 1).take 1)).bind fun x1 =>
 (pb J7 (((ls.drop 1).drop 1).take 1)).bind fun x2 =>
 (pb (Y6 U 25) ((((ls.drop 1).drop 1).drop 1).take 1)).bind fun x3 =>
 (pb (Y6 U 3) (((((ls.drop 1).drop 1).drop 1).drop 1).take 1)).bind fun x4 =>
 (pb (Y6 U 3) ((((((ls.drop 1).drop 1).drop 1).drop 1).drop 1).take 1)).bind fun x5 =>
 (pb (Y6 U 3) (((((((ls.drop 1).drop 1).drop 1).drop 1).drop 1).drop 1).take 1)).bind fun x6 =>
 (pb (Y6 U 3) ((((((((ls.drop 1).drop 1).drop 1).drop 1).drop 1).drop 1).drop 1).take 1)).bind fun x7 =>
 (pb (Y6 U 60) (((((((((ls.drop 1).drop 1).drop 1).drop 1).drop 1).drop 1).drop 1).drop 1).take 1)).bind fun x8 =>
 (pb (Y6 U 3) ((((((((((ls.drop 1).drop 1).drop 1).drop 1).drop 1).drop 1).drop 1).drop 1).drop 1).take 1)).bind fun x9 =>
 (pb (Y6 U 3) (((((((((((ls.drop 1).drop 1).drop 1).drop 1).drop 1).drop 1).drop 1).drop 1).drop 1).drop 1).take 1)).bind fun x10 =>
 (pb (Y6 U 3) ((((((((((((ls.drop 1).drop 1).drop 1).drop 1).drop 1).drop 1).drop 1).drop 1).drop 1).drop 1).drop 1).take 1)).bind fun x11 =>
 (pb (Y6 U 3) (((((((((((((ls.drop 1).drop 1).drop 1).drop 1).drop 1).drop 1).drop 1).drop 1).drop 1).drop 1).drop 1).drop 1).take 1)).bind fun x12 =>
 (pb J7 ((((((((((((((ls.drop 1).drop 1).drop 1).drop 1).drop 1).drop 1).drop 1).drop 1).drop 1).drop 1).drop 1).drop 1).drop 1))).bind fun x13 =>
 some ⟨x0,x1,x2,x3,x4,x5,x6,x7,x8,x9,x10,x11,x12,x13⟩
theorem e2c {ρ:n9} {Z:Nat->Prop} {w:World} {cs:List Value} {ls:List (SV U)} {x:Rl} (h:i7 U eT ρ Z w cs ls) (e:d4e ls=some x):dRl.rd Z w cs x:=by
 unfold d4e at e
 obtain ⟨x0,e0,e⟩:=Option.bind_eq_some_iff.1 e
 obtain ⟨x1,e1,e⟩:=Option.bind_eq_some_iff.1 e
 obtain ⟨x2,e2,e⟩:=Option.bind_eq_some_iff.1 e
 obtain ⟨x3,e3,e⟩:=Option.bind_eq_some_iff.1 e
 obtain ⟨x4,e4,e⟩:=Option.bind_eq_some_iff.1 e
 obtain ⟨x5,e5,e⟩:=Option.bind_eq_some_iff.1 e
 obtain ⟨x6,e6,e⟩:=Option.bind_eq_some_iff.1 e
 obtain ⟨x7,e7,e⟩:=Option.bind_eq_some_iff.1 e
 obtain ⟨x8,e8,e⟩:=Option.bind_eq_some_iff.1 e
 obtain ⟨x9,e9,e⟩:=Option.bind_eq_some_iff.1 e
 obtain ⟨x10,e10,e⟩:=Option.bind_eq_some_iff.1 e
 obtain ⟨x11,e11,e⟩:=Option.bind_eq_some_iff.1 e
 obtain ⟨x12,e12,e⟩:=Option.bind_eq_some_iff.1 e
 obtain ⟨x13,e13,e⟩:=Option.bind_eq_some_iff.1 e
 cases e
 have g1:=i7.split 1 h
 have g2:=i7.split 1 g1.2
 have g3:=i7.split 1 g2.2
 have g4:=i7.split 1 g3.2
 have g5:=i7.split 1 g4.2
 have g6:=i7.split 1 g5.2
 have g7:=i7.split 1 g6.2
 have g8:=i7.split 1 g7.2
 have g9:=i7.split 1 g8.2
 have g10:=i7.split 1 g9.2
 have g11:=i7.split 1 g10.2
 have g12:=i7.split 1 g11.2
 have g13:=i7.split 1 g12.2
 exact ⟨(cs.take 1),((cs.drop 1).take 1),(((cs.drop 1).drop 1).take 1),((((cs.drop 1).drop 1).drop 1).take 1),(((((cs.drop 1).drop 1).drop 1).drop 1).take 1),((((((cs.drop 1).drop 1).drop 1).drop 1).drop 1).take 1),(((((((cs.drop 1).drop 1).drop 1).drop 1).drop 1).drop 1).take 1),((((((((cs.drop 1).drop 1).drop 1).drop 1).drop 1).drop 1).drop 1).take 1),(((((((((cs.drop 1).drop 1).drop 1).drop 1).drop 1).drop 1).drop 1).drop 1).take 1),((((((((((cs.drop 1).drop 1).drop 1).drop 1).drop 1).drop 1).drop 1).drop 1).drop 1).take 1),(((((((((((cs.drop 1).drop 1).drop 1).drop 1).drop 1).drop 1).drop 1).drop 1).drop 1).drop 1).take 1),((((((((((((cs.drop 1).drop 1).drop 1).drop 1).drop 1).drop 1).drop 1).drop 1).drop 1).drop 1).drop 1).take 1),(((((((((((((cs.drop 1).drop 1).drop 1).drop 1).drop 1).drop 1).drop 1).drop 1).drop 1).drop 1).drop 1).drop 1).take 1),(((((((((((((cs.drop 1).drop 1).drop 1).drop 1).drop 1).drop 1).drop 1).drop 1).drop 1).drop 1).drop 1).drop 1).drop 1),by simp only [List.take_append_drop],L3 g1.1 e0,L3 g2.1 e1,L3 g3.1 e2,U0 (N:=U) (t:=25) g4.1 e3,U0 (N:=U) (t:=3) g5.1 e4,U0 (N:=U) (t:=3) g6.1 e5,U0 (N:=U) (t:=3) g7.1 e6,U0 (N:=U) (t:=3) g8.1 e7,U0 (N:=U) (t:=60) g9.1 e8,U0 (N:=U) (t:=3) g10.1 e9,U0 (N:=U) (t:=3) g11.1 e10,U0 (N:=U) (t:=3) g12.1 e11,U0 (N:=U) (t:=3) g13.1 e12,L3 g13.2 e13⟩
def y30:TyI U eT 30 where
 sv:=fun (x:Rl)=>.agg ([.int .i64 x.Freq]++([.int .i64 x.Interval]++([.int .i64 x.Count]++([.sl 25 x.Until]++([.sl 3 x.Month]++([.sl 3 x.WeekNo]++([.sl 3 x.YearDay]++([.sl 3 x.MonthDay]++([.sl 60 x.Days]++([.sl 3 x.Hour]++([.sl 3 x.Minute]++([.sl 3 x.Second]++([.sl 3 x.SetPos]++([.int .i64 x.Wkst]))))))))))))))
 bk:=fun s=>d4e (leaves s)
 sv_ok:=fun {ρ Z w cs x} h=>by
  obtain ⟨c0,c1,c2,c3,c4,c5,c6,c7,c8,c9,c10,c11,c12,c13,e,h0,h1,h2,h3,h4,h5,h6,h7,h8,h9,h10,h11,h12,h13⟩:=(show dRl.rd Z w cs x from h)
  subst e
  exact i7.app (K3 h0) (i7.app (K3 h1) (i7.app (K3 h2) (i7.app (U8 (N:=U) (t:=25) h3) (i7.app (U8 (N:=U) (t:=3) h4) (i7.app (U8 (N:=U) (t:=3) h5) (i7.app (U8 (N:=U) (t:=3) h6) (i7.app (U8 (N:=U) (t:=3) h7) (i7.app (U8 (N:=U) (t:=60) h8) (i7.app (U8 (N:=U) (t:=3) h9) (i7.app (U8 (N:=U) (t:=3) h10) (i7.app (U8 (N:=U) (t:=3) h11) (i7.app (U8 (N:=U) (t:=3) h12) (K3 h13)))))))))))))
 bk_ok:=e2c
 hy:=fun (x:Rl)=>[b9 x.Freq]++[b9 x.Interval]++[b9 x.Count]++[b9 x.Wkst]
 hy_ok:=fun {Z w cs x} h p hp=>by
  obtain ⟨c0,c1,c2,c3,c4,c5,c6,c7,c8,c9,c10,c11,c12,c13,e,h0,h1,h2,h3,h4,h5,h6,h7,h8,h9,h10,h11,h12,h13⟩:=(show dRl.rd Z w cs x from h)
  rcases List.mem_append.1 hp with hp | hp
  . rcases List.mem_append.1 hp with hp | hp
    . rcases List.mem_append.1 hp with hp | hp
      . · simp only [List.mem_singleton] at hp; subst hp; exact h0.2
      . simp only [List.mem_singleton] at hp; subst hp; exact h1.2
    . simp only [List.mem_singleton] at hp; subst hp; exact h2.2
  . simp only [List.mem_singleton] at hp; subst hp; exact h13.2
def d3d (ls:List (SV U)):Option Nt :=
 (pb J7 (ls.take 1)).bind fun x0 =>
 (pb J7 ((ls.drop 1))).bind fun x1 =>
 some ⟨x0,x1⟩
theorem e1w {ρ:n9} {Z:Nat->Prop} {w:World} {cs:List Value} {ls:List (SV U)} {x:Nt} (h:i7 U eT ρ Z w cs ls) (e:d3d ls=some x):dNt.rd Z w cs x:=by
 unfold d3d at e
 obtain ⟨x0,e0,e⟩:=Option.bind_eq_some_iff.1 e
 obtain ⟨x1,e1,e⟩:=Option.bind_eq_some_iff.1 e
 cases e
 have g1:=i7.split 1 h
 exact ⟨(cs.take 1),(cs.drop 1),by simp only [List.take_append_drop],L3 g1.1 e0,L3 g1.2 e1⟩
def y60:TyI U eT 60 where
 sv:=fun (x:Nt)=>.agg ([.int .i64 x.N]++([.int .i64 x.Day]))
 bk:=fun s=>d3d (leaves s)
 sv_ok:=fun {ρ Z w cs x} h=>by
  obtain ⟨c0,c1,e,h0,h1⟩:=(show dNt.rd Z w cs x from h)
  subst e
  exact i7.app (K3 h0) (K3 h1)
 bk_ok:=e1w
 hy:=fun (x:Nt)=>[b9 x.N]++[b9 x.Day]
 hy_ok:=fun {Z w cs x} h p hp=>by
  obtain ⟨c0,c1,e,h0,h1⟩:=(show dNt.rd Z w cs x from h)
  rcases List.mem_append.1 hp with hp | hp
  . · simp only [List.mem_singleton] at hp; subst hp; exact h0.2
  . simp only [List.mem_singleton] at hp; subst hp; exact h1.2
def d4o (ls:List (SV U)):Option Lk :=
 (y30.bk (.agg (ls.take 14))).bind fun x0 =>
 (y25.bk (.agg ((ls.drop 14).take 8))).bind fun x1 =>
 (pb J7 (((ls.drop 14).drop 8))).bind fun x2 =>
 some ⟨x0,x1,x2⟩
theorem e1s {ρ:n9} {Z:Nat->Prop} {w:World} {cs:List Value} {ls:List (SV U)} {x:Lk} (h:i7 U eT ρ Z w cs ls) (e:d4o ls=some x):dLk.rd Z w cs x:=by
 unfold d4o at e
 obtain ⟨x0,e0,e⟩:=Option.bind_eq_some_iff.1 e
 obtain ⟨x1,e1,e⟩:=Option.bind_eq_some_iff.1 e
 obtain ⟨x2,e2,e⟩:=Option.bind_eq_some_iff.1 e
 cases e
 have g1:=i7.split 14 h
 have g2:=i7.split 8 g1.2
 exact ⟨(cs.take 14),((cs.drop 14).take 8),((cs.drop 14).drop 8),by simp only [List.take_append_drop],y30.bk_ok (s:=.agg _) g1.1 e0,y25.bk_ok (s:=.agg _) g2.1 e1,L3 g2.2 e2⟩
def y85:TyI U eT 85 where
 sv:=fun (x:Lk)=>.agg (leaves (y30.sv x.Rule)++(leaves (y25.sv x.start)++([.int .i64 x.day])))
 bk:=fun s=>d4o (leaves s)
 sv_ok:=fun {ρ Z w cs x} h=>by
  obtain ⟨c0,c1,c2,e,h0,h1,h2⟩:=(show dLk.rd Z w cs x from h)
  subst e
  exact i7.app (y30.sv_ok h0) (i7.app (y25.sv_ok h1) (K3 h2))
 bk_ok:=e1s
def e2m:TyI U eT 101 where
 sv:=fun (x:Ls)=>.agg [.str x.wd,.un,.int .i64 x.lo,.int .i64 x.hi,blB x.both]
 bk:=fun _=>none
 sv_ok:=fun {_ _ _ _ x} h=>by
  have h:dLs.rd _ _ _ x:=h
  obtain ⟨c,rfl,hp,h1,h2,h3⟩:=h
  exact i7.cons (.str h1) rfl (i7.cons .un hp (i7.cons (.int fun _=>h2) rfl (i7.cons (.int fun _=>h3) rfl (i7.cons ClX.bl rfl i7.nil))))
 bk_ok:=fun _ h=>by cases h
def tyU:∀ t,Option (TyI U eT t)
 | 3=>some y3
 | 4=>some y4
 | 23=>some y23
 | 25=>some y25
 | 26=>some y26
 | 27=>some y27
 | 28=>some y28
 | 30=>some y30
 | 60=>some y60
 | 85=>some y85
 | 101=>some e2m
 | _=>none
end Go.Proofs.YtdjfeninmbpflaaGreat
end
