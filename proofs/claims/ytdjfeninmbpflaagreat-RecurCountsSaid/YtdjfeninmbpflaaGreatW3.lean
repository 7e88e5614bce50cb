/- 11 texts, one behind the other. -/
import Derived.Test.YtdjfeninmbpflaaGreatW2
set_option linter.unusedVariables false
set_option linter.unusedSimpArgs false
set_option maxRecDepth 100000
section
namespace Go.Rx
open Go Go.Wk Go.Wl
section
variable {E:Env} {C:Ctx} {n:Nat} {ops:List Oper} {Q:Exit->Fr->World->Prop} {rest:List Oper} {f:Fr} {w w':World} {d:Nat}
variable {ty T T':TypeId} {pos:String} {after:Array Edge} {x y z:Operand} {a b:Int} {ρ ρ':n9} {Z Z':Nat->Prop} {its its' lkd:b9 E.N} {nx:Nat} {s:S1 E.N}
theorem Mem.move {j id:Nat} {i i':Item E.N} {L:Loc} {t':It} (hm:Mem E C ρ Z w its nx) (hj:its[j]?=some (id,i)) (hs:Sep C.B0 C.w0 Z w' ((n5 E.N E.T ρ C.B0 its).set j t')) (hh:Go.Rx.holds E.N E.T (B5 ρ nx L) nx Z w' i') (hF:∀ b∈o9 E.N (B5 ρ nx L) nx i',b∈t'.F):Mem E C (B5 ρ nx L) Z w' ((nx,i')::its.eraseIdx j) (nx+1):=by
 have hρ:=w4 (L:=L) (hm.fr nx (Nat.le_refl _))
 have hjl:=o7 hj
 have hjt:j<(n5 E.N E.T ρ C.B0 its).length:=by simpa [n5] using hjl
 refine ⟨Sep.sel hs (fun k=>match k with | 0=>j | k+1=>if k<j then k else k+1) (fun k1 k2 _ _ e=>?_) fun k t hk=>?_,fun k hk=>?_,fun k L' e=>hρ _ _ (hm.ge k L' e),hm.zge,hm.zle⟩
 . cases k1 with
   | zero =>
    cases k2 with
    | zero=>rfl
    | succ k2=>have e:j=(if k2<j then k2 else k2+1):=e; split at e <;> omega
   | succ k1 =>
    cases k2 with
    | zero=>have e:(if k1<j then k1 else k1+1)=j:=e; split at e <;> omega
    | succ k2=>have e:(if k1<j then k1 else k1+1)=(if k2<j then k2 else k2+1):=e; split at e <;> split at e <;> omega
 . cases k with
   | zero =>
    simp [n5] at hk
    subst hk
    refine ⟨t',?_,hh,p9,hF,rfl⟩
    show ((n5 E.N E.T ρ C.B0 its).set j t')[j]?=some t'
    rw [List.getElem?_set_self hjt]
   | succ k =>
    have hk:(n5 E.N E.T (B5 ρ nx L) C.B0 (its.eraseIdx j))[k]?=some t:=hk
    obtain ⟨p,hp,rfl⟩:=m8 hk
    rw [List.getElem?_eraseIdx] at hp
    have key:∀ m,m≠j->its[m]?=some p->∃ t,((n5 E.N E.T ρ C.B0 its).set j t')[m]?=some t/\b6g C.B0 Z w' t (u7 E.N E.T (B5 ρ nx L) C.B0 p.1 p.2):=fun m hmj hp=>by
     have e:((n5 E.N E.T ρ C.B0 its).set j t')[m]?=some (u7 E.N E.T ρ C.B0 p.1 p.2):=by rw [List.getElem?_set_ne (Ne.symm hmj)]; exact j6 hp
     exact ⟨_,e,a16 hρ (hs.at m e)⟩
    show ∃ t,((n5 E.N E.T ρ C.B0 its).set j t')[if k<j then k else k+1]?=some t/\_
    by_cases hlt:k<j
    . rw [if_pos hlt] at hp ⊢; exact key k (by omega) hp
    . rw [if_neg hlt] at hp ⊢; exact key (k+1) (by omega) hp
 . unfold B5
   rw [if_neg (by omega)]; exact hm.fr k (by omega)
theorem c27 {k b:Nat} (h1:1<=b) (h:k * b<=140737488355328):k<=9223372036854775807:=by
 have:=Nat.mul_le_mul_left k h1
 omega
theorem a2j {t:Nat} {xs:List (E.N.U t)} {sx:E.SV} {cl:Call} (hm:Mem E C ρ Z w (its++lkd) nx) (hx:Rep E.N E.T ρ Z w (ev f x) sx)
  (rule:a6f E t=true->∀ {al:List (E.N.U t)} {bs O:List Nat} {L:List It},Sep C.B0 C.w0 Z w L->∀ j:Nat,L[j]?=some (iAc (E.N.tb t).r (ev f x) al bs O)->(al.length+xs.length) * (E.bytes t).getD 0<=140737488355328->(∀ A cap bs' w',Sep C.B0 C.w0 Z w' (L.set j (iAc (E.N.tb t).r (.slice A (al++xs).length cap) (al++xs) bs' O))->WL E.P false n ops Q rest (upd f d (.slice A (al++xs).length cap)) w')->WL E.P false n ops Q (⟨some d,.call cl,ty,pos,after,none⟩::rest) f w)
  (h:a0q E its nx t xs sx=some s) (ho:m6 s.ob) (hn:Nat.blt d n=true) (K:KE E C n ops Q rest f w (some d) ρ Z lkd s) :
  WL E.P false n ops Q (⟨some d,.call cl,ty,pos,after,none⟩::rest) f w:=by
 generalize hvx:ev f x=vx at hx
 unfold a0q at h
 cases sx with
 | nils =>
  have ⟨h1,h2⟩:=j3 h
  simp only [Option.some.injEq] at h2; subst h2
  obtain ⟨hE,_,info,zv,hI,hb,hb1,hz,hzs,_⟩:=J7 h1
  have ho1:xs.length * (E.bytes t).getD 0<=140737488355328:=ho.1
  rw [hb] at ho1
  cases hx
  have hs1:=Wl.Sep.fact hm.tn (t:=iAc (E.N.tb t).r (.slice none 0 0) [] [] []) Ac.nil sAc rfl rfl
  refine rule h1 (al:=[]) (bs:=[]) (O:=[]) hs1 0 (by rw [hvx]; rfl) (by rw [hb]; simpa using ho1) fun A cap bs' w' hs=>?_
  have hs':Sep C.B0 C.w0 Z w' (iAc (E.N.tb t).r (.slice A xs.length cap) xs bs' []::tnI Z w::n5 E.N E.T ρ C.B0 (its++lkd)):=hs
  have hac:Ac (E.N.tb t).r Z w' (.slice A xs.length cap) xs bs':=hs'.at 0 rfl
  have ⟨m1,t1⟩:=hm.lay (i:=.ac t xs) (L:=⟨0,A,xs.length,cap,bs'⟩) hs' ⟨_,j9,rfl,c27 hb1 ho1,hac⟩ (fun y hy=>by rw [s4 j9] at hy; exact hy)
  exact K _ _ _ _ m1 t1 (.acc j9) trivial
 | acc id =>
  simp only at h
  split at h
  . rename_i t' l hi
    split at h
    . rename_i ht
      subst ht
      have ⟨h1,h2⟩:=j3 h
      simp only [Option.some.injEq] at h2; subst h2
      obtain ⟨hE,_,info,zv,hI,hb,hb1,hz,hzs,_⟩:=J7 h1
      have ho1:(l.length+xs.length) * (E.bytes t').getD 0<=140737488355328:=ho.1
      rw [hb] at ho1
      obtain ⟨j,hj,_,hr⟩:=q6 hi
      obtain ⟨L,hL,hn1,hlen,hac⟩:=hm.holds (l7 hj)
      cases hx with
      | acc hL' =>
       have hL:ρ id=some L:=hL
       rw [hL] at hL'; cases hL'
       have hjt:j<(n5 E.N E.T ρ C.B0 (its++lkd)).length:=by simpa [n5] using o7 (l7 (l2:=lkd) hj)
       have hs1:=Wl.Sep.upd hm.tn (j+1) (t:=u7 E.N E.T ρ C.B0 id (.ac t' l)) (t':=iAc (E.N.tb t').r (.slice L.A L.n L.cap) l L.bs C.B0) (w':=w) (by rw [List.getElem?_cons_succ]; exact j6 (l7 hj)) (Ext.refl _ _) hac sAc (fun b hb=>⟨.inl (by show b∈o9 E.N ρ id (.ac t' l); rw [s4 hL]; exact hb),hac.lt b hb⟩) rfl
       refine rule h1 (al:=l) (bs:=L.bs) (O:=C.B0) hs1 (j+1) (by rw [hvx,List.getElem?_set_self (by simpa using hjt)]) (by rw [hb]; exact ho1) fun A cap bs' w' hs=>?_
       rw [List.set_set] at hs
       have t2:=T5 (Z:=Z) (w:=w) (ρ:=ρ) (ρ':=B5 ρ nx ⟨0,A,(l++xs).length,cap,bs'⟩) (k:=0) hs (by simp) (w4 (hm.fr nx (Nat.le_refl _)))
       have hs2:Sep C.B0 C.w0 Z w' ((n5 E.N E.T ρ C.B0 (its++lkd)).set j (iAc (E.N.tb t').r (.slice A (l++xs).length cap) (l++xs) bs' C.B0)):=a0n (u:=tnI Z w) (by simpa using hs)
       have m1:=hm.move (i':=.ac t' (l++xs)) (L:=⟨0,A,(l++xs).length,cap,bs'⟩) (l7 hj) hs2 ⟨_,j9,rfl,by rw [List.length_append]; exact c27 hb1 ho1,hs2.at j (t:=iAc (E.N.tb t').r (.slice A (l++xs).length cap) (l++xs) bs' C.B0) (by rw [List.getElem?_set_self hjt])⟩ (fun b hb=>by rw [s4 j9] at hb; exact hb)
       refine K _ _ _ _ ?_ t2 (.acc j9) trivial
       have e:(nx,Item.ac t' (l++xs))::(its++lkd).eraseIdx j=((nx,Item.ac t' (L9 rfl l++xs))::rmv its id)++lkd:=by
        rw [hr,List.eraseIdx_append_of_lt_length (o7 hj)]; rfl
       rw [<- e]; exact m1
    . cases h
  . cases h
 | _=>cases h
theorem b5s {t:Nat} {xs:List (E.N.U t)} {sx:E.SV} (hm:Mem E C ρ Z w (its++lkd) nx) (hT:E.sliceOf T=some t) (hx:Rep E.N E.T ρ Z w (ev f x) sx) (hy:Src (E.N.tb t).r Z w (ev f y) xs) (h:a0q E its nx t xs sx=some s) (ho:m6 s.ob) (hn:Nat.blt d n=true) (K:KE E C n ops Q rest f w (some d) ρ Z lkd s) :
  WL E.P false n ops Q (⟨some d,.call ⟨.builtin .append,#[x,y],#[T,T]⟩,T,pos,after,none⟩::rest) f w :=
 a2j hm hx (fun h1 {al bs O L} hs j hj hb K=>by
  obtain ⟨hE,_,info,zv,hI,hb0,hb1,hz,hzs,_⟩:=J7 h1
  rw [hb0] at hb
  exact b2z hs j hj hy (s9 hT) hI hE hz hzs hb hb1 hn K) h ho hn K
theorem c25 {P:Program} {tb:Ty1} (h8:tb=⟨UInt8,m9,⟨0⟩⟩) {s:Str} (xs:List tb.α) (e:Str=List tb.α) (hxs:cast e s=xs) {T2 el:TypeId} {info:TypeInfo} {zv:Value} {al:List tb.α} {bs O B0:List Nat} {w0:World} {L:List It} (hs:Sep B0 w0 Z w L) (j:Nat) (hj:L[j]?=some (iAc tb.r (ev f x) al bs O)) (hy:ev f y=sv s)
  (hT:∀ w,(underlying T).run P w=.ok (.slice el) w) (hT2:∀ w,(underlying T2).run P w=.ok .string w) (hI:∀ w,(typeInfo el).run P w=.ok info w) (hE:∀ w,(sizeOf el).run P w=.ok tb.r.sz w) (hz:∀ w,(zeroValue el).run P w=.ok zv w) (hzs:zv.cells.size=tb.r.sz)
  (hb:(al.length+xs.length) * info.bytes<=140737488355328) (hb1:1<=info.bytes) (hn:Nat.blt d n=true)
  (K:∀ A cap bs' w',Sep B0 w0 Z w' (L.set j (iAc tb.r (.slice A (al++xs).length cap) (al++xs) bs' O))->WL P false n ops Q rest (upd f d (.slice A (al++xs).length cap)) w') :
  WL P false n ops Q (⟨some d,.call ⟨.builtin .append,#[x,y],#[T,T2]⟩,T,pos,after,none⟩::rest) f w:=by
 subst h8
 subst hxs
 exact b8n hs j hj hy hT hT2 hI hE hz hzs hb hb1 hn K
theorem c01 {P:Program} {tb:Ty1} (h8:tb=⟨UInt8,m9,⟨0⟩⟩) {s:Str} (xs:List tb.α) (e:Str=List tb.α) (hxs:cast e s=xs) {T2 T3 el:TypeId} {al:List tb.α} {bs O B0:List Nat} {w0:World} {L:List It} (hs:Sep B0 w0 Z w L) (j:Nat) (hj:L[j]?=some (iAc tb.r (ev f x) al bs O)) (hy:ev f y=sv s)
  (hT:∀ w,(underlying T).run P w=.ok (.slice el) w) (hE:∀ w,(sizeOf el).run P w=.ok tb.r.sz w) (hn:Nat.blt d n=true)
  (K:∀ w',Sep B0 w0 Z w' (L.set j (iAc tb.r (ev f x) (xs.take al.length++al.drop xs.length) bs O))->WL P false n ops Q rest (upd f d (.int .i64 (min (xs.length:Int) al.length))) w') :
  WL P false n ops Q (⟨some d,.call ⟨.builtin .copy,#[x,y],#[T,T2]⟩,T3,pos,after,none⟩::rest) f w:=by
 subst h8
 subst hxs
 exact c7a hs j hj hy hT hE hn K
theorem c1k {t S':Nat} {sx sy:E.SV} (hm:Mem E C ρ Z w (its++lkd) nx) (hT:E.sliceOf T=some t) (hS:E.isStr S'=true) (hx:Rep E.N E.T ρ Z w (ev f x) sx) (hy:Rep E.N E.T ρ Z w (ev f y) sy) (h:c1v E its nx t sx sy=some s) (ho:m6 s.ob) (hn:Nat.blt d n=true) (K:KE E C n ops Q rest f w (some d) ρ Z lkd s) :
  WL E.P false n ops Q (⟨some d,.call ⟨.builtin .append,#[x,y],#[T,S']⟩,T,pos,after,none⟩::rest) f w:=by
 unfold c1v at h
 split at h
 . rename_i u
   split at h
   . rename_i xs hxs
     unfold ofBytes at hxs
     split at hxs
     . rename_i yy hyy
       split at hxs
       . rename_i h8 hb8
         simp only [Option.some.injEq] at hxs
         generalize hv:ev f y=vy at hy
         cases hy with | str hl =>
         exact a2j hm hx (fun h1 {al bs O L} hs j hj hb K=>by
          obtain ⟨hE,_,info,zv,hI,hb0,hb1,hz,hzs,_⟩:=J7 h1
          rw [hb0] at hb
          exact c25 h8.down xs (by rw [h8.down]) hxs hs j hj hv (s9 hT) (I8 hS) hI hE hz hzs hb hb1 hn K) h ho hn K
       . cases hxs
     . cases hxs
   . cases h
 . cases h
theorem c16 {t S' T3:Nat} {sx sy:E.SV} (hm:Mem E C ρ Z w (its++lkd) nx) (hT:E.sliceOf T=some t) (hx:Rep E.N E.T ρ Z w (ev f x) sx) (hy:Rep E.N E.T ρ Z w (ev f y) sy) (h:c3u E its nx t sy sx=some s) (hn:Nat.blt d n=true) (K:KE E C n ops Q rest f w (some d) ρ Z lkd s) :
  WL E.P false n ops Q (⟨some d,.call ⟨.builtin .copy,#[x,y],#[T,S']⟩,T3,pos,after,none⟩::rest) f w:=by
 unfold c3u at h
 split at h
 . rename_i id
   split at h
   . rename_i t' l hi
     have ⟨h1,h2⟩:=j3 h
     simp only [Bool.and_eq_true] at h1
     have et:=Nat.eq_of_beq_eq_true h1.1
     subst et
     split at h2
     . rename_i u
       split at h2
       . rename_i xs hxs
         simp only [Option.some.injEq] at h2; subst h2
         unfold ofBytes at hxs
         split at hxs
         . rename_i yy hyy
           split at hxs
           . rename_i h8 hb8
             simp only [Option.some.injEq] at hxs
             generalize hvy:ev f y=vy at hy
             cases hy with | str hl =>
             obtain ⟨j,hj,hu,hr⟩:=q6 hi
             obtain ⟨L,hL,hn1,hlen,hac⟩:=hm.holds (l7 hj)
             generalize hvx:ev f x=vx at hx
             cases hx with
             | acc hL' =>
              have hL:ρ id=some L:=hL
              rw [hL] at hL'; cases hL'
              have hjt:j<(n5 E.N E.T ρ C.B0 (its++lkd)).length:=by simpa [n5] using o7 (l7 (l2:=lkd) hj)
              have hs1:=Wl.Sep.upd hm.tn (j+1) (t:=u7 E.N E.T ρ C.B0 id (.ac t' l)) (t':=iAc (E.N.tb t').r (.slice L.A L.n L.cap) l L.bs C.B0) (w':=w) (by rw [List.getElem?_cons_succ]; exact j6 (l7 hj)) (Ext.refl _ _) hac sAc (fun b hb=>⟨.inl (by show b∈o9 E.N ρ id (.ac t' l); rw [s4 hL]; exact hb),(hac.lt b hb)⟩) rfl
              refine c01 h8.down xs (by rw [h8.down]) hxs (al:=l) (bs:=L.bs) (O:=C.B0) hs1 (j+1) (by rw [hvx,List.getElem?_set_self (by simpa using hjt)]) hvy (s9 hT) (H6 h1.2) hn fun w' hs=>?_
              rw [hvx,List.set_set] at hs
              have hll:(xs.take l.length++l.drop xs.length).length=l.length:=by rw [List.length_append,List.length_take,List.length_drop]; omega
              have t2:=T5 (Z:=Z) (w:=w) (ρ:=ρ) (ρ':=ρ) (k:=0) hs (by simp) (fun _ _ h=>h)
              have hs2:Sep C.B0 C.w0 Z w' ((n5 E.N E.T ρ C.B0 (its++lkd)).set j (iAc (E.N.tb t').r (.slice L.A L.n L.cap) (xs.take l.length++l.drop xs.length) L.bs C.B0)):=a0n (u:=tnI Z w) (by simpa using hs)
              have m1:=hm.turn (i':=.ac t' (xs.take l.length++l.drop xs.length)) (l7 hj) hs2 ⟨L,hL,by rw [hll]; exact hn1,by rw [hll]; exact hlen,hs2.at j (t:=iAc (E.N.tb t').r (.slice L.A L.n L.cap) (xs.take l.length++l.drop xs.length) L.bs C.B0) (by rw [List.getElem?_set_self hjt])⟩ (fun b hb=>by rw [s4 hL] at hb; exact hb)
              rw [List.set_append_left _ _ (o7 hj),<- hu] at m1
              exact K _ ρ Z w' m1 t2 (.int fun _=>by have h2:=hlen; simp only [InI]; omega) trivial
           . cases hxs
         . cases hxs
       . cases h2
     . cases h2
   . cases h
 . cases h
theorem F4.mono {α:Type} {r:Rd α} {Z Z':Nat->Prop} {w:World} (hZ:∀ b,Z b->b<w.heap.size->Z' b):∀ {cs:List (List Value)} {xs:List α},F4 r Z w cs xs->F4 r Z' w cs xs
 | [],[],_=>trivial
 | [],_::_,h=>h.elim
 | _::_,[],h=>h.elim
 | c::cs,x::xs,⟨h1,h2⟩=>⟨r.weak h1 hZ,F4.mono hZ h2⟩
theorem b6m {t:Nat} {yy:TyI E.N E.T t} {e:Operand->E.SV}:∀ {ps:List (Nat×Operand)} {its its':b9 E.N} {Z:Nat->Prop} {xs:List (E.N.U t)},Mem E C ρ Z w (its++lkd) nx->(∀ o,Rep E.N E.T ρ Z w (ev f o) (e o))->c0t E yy e its ps=some (xs,its') ->
  ∃ Z',Mem E C ρ Z' w (its'++lkd) nx/\Tn ρ Z w ρ Z' w/\F4 (E.N.tb t).r Z' w (ps.map fun p=>(ev f p.2).cells.toList) xs/\xs.length=ps.length
 | [],its,its',Z,xs,hm,he,h=>by
  simp [c0t] at h; obtain ⟨rfl,rfl⟩:=h
  exact ⟨Z,hm,Tn.refl _ _ _,trivial,rfl⟩
 | p::r,its,its',Z,xs,hm,he,h=>by
  unfold c0t at h
  split at h
  . rename_i v its1 hf
    obtain ⟨Z1,hm1,t1,hr1⟩:=a3m hm hf
    have ⟨h1,h2⟩:=j3 h
    split at h2
    . rename_i x xs' its2 hb hl
      simp only [Option.some.injEq,Prod.mk.injEq] at h2
      obtain ⟨rfl,rfl⟩:=h2
      obtain ⟨Z',hm',t',ha,hlen⟩:=b6m hm1 (fun o=>t1.rep (he o)) hl
      exact ⟨Z',hm',t1.trans t',⟨(E.N.tb t).r.weak (yy.bk_ok ((hr1 _ (he p.2)).leaves h1) hb) t'.z,ha⟩,by simp [hlen]⟩
    . cases h2
  . cases h
theorem a29 {e:Operand->Value}:∀ {ps:List (Nat×Operand)} {i:Nat},b0d i ps=true->N9 i (ps.map fun p=>(p.1,e p.2))=true
 | [],_,_=>rfl
 | p::r,i,h=>by
  simp only [b0d,Bool.and_eq_true] at h
  simp only [List.map_cons,N9,Bool.and_eq_true]
  exact ⟨h.1,a29 h.2⟩
theorem F4.sizes {α:Type} {r:Rd α} {Z:Nat->Prop} {w:World} {e:Operand->Value}:∀ {ps:List (Nat×Operand)} {xs:List α},F4 r Z w (ps.map fun p=>(e p.2).cells.toList) xs->(ps.map fun p=>(p.1,e p.2)).all (fun p=>Nat.beq p.2.cells.size r.sz)=true
 | [],_,_=>rfl
 | _::_,[],h=>h.elim
 | p::ps,x::xs,⟨h1,h2⟩=>by
  simp only [List.map_cons,List.all_cons,Bool.and_eq_true]
  refine ⟨?_,F4.sizes h2⟩
  have:=r.len h1
  rw [Array.length_toList] at this
  rw [this]; exact Nat.beq_refl _
theorem c7g {e:Operand->E.SV} {len:Nat} {ps:Array (Nat×Operand)} (hm:Mem E C ρ Z w (its++lkd) nx) (he:∀ o,Rep E.N E.T ρ Z w (ev f o) (e o)) (h:c7m E its nx e T len ps.toList=some s) (hn:Nat.blt d n=true) (K:KE E C n ops Q rest f w (some d) ρ Z lkd s) :
  WL E.P false n ops Q (⟨some d,.buildSlice T len ps,ty,pos,after,none⟩::rest) f w:=by
 unfold c7m at h
 split at h
 . rename_i t hT
   split at h
   . rename_i yy hty
     have ⟨h1,h2⟩:=j3 h
     clear h
     simp only [Bool.and_eq_true] at h1
     obtain ⟨⟨⟨h1,ho⟩,hl⟩,hsm⟩:=h1
     have hl:=Nat.eq_of_beq_eq_true hl
     split at h2
     . rename_i xs its' hlit
       simp only [Option.some.injEq] at h2; subst h2
       obtain ⟨Z1,hm1,t1,ha,hlen⟩:=b6m hm he hlit
       obtain ⟨hE,hp,info,zv,hI,hb,hb1,hz,hzs,_⟩:=J7 h1
       have hsm':=Nat.le_of_ble_eq_true hsm
       refine a8c (css:=ps.toList.map fun p=>(ev f p.2).cells.toList) (al:=xs) hm1.tn (s9 hT) hE hz rfl (by simpa using hl) (a29 ho) (F4.sizes ha) (by simp [List.flatMap_def,List.map_map]; rfl) hsm (by rw [hlen,hl]) ha hn fun b w' hs=>?_
       have hac:=hs.at 0 rfl
       have hxl:xs.length=len:=by rw [hlen,hl]
       have ⟨m1,t2⟩:=hm1.lay (i:=.ac t xs) (L:=⟨0,some ⟨b,0,none⟩,len,len,[b]⟩) hs ⟨_,j9,hxl.symm,by have:=Nat.mul_le_mul_left len hp; omega,hac⟩ (fun y hy=>by rw [s4 j9] at hy; exact hy)
       exact K _ _ _ _ m1 (t1.trans t2) (.acc j9) trivial
     . cases h2
   . cases h
 . cases h
theorem c64 {sx sy:E.SV} (hm:Mem E C ρ Z w (its++lkd) nx) (hx:Rep E.N E.T ρ Z w (ev f x) sx) (hy:Rep E.N E.T ρ Z w (ev f y) sy) (h:c38 E its nx T sx sy=some s) (ho:m6 s.ob) (hn:Nat.blt d n=true) (K:KE E C n ops Q rest f w (some d) ρ Z lkd s) :
  WL E.P false n ops Q (⟨some d,.makeSlice T x y,ty,pos,after,none⟩::rest) f w:=by
 unfold c38 at h
 split at h
 . rename_i t a b hT ha hb
   split at h
   . rename_i yy hty
     have ⟨h1,h2⟩:=j3 h
     clear h
     split at h2
     . rename_i zx hz0
       simp only [Option.some.injEq] at h2; subst h2
       obtain ⟨hE,hp,info,zv,hI,hbb,hb1,hz,hzs,hzv⟩:=J7 h1
       simp only [Option.bind_eq_some_iff] at hz0
       obtain ⟨sz,hsz,hbk⟩:=hz0
       have ⟨hf,hbk⟩:=j3 hbk
       unfold Env.zero at hsz
       rw [hzv] at hsz
       simp only [Option.map_some,Option.some.injEq] at hsz
       have ho1:0<=a:=ho.1
       have ho2:a=b:=ho.2.1
       have ho3:(((E.bytes t).getD 0:Nat):Int) * a<=140737488355328:=ho.2.2.1
       rw [hbb] at ho3
       have ha2:a<=140737488355328:=by
        have:1 * a<=(info.bytes:Int) * a:=Int.mul_le_mul_of_nonneg_right (by omega) ho1
        omega
       have hx':=a8t hx ha
       have hy':=a8t hy hb
       rw [<- ho2] at hy'
       have hzr:∀ (Z:Nat->Prop) (w:World),(E.N.tb t).r.rd Z w zv.cells.toList zx:=fun Z w=>by
        refine yy.bk_ok (ρ:=ρ) (Rep.leaves ?_ hf) hbk
        rw [<- hsz]; exact a3a
       refine b08 (zc:=zv.cells.toList) (zx:=zx) hm.tn (s9 hT) hI hE hz (by simp) rfl hp hzr hx' hy' ho1 ho3 (by omega) hn fun b w' hs=>?_
       have hac:=hs.at 0 rfl
       have ⟨m1,t2⟩:=hm.lay (i:=.ac t (List.replicate a.toNat zx)) (L:=⟨0,some ⟨b,0,none⟩,a.toNat,a.toNat,[b]⟩) hs ⟨_,j9,by simp,by rw [List.length_replicate]; omega,hac⟩ (fun y hy=>by rw [s4 j9] at hy; exact hy)
       exact K _ _ _ _ m1 t2 (.acc j9) trivial
     . cases h2
   . cases h
 . cases h
theorem b3a {t:Nat} (h:E.N.tb t=⟨UInt8,m9,⟨0⟩⟩) (l:Str) (e:Str=List (E.N.U t)) {v:Value} {Z:Nat->Prop} {w:World} :
  (cast e l:List (E.N.U t)).length=l.length/\∀ bs,Ac m9 Z w v l bs->Ac (E.N.tb t).r Z w v (cast e l) bs:=by
 revert l e
 unfold Uni.U
 rw [h]
 intro l e
 exact ⟨rfl,fun _ h=>h⟩
theorem b98 {S D:Nat} {sx:E.SV} (hm:Mem E C ρ Z w (its++lkd) nx) (hx:Rep E.N E.T ρ Z w (ev f x) sx) (h:b3f E its nx S D sx=some s) (hn:Nat.blt d n=true) (K:KE E C n ops Q rest f w (some d) ρ Z lkd s) :
  WL E.P false n ops Q (⟨some d,.convert S D x,ty,pos,after,none⟩::rest) f w:=by
 unfold b3f at h
 split at h
 . rename_i t
   split at h
   . rename_i e hD
     have ⟨h1,h2⟩:=j3 h
     clear h
     split at h2
     . rename_i hi
       split at h2
       . rename_i l hl
         simp only [Option.some.injEq] at h2; subst h2
         generalize hv:ev f x=vx at hx
         cases hx with | str hlen =>
         have hS:E.P.underlying S=some .string:=by
          unfold Env.isStr at h1; split at h1
          . assumption
          . cases h1
         have hT:E.P.underlying D=some (.slice e):=by
          unfold Env.sliceOf at hD; split at hD
          . rename_i e' hu; cases hD; exact hu
          . cases hD
         have hE:E.P.underlying e=some (.int .u8):=by
          unfold Env.intOf at hi; split at hi
          . rename_i k hu; cases hi; exact hu
          . cases hi
         unfold ofBytes at hl
         split at hl
         . rename_i yy hy
           split at hl
           . rename_i h8 hb8
             simp only [Option.some.injEq] at hl
             refine c9p hm.tn hS hT hE hv hn fun b cap w' hs=>?_
             have hac:=hs.at 0 rfl
             have hc:=b3a (Z:=Z) (w:=w') (v:=.slice (some ⟨b,0,none⟩) t.length cap) h8.down t (by rw [Uni.U,h8.down])
             rw [hl] at hc
             have hac2:=hc.2 [b] hac
             have hs2:=hs.upd 0 rfl (Ext.refl _ _) (t':=iAc (E.N.tb e).r (.slice (some ⟨b,0,none⟩) t.length cap) l [b] []) hac2 sAc (fun x hx=>⟨.inl hx,hs.lt 0 rfl x hx⟩) rfl
             have ⟨m1,t2⟩:=hm.lay (i:=.ac e l) (L:=⟨0,some ⟨b,0,none⟩,t.length,cap,[b]⟩) hs2 ⟨_,j9,hc.1.symm,by rw [hc.1]; exact hlen,hac2⟩ (fun y hy=>by rw [s4 j9] at hy; exact hy)
             exact K _ _ _ _ m1 t2 (.acc j9) trivial
           . cases hl
         . cases hl
       . cases h2
     . cases h2
   . cases h
 . cases h
theorem b84 {e:Operand->E.SV} {sz:Nat} (he:∀ o,Rep E.N E.T ρ Z w (ev f o) (e o)):∀ {ps:List (Nat×Operand)} {ls:List E.SV},c82 e sz ps=some ls ->
  i7 E.N E.T ρ Z w (ps.flatMap fun p=>(ev f p.2).cells.toList) ls/\(ps.map fun p=>(p.1,ev f p.2)).all (fun p=>Nat.beq p.2.cells.size sz)=true/\(ps.flatMap fun p=>(ev f p.2).cells.toList).length=ps.length * sz
 | [],ls,h=>by cases h; exact ⟨i7.nil,rfl,by simp⟩
 | p::r,ls,h=>by
  unfold c82 at h
  have ⟨h1,h2⟩:=j3 h
  simp only [Bool.and_eq_true] at h1
  obtain ⟨hf,hl⟩:=h1
  have hl:=Nat.eq_of_beq_eq_true hl
  split at h2
  . rename_i ls' hr
    cases h2
    obtain ⟨g1,g2,g3⟩:=b84 he hr
    have hlv:=(he p.2).leaves hf
    have hsz:(ev f p.2).cells.toList.length=sz:=by rw [hlv.len,hl]
    refine ⟨by rw [List.flatMap_cons]; exact i7.app hlv g1,?_,?_⟩
    . rw [List.map_cons,List.all_cons,g2,Bool.and_true]
      rw [Array.length_toList] at hsz
      rw [hsz]; exact Nat.beq_refl _
    . rw [List.flatMap_cons,List.length_append,g3,hsz,List.length_cons,Nat.succ_mul]; omega
  . cases h2
theorem c5b {e:Operand->E.SV} {len:Nat} {ps:Array (Nat×Operand)} (hm:Mem E C ρ Z w (its++lkd) nx) (he:∀ o,Rep E.N E.T ρ Z w (ev f o) (e o)) (h:b2f E its nx e T len ps.toList=some s) (hn:Nat.blt d n=true) (K:KE E C n ops Q rest f w (some d) ρ Z lkd s) :
  WL E.P false n ops Q (⟨some d,.buildSlice T len ps,ty,pos,after,none⟩::rest) f w:=by
 unfold b2f at h
 split at h
 . rename_i t hT
   have ⟨h1,h2⟩:=j3 h
   clear h
   simp only [Bool.and_eq_true] at h1
   obtain ⟨⟨⟨⟨⟨⟨_,h1⟩,ho⟩,hl⟩,hsm⟩,hbig⟩,hpos⟩:=h1
   have hl:=Nat.eq_of_beq_eq_true hl
   have hbig:=Nat.le_of_ble_eq_true hbig
   split at h2
   . rename_i ls hlit
     simp only [Option.some.injEq] at h2; subst h2
     obtain ⟨hE,hp,info,zv,hI,hb,hb1,hz,hzs,_⟩:=J7 h1
     obtain ⟨g1,g2,g3⟩:=b84 he hlit
     refine b8w (cs:=ps.toList.flatMap fun p=>(ev f p.2).cells.toList) hm.tn (s9 hT) hE hz rfl (by simpa using hl) (a29 ho) g2 (by simp [List.flatMap_map]) (by rw [g3,hl]) hsm hn fun b w' hs=>?_
     have hrw:=hs.at 0 rfl
     have t0:=T5 (ρ:=ρ) (ρ':=ρ) (k:=1) hs rfl (fun _ _ h=>h)
     have hr:=Rep.sub (t0.rep g1) (w4 (L:=⟨b,some ⟨b,0,none⟩,len,len,[b]⟩) (hm.fr nx (Nat.le_refl _)))
     have ⟨m1,t1⟩:=hm.lay (i:=.rw t len ls) (L:=⟨b,some ⟨b,0,none⟩,len,len,[b]⟩) hs ⟨_,_,j9,rfl,hbig,fun _=>rfl,hrw,hr⟩ (fun y hy=>by rw [A4 j9] at hy; exact hy)
     exact K _ _ _ _ m1 t1 (.acc j9) trivial
   . cases h2
 . cases h
theorem b9f {sx:E.SV} {id off t nn:Nat} {cells:List E.SV} (hm:Mem E C ρ Z w (its++lkd) nx) (ha:Rep E.N E.T ρ Z w (ev f x) (.ref id off)) (hx:Rep E.N E.T ρ Z w (ev f y) sx) (hi:lk its id=some (.rw t nn cells)) (hn0:0<nn) {mm:Nat} (hz:E.size T=some mm) (hle:off+mm<=cells.length) (hf:flat sx=true) (hl:(leaves sx).length=mm)
  (K:KE E C n ops Q rest f w none ρ Z lkd ⟨[],[],.un,W6 its id (.rw t nn (setLeaves E cells off (leaves sx))),nx⟩) :
  WL E.P false n ops Q (⟨none,.store T x y,ty,pos,after,none⟩::rest) f w:=by
 obtain ⟨j,hj,hu,_⟩:=q6 hi
 have hj':(its++lkd)[j]?=some (id,.rw t nn cells):=l7 hj
 obtain ⟨L,F,hL,hn1,hb,hA,hrw,hr⟩:=hm.holds hj'
 generalize hv:ev f x=vx at ha
 cases ha with
 | ref hL' =>
  have hL:ρ id=some L:=hL
  rw [hL] at hL'; cases hL'
  have hA:=hA hn0
  rw [hA] at hrw
  have hlv:=hx.leaves hf
  have hcl:=hr.len
  have hs1:=Wl.Sep.upd hm.tn (j+1) (t:=u7 E.N E.T ρ C.B0 id (.rw t nn cells)) (t':=iRw (E.N.tb t).r.sz (.slice (some ⟨L.b,0,none⟩) nn L.cap) nn F L.bs C.B0) (w':=w) (by rw [List.getElem?_cons_succ]; exact j6 hj') (Ext.refl _ _) hrw sRw (fun b hb=>⟨.inl (by show b∈o9 E.N ρ id (.rw t nn cells); rw [A4 hL]; exact hb),hrw.lt b hb⟩) rfl
  have hjt:j<(n5 E.N E.T ρ C.B0 (its++lkd)).length:=by simpa [n5] using o7 hj'
  refine b9o hs1 (j+1) (O:=C.B0) (by rw [List.getElem?_set_self (by simpa using hjt)]) (F3 hz) hv (c:=(ev f y).cells.toList) rfl (by rw [hlv.len,hl]) (by omega) hlv.plain fun w' hs=>?_
  rw [List.set_set] at hs
  have t1:=T5 (Z:=Z) (w:=w) (ρ:=ρ) (ρ':=ρ) (k:=0) hs (by simp) (fun _ _ h=>h)
  have hs2:Sep C.B0 C.w0 Z w' ((n5 E.N E.T ρ C.B0 (its++lkd)).set j (iRw (E.N.tb t).r.sz (.slice (some ⟨L.b,0,none⟩) nn L.cap) nn (u4 F off (ev f y).cells.toList) L.bs C.B0)):=a0n (u:=tnI Z w) (by simpa using hs)
  have hnew:=hs2.at j (t:=iRw (E.N.tb t).r.sz (.slice (some ⟨L.b,0,none⟩) nn L.cap) nn (u4 F off (ev f y).cells.toList) L.bs C.B0) (by rw [List.getElem?_set_self hjt])
  have m1:=hm.turn (i':=.rw t nn (setLeaves E cells off (leaves sx))) hj' hs2 ⟨L,u4 F off (ev f y).cells.toList,hL,hn1,hb,fun _=>hA,by rw [hA]; exact hnew,i7.setLeaves (show i7 E.N E.T ρ Z w' F cells from t1.rep hr) (show i7 E.N E.T ρ Z w' _ _ from t1.rep hlv)⟩ (fun b hb=>by rw [A4 hL] at hb; exact hb)
  refine K .nilIface ρ Z w' ?_ t1 .un trivial
  rw [hu,<- List.set_append_left _ _ (o7 hj)]
  exact m1
theorem b62 {k:Int} {hi:Operand} {sx:E.SV} (hm:Mem E C ρ Z w (its++lkd) nx) (hx:Rep E.N E.T ρ Z w (ev f x) sx) (hk:ev f hi=.int .i64 k) (h:a8g E its nx T k sx=some s) (ho:m6 s.ob) (hn:Nat.blt d n=true) (K:KE E C n ops Q rest f w (some d) ρ Z lkd s) :
  WL E.P false n ops Q (⟨some d,.slice T x none (some hi) none,ty,pos,after,none⟩::rest) f w:=by
 unfold a8g at h
 split at h
 . rename_i id
   split at h
   . rename_i e t nn cells hT hit
     have ⟨h1,h2⟩:=j3 h
     simp only [Option.some.injEq] at h2; subst h2
     simp only [Bool.and_eq_true] at h1
     obtain ⟨h1,hn0⟩:=h1
     have hn0:=v8 hn0
     have hk0:0<=k:=ho.1
     have hk1:k<=(nn:Int):=ho.2.1
     obtain ⟨j,hj,_,hr⟩:=q6 hit
     obtain ⟨L,F,hL,hn1,hb,hA,hrw,hrep⟩:=hm.holds (l7 hj)
     have hA:=hA hn0
     generalize hv:ev f x=vx at hx
     cases hx with
     | acc hL' =>
      have hL:ρ id=some L:=hL
      rw [hL] at hL'; cases hL'
      have hcap:L.n<=L.cap:=by
       rw [hn1]
       rcases hrw with ⟨e1,h0,_⟩ | ⟨_,cap',_,_,e1,_,_,_,hc,_⟩
       . omega
       . simp only [Value.slice.injEq] at e1; omega
      refine a4y (lo:=none) (hi:=some hi) (a:=0) (b:=k) (s9 hT) (H6 h1) hv rfl hk ⟨Int.le_refl _,hk0,by omega⟩ hcap hn ?_
      have ev2:(if L.cap=(0:Int).toNat then L.A else L.A.map (·.add ((0:Int).toNat * (E.N.tb t).r.sz)))=some ⟨L.b,0,none⟩:=by
       rw [if_neg (by show ¬ L.cap=0; omega),hA]
       simp [Addr.add]
      rw [ev2,show k.toNat-(0:Int).toNat=k.toNat from rfl,show L.cap-(0:Int).toNat=L.cap from rfl]
      rw [hA] at hrw
      have htk:=hrw.take (k:=k.toNat) (by omega)
      have hjt:j<(n5 E.N E.T ρ C.B0 (its++lkd)).length:=by simpa [n5] using o7 (l7 (l2:=lkd) hj)
      have hs1:=Wl.Sep.upd hm.tn (j+1) (t:=u7 E.N E.T ρ C.B0 id (.rw t nn cells)) (t':=iRw (E.N.tb t).r.sz (.slice (some ⟨L.b,0,none⟩) k.toNat L.cap) k.toNat (F.take (k.toNat * (E.N.tb t).r.sz)) L.bs C.B0) (w':=w) (by rw [List.getElem?_cons_succ]; exact j6 (l7 hj)) (Ext.refl _ _) htk sRw (fun b hb=>⟨.inl (by show b∈o9 E.N ρ id (.rw t nn cells); rw [A4 hL]; exact hb),htk.lt b hb⟩) rfl
      have t2:=T5 (Z:=Z) (w:=w) (ρ:=ρ) (ρ':=B5 ρ nx ⟨L.b,some ⟨L.b,0,none⟩,k.toNat,L.cap,L.bs⟩) (k:=0) hs1 (by simp) (w4 (hm.fr nx (Nat.le_refl _)))
      have hs2:Sep C.B0 C.w0 Z w ((n5 E.N E.T ρ C.B0 (its++lkd)).set j (iRw (E.N.tb t).r.sz (.slice (some ⟨L.b,0,none⟩) k.toNat L.cap) k.toNat (F.take (k.toNat * (E.N.tb t).r.sz)) L.bs C.B0)):=a0n (u:=tnI Z w) (by simpa using hs1)
      have m1:=hm.move (i':=.rw t k.toNat (cells.take (k.toNat * (E.N.tb t).r.sz))) (L:=⟨L.b,some ⟨L.b,0,none⟩,k.toNat,L.cap,L.bs⟩) (l7 hj) hs2 ⟨_,F.take (k.toNat * (E.N.tb t).r.sz),j9,rfl,by omega,fun _=>rfl,htk,Rep.sub ((hrep.drop 0).take (k.toNat * (E.N.tb t).r.sz)) (w4 (hm.fr nx (Nat.le_refl _)))⟩ (fun b hb=>by rw [A4 j9] at hb; exact hb)
      refine K _ _ _ _ ?_ t2 (.acc j9) trivial
      have e:(nx,Item.rw t k.toNat (cells.take (k.toNat * (E.N.tb t).r.sz)))::(its++lkd).eraseIdx j=((nx,Item.rw t k.toNat (cells.take (k.toNat * (E.N.tb t).r.sz)))::rmv its id)++lkd:=by
       rw [hr,List.eraseIdx_append_of_lt_length (o7 hj)]; rfl
      rw [<- e]; exact m1
   . cases h
 . cases h
theorem c00 {t id id2:Nat} (hm:Mem E C ρ Z w (its++lkd) nx) (hT:E.sliceOf T=some t) (hx:Rep E.N E.T ρ Z w (ev f x) (.acc id)) (hy:Rep E.N E.T ρ Z w (ev f y) (.acc id2)) (h:b3c E its nx t id id2=some s) (ho:m6 s.ob) (hn:Nat.blt d n=true) (K:KE E C n ops Q rest f w (some d) ρ Z lkd s) :
  WL E.P false n ops Q (⟨some d,.call ⟨.builtin .append,#[x,y],#[T,T]⟩,T,pos,after,none⟩::rest) f w:=by
 unfold b3c at h
 split at h
 . rename_i t1 n1 c1 t2 m2 c2 hi1 hi2
   have ⟨h1,h2⟩:=j3 h
   simp only [Option.some.injEq] at h2; subst h2
   simp only [Bool.and_eq_true] at h1
   obtain ⟨⟨⟨⟨⟨e1,e2⟩,_⟩,h1⟩,hbig⟩,hpos⟩:=h1
   have e1:=Nat.eq_of_beq_eq_true e1
   have e2:=Nat.eq_of_beq_eq_true e2
   have hbig:=Nat.le_of_ble_eq_true hbig
   have hpos:=v8 hpos
   subst e1; subst e2
   obtain ⟨hE,_,info,zv,hI,hb,hb1,hz,hzs,_⟩:=J7 h1
   have ho1:(n1+m2) * (E.bytes t2).getD 0<=140737488355328:=ho.1
   rw [hb] at ho1
   obtain ⟨j,hj,_,hr⟩:=q6 hi1
   obtain ⟨j2,hj2,_,_⟩:=q6 hi2
   obtain ⟨L,F,hL,hn1,hbb,hA,hrw,hrep⟩:=hm.holds (l7 hj)
   obtain ⟨L2,F2,hL2,hn2,_,_,hrw2,hrep2⟩:=hm.holds (l7 hj2)
   have hL:ρ id=some L:=hL
   have hL2:ρ id2=some L2:=hL2
   have hac:=hrw.ac (Z:=Z) hrep.plain
   have hac2:=hrw2.ac (Z:=Z) hrep2.plain
   have hF1:F.length=n1 * (E.N.tb t2).r.sz:=by
    rcases hrw with ⟨_,h0,hF0,_⟩ | ⟨_,_,_,_,_,_,_,_,_,h⟩
    . rw [h0,hF0]; simp
    . exact h
   have hF2:F2.length=m2 * (E.N.tb t2).r.sz:=by
    rcases hrw2 with ⟨_,h0,hF0,_⟩ | ⟨_,_,_,_,_,_,_,_,_,h⟩
    . rw [h0,hF0]; simp
    . exact h
   obtain ⟨f1,l1,_⟩:=V1 hF1
   obtain ⟨f2,l2,_⟩:=V1 hF2
   generalize hvx:ev f x=vx at hx
   generalize hvy:ev f y=vy at hy
   cases hx with
   | acc hL' =>
    cases hy with
    | acc hL2' =>
     rw [hL] at hL'; cases hL'
     rw [hL2] at hL2'; cases hL2'
     rw [hn1] at hvx
     rw [hn2] at hvy
     have hjt:j<(n5 E.N E.T ρ C.B0 (its++lkd)).length:=by simpa [n5] using o7 (l7 (l2:=lkd) hj)
     have hs1:=Wl.Sep.upd hm.tn (j+1) (t:=u7 E.N E.T ρ C.B0 id (.rw t2 n1 c1)) (t':=iAc (b5m (E.N.tb t2).r.sz) (.slice L.A n1 L.cap) (E8 (E.N.tb t2).r.sz n1 F) L.bs C.B0) (w':=w) (by rw [List.getElem?_cons_succ]; exact j6 (l7 hj)) (Ext.refl _ _) hac sAc (fun b hb=>⟨.inl (by show b∈o9 E.N ρ id (.rw t2 n1 c1); rw [A4 hL]; exact hb),hac.lt b hb⟩) rfl
     refine b2z (r:=b5m (E.N.tb t2).r.sz) (al:=E8 (E.N.tb t2).r.sz n1 F) (xs:=E8 (E.N.tb t2).r.sz m2 F2) (bs:=L.bs) (O:=C.B0) hs1 (j+1) (by rw [hvx,List.getElem?_set_self (by simpa using hjt)]) (by rw [hvy]; exact Src.ac hac2) (s9 hT) hI hE hz hzs (by rw [l1,l2]; exact ho1) hb1 hn fun A cap bs' w' hs=>?_
     rw [List.set_set] at hs
     have hlen:(E8 (E.N.tb t2).r.sz n1 F++E8 (E.N.tb t2).r.sz m2 F2).length=n1+m2:=by rw [List.length_append,l1,l2]
     rw [hlen] at hs ⊢
     have hacn:Ac (b5m (E.N.tb t2).r.sz) Z w' (.slice A (n1+m2) cap) (E8 (E.N.tb t2).r.sz n1 F++E8 (E.N.tb t2).r.sz m2 F2) bs':=hs.at (j+1) (t:=iAc (b5m (E.N.tb t2).r.sz) (.slice A (n1+m2) cap) (E8 (E.N.tb t2).r.sz n1 F++E8 (E.N.tb t2).r.sz m2 F2) bs' C.B0) (by rw [List.getElem?_set_self (by simpa using hjt)])
     have hrn:=(O5.of hacn).1
     rw [hlen,List.flatten_append,f1,f2] at hrn
     obtain ⟨b',hA',hbs',_⟩:=hrn.cells (by omega)
     have hρ':=w4 (L:=⟨b',A,n1+m2,cap,bs'⟩) (hm.fr nx (Nat.le_refl _))
     have t2':=T5 (Z:=Z) (w:=w) (ρ:=ρ) (ρ':=B5 ρ nx ⟨b',A,n1+m2,cap,bs'⟩) (k:=0) hs (by simp) hρ'
     have hs2:Sep C.B0 C.w0 Z w' ((n5 E.N E.T ρ C.B0 (its++lkd)).set j (iAc (b5m (E.N.tb t2).r.sz) (.slice A (n1+m2) cap) (E8 (E.N.tb t2).r.sz n1 F++E8 (E.N.tb t2).r.sz m2 F2) bs' C.B0)):=a0n (u:=tnI Z w) (by simpa using hs)
     have m1:=hm.move (i':=.rw t2 (n1+m2) (c1++c2)) (L:=⟨b',A,n1+m2,cap,bs'⟩) (l7 hj) hs2 ⟨_,F++F2,j9,rfl,hbig,fun _=>hA',hrn,i7.app (t2'.rep hrep) (t2'.rep hrep2)⟩ (fun b hb=>by rw [A4 j9] at hb; exact hb)
     refine K _ _ _ _ ?_ t2' (.acc j9) trivial
     have e:(nx,Item.rw t2 (n1+m2) (c1++c2))::(its++lkd).eraseIdx j=((nx,Item.rw t2 (n1+m2) (c1++c2))::rmv its id)++lkd:=by
      rw [hr,List.eraseIdx_append_of_lt_length (o7 hj)]; rfl
     rw [<- e]; exact m1
 . cases h
theorem b2l {t:Nat} {yy:TyI E.N E.T t}:∀ {m:Nat} {ls:List E.SV} {its its':b9 E.N} {Z:Nat->Prop} {xs:List (E.N.U t)} {F:List Value},Mem E C ρ Z w (its++lkd) nx->i7 E.N E.T ρ Z w F ls->F.length=m * (E.N.tb t).r.sz->b0m E yy m ls its=some (xs,its') ->
  ∃ Z',Mem E C ρ Z' w (its'++lkd) nx/\Tn ρ Z w ρ Z' w/\xs.length=m/\F4 (E.N.tb t).r Z' w (E8 (E.N.tb t).r.sz m F) xs
 | 0,ls,its,its',Z,xs,F,hm,hr,hl,h=>by
  simp [b0m] at h; obtain ⟨rfl,rfl⟩:=h
  exact ⟨Z,hm,Tn.refl _ _ _,rfl,trivial⟩
 | m+1,ls,its,its',Z,xs,F,hm,hr,hl,h=>by
  unfold b0m at h
  split at h
  . rename_i vs its1 hf
    split at h
    . rename_i x xs' its2 hb hrr
      simp only [Option.some.injEq,Prod.mk.injEq] at h
      obtain ⟨rfl,rfl⟩:=h
      obtain ⟨Z1,m1,t1,e1⟩:=Y3 hm hf
      have g1:i7 E.N E.T ρ Z w (F.take (E.N.tb t).r.sz) (ls.take (E.N.tb t).r.sz):=by simpa using (hr.drop 0).take (E.N.tb t).r.sz
      have hx:(E.N.tb t).r.rd Z1 w (F.take (E.N.tb t).r.sz) x:=yy.bk_ok (s:=.agg vs) (e1.repL g1) hb
      obtain ⟨Z2,m2,t2,l2,a2⟩:=b2l m1 (show i7 E.N E.T ρ Z1 w _ _ from t1.rep (hr.drop (E.N.tb t).r.sz)) (by rw [List.length_drop,hl,Nat.succ_mul]; omega) hrr
      exact ⟨Z2,m2,t1.trans t2,by simp [l2],(E.N.tb t).r.weak hx t2.z,a2⟩
    . cases h
  . cases h
theorem d4a {t n:Nat} {w:World} {v:Value} {F:List Value} {bs:List Nat} (h:O5 t w v n F bs):F.length=n * t:=by
 rcases h with ⟨_,h0,hF0,_⟩ | ⟨_,_,_,_,_,_,_,_,_,h⟩
 . rw [h0,hF0]; simp
 . exact h
theorem c0e {t id:Nat} (hm:Mem E C ρ Z w (its++lkd) nx) (h:a44 E its t id=some its'):∃ Z',Mem E C ρ Z' w (its'++lkd) nx/\Tn ρ Z w ρ Z' w:=by
 unfold a44 at h
 split at h
 . rename_i t' m ls hi
   have ⟨ht,h2⟩:=j3 h
   clear h
   have ht:=Nat.eq_of_beq_eq_true ht
   subst ht
   split at h2
   . rename_i yy hty
     split at h2
     . rename_i xs its1 hrows
       split at h2
       . rename_i t2 m2 ls2 hi2
         have ⟨hb,h3⟩:=j3 h2
         clear h2
         simp only [Bool.and_eq_true] at hb
         obtain ⟨e1,e2⟩:=hb
         have e1:=Nat.eq_of_beq_eq_true e1
         have e2:=Nat.eq_of_beq_eq_true e2
         subst e1; subst e2
         simp only [Option.some.injEq] at h3; subst h3
         obtain ⟨j,hj,_,_⟩:=q6 hi
         obtain ⟨L,F,hL,hn1,hb,hA,hrw,hrep⟩:=hm.holds (l7 hj)
         have hL:ρ id=some L:=hL
         obtain ⟨Z1,m1,t1,hxl,ha⟩:=b2l hm hrep (d4a hrw) hrows
         obtain ⟨j2,hj2,hu2,_⟩:=q6 hi2
         obtain ⟨L',F',hL',hn1',_,_,hrw',_⟩:=m1.holds (l7 hj2)
         have hL':ρ id=some L':=hL'
         rw [hL] at hL'; cases hL'
         have hac:=hrw.acOf ha hxl rfl
         have hjt:j2<(n5 E.N E.T ρ C.B0 (its1++lkd)).length:=by simpa [n5] using o7 (l7 (l2:=lkd) hj2)
         have hs1:=Wl.Sep.upd m1.sep j2 (t:=u7 E.N E.T ρ C.B0 id (.rw t2 m2 ls2)) (t':=iAc (E.N.tb t2).r (.slice L.A m2 L.cap) xs L.bs C.B0) (w':=w) (j6 (l7 hj2)) (Ext.refl _ _) hac sAc (fun b hb=>⟨.inl (by show b∈o9 E.N ρ id (.rw t2 m2 ls2); rw [A4 hL]; exact hb),hac.lt b hb⟩) rfl
         have m2':=m1.turn (i':=.ac t2 xs) (l7 hj2) hs1 ⟨L,hL,by rw [hxl]; exact hn1,by rw [hxl]; omega,by rw [hn1]; exact hac⟩ (fun b hb=>by rw [s4 hL] at hb; exact hb)
         rw [List.set_append_left _ _ (o7 hj2),<- hu2] at m2'
         exact ⟨Z1,m2',t1⟩
       . cases h2
     . cases h2
   . cases h2
 . cases h
theorem b2g {e:Operand->E.SV} (hm:Mem E C ρ Z w (its++lkd) nx) (he:∀ o,Rep E.N E.T ρ Z w (ev f o) (e o)) {c:Call} (h:a3v E its nx e c ty=some s) (ho:m6 s.ob) (hn:Nat.blt d n=true) (K:KE E C n ops Q rest f w (some d) ρ Z lkd s) :
  WL E.P false n ops Q (⟨some d,.call c,ty,pos,after,none⟩::rest) f w:=by
 obtain ⟨cal,args,Ts⟩:=c
 simp only [a3v] at h
 cases cal with
 | builtin b =>
  cases b with
  | append =>
   simp only at h
   split at h
   . rename_i x y S S' ha hT
     obtain rfl:=b26 ha
     obtain rfl:=b26 hT
     cases hb:(Nat.beq S S' && Nat.beq S ty) with
     | true =>
      rw [hb,cond_true] at h
      simp only [Bool.and_eq_true] at hb
      obtain ⟨e1,e2⟩:=hb
      have e1:=Nat.eq_of_beq_eq_true e1
      have e2:=Nat.eq_of_beq_eq_true e2
      subst e1; subst e2
      split at h
      . rename_i t hs
        split at h
        . rename_i xs hxs
          exact b5s hm hs (he x) (c7c hm (he y) hxs) h ho hn K
        . cases h
      . cases h
     | false =>
      rw [hb,cond_false] at h
      have ⟨h1,h2⟩:=j3 h
      simp only [Bool.and_eq_true] at h1
      have e2:=Nat.eq_of_beq_eq_true h1.1
      subst e2
      split at h2
      . rename_i t hs
        exact c1k hm hs h1.2 (he x) (he y) h2 ho hn K
      . cases h2
   . cases h
  | copy =>
   simp only at h
   split at h
   . rename_i x y S S' ha hT
     obtain rfl:=b26 ha
     obtain rfl:=b26 hT
     have ⟨h1,h2⟩:=j3 h
     split at h2
     . rename_i t hs
       exact c16 hm hs (he x) (he y) h2 hn K
     . cases h2
   . cases h
  | _=>cases h
 | _=>cases h
theorem c5t {e:Operand->E.SV} (hm:Mem E C ρ Z w (its++lkd) nx) (he:∀ o,Rep E.N E.T ρ Z w (ev f o) (e o)) {c:Call} (h:b0i E its nx e c ty=some s) (ho:m6 s.ob) (hn:Nat.blt d n=true) (K:KE E C n ops Q rest f w (some d) ρ Z lkd s) :
  WL E.P false n ops Q (⟨some d,.call c,ty,pos,after,none⟩::rest) f w:=by
 have rec1:∀ {t id2:Nat},(match a44 E its t id2 with | some its'=>a3v E its' nx e c ty | none=>none)=some s->WL E.P false n ops Q (⟨some d,.call c,ty,pos,after,none⟩::rest) f w:=fun {t id2} h=>by
  split at h
  . rename_i its' hrc
    obtain ⟨Z1,m1,t1⟩:=c0e hm hrc
    exact b2g m1 (fun o=>t1.rep (he o)) h ho hn (fun v ρ' Z' w' m t r hy=>K v ρ' Z' w' m (t1.trans t) r hy)
  . cases h
 unfold b0i at h
 split at h
 . rename_i x y S hap
   split at h
   . rename_i t hT
     split at h
     . rename_i id2 hy
       split at h
       . split at h
         . rename_i id hx
           split at h
           . obtain ⟨cal,args,Ts⟩:=c
             unfold e1x at hap
             simp only at hap
             split at hap
             . split at hap
               . split at hap
                 . rename_i x' y' S1 S2 ha hTs
                   obtain rfl:=b26 ha
                   obtain rfl:=b26 hTs
                   have ⟨h1,h2⟩:=j3 hap
                   simp only [Option.some.injEq,Prod.mk.injEq] at h2
                   obtain ⟨rfl,rfl,rfl⟩:=h2
                   simp only [Bool.and_eq_true] at h1
                   have e1:=Nat.eq_of_beq_eq_true h1.1
                   have e2:=Nat.eq_of_beq_eq_true h1.2
                   subst e1; subst e2
                   have rx:=he x'
                   have ry:=he y'
                   rw [hx] at rx
                   rw [hy] at ry
                   exact c00 hm hT rx ry h ho hn K
                 . cases hap
               . cases hap
             . cases hap
           . exact rec1 h
         . exact rec1 h
       . cases h
     . cases h
   . cases h
 . cases h
theorem b0e {e:Operand->E.SV} (hE:l5 E) (hm:Mem E C ρ Z w (its++lkd) nx) (he:∀ o,Rep E.N E.T ρ Z w (ev f o) (e o)) {op:Op} {d:Option Nat} (h:b80 E its nx e op ty=some s) (ho:m6 s.ob) (hn:match op with | .store _ _ _=>d=none | _=>∃ d',d=some d'/\Nat.blt d' n=true) (K:KE E C n ops Q rest f w d ρ Z lkd s) :
  WL E.P false n ops Q (⟨d,op,ty,pos,after,none⟩::rest) f w:=by
 unfold b80 at h
 cases op with
 | alloc T=>obtain ⟨d',rfl,hn⟩:=hn; exact c0h hE hm h hn K
 | box T x =>
  obtain ⟨d',rfl,hn⟩:=hn
  have ⟨h1,h2⟩:=j3 h
  simp only [Option.some.injEq] at h2; subst h2
  exact c7j hm (he x) h1 hn K
 | makeInterface T x=>obtain ⟨d',rfl,hn⟩:=hn; exact b8v hm (he x) h ho hn K
 | store T a x =>
  simp only at hn; subst hn
  simp only at h
  have ha:=he a
  generalize e a=sa at h ha
  cases sa with
  | ref id off =>
   simp only [c1i] at h
   split at h
   . rename_i S cells hi
     have ⟨h1,h2⟩:=j3 h
     simp only [Option.some.injEq] at h2; subst h2
     simp only [Bool.and_eq_true] at h1
     obtain ⟨⟨⟨e1,e2⟩,e3⟩,e4⟩:=h1
     cases hs:E.size T with
     | none=>rw [hs] at e3; cases e3
     | some mm =>
      rw [hs] at e1 e4
      exact b4p hm ha (he x) hi hs (Nat.le_of_ble_eq_true e1) e2 (Nat.eq_of_beq_eq_true e4) K
   . rename_i t nn cells hi
     have ⟨h1,h2⟩:=j3 h
     clear h
     simp only [Option.some.injEq] at h2; subst h2
     simp only [Bool.and_eq_true] at h1
     obtain ⟨⟨⟨⟨e0,e1⟩,e2⟩,e3⟩,e4⟩:=h1
     cases hs:E.size T with
     | none=>rw [hs] at e3; cases e3
     | some mm =>
      rw [hs] at e1 e4
      exact b9f hm ha (he x) hi (v8 e0) hs (Nat.le_of_ble_eq_true e1) e2 (Nat.eq_of_beq_eq_true e4) K
   . cases h
  | el id t i off=>exact b2a hm ha (he x) h K
  | _=>cases h
 | buildSlice T len ps =>
  obtain ⟨d',rfl,hn⟩:=hn
  have h:(match b2f E its nx e T len ps.toList with | some s=>some s | none=>c7m E its nx e T len ps.toList)=some s:=h
  cases h2:b2f E its nx e T len ps.toList with
  | some s2=>rw [h2] at h; cases h; exact c5b hm he h2 hn K
  | none=>rw [h2] at h; exact c7g hm he h hn K
 | makeSlice T x y=>obtain ⟨d',rfl,hn⟩:=hn; exact c64 hm (he x) (he y) h ho hn K
 | convert S D x=>obtain ⟨d',rfl,hn⟩:=hn; exact b98 hm (he x) h hn K
 | call c =>
  obtain ⟨d',rfl,hn⟩:=hn
  have h:(match b0i E its nx e c ty with | some s=>some s | none=>a3v E its nx e c ty)=some s:=h
  cases h2:b0i E its nx e c ty with
  | some s2=>rw [h2] at h; cases h; exact c5t hm he h2 ho hn K
  | none=>rw [h2] at h; exact b2g hm he h ho hn K
 | slice T x lo hi m =>
  obtain ⟨d',rfl,hn⟩:=hn
  simp only at h
  split at h
  . rename_i k hk
    unfold a8u at hk
    split at hk
    . cases hk
    . rename_i o
      simp only [Option.map_eq_some_iff,Option.some.injEq] at hk
      obtain ⟨a,ha,rfl⟩:=hk
      exact b62 hm (he x) (a8t (he o) ha) h ho hn K
  . cases h
 | _=>cases h
end
end Go.Rx
end
section
namespace Go.Rx
open Go Go.Wk Go.Wl
section
variable {E:Env} {C:Ctx} {n:Nat} {ops:List Oper} {Q:Exit->Fr->World->Prop} {rest:List Oper} {f:Fr} {w w':World} {d:Nat}
variable {ty T T':TypeId} {pos:String} {after:Array Edge} {x y z:Operand} {a b:Int} {ρ ρ':n9} {Z Z':Nat->Prop} {its its' lkd:b9 E.N} {nx:Nat} {s:S1 E.N}
variable {fx:m7 E.N} {st:E.St}
structure Rel (E:Env) (C:Ctx) (fx:m7 E.N) (lkd:b9 E.N) (st:E.St) (ρ:n9) (Z:Nat->Prop) (f:Fr) (w:World):Prop where
 sl:∀ k s,lk st.slots k=some s->Rep E.N E.T ρ Z w (f k) s
 fx:∀ p∈fx,Rep E.N E.T ρ Z w (f p.1) p.2
 gs:∀ k j b s,lk st.gs k=some (j,b,s)->(f j=.bool b->Rep E.N E.T ρ Z w (f k) s)/\(f j≠.bool b->f k=undef)
 mem:Mem E C ρ Z w (st.items++lkd) st.nx
 tn:Tn C.ρ0 C.Z0 C.w1 ρ Z w
 g:E.G.is C.Z0 C.w1
theorem U5.turn {G:U5} (h:G.is Z w) (t:Tn ρ Z w ρ' Z' w'):G.is Z' w':=by
 obtain ⟨B,x,hB⟩:=t.ext
 exact G.stab h x hB t.z
theorem Rel.glob (h:Rel E C fx lkd st ρ Z f w):E.G.is Z w:=U5.turn h.g h.tn
theorem c6r {v:Value} {s:E.SV} (hm:Mem E C ρ Z w its nx) (h:Rep E.N E.T ρ Z w v s):Rep E.N E.T ρ Z w v (nrm its s):=by
 cases s with
 | acc id =>
  simp only [nrm]
  split
  . rename_i t l hi
    obtain ⟨L,hL,hn,hr⟩:=hm.at hi
    cases h with
    | acc hL'=>rw [hL] at hL'; cases hL'; exact .sl hr
  . exact h
 | _=>exact h
theorem a3e {β:Type} {l:List (Nat×β)} {d:Nat} (h:lk l d=none):∀ p∈l,d≠p.1:=by
 induction l with
 | nil=>intro p hp; cases hp
 | cons q r ih =>
  unfold lk at h
  cases hb:Nat.beq q.1 d with
  | true=>rw [hb,cond_true] at h; cases h
  | false =>
   rw [hb,cond_false] at h
   intro p hp
   rcases List.mem_cons.1 hp with rfl | hp
   . intro e; rw [e,Nat.beq_refl] at hb; cases hb
   . exact ih h p hp
theorem Rel.slot (h:Rel E C fx lkd st ρ Z f w) (k:Nat):Rep E.N E.T ρ Z w (f k) (p6 fx st k):=by
 unfold p6
 split
 . rename_i v hv; exact h.sl k v hv
 . split
   . rename_i v hv; obtain ⟨i,hi,_⟩:=q6 hv; exact h.fx (k,v) (List.mem_of_getElem? hi)
   . exact .un
def R1 (f:Fr) (ch:List (Nat×Bool)):Prop:=∀ j w,c6a ch j w=true->f j=.bool w
theorem R1.nil:R1 f []:=fun j w h=>by simp [c6a] at h
theorem Rel.ev (h:Rel E C fx lkd st ρ Z f w) {ch:List (Nat×Bool)} (hc:R1 f ch) (o:Operand):Rep E.N E.T ρ Z w (ev f o) (evS fx lkd st ch o):=by
 cases o with
 | tmp t =>
  show Rep E.N E.T ρ Z w (f t) _
  simp only [evS]
  split
  . rename_i j b v hv
    cases hg:c6a ch j b with
    | true=>exact c6r h.mem ((h.gs t j b v hv).1 (hc j b hg))
    | false=>exact .un
  . exact c6r h.mem (h.slot t)
 | const v=>exact a3a
 | global g=>exact .con rfl
 | func K=>exact .fn
theorem C3 {β:Type} {l:List (Nat×β)} {d k:Nat} {v:β}:lk ((d,v)::l) k=if d=k then some v else lk l k:=by
 show (bif Nat.beq d k then some v else lk l k)=_
 by_cases e:d=k
 . rw [if_pos e,e,Nat.beq_refl,cond_true]
 . rw [if_neg e,J0 e,cond_false]
theorem O6 {d k:Nat} {v:Value} (h:d≠k):upd f d v k=f k:=by rw [F7,if_neg (Ne.symm h)]
theorem a1d {d:Nat} {v:Value}:upd f d v d=v:=by rw [F7,if_pos rfl]
theorem b81 {gs:List (Nat×Nat×Bool×E.SV)} {d:Nat} (h:(gs.all fun p=>!Nat.beq p.2.1 d)=true) {k j:Nat} {b:Bool} {s:E.SV} (hk:lk gs k=some (j,b,s)):j≠d:=by
 obtain ⟨i,hi,_⟩:=q6 hk
 rw [List.all_eq_true] at h
 have:=h _ (List.mem_of_getElem? hi)
 intro e; subst e
 simp [Nat.beq_refl] at this
theorem C2 {d:Nat} (h:free n fx st (some d)=true):Nat.blt d n=true/\lk fx d=none/\lk st.gs d=none/\(st.gs.all fun p=>!Nat.beq p.2.1 d)=true:=by
 simp only [free,Bool.and_eq_true,Option.isNone_iff_eq_none] at h
 exact ⟨h.1.1.1,h.1.1.2,h.1.2,h.2⟩
theorem Rel.put {d:Option Nat} {v:Value} {s:E.SV} {items:b9 E.N} {nx:Nat} (h:Rel E C fx lkd st ρ Z f w) (hf:free n fx st d=true) (t:Tn ρ Z w ρ' Z' w') (hm:Mem E C ρ' Z' w' (items++lkd) nx) (hv:Rep E.N E.T ρ' Z' w' v s) :
  Rel E C fx lkd (put ⟨st.slots,st.gs,items,nx⟩ d s) ρ' Z' (G6 f d v) w':=by
 cases d with
 | none=>exact ⟨fun k s hk=>t.rep (h.sl k s hk),fun p hp=>t.rep (h.fx p hp),fun k j b s hk=>⟨fun e=>t.rep ((h.gs k j b s hk).1 e),(h.gs k j b s hk).2⟩,hm,h.tn.trans t,h.g⟩
 | some d =>
  obtain ⟨_,h2,h3,h4⟩:=C2 hf
  refine ⟨fun k s' hk=>?_,fun p hp=>?_,fun k j b s' hk=>?_,hm,h.tn.trans t,h.g⟩
  . show Rep E.N E.T ρ' Z' w' (upd f d v k) s'
    have hk:lk ((d,s)::st.slots) k=some s':=hk
    rw [C3] at hk
    by_cases e:d=k
    . rw [if_pos e] at hk; cases hk; subst e; rw [a1d]; exact hv
    . rw [if_neg e] at hk; rw [O6 e]; exact t.rep (h.sl k s' hk)
  . show Rep E.N E.T ρ' Z' w' (upd f d v p.1) p.2
    rw [O6 (a3e h2 p hp)]; exact t.rep (h.fx p hp)
  . have hk:lk st.gs k=some (j,b,s'):=hk
    have e:d≠k:=fun e=>by subst e; rw [h3] at hk; cases hk
    have e2:d≠j:=Ne.symm (b81 h4 hk)
    show (upd f d v j=_->Rep E.N E.T ρ' Z' w' (upd f d v k) s')/\(upd f d v j≠_->upd f d v k=_)
    rw [O6 e,O6 e2]
    exact ⟨fun e=>t.rep ((h.gs k j b s' hk).1 e),(h.gs k j b s' hk).2⟩
theorem Rel.put0 {d:Option Nat} {v:Value} {s:E.SV} (h:Rel E C fx lkd st ρ Z f w) (hf:free n fx st d=true) (hv:Rep E.N E.T ρ Z w v s):Rel E C fx lkd (Rx.put st d s) ρ Z (G6 f d v) w:=by
 have:=h.put hf (Tn.refl ρ Z w) h.mem hv
 exact this
theorem Z3 {ps:List Prop} {r:Prop} (h:cj ps r):m6 ps/\r:=by
 induction ps with
 | nil=>exact ⟨trivial,h⟩
 | cons p ps ih=>exact ⟨⟨h.1,(ih h.2).1⟩,(ih h.2).2⟩
theorem K6 {ps:List Prop} {r:Prop} (h:im ps r) (hp:m6 ps):r:=by
 induction ps with
 | nil=>exact h
 | cons p ps ih=>exact ih (h hp.1) hp.2
theorem c2s {m:Bool} {ch:List (Nat×Bool)} {c:Operand} {s:E.SV} (h:Rel E C fx lkd st ρ Z f w) (hc:R1 f ch) {ya yb:Operand} (hp:K8 fx lkd st ch c ya yb=some s) (hn:Nat.blt d n=true) (K:∀ v,Rep E.N E.T ρ Z w v s->WL E.P m n ops Q rest (upd f d v) w) :
  WL E.P m n ops Q (⟨some d,.pick c ya yb,ty,pos,after,none⟩::rest) f w:=by
 cases c with
 | tmp j =>
  simp only [K8] at hp
  have he:=h.ev hc (.tmp j)
  split at hp
  . rename_i p dp hpp
    have hv:=he.boolv hpp
    refine b32 hv hn ?_
    split at hp
    . rename_i t
      split at hp
      . rename_i j' b v hg
        have ⟨h1,h2⟩:=j3 hp
        simp only [Bool.and_eq_true] at h1
        obtain ⟨e1,e2⟩:=h1
        have e1:=Nat.eq_of_beq_eq_true e1
        subst e1; subst e2
        split at h2
        . rename_i q dq hq
          simp only [Option.some.injEq] at h2; subst h2
          have hgs:=h.gs t j true v hg
          have hv':f j=.bool (@decide p dp):=hv
          have e:(if @decide p dp=true then Wk.ev f (.tmp t) else Wk.ev f (.const (.bool false)))=.bool (decide (p/\q)):=by
           by_cases hpp:p
           . rw [if_pos (by simp [hpp])]
             have hr:=hgs.1 (by rw [hv']; simp [hpp])
             show f t=_
             rw [hr.boolv hq]; simp [hpp]
           . rw [if_neg (by simp [hpp])]
             show Value.bool false=_
             simp [hpp]
          rw [e]; exact K _ .bl
        . cases h2
      . cases hp
    . rename_i t
      split at hp
      . rename_i j' b v hg
        have ⟨h1,h2⟩:=j3 hp
        simp only [Bool.and_eq_true,Bool.not_eq_true'] at h1
        obtain ⟨e1,e2⟩:=h1
        have e1:=Nat.eq_of_beq_eq_true e1
        subst e1; subst e2
        split at h2
        . rename_i q dq hq
          simp only [Option.some.injEq] at h2; subst h2
          have hgs:=h.gs t j false v hg
          have hv':f j=.bool (@decide p dp):=hv
          have e:(if @decide p dp=true then Wk.ev f (.const (.bool true)) else Wk.ev f (.tmp t))=.bool (decide (p ∨ q)):=by
           by_cases hpp:p
           . rw [if_pos (by simp [hpp])]
             show Value.bool true=_
             simp [hpp]
           . rw [if_neg (by simp [hpp])]
             have hr:=hgs.1 (by rw [hv']; simp [hpp])
             show f t=_
             rw [hr.boolv hq]; simp [hpp]
          rw [e]; exact K _ .bl
        . cases h2
      . cases hp
    . cases hp
  . cases hp
 | _=>cases hp
theorem a5x {m:Bool} {ch:List (Nat×Bool)} {op:Op} {q:Q1 E.N} (h:Rel E C fx lkd st ρ Z f w) (hc:R1 f ch) (hs:stepG fx lkd st ch op=some q) (ho:m6 q.ob) (hn:Nat.blt d n=true) (K:KQ E m n ops Q rest f w d ρ Z q) :
  WL E.P m n ops Q (⟨some d,op,ty,pos,after,none⟩::rest) f w:=by
 unfold stepG at hs
 split at hs
 . rename_i v hp
   cases op with
   | pick c a b=>exact c2s h hc hp hn (fun v hv=>K.q0 hs hv)
   | _=>cases hp
 . exact c6h h.mem (fun o=>h.ev hc o) hs ho hn K
theorem Mem.join {new:b9 E.N} {nx':Nat} (hm:Mem E C ρ Z w its nx) (hρ:∀ i L,ρ i=some L->ρ' i=some L) (hfr:∀ i,nx'<=i->ρ' i=none) (hz:∀ b,Z b->Z' b) (hz':∀ b,Z' b->Z b ∨ w.heap.size<=b) (hs:Sep [] w Z' w' (n5 E.N E.T ρ' [] new)):Mem E C ρ' Z' w' (new++its) nx'/\Tn ρ Z w ρ' Z' w':=by
 have x:=hs.ext
 have hold:∀ {k:Nat} {p:Nat×Item E.N},its[k]?=some p->Go.Rx.holds E.N E.T ρ' p.1 Z' w' p.2/\(∀ b∈o9 E.N ρ' p.1 p.2,b∈o9 E.N ρ p.1 p.2):=fun {k p} hp=>by
  have h1:Go.Rx.holds E.N E.T ρ p.1 Z' w' p.2:=p9 (B0:=C.B0) Z Z' [] w w' (hm.holds hp) x (fun _ h=>by cases h) hz
  have h2:=G4 hρ h1
  exact ⟨h2.1,fun b hb=>by rw [<- h2.2]; exact hb⟩
 have oldF:∀ {k:Nat} {p:Nat×Item E.N},its[k]?=some p->∀ b∈o9 E.N ρ p.1 p.2,b<w.heap.size/\¬ Z b/\(b∈C.B0 ∨ C.w0.heap.size<=b):=fun {k p} hp b hb=>by
  have ok:=hm.sep.ok k _ (j6 hp)
  exact ⟨ok.lt b hb,ok.notZ b hb,ok.org b hb⟩
 have newF:∀ {k:Nat} {p:Nat×Item E.N},new[k]?=some p->Go.Rx.holds E.N E.T ρ' p.1 Z' w' p.2/\∀ b∈o9 E.N ρ' p.1 p.2,b<w'.heap.size/\¬ Z' b/\w.heap.size<=b:=fun {k p} hp=>by
  have ok:=hs.ok k _ (j6 hp)
  exact ⟨ok.holds,fun b hb=>⟨ok.lt b hb,ok.notZ b hb,by
   rcases ok.org b hb with h | h
   . cases h
   . exact h⟩⟩
 have w0le:=hm.sep.ext.size
 refine ⟨⟨⟨hm.sep.ext.trans x (fun b hb=>.inl hb) (fun b hb=>by cases hb),hs.zlt,fun k t hk=>?_,fun j k s t hj hk hne b hb hb'=>?_⟩,hfr,fun i L e=>hρ _ _ (hm.ge i L e),fun b h=>hz b (hm.zge b h),fun b h=>?_⟩,⟨hρ,fun b h _=>hz b h,[],x,fun _ h=>by cases h⟩⟩
 . obtain ⟨p,hp,rfl⟩:=m8 hk
   by_cases hlt:k<new.length
   . rw [List.getElem?_append_left hlt] at hp
     obtain ⟨h1,h2⟩:=newF hp
     exact ⟨h1,p9,fun b hb=>(h2 b hb).1,fun b hb=>(h2 b hb).2.1,fun b hb=>.inr (by have:=(h2 b hb).2.2; omega),fun b hb=>hb⟩
   . rw [List.getElem?_append_right (by omega)] at hp
     obtain ⟨h1,h2⟩:=hold hp
     exact ⟨h1,p9,fun b hb=>by have:=(oldF hp b (h2 b hb)).1; have:=x.size; omega,fun b hb hZ=>by
      have o:=oldF hp b (h2 b hb)
      rcases hz' b hZ with h | h
      . exact o.2.1 h
      . omega,fun b hb=>(oldF hp b (h2 b hb)).2.2,fun b hb=>hb⟩
 . obtain ⟨p,hp,rfl⟩:=m8 hj
   obtain ⟨q,hq,rfl⟩:=m8 hk
   have hb:b∈o9 E.N ρ' p.1 p.2:=hb
   have hb':b∈o9 E.N ρ' q.1 q.2:=hb'
   by_cases h1:j<new.length
   . rw [List.getElem?_append_left h1] at hp
     by_cases h2:k<new.length
     . rw [List.getElem?_append_left h2] at hq
       exact hs.apart j k _ _ (j6 hp) (j6 hq) hne b hb hb'
     . rw [List.getElem?_append_right (by omega)] at hq
       have:=((newF hp).2 b hb).2.2
       have:=(oldF hq b ((hold hq).2 b hb')).1
       omega
   . rw [List.getElem?_append_right (by omega)] at hp
     by_cases h2:k<new.length
     . rw [List.getElem?_append_left h2] at hq
       have:=((newF hq).2 b hb').2.2
       have:=(oldF hp b ((hold hp).2 b hb)).1
       omega
     . rw [List.getElem?_append_right (by omega)] at hq
       exact hm.sep.apart _ _ _ _ (j6 hp) (j6 hq) (by omega) b ((hold hp).2 b hb) ((hold hq).2 b hb')
 . rcases hz' b h with h | h
   . exact hm.zle b h
   . exact .inr (.inr (by omega))
theorem a7w {e:Operand->E.SV} (he:∀ o,Rep E.N E.T ρ Z w (Wk.ev f o) (e o)):∀ (l:List Operand),Rep E.N E.T ρ Z w (.tuple (l.map (Wk.ev f)).toArray) (.tup (l.map e))
 | []=>.tup0
 | o::l=>.tup1 (he o) (a7w he l)
theorem d4z {cs c2:List Value} {ss s2:List E.SV} (h:Rep E.N E.T ρ Z w (.tuple cs.toArray) (.tup ss)) (h2:i7 E.N E.T ρ Z w c2 s2):Rep E.N E.T ρ Z w (.tuple (cs++c2).toArray) (.tup (ss++s2)):=by
 induction ss generalizing cs with
 | nil =>
  have:cs=[]:=by
   generalize e:Value.tuple cs.toArray=u at h
   cases h with
   | tup0=>simpa using e
  subst this
  show Rep E.N E.T ρ Z w (.tuple c2.toArray) (.tup s2)
  clear h
  induction s2 generalizing c2 with
  | nil=>have:=i7.nil_inv h2; subst this; exact .tup0
  | cons s r ih=>obtain ⟨v,rr,rfl,h1,_,h3⟩:=i7.cons_inv h2; exact .tup1 h1 (ih h3)
 | cons s ss ih=>obtain ⟨v,r,rfl,h1,h3⟩:=Rep.tup_cons h; exact .tup1 h1 (ih h3)
theorem Y4 {e:Operand->E.SV} (he:∀ o,Rep E.N E.T ρ Z w (Wk.ev f o) (e o)) {c:Call} {K:Nat} {args:List E.SV} (h:callee e c=some (K,args)):∃ z xs Ts cap,c=⟨.value z,xs,Ts⟩/\Wk.ev f z=.func (.func K) #[] cap/\Rep E.N E.T ρ Z w (.tuple (xs.toList.map (Wk.ev f)++cap.toList).toArray) (.tup args):=by
 obtain ⟨cal,xs,Ts⟩:=c
 unfold callee at h
 cases cal with
 | value z =>
  simp only at h
  have hz:=he z
  generalize hv:Wk.ev f z=vz at hz
  split at h
  . rename_i K' hk
    simp only [Option.some.injEq,Prod.mk.injEq] at h
    obtain ⟨rfl,rfl⟩:=h
    rw [hk] at hz
    cases hz with
    | fn=>exact ⟨z,xs,Ts,#[],rfl,hv,by simpa using a7w he xs.toList⟩
  . rename_i K' cs hk
    simp only [Option.some.injEq,Prod.mk.injEq] at h
    obtain ⟨rfl,rfl⟩:=h
    rw [hk] at hz
    cases hz with
    | clo hr=>exact ⟨z,xs,Ts,_,rfl,hv,d4z (a7w he xs.toList) hr⟩
  . cases h
 | _=>cases h
theorem L0 {z:Operand} {xs:Array Operand} {Ts:Array TypeId} {cap:Array Value} {K0:Nat} {d:Option Nat} {R:Value->World->Prop} (hv:Wk.ev f z=.func (.func K0) #[] cap) (hK:∀ ars w,(callFunc K0 ars).run E.P w=.ok (.enter K0 ars) w)
  (hc:B7 E.P K0 (xs.toList.map (Wk.ev f)++cap.toList) w R) (hn:∀ d',d=some d'->Nat.blt d' n=true) (K:∀ v w',R v w'->WL E.P false n ops Q rest (G6 f d v) w'):WL E.P false n ops Q (⟨d,.call ⟨.value z,xs,Ts⟩,ty,pos,after,none⟩::rest) f w:=by
 have key:∀ w1,Sim w w1->(execOp (Wk.ev f) ⟨d,.call ⟨.value z,xs,Ts⟩,ty,pos,after,none⟩).run E.P w1=.ok (.enter K0 (xs.toList.map (Wk.ev f)++cap.toList).toArray) w1:=fun w1 _=>by
  have:xs.map (Wk.ev f)++cap=(xs.toList.map (Wk.ev f)++cap.toList).toArray:=by apply Array.ext'; simp
  simp [execOp,resolve,Deferred.ofValue,invoke,hv,go_sem,hK,<- this]
 cases d with
 | none=>exact b93 rfl rfl key hc K
 | some d=>exact c3a rfl rfl (hn d rfl) key hc K
theorem b31 {e:Operand->E.SV} (he:∀ o,Rep E.N E.T ρ Z w (Wk.ev f o) (e o)) {c:Call} {id:Nat} {args:List E.SV} (h:a8n e c=some (id,args)):∃ z xs Ts L,c=⟨.value z,xs,Ts⟩/\Wk.ev f z=.func (.yield L.b) #[] #[]/\ρ id=some L/\Rep E.N E.T ρ Z w (.tuple (xs.toList.map (Wk.ev f)).toArray) (.tup args):=by
 obtain ⟨cal,xs,Ts⟩:=c
 unfold a8n at h
 cases cal with
 | value z =>
  simp only at h
  have hz:=he z
  generalize hv:Wk.ev f z=vz at hz
  split at h
  . rename_i id' hk
    simp only [Option.some.injEq,Prod.mk.injEq] at h
    obtain ⟨rfl,rfl⟩:=h
    rw [hk] at hz
    cases hz with
    | yld hL=>exact ⟨z,xs,Ts,_,rfl,hv,hL,a7w he xs.toList⟩
  . cases h
 | _=>cases h
theorem c9m {z:Operand} {xs:Array Operand} {Ts:Array TypeId} {b:Nat} {d:Nat} {R:Value->World->Prop} (hv:Wk.ev f z=.func (.yield b) #[] #[])
  (hc:O4 E.P b (xs.toList.map (Wk.ev f)) w R) (hn:Nat.blt d n=true) (K:∀ v w',R v w'->WL E.P false n ops Q rest (upd f d v) w'):WL E.P false n ops Q (⟨some d,.call ⟨.value z,xs,Ts⟩,ty,pos,after,none⟩::rest) f w:=by
 refine c5g rfl rfl hn (fun w1=>?_) hc K
 have:xs.map (Wk.ev f)=(xs.toList.map (Wk.ev f)).toArray:=by apply Array.ext'; simp
 simp [execOp,resolve,Deferred.ofValue,invoke,hv,go_sem,<- this]
theorem a6v {v:Value} {s:E.SV} (hp:z7 s=true) (h:Rep E.N E.T ρ Z w v s) (ρ':n9):Rep E.N E.T ρ' Z w v s:=by
 have one:∀ {v:Value} {s:E.SV},(match s with | .int _ _=>true | .byte _=>true | .tt=>true | .ff=>true | .bl _ _=>true | .str _=>true | .con _=>true | .nils=>true | .sl _ _=>true | .err _=>true | .fn _=>true | _=>false)=true->Rep E.N E.T ρ Z w v s->Rep E.N E.T ρ' Z w v s:=fun {v s} hp h=>by
  cases h with
  | int h=>exact .int h
  | byte=>exact .byte
  | tt=>exact .tt
  | ff=>exact .ff
  | bl=>exact .bl
  | str h=>exact .str h
  | con h=>exact .con h
  | nils=>exact .nils
  | sl h=>exact .sl h
  | err h=>exact .err h
  | fn=>exact .fn
  | _=>cases hp
 cases s with
 | agg vs =>
  have ⟨cs,e,h2⟩:=Rep.agg_inv h
  subst e
  clear h
  rename i7 E.N E.T ρ Z w cs vs=>h
  simp only [z7] at hp
  show i7 E.N E.T ρ' Z w cs vs
  induction vs generalizing cs with
  | nil=>have:=i7.nil_inv h; subst this; exact i7.nil
  | cons s r ih =>
   obtain ⟨u,rr,rfl,h1,hpl,h2⟩:=i7.cons_inv h
   simp only [List.all_cons,Bool.and_eq_true] at hp
   refine Rep.agg1 (one ?_ h1) hpl (ih hp.2 rr h2)
   have:=hp.1
   cases s <;> first | rfl | cases this
 | un=>cases hp
 | undef=>cases hp
 | ref=>cases hp
 | acc=>cases hp
 | el=>cases hp
 | fel t l i off=>cases h with | fel h a b=>exact .fel h a b
 | sub=>cases hp
 | tup=>cases hp
 | ifc=>cases hp
 | clo=>cases hp
 | yld=>cases hp
 | _=>exact one rfl h
theorem E1 {cs:List Value} {ss:List E.SV} (hp:ss.all z7=true) (h:Rep E.N E.T ρ Z w (.tuple cs.toArray) (.tup ss)) (ρ':n9):Rep E.N E.T ρ' Z w (.tuple cs.toArray) (.tup ss):=by
 induction ss generalizing cs with
 | nil =>
  generalize e:Value.tuple cs.toArray=u at h ⊢
  cases h with | tup0=>exact .tup0
 | cons s ss ih =>
  obtain ⟨v,r,rfl,h1,h2⟩:=Rep.tup_cons h
  simp only [List.all_cons,Bool.and_eq_true] at hp
  exact .tup1 (a6v hp.1 h1 ρ') (ih hp.2 h2)
def seen (Z:Nat->Prop) (w:World) (F:List Nat):Nat->Prop:=fun b=>b<w.heap.size/\b ∉ F
theorem a3j {F:List Nat} {cs:List Value} {ss:List E.SV} (hm:Mem E C ρ Z w its nx) (hF:∀ b∈F,¬ Z b) (hA:∀ id t l,lk its id=some (.ac t l)->∀ b∈o9 E.N ρ id (.ac t l),b ∉ F) (h:Rep E.N E.T ρ Z w (.tuple cs.toArray) (.tup ss)):Rep E.N E.T ρ (seen Z w F) w (.tuple cs.toArray) (.tup (ss.map (R6 its))):=by
 have hZ:∀ b,Z b->b<w.heap.size->seen Z w F b:=fun b hz hb=>⟨hb,fun hm=>hF b hm hz⟩
 have up:∀ {v:Value} {s:E.SV},Rep E.N E.T ρ Z w v s->Rep E.N E.T ρ (seen Z w F) w v s:=fun h=>h.stab (Ext.refl [] w) (fun _ h=>by cases h) hZ (fun _ _ h=>h)
 have one:∀ {v:Value} {s:E.SV},Rep E.N E.T ρ Z w v s->Rep E.N E.T ρ (seen Z w F) w v (a6w its s):=fun {v s} h1=>by
  cases s with
  | acc id =>
   simp only [a6w]
   split
   . rename_i t l hi
     obtain ⟨L,hL,hn,hl,hac⟩:=hm.at hi
     cases h1 with
     | acc hL' =>
      rw [hL] at hL'; cases hL'
      have hrd:=Ac.rd hac hl
      refine .sl (Rd.weak _ hrd fun b hb hlt=>?_)
      rcases hb with h | h
      . exact hZ b h hlt
      . exact ⟨hlt,hA id t l hi b (by rw [s4 hL]; exact h)⟩
   . exact up h1
  | sub id t lo n =>
   simp only [a6w]
   split
   . rename_i t' l hi
     cases hb:Nat.beq t t' with
     | false=>rw [cond_false]; exact up h1
     | true =>
      rw [cond_true]
      have e:=Nat.eq_of_beq_eq_true hb
      subst e
      obtain ⟨L,hL,hn,hl,hac⟩:=hm.at hi
      cases h1 with
      | subs hL' l0 n0 l1 hc hA' =>
       rw [hL] at hL'; cases hL'
       have hrd:=Ac.rd hac hl
       rw [hn] at hrd
       have hs:=a5e (a:=lo.toNat) (b:=lo.toNat+n.toNat) hrd (by omega) (by omega)
       rw [Nat.add_sub_cancel_left] at hs
       rw [hc,hA']
       refine .sl (Rd.weak _ hs fun b hb hlt=>?_)
       rcases hb with h | h
       . exact hZ b h hlt
       . exact ⟨hlt,hA id t l hi b (by rw [s4 hL]; exact h)⟩
   . exact up h1
  | _=>exact up h1
 have many:∀ {vs:List E.SV} {us:List Value},i7 E.N E.T ρ Z w us vs->i7 E.N E.T ρ (seen Z w F) w us (vs.map (a6w its)):=fun {vs}=>by
  induction vs with
  | nil=>intro us h; obtain rfl:=i7.nil_inv h; exact i7.nil
  | cons s vs ih=>intro us h; obtain ⟨v,r,rfl,h1,hp,h2⟩:=i7.cons_inv h; exact i7.cons (one h1) hp (ih h2)
 induction ss generalizing cs with
 | nil =>
  generalize e:Value.tuple cs.toArray=u at h ⊢
  cases h with | tup0=>exact .tup0
 | cons s ss ih =>
  obtain ⟨v,r,rfl,h1,h2⟩:=Rep.tup_cons h
  refine .tup1 ?_ (ih h2)
  cases s with
  | agg vs =>
   obtain ⟨us,rfl,hr⟩:=Rep.agg_inv h1
   exact many hr
  | _=>exact one h1
end
end Go.Rx
end
section
namespace Go.Rx
open Go Go.Wk Go.Wl
theorem Sep.sel2 {B0:List Nat} {w0 w:World} {Z:Nat->Prop} {l l':List It} (hs:Sep B0 w0 Z w l) (φ:Nat->Option Nat) (inj:∀ i j a,i<l'.length->j<l'.length->φ i=some a->φ j=some a->i=j)
  (h:∀ (i:Nat) (t':It),l'[i]?=some t'->(∃ k t,φ i=some k/\l[k]?=some t/\b6g B0 Z w t t') ∨ (t'.P Z w/\t'.Stab/\t'.F=[]/\t'.O=B0)):Sep B0 w0 Z w l':=by
 refine ⟨hs.ext,hs.zlt,fun i t' hi=>?_,fun i j s t hi hj hne b hb hb'=>?_⟩
 . rcases h i t' hi with ⟨k,t,_,ht,lk⟩ | ⟨h1,h2,h3,h4⟩
   . have ok:=hs.ok _ t ht
     exact ⟨lk.P,lk.stab,fun b hb=>ok.lt b (lk.F b hb),fun b hb=>ok.notZ b (lk.F b hb),fun b hb=>by
      rw [lk.O]
      rcases ok.org b (lk.F b hb) with h | h
      . exact .inl (ok.org0 b h)
      . exact .inr h,fun b hb=>by rw [lk.O] at hb; exact hb⟩
   . exact ⟨h1,h2,fun b hb=>(by rw [h3] at hb; cases hb),fun b hb=>(by rw [h3] at hb; cases hb),fun b hb=>(by rw [h3] at hb; cases hb),fun b hb=>by rw [h4] at hb; exact hb⟩
 . rcases h i s hi with ⟨k,s1,e1,hs1,lk1⟩ | ⟨_,_,h3,_⟩
   . rcases h j t hj with ⟨k2,t1,e2,ht1,lk2⟩ | ⟨_,_,h3,_⟩
     . exact hs.apart k k2 s1 t1 hs1 ht1 (fun e=>hne (inj i j k (o7 hi) (o7 hj) e1 (by rw [e]; exact e2))) b (lk1.F b hb) (lk2.F b hb')
     . rw [h3] at hb'; cases hb'
   . rw [h3] at hb; cases hb
def b5c {β:Type}:List (Nat×β)->Nat->Nat
 | [],_=>0
 | p::r,j=>bif Nat.beq p.1 j then 0 else b5c r j+1
theorem a0o {β:Type} {l:List (Nat×β)} {j:Nat} {x:β} (h:lk l j=some x):l[b5c l j]?=some (j,x):=by
 induction l with
 | nil=>cases h
 | cons p r ih =>
  unfold lk at h; unfold b5c
  cases hb:Nat.beq p.1 j with
  | true=>rw [hb,cond_true] at h; cases h; have:=Nat.eq_of_beq_eq_true hb; simp [<- this]
  | false=>rw [hb,cond_false] at h; simpa using ih h
section
variable {E:Env} {C:Ctx} {f:Fr} {w:World}
variable {ρb ρ ρ2 ρ3:n9} {Z Zb:Nat->Prop} {wb:World} {its lkd:b9 E.N} {nx:Nat}
theorem a2l {id:Nat} {i:Item E.N} (h:holds E.N E.T ρ id Z w i) (hb:holds E.N E.T ρb id Zb wb i) (hρ:∀ i L,ρb i=some L->ρ i=some L):holds E.N E.T ρb id Z w i/\o9 E.N ρb id i=o9 E.N ρ id i:=by
 cases i with
 | own Ty cells =>
  obtain ⟨L,cs,hL,hbs,ho,hr⟩:=h
  obtain ⟨L',cs',hL',_,_,hr'⟩:=hb
  have:=hρ _ _ hL'; rw [hL] at this; cases this
  exact ⟨⟨L,cs,hL',hbs,ho,Rep.lower hr hr' hρ⟩,by rw [p8 hL,p8 hL']⟩
 | ac t l =>
  obtain ⟨L,hL,r⟩:=h
  obtain ⟨L',hL',_⟩:=hb
  have:=hρ _ _ hL'; rw [hL] at this; cases this
  exact ⟨⟨L,hL',r⟩,by rw [s4 hL,s4 hL']⟩
 | fz t l =>
  obtain ⟨L,hL,r⟩:=h
  obtain ⟨L',hL',_⟩:=hb
  have:=hρ _ _ hL'; rw [hL] at this; cases this
  exact ⟨⟨L,hL',r⟩,rfl⟩
 | ob k fid x =>
  obtain ⟨L,Lf,hL,hf,r⟩:=h
  obtain ⟨L',Lf',hL',hf',_⟩:=hb
  have:=hρ _ _ hL'; rw [hL] at this; cases this
  have:=hρ _ _ hf'; rw [hf] at this; cases this
  exact ⟨⟨L,Lf,hL',hf',r⟩,by rw [A1 hf,A1 hf']⟩
 | rw t n cells =>
  obtain ⟨L,F,hL,hn,hb',hA,hr,hrep⟩:=h
  obtain ⟨L',F',hL',_,_,_,_,hrep'⟩:=hb
  have:=hρ _ _ hL'; rw [hL] at this; cases this
  exact ⟨⟨L,F,hL',hn,hb',hA,hr,Rep.lower hrep hrep' hρ⟩,by rw [A4 hL,A4 hL']⟩
theorem Ac.takeN {α:Type} {r:Rd α} {Z:Nat->Prop} {w:World} {A:Option Addr} {nn cap k:Nat} {l:List α} {bs:List Nat} (h:Ac r Z w (.slice A nn cap) l bs) (hk:k<=nn):Ac r Z w (.slice A k cap) (l.take k) bs:=by
 have hl:l.length=nn:=Ac.n h
 rcases h with ⟨e,rfl,rfl⟩ | ⟨b,cap',C,T,hv,rfl,ho,hC,hle,hc⟩
 . simp only [Value.slice.injEq] at e
   obtain ⟨rfl,rfl,rfl⟩:=e
   have:k=0:=by omega
   subst this; exact .inl ⟨rfl,rfl,rfl⟩
 . simp only [Value.slice.injEq] at hv
   obtain ⟨rfl,_,rfl⟩:=hv
   refine .inr ⟨b,cap,C,T,by rw [List.length_take,hl,Nat.min_eq_left hk],rfl,ho,hC,by rw [List.length_take]; omega,fun i hi=>?_⟩
   have hi':i<l.length:=by rw [List.length_take] at hi; omega
   obtain ⟨c,h1,h2,h3⟩:=hc i hi'
   exact ⟨c,h1,h2,by rw [List.getElem_take]; exact h3⟩
def Tgt (E:Env) (B0:List Nat) (ρ:n9) (Z:Nat->Prop) (w:World) (its:b9 E.N) (ρ2:n9) (o:Option Nat) (p:Nat×Item E.N):Prop:=match o with
 | some sid=>∃ it,lk its sid=some it/\holds E.N E.T ρ2 p.1 Z w p.2/\∀ b∈o9 E.N ρ2 p.1 p.2,b∈o9 E.N ρ sid it
 | none=>holds E.N E.T ρ2 p.1 Z w p.2/\o9 E.N ρ2 p.1 p.2=[]
inductive J9 (E:Env) (B0:List Nat) (ρ:n9) (Z:Nat->Prop) (w:World) (its:b9 E.N) (ρ2:n9):List (Option Nat)->b9 E.N->Prop
 | nil:J9 E B0 ρ Z w its ρ2 [] []
 | cons {o:Option Nat} {p:Nat×Item E.N} {os:List (Option Nat)} {ps:b9 E.N}:Tgt E B0 ρ Z w its ρ2 o p->J9 E B0 ρ Z w its ρ2 os ps->J9 E B0 ρ Z w its ρ2 (o::os) (p::ps)
theorem Tgt.mono {B0:List Nat} {o:Option Nat} {p:Nat×Item E.N} (hρ:∀ i L,ρ2 i=some L->ρ3 i=some L) (h:Tgt E B0 ρ Z w its ρ2 o p):Tgt E B0 ρ Z w its ρ3 o p:=by
 cases o with
 | some sid=>obtain ⟨it,h1,h2,h3⟩:=h; have:=G4 hρ h2; exact ⟨it,h1,this.1,fun b hb=>h3 b (by rw [<- this.2]; exact hb)⟩
 | none=>obtain ⟨h1,h2⟩:=h; have:=G4 hρ h1; exact ⟨this.1,by rw [this.2]; exact h2⟩
theorem J9.mono {B0:List Nat} {os:List (Option Nat)} {ps:b9 E.N} (hρ:∀ i L,ρ2 i=some L->ρ3 i=some L) (h:J9 E B0 ρ Z w its ρ2 os ps):J9 E B0 ρ Z w its ρ3 os ps:=by
 induction h with
 | nil=>exact .nil
 | cons h _ ih=>exact .cons (h.mono hρ) ih
theorem J9.get {B0:List Nat} {os:List (Option Nat)} {ps:b9 E.N} (h:J9 E B0 ρ Z w its ρ2 os ps):os.length=ps.length/\∀ (i:Nat) (p:Nat×Item E.N),ps[i]?=some p->∃ o,os[i]?=some o/\Tgt E B0 ρ Z w its ρ2 o p:=by
 induction h with
 | nil=>exact ⟨rfl,fun i p h=>by simp at h⟩
 | cons h _ ih =>
  refine ⟨by simp [ih.1],fun i p hp=>?_⟩
  cases i with
  | zero=>simp at hp; subst hp; exact ⟨_,rfl,h⟩
  | succ i=>exact ih.2 i p (by simpa using hp)
theorem b4v {os:List (Option Nat)} (h:(os.filterMap id).Nodup):∀ (i j sid:Nat),os[i]?=some (some sid)->os[j]?=some (some sid)->i=j:=by
 induction os with
 | nil=>intro i j sid hi; simp at hi
 | cons o r ih =>
  intro i j sid hi hj
  have mem:∀ k,r[k]?=some (some sid)->sid∈r.filterMap id:=fun k hk=>List.mem_filterMap.2 ⟨some sid,List.mem_of_getElem? hk,rfl⟩
  cases o with
  | none =>
   have h:(r.filterMap id).Nodup:=h
   cases i with
   | zero=>simp at hi
   | succ i=>cases j with
    | zero=>simp at hj
    | succ j=>rw [ih h i j sid (by simpa using hi) (by simpa using hj)]
  | some s =>
   have h:(s::r.filterMap id).Nodup:=h
   rw [List.nodup_cons] at h
   cases i with
   | zero =>
    simp at hi; subst hi
    cases j with
    | zero=>rfl
    | succ j=>exact absurd (mem j (by simpa using hj)) h.1
   | succ i=>cases j with
    | zero=>simp at hj; subst hj; exact absurd (mem i (by simpa using hi)) h.1
    | succ j=>rw [ih h.2 i j sid (by simpa using hi) (by simpa using hj)]
theorem Mem.rebuild {os:List (Option Nat)} {new:b9 E.N} {n2:Nat} (hm:Mem E C ρ Z w (its++lkd) nx) (hl:∀ p∈lkd,Go.Rx.holds E.N E.T ρ2 p.1 Z w p.2/\o9 E.N ρ2 p.1 p.2=o9 E.N ρ p.1 p.2) (ht:J9 E C.B0 ρ Z w its ρ2 os new) (hd:(os.filterMap id).Nodup) (hfr:∀ i,n2<=i->ρ2 i=none) (hge:∀ i L,C.ρ0 i=some L->ρ2 i=some L):Mem E C ρ2 Z w (new++lkd) n2:=by
 obtain ⟨hlen,hget⟩:=ht.get
 refine ⟨Sep.sel2 hm.sep (fun i=>if i<new.length then (match os[i]? with | some (some sid)=>some (b5c its sid) | _=>none) else some (its.length+(i-new.length))) (fun i j a hi hj e1 e2=>?_) fun i t' hi=>?_,hfr,hge,hm.zge,hm.zle⟩
 . have small:∀ i,i<new.length->(match os[i]? with | some (some sid)=>some (b5c its sid) | _=>none)=some a->∃ sid,os[i]?=some (some sid)/\b5c its sid=a/\a<its.length/\∃ it,its[a]?=some (sid,it):=fun i hi e=>by
     split at e
     . rename_i sid hs
       cases e
       obtain ⟨o,ho,htg⟩:=hget i _ (List.getElem?_eq_getElem hi)
       rw [hs] at ho; cases ho
       obtain ⟨it,h1,_⟩:=htg
       exact ⟨sid,hs,rfl,o7 (a0o h1),it,a0o h1⟩
     . cases e
   by_cases h1:i<new.length
   . rw [if_pos h1] at e1
     obtain ⟨s1,a1,b1,c1,it1,d1⟩:=small i h1 e1
     by_cases h2:j<new.length
     . rw [if_pos h2] at e2
       obtain ⟨s2,a2,b2,c2,it2,d2⟩:=small j h2 e2
       rw [d1] at d2; cases d2
       exact b4v hd i j s1 a1 a2
     . rw [if_neg h2] at e2; cases e2; omega
   . rw [if_neg h1] at e1; cases e1
     by_cases h2:j<new.length
     . rw [if_pos h2] at e2
       obtain ⟨s2,a2,b2,c2,_⟩:=small j h2 e2
       omega
     . rw [if_neg h2] at e2; simp at e2; omega
 . obtain ⟨p,hp,rfl⟩:=m8 hi
   by_cases h1:i<new.length
   . rw [List.getElem?_append_left h1] at hp
     obtain ⟨o,ho,htg⟩:=hget i p hp
     simp only [if_pos h1,ho]
     cases o with
     | some sid =>
      obtain ⟨it,a1,a2,a3⟩:=htg
      exact .inl ⟨_,_,rfl,j6 (l7 (a0o a1)),a2,p9,a3,rfl⟩
     | none=>exact .inr ⟨htg.1,p9,htg.2,rfl⟩
   . rw [List.getElem?_append_right (by omega)] at hp
     simp only [if_neg h1]
     have hq:(its++lkd)[its.length+(i-new.length)]?=some p:=by rw [List.getElem?_append_right (by omega)]; simpa using hp
     obtain ⟨a1,a2⟩:=hl p (List.mem_of_getElem? hp)
     exact .inl ⟨_,_,rfl,j6 hq,a1,p9,fun b hb=>by have hb:b∈o9 E.N ρ2 p.1 p.2:=hb; rw [a2] at hb; exact hb,rfl⟩
theorem w6 {ρ1 ρ2 ρ3:n9} (h:∀ i L,ρ1 i=some L->ρ2 i=some L) (k:∀ i L,ρ2 i=some L->ρ3 i=some L):∀ i L,ρ1 i=some L->ρ3 i=some L:=fun i L e=>k _ _ (h _ _ e)
theorem L8 {k:VK} {v:E.SV} {u:Value} {x:k.den E.N} {n2:Nat} {os:List (Option Nat)} {new:b9 E.N} (hm:Mem E C ρ Z w (its++lkd) nx) (hu:Rep E.N E.T ρ Z w u v) (h:rb1 E its k v=some x) (hfr:∀ i,n2<=i->ρ2 i=none) (ht:J9 E C.B0 ρ Z w its ρ2 os new) :
  ∃ ρ3 os',J9 E C.B0 ρ Z w its ρ3 os' ((fl1 E n2 k x).2.1++new)/\(∀ i,(fl1 E n2 k x).2.2<=i->ρ3 i=none)/\(∀ i L,ρ2 i=some L->ρ3 i=some L)/\Rep E.N E.T ρ3 Z w u (fl1 E n2 k x).1/\os'.filterMap id=E6 k v++os.filterMap id:=by
 have same:E6 k v=[]->(fl1 E n2 k x).2.1=[]->(fl1 E n2 k x).2.2=n2->Rep E.N E.T ρ2 Z w u (fl1 E n2 k x).1->∃ ρ3 os',J9 E C.B0 ρ Z w its ρ3 os' ((fl1 E n2 k x).2.1++new)/\(∀ i,(fl1 E n2 k x).2.2<=i->ρ3 i=none)/\(∀ i L,ρ2 i=some L->ρ3 i=some L)/\Rep E.N E.T ρ3 Z w u (fl1 E n2 k x).1/\os'.filterMap id=E6 k v++os.filterMap id:=fun e0 e1 e2 hr=>⟨ρ2,os,by rw [e1]; exact ht,by rw [e2]; exact hfr,fun _ _ h=>h,hr,by rw [e0]; rfl⟩
 cases k with
 | int k =>
  cases v with
  | int k' y =>
   simp only [rb1] at h
   split at h
   . rename_i e; subst e
     cases h
     cases hu with
     | int hi=>exact same rfl rfl rfl (.int hi)
   . cases h
  | _=>cases h
 | byte =>
  cases v with
  | byte y=>cases h; cases hu; exact same rfl rfl rfl .byte
  | _=>cases h
 | bool =>
  have hb:∀ y:Bool,Value.bool y=.bool (@decide (y=true) inferInstance):=fun y=>by cases y <;> rfl
  cases v with
  | tt=>cases h; cases hu; refine same rfl rfl rfl ?_; rw [hb true]; exact .bl
  | ff=>cases h; cases hu; refine same rfl rfl rfl ?_; rw [hb false]; exact .bl
  | bl p d =>
   cases h
   have he:u=.bool (@decide p d):=by cases hu; rfl
   refine same rfl rfl rfl ?_
   rw [he,hb (@decide p d)]; exact .bl
  | _=>cases h
 | str =>
  cases v with
  | str y=>cases h; cases hu with | str hl=>exact same rfl rfl rfl (.str hl)
  | _=>cases h
 | err =>
  cases v with
  | err y=>cases h; cases hu with | err he=>exact same rfl rfl rfl (.err he)
  | _=>cases h
 | sl t =>
  simp only [rb1] at h
  have hu':Rep E.N E.T ρ Z w u (nrm its v):=by
   cases v with
   | acc id =>
    simp only [nrm]
    split
    . rename_i t l hi
      obtain ⟨j,hj,_⟩:=q6 hi
      obtain ⟨L,hL,hn,hr⟩:=hm.holds (l7 hj)
      cases hu with
      | acc hL'=>have hL:ρ id=some L:=hL; rw [hL] at hL'; cases hL'; exact .sl hr
    . exact hu
   | _=>exact hu
  exact same (by unfold E6; rfl) rfl rfl (.sl (c1s hu' h))
 | nilp =>
  cases v with
  | con u' =>
   simp only [rb1] at h
   split at h
   . split at h
     . cases hu; exact same rfl rfl rfl (.con rfl)
     . cases h
   . cases h
  | _=>cases h
 | val t =>
  cases v with
  | agg vs =>
   simp only [rb1] at h
   split at h
   . rename_i y hy
     obtain ⟨cs,rfl,hr⟩:=Rep.agg_inv hu
     have hrd:=y.bk_ok (s:=.agg vs) hr h
     have hsv:=y.sv_ok (ρ:=ρ2) hrd
     refine same rfl rfl rfl ?_
     simp only [fl1,hy]
     split
     . rename_i ls hls; rw [hls] at hsv; exact hsv
     . exact .un
   . cases h
  | _=>cases h
 | acc t =>
  have hn:=hfr n2 (Nat.le_refl _)
  cases v with
  | nils =>
   cases h
   cases hu
   refine ⟨B5 ρ2 n2 ⟨0,none,0,0,[]⟩,none::os,.cons ⟨⟨_,j9,rfl,by simp,Ac.nil⟩,by rw [s4 j9]⟩ (ht.mono (w4 hn)),fun i hi=>?_,w4 hn,.acc j9,rfl⟩
   have hi:n2+1<=i:=hi
   unfold B5; rw [if_neg (by omega)]; exact hfr i (by omega)
  | acc id =>
   simp only [rb1] at h
   split at h
   . rename_i t' l hi
     split at h
     . rename_i e; subst e
       cases h
       obtain ⟨j,hj,_⟩:=q6 hi
       obtain ⟨L,hL,r⟩:=hm.holds (l7 hj)
       have hL:ρ id=some L:=hL
       cases hu with
       | acc hL' =>
        rw [hL] at hL'; cases hL'
        refine ⟨B5 ρ2 n2 L,some id::os,.cons ⟨_,hi,⟨L,j9,r⟩,fun b hb=>by rw [s4 j9] at hb; rw [s4 hL]; exact hb⟩ (ht.mono (w4 hn)),fun i hi=>?_,w4 hn,.acc j9,rfl⟩
        have hi:n2+1<=i:=hi
        unfold B5; rw [if_neg (by omega)]; exact hfr i (by omega)
     . cases h
   . cases h
  | sub id t2 lo nn =>
   simp only [rb1] at h
   split at h
   . split at h
     . rename_i t' l hi
       split at h
       . rename_i e; subst e
         have ⟨hb,h2⟩:=j3 h
         clear h
         simp only [Bool.and_eq_true] at hb
         obtain ⟨e2,hel⟩:=hb
         have e2:=Nat.eq_of_beq_eq_true e2
         subst e2
         cases h2
         obtain ⟨j,hj,_⟩:=q6 hi
         obtain ⟨L,hL,hn1,hlen,hac⟩:=hm.holds (l7 hj)
         have hL:ρ id=some L:=hL
         cases hu with
         | subs hL' l0 n0 l1 hc hA =>
          rw [hL] at hL'; cases hL'
          have hnl:nn.toNat<=l.length:=by have l1:(0:Int)+nn<=L.n:=l1; omega
          have hact:=Ac.takeN (k:=nn.toNat) hac (by omega)
          have e0:(Int.ofNat 0).toNat=0:=rfl
          rw [e0,Nat.zero_mul] at hA
          rw [e0,Nat.sub_zero] at hc
          have hA2:_=L.A:=hA.trans (by
           split
           . rfl
           . cases hLA:L.A with
             | none=>rfl
             | some a=>show some (a.add 0)=some a; obtain ⟨ab,ao,asp⟩:=a; rfl)
          rw [hc,hA2]
          have hl2:(L9 rfl l:List (E.N.U t2)).take nn.toNat=l.take nn.toNat:=rfl
          refine ⟨B5 ρ2 n2 ⟨L.b,L.A,nn.toNat,L.cap,L.bs⟩,some id::os,.cons ⟨_,hi,⟨_,j9,by rw [hl2,List.length_take]; show nn.toNat=_; omega,by rw [hl2,List.length_take]; omega,hact⟩,fun b hb=>by rw [s4 j9] at hb; rw [s4 hL]; exact hb⟩ (ht.mono (w4 hn)),fun i hi=>?_,w4 hn,.acc j9,rfl⟩
          have hi:n2+1<=i:=hi
          unfold B5; rw [if_neg (by omega)]; exact hfr i (by omega)
       . cases h
     . cases h
   . cases h
  | _=>cases h
end
end Go.Rx
end
section
namespace Go.Rx
open Go Go.Wk Go.Wl
section
variable {E:Env} {C:Ctx} {f:Fr} {w:World}
variable {ρb ρ ρ2 ρ3:n9} {Z Zb:Nat->Prop} {wb:World} {its lkd:b9 E.N} {nx:Nat} {fx fx':m7 E.N} {st st':E.St}
theorem a1l (ks:List VK) (vs:List E.SV):((ks.zip vs).filterMap c86)=(ks.zip vs).flatMap fun p=>E6 p.1 p.2:=by
 induction ks generalizing vs with
 | nil=>rfl
 | cons k ks ih =>
  cases vs with
  | nil=>rfl
  | cons v vs =>
   rw [List.zip_cons_cons,List.flatMap_cons,<- ih vs]
   cases k with
   | acc t=>cases v <;> rfl
   | _=>cases v <;> rfl
theorem R8 {α:Type} (hm:Mem E C ρ Z w (its++lkd) nx):∀ (ks:List VK) (vs:List E.SV) (cs:List Value) (g:B8 E.N α ks) (a:α) (n2:Nat) (new:b9 E.N) (acc:List E.SV) (ac:List Value) (ρ2:n9) (os:List (Option Nat)),
  i7 E.N E.T ρ Z w cs vs->C8 E its ks vs g=some a->(∀ i,n2<=i->ρ2 i=none)->J9 E C.B0 ρ Z w its ρ2 os new->i7 E.N E.T ρ2 Z w ac acc ->
  ∃ ρ3 os' n3 new' cells',J9 E C.B0 ρ Z w its ρ3 os' new'/\(∀ i,n3<=i->ρ3 i=none)/\(∀ i L,ρ2 i=some L->ρ3 i=some L)/\i7 E.N E.T ρ3 Z w (ac++cs) cells'/\(os'.filterMap id).Perm (((ks.zip vs).flatMap fun p=>E6 p.1 p.2)++os.filterMap id)/\∀ K,Q6 E ks n2 new acc g K->K a n3 new' cells'
 | [],vs,cs,g,a,n2,new,acc,ac,ρ2,os,hr,h,hfr,ht,hac=>by
  cases vs with
  | nil =>
   cases h
   obtain rfl:=i7.nil_inv hr
   exact ⟨ρ2,os,n2,new,acc,ht,hfr,fun _ _ h=>h,by simpa using hac,List.Perm.refl _,fun K h=>h⟩
  | cons v vs=>cases h
 | k::ks,vs,cs,g,a,n2,new,acc,ac,ρ2,os,hr,h,hfr,ht,hac=>by
  cases vs with
  | nil=>cases h
  | cons v vs =>
   obtain ⟨u,r,rfl,hu,hp,hr⟩:=i7.cons_inv hr
   simp only [C8] at h
   split at h
   . rename_i x hx
     obtain ⟨ρ3,os1,t1,f1,s1,r1,o1⟩:=L8 hm hu hx hfr ht
     have hac1:i7 E.N E.T ρ3 Z w (ac++[u]) (acc++[(fl1 E n2 k x).1]):=i7.app (Rep.sub hac s1) (Rep.agg1 r1 hp Rep.agg0)
     obtain ⟨ρ4,os2,n4,new4,cells4,t2,f2,s2,r2,o2,k2⟩:=R8 hm ks vs r (g x) a _ _ _ _ ρ3 os1 hr h f1 t1 hac1
     refine ⟨ρ4,os2,n4,new4,cells4,t2,f2,w6 s1 s2,by simpa using r2,?_,fun K hK=>k2 K (hK x)⟩
     rw [List.zip_cons_cons,List.flatMap_cons]
     refine o2.trans ?_
     rw [o1,<- List.append_assoc]
     exact (List.perm_append_comm).append_right _
   . cases h
theorem b1h {cs:List Value} {cells:List E.SV} {n:Nat} (h:i7 E.N E.T ρ Z w cs cells) (hn:cells.length=n+1):∃ c0 v,cs=c0++[v]/\i7 E.N E.T ρ Z w c0 (cells.take n)/\Rep E.N E.T ρ Z w v (a79 cells)/\v6 v=true/\c0.length=n:=by
 induction n generalizing cs cells with
 | zero =>
  match cells,hn with
  | [s],_ =>
   obtain ⟨v,r,rfl,h1,hp,hr⟩:=i7.cons_inv h
   obtain rfl:=i7.nil_inv hr
   exact ⟨[],v,rfl,i7.nil,h1,hp,rfl⟩
 | succ n ih =>
  match cells,hn with
  | s::t::r,hn =>
   obtain ⟨v,c,rfl,h1,hp,hr⟩:=i7.cons_inv h
   obtain ⟨c0,u,rfl,g1,g2,g3,g4⟩:=ih hr (by simpa using hn)
   exact ⟨v::c0,u,rfl,i7.cons h1 hp g1,g2,g3,by simp [g4]⟩
theorem b77 {T:Nat} {ks:List VK} {α:Type} (hm:Mem E C ρ Z w (its++lkd) nx):∀ (n:Nat) (v:Value) (sv:E.SV) (g:chD E.N α ks n) (a:α) (n2:Nat) (new:b9 E.N) (ρ2:n9) (os:List (Option Nat)),
  Rep E.N E.T ρ Z w v sv->c2b E its T ks n sv g=some a->(∀ i,n2<=i->ρ2 i=none)->J9 E C.B0 ρ Z w its ρ2 os new ->
  ∃ ρ3 os' n3 new' sv',J9 E C.B0 ρ Z w its ρ3 os' new'/\(∀ i,n3<=i->ρ3 i=none)/\(∀ i L,ρ2 i=some L->ρ3 i=some L)/\Rep E.N E.T ρ3 Z w v sv'/\v6 v=true/\(os'.filterMap id).Perm (a4u its ks n sv++os.filterMap id)/\∀ K,c4x E T ks n n2 new g K->K a n3 new' sv'
 | 0,v,sv,g,a,n2,new,ρ2,os,hr,h,hfr,ht=>by
  unfold c2b at h
  split at h
  . split at h
    . split at h
      . cases h
        cases hr
        exact ⟨ρ2,os,n2,new,_,ht,hfr,fun _ _ h=>h,.con rfl,rfl,List.Perm.refl _,fun K h=>h⟩
      . cases h
    . cases h
  . cases h
 | n+1,v,sv,g,a,n2,new,ρ2,os,hr,h,hfr,ht=>by
  unfold c2b at h
  split at h
  . rename_i id off
    have ⟨ho0,hh⟩:=j3 h
    clear h
    have h:=hh
    clear hh
    have ho0:=Nat.eq_of_beq_eq_true ho0
    subst ho0
    split at h
    . rename_i T' cells hi
      have ⟨hb,hh⟩:=j3 h
      clear h
      have h:=hh
      clear hh
      obtain ⟨hb1,hb2⟩:=(Bool.and_eq_true _ _).mp hb
      have hb1:=Nat.eq_of_beq_eq_true hb1
      have hb2:=Nat.eq_of_beq_eq_true hb2
      subst hb1
      split at h
      . rename_i g1 hc
        obtain ⟨j,hj,_⟩:=q6 hi
        obtain ⟨L,cs,hL,hbs,ho,hrep⟩:=hm.holds (l7 (l2:=lkd) hj)
        have hL:ρ id=some L:=hL
        cases hr with
        | ref hL' =>
         rw [hL] at hL'; cases hL'
         obtain ⟨c0,u,rfl,k1,k2,k3,k4⟩:=b1h hrep hb2
         have s0:=w4 (L:=L) (hfr n2 (Nat.le_refl _))
         obtain ⟨ρ3,os1,n3,new3,cells3,t1,f1,s1,r1,o1,q1⟩:=R8 hm ks (cells.take ks.length) c0 g g1 (n2+1) new [] [] (B5 ρ2 n2 L) os k1 hc (fun i hi=>by unfold B5; rw [if_neg (by omega)]; exact hfr i (by omega)) (ht.mono s0) i7.nil
         obtain ⟨ρ4,os2,n4,new4,sv4,t2,f2,s2,r2,p2,o2,q2⟩:=b77 hm n u (a79 cells) g1 a n3 new3 ρ3 os1 k2 h f1 t1
         have hL4:ρ4 n2=some L:=s2 _ _ (s1 _ _ j9)
         have r1':i7 E.N E.T ρ3 Z w c0 cells3:=by simpa using r1
         refine ⟨ρ4,some id::os2,n4,(n2,.own T' (cells3++[sv4]))::new4,.ref n2 0,.cons ⟨_,hi,⟨L,c0++[u],hL4,hbs,ho,i7.app (Rep.sub r1' s2) (i7.cons r2 p2 i7.nil)⟩,fun b hb=>by rw [p8 hL4] at hb; rw [p8 hL]; exact hb⟩ t2,f2,w6 s0 (w6 s1 s2),.ref hL4,rfl,?_,fun K hK=>q2 _ (q1 _ hK)⟩
         have e:a4u its ks (n+1) (.ref id 0)=id::(((ks.zip (cells.take ks.length)).flatMap fun p=>E6 p.1 p.2)++a4u its ks n (a79 cells)):=by
          rw [<- a1l]
          conv=>lhs; unfold a4u
          simp only [hi]
         rw [e]
         show (id::os2.filterMap _root_.id).Perm _
         rw [List.cons_append,List.append_assoc]
         refine List.Perm.cons _ (o2.trans ?_)
         refine (o1.append_left _).trans ?_
         rw [<- List.append_assoc,<- List.append_assoc]
         exact (List.perm_append_comm).append_right _
      . cases h
    . cases h
  . cases h
theorem a3n {α:Type} {nm ids:List Nat} (hm:Mem E C ρ Z w (its++lkd) nx):∀ (ks:List TK) (vs:List E.SV) (cs:List Value) (g:tcD E.N α ks) (a:α) (n2:Nat) (new:b9 E.N) (acc:List E.SV) (ac:List Value) (ρ2:n9) (os:List (Option Nat)),
  i7 E.N E.T ρ Z w cs vs->b2r E its ids ks vs g=some a->(∀ i,n2<=i->ρ2 i=none)->J9 E C.B0 ρ Z w its ρ2 os new->i7 E.N E.T ρ2 Z w ac acc->(∀ j id,Y8 ids j id=true->∃ L,ρ id=some L/\ρ2 (nm.getD j 0)=some L) ->
  ∃ ρ3 os' n3 new' cells',J9 E C.B0 ρ Z w its ρ3 os' new'/\(∀ i,n3<=i->ρ3 i=none)/\(∀ i L,ρ2 i=some L->ρ3 i=some L)/\i7 E.N E.T ρ3 Z w (ac++cs) cells'/\(os'.filterMap id).Perm (a15 ks vs++os.filterMap id)/\∀ K,a2n E nm ks n2 new acc g K->K a n3 new' cells'
 | [],vs,cs,g,a,n2,new,acc,ac,ρ2,os,hr,h,hfr,ht,hac,_=>by
  cases vs with
  | nil =>
   cases h
   obtain rfl:=i7.nil_inv hr
   exact ⟨ρ2,os,n2,new,acc,ht,hfr,fun _ _ h=>h,by simpa using hac,List.Perm.refl _,fun K h=>h⟩
  | cons v vs=>cases h
 | .v k::ks,vs,cs,g,a,n2,new,acc,ac,ρ2,os,hr,h,hfr,ht,hac,hH=>by
  cases vs with
  | nil=>cases h
  | cons v vs =>
   obtain ⟨u,r,rfl,hu,hp,hq⟩:=i7.cons_inv hr
   simp only [b2r] at h
   split at h
   . rename_i x hx
     obtain ⟨ρ3,os1,t1,f1,s1,r1,o1⟩:=L8 hm hu hx hfr ht
     have hac1:i7 E.N E.T ρ3 Z w (ac++[u]) (acc++[(fl1 E n2 k x).1]):=i7.app (Rep.sub hac s1) (Rep.agg1 r1 hp Rep.agg0)
     obtain ⟨ρ4,os2,n4,new4,cells4,t2,f2,s2,r2,o2,k2⟩:=a3n hm ks vs r (g x) a _ _ _ _ ρ3 os1 hq h f1 t1 hac1 (fun j id hj=>by obtain ⟨L,e1,e2⟩:=hH j id hj; exact ⟨L,e1,s1 _ _ e2⟩)
     refine ⟨ρ4,os2,n4,new4,cells4,t2,f2,w6 s1 s2,by simpa using r2,?_,fun K hK=>k2 K (hK x)⟩
     refine o2.trans ?_
     show (a15 ks vs++os1.filterMap id).Perm ((E6 k v++a15 ks vs)++os.filterMap id)
     rw [o1,<- List.append_assoc]
     exact (List.perm_append_comm).append_right _
   . cases h
 | .to j::ks,vs,cs,g,a,n2,new,acc,ac,ρ2,os,hr,h,hfr,ht,hac,hH=>by
  cases vs with
  | nil=>cases h
  | cons v vs =>
   obtain ⟨u,r,rfl,hu,hp,hq⟩:=i7.cons_inv hr
   simp only [b2r] at h
   split at h
   . rename_i id off
     have ⟨hb,h2⟩:=j3 h
     clear h
     obtain ⟨hb1,hb2⟩:=(Bool.and_eq_true _ _).mp hb
     have hb1:=Nat.eq_of_beq_eq_true hb1
     subst hb1
     obtain ⟨L,e1,e2⟩:=hH j id hb2
     have hru:Rep E.N E.T ρ2 Z w u (.ref (nm.getD j 0) 0):=by
      cases hu with
      | ref hL=>rw [e1] at hL; cases hL; exact .ref e2
     obtain ⟨ρ4,os2,n4,new4,cells4,t2,f2,s2,r2,o2,k2⟩:=a3n hm ks vs r g a n2 new _ _ ρ2 os hq h2 hfr ht (i7.app hac (Rep.agg1 hru hp Rep.agg0)) hH
     exact ⟨ρ4,os2,n4,new4,cells4,t2,f2,s2,by simpa using r2,o2,fun K hK=>k2 K hK⟩
   . cases h
 | .nilp::ks,vs,cs,g,a,n2,new,acc,ac,ρ2,os,hr,h,hfr,ht,hac,hH=>by
  cases vs with
  | nil=>cases h
  | cons v vs =>
   obtain ⟨u,r,rfl,hu,hp,hq⟩:=i7.cons_inv hr
   simp only [b2r] at h
   have ⟨hb,h2⟩:=j3 h
   clear h
   have hru:Rep E.N E.T ρ2 Z w u (.con (.pointer none)):=by
    unfold c66 at hb
    split at hb
    . split at hb
      . rename_i p
        cases p with
        | none=>cases hu; exact .con rfl
        | some p=>cases hb
      . cases hb
    . cases hb
   obtain ⟨ρ4,os2,n4,new4,cells4,t2,f2,s2,r2,o2,k2⟩:=a3n hm ks vs r g a n2 new _ _ ρ2 os hq h2 hfr ht (i7.app hac (Rep.agg1 hru hp Rep.agg0)) hH
   exact ⟨ρ4,os2,n4,new4,cells4,t2,f2,s2,by simpa using r2,o2,fun K hK=>k2 K hK⟩
theorem a96 {α:Type} {ids:List Nat} (hm:Mem E C ρ Z w (its++lkd) nx):∀ (ps:List TP) (rest:List Nat) (g:tpD E.N α ps) (a:α),a2x E its ids ps rest g=some a->∀ id∈rest,∃ L,ρ id=some L
 | [],rest,g,a,h,id,hi=>by
  cases rest with
  | nil=>cases hi
  | cons _ _=>cases h
 | .own s0 T ks::ps,rest,g,a,h,id,hi=>by
  cases rest with
  | nil=>cases hi
  | cons id0 rest =>
   simp only [a2x] at h
   split at h
   . rename_i T' cells hl
     have ⟨_,h2⟩:=j3 h
     split at h2
     . rename_i g1 _
       rcases List.mem_cons.1 hi with rfl | hi
       . obtain ⟨j,hj,_⟩:=q6 hl
         obtain ⟨L,cs,hL,_⟩:=hm.holds (l7 (l2:=lkd) hj)
         exact ⟨L,hL⟩
       . exact a96 hm ps rest g1 a h2 id hi
     . cases h2
   . cases h
 | .ob s0 k::ps,rest,g,a,h,id,hi=>by
  cases rest with
  | nil=>cases hi
  | cons id0 rest =>
   simp only [a2x] at h
   split at h
   . rename_i k' fid x hl
     split at h
     . rename_i hk
       rcases List.mem_cons.1 hi with rfl | hi
       . obtain ⟨j,hj,_⟩:=q6 hl
         obtain ⟨L,Lf,hL,_⟩:=hm.holds (l7 (l2:=lkd) hj)
         exact ⟨L,hL⟩
       . exact a96 hm ps rest _ a h id hi
     . cases h
   . cases h
theorem a7x {α:Type} {nm ids:List Nat} (hm:Mem E C ρ Z w (its++lkd) nx):∀ (ps:List TP) (rest:List Nat) (i:Nat) (g:tpD E.N α ps) (a:α) (n2:Nat) (new:b9 E.N) (ρ2:n9) (os:List (Option Nat)),
  rest=ids.drop i->a2x E its ids ps rest g=some a->(∀ i,n2<=i->ρ2 i=none)->J9 E C.B0 ρ Z w its ρ2 os new->(∀ j id,Y8 ids j id=true->∃ L,ρ id=some L/\ρ2 (nm.getD j 0)=some L) ->
  ∃ ρ3 os' n3 new',J9 E C.B0 ρ Z w its ρ3 os' new'/\(∀ i,n3<=i->ρ3 i=none)/\(∀ i L,ρ2 i=some L->ρ3 i=some L)/\(os'.filterMap id).Perm (a2g its ps rest++os.filterMap id)/\∀ K,a5f E nm ps i n2 new g K->K a n3 new'
 | [],rest,i,g,a,n2,new,ρ2,os,hrest,h,hfr,ht,hH=>by
  cases rest with
  | nil=>cases h; exact ⟨ρ2,os,n2,new,ht,hfr,fun _ _ h=>h,List.Perm.refl _,fun K h=>h⟩
  | cons _ _=>cases h
 | .own s0 T ks::ps,rest,i,g,a,n2,new,ρ2,os,hrest,h,hfr,ht,hH=>by
  cases rest with
  | nil=>cases h
  | cons id0 rest =>
   have hat:Y8 ids i id0=true:=by
    have:ids[i]?=some id0:=by
     have e:(ids.drop i)[0]?=some id0:=by rw [<- hrest]; rfl
     simpa using e
    unfold Y8; rw [this]; exact Nat.beq_refl _
   have hrest':rest=ids.drop (i+1):=by rw [<- List.drop_drop,<- hrest]; rfl
   simp only [a2x] at h
   split at h
   . rename_i T' cells hl
     have ⟨hb,h2⟩:=j3 h
     have hb:=Nat.eq_of_beq_eq_true hb
     subst hb
     split at h2
     . rename_i g1 hc
       obtain ⟨j,hj,_⟩:=q6 hl
       obtain ⟨L,cs,hL,hbs,ho,hrep⟩:=hm.holds (l7 (l2:=lkd) hj)
       have hL:ρ id0=some L:=hL
       obtain ⟨L',e1,e2⟩:=hH i id0 hat
       rw [hL] at e1; cases e1
       obtain ⟨ρ3,os1,n3,new3,cells3,t1,f1,s1,r1,o1,q1⟩:=a3n (nm:=nm) hm ks cells cs g g1 n2 new [] [] ρ2 os hrep hc hfr ht i7.nil hH
       have hL3:ρ3 (nm.getD i 0)=some L:=s1 _ _ e2
       have r1':i7 E.N E.T ρ3 Z w cs cells3:=by simpa using r1
       have t1':J9 E C.B0 ρ Z w its ρ3 (some id0::os1) ((nm.getD i 0,.own T' cells3)::new3):=.cons ⟨_,hl,⟨L,cs,hL3,hbs,ho,r1'⟩,fun x hx=>by rw [p8 hL3] at hx; rw [p8 hL]; exact hx⟩ t1
       obtain ⟨ρ4,os2,n4,new4,t2,f2,s2,o2,q2⟩:=a7x hm ps rest (i+1) g1 a n3 _ ρ3 (some id0::os1) hrest' h2 f1 t1' (fun j id hj=>by obtain ⟨L,e1,e2⟩:=hH j id hj; exact ⟨L,e1,s1 _ _ e2⟩)
       refine ⟨ρ4,os2,n4,new4,t2,f2,w6 s1 s2,?_,fun K hK=>q2 K (q1 _ hK)⟩
       have e:a2g its (.own s0 T' ks::ps) (id0::rest)=(id0::a15 ks cells)++a2g its ps rest:=by simp only [a2g,hl]
       rw [e]
       refine o2.trans ?_
       have o3:(List.filterMap _root_.id (some id0::os1)).Perm ((id0::a15 ks cells)++os.filterMap _root_.id):=o1.cons id0
       refine (o3.append_left _).trans ?_
       rw [<- List.append_assoc]
       exact (List.perm_append_comm).append_right _
     . cases h2
   . cases h
 | .ob s0 k::ps,rest,i,g,a,n2,new,ρ2,os,hrest,h,hfr,ht,hH=>by
  cases rest with
  | nil=>cases h
  | cons id0 rest =>
   have hat:Y8 ids i id0=true:=by
    have:ids[i]?=some id0:=by
     have e:(ids.drop i)[0]?=some id0:=by rw [<- hrest]; rfl
     simpa using e
    unfold Y8; rw [this]; exact Nat.beq_refl _
   have hrest':rest=ids.drop (i+1):=by rw [<- List.drop_drop,<- hrest]; rfl
   simp only [a2x] at h
   split at h
   . rename_i k' fid x hl
     split at h
     . rename_i hk
       subst hk
       obtain ⟨j,hj,_⟩:=q6 hl
       obtain ⟨L,Lf,hL,hLf,ho⟩:=hm.holds (l7 (l2:=lkd) hj)
       have hL:ρ id0=some L:=hL
       obtain ⟨L',e1,e2⟩:=hH i id0 hat
       rw [hL] at e1; cases e1
       have hn:=hfr n2 (Nat.le_refl _)
       have s1:=w4 (L:=Lf) hn
       have t1':J9 E C.B0 ρ Z w its (B5 ρ2 n2 Lf) (some id0::os) ((nm.getD i 0,.ob k' n2 x)::new):=.cons ⟨_,hl,⟨L,Lf,s1 _ _ e2,j9,ho⟩,fun y hy=>by rw [A1 j9] at hy; rw [A1 hLf]; exact hy⟩ (ht.mono s1)
       obtain ⟨ρ4,os2,n4,new4,t2,f2,s2,o2,q2⟩:=a7x hm ps rest (i+1) (g x) a (n2+1) _ (B5 ρ2 n2 Lf) (some id0::os) hrest' h (fun j hj=>by unfold B5; rw [if_neg (by omega)]; exact hfr j (by omega)) t1' (fun j id hj=>by obtain ⟨L,e1,e2⟩:=hH j id hj; exact ⟨L,e1,s1 _ _ e2⟩)
       exact ⟨ρ4,os2,n4,new4,t2,f2,w6 s1 s2,o2.trans List.perm_middle,fun K hK=>q2 K (hK x)⟩
     . cases h
   . cases h
theorem a4t {α:Type} {ids:List Nat}:∀ (ps:List TP) (rest:List Nat) (g:tpD E.N α ps) (a:α),a2x E its ids ps rest g=some a->rest.length=ps.length
 | [],rest,g,a,h=>by
  cases rest with
  | nil=>rfl
  | cons _ _=>cases h
 | .own s0 T ks::ps,rest,g,a,h=>by
  cases rest with
  | nil=>cases h
  | cons id0 rest =>
   simp only [a2x] at h
   split at h
   . have ⟨_,h2⟩:=j3 h
     split at h2
     . simp [a4t ps rest _ a h2]
     . cases h2
   . cases h
 | .ob s0 k::ps,rest,g,a,h=>by
  cases rest with
  | nil=>cases h
  | cons id0 rest =>
   simp only [a2x] at h
   split at h
   . split at h
     . rename_i hk; simp [a4t ps rest _ a h]
     . cases h
   . cases h
theorem c5y {ids:List Nat} {n2:Nat} (hin:∀ id∈ids,∃ L,ρ id=some L) (hfr:∀ i,n2<=i->ρ2 i=none) :
  ∃ ρ3:n9,(∀ i L,ρ2 i=some L->ρ3 i=some L)/\(∀ i,n2+ids.length<=i->ρ3 i=none)/\∀ j id,Y8 ids j id=true->∃ L,ρ id=some L/\ρ3 (n2+j)=some L:=by
 refine ⟨fun i=>if n2<=i then (ids[i-n2]?).bind ρ else ρ2 i,fun i L h=>?_,fun i hi=>?_,fun j id hj=>?_⟩
 . by_cases hn:n2<=i
   . rw [hfr i hn] at h; cases h
   . simp only [if_neg hn]; exact h
 . simp only [if_pos (show n2<=i by omega)]
   rw [List.getElem?_eq_none (by omega)]; rfl
 . unfold Y8 at hj
   split at hj
   . rename_i i hi
     have:=Nat.eq_of_beq_eq_true hj
     subst this
     obtain ⟨L,hL⟩:=hin i (List.mem_of_getElem? hi)
     refine ⟨L,hL,?_⟩
     simp only [if_pos (show n2<=n2+j by omega),Nat.add_sub_cancel_left,hi]
     exact hL
   . cases hj
theorem a1v {ids:List Nat}:∀ {ss:List (Nat×Nat)},O3 fx st ids ss=true->∀ p∈ss,∃ id,p6 fx st p.1=.ref id 0/\Y8 ids p.2 id=true
 | [],_,p,hp=>by cases hp
 | q::ss,h,p,hp=>by
  unfold O3 at h
  obtain ⟨h1,h2⟩:=(Bool.and_eq_true _ _).mp h
  rcases List.mem_cons.1 hp with rfl | hp
  . split at h1
    . rename_i id off hs
      obtain ⟨h3,h4⟩:=(Bool.and_eq_true _ _).mp h1
      have h3:=Nat.eq_of_beq_eq_true h3
      subst h3
      exact ⟨id,hs,h4⟩
    . cases h1
  . exact a1v h2 p hp
theorem b6x {q:Nat->Nat} {k:Nat} {s:E.SV} {r:m7 E.N}:∀ {ss:List (Nat×Nat)},lk ((ss.map fun p=>(p.1,(.ref (q p.2) 0:E.SV)))++r) k=some s->(∃ p∈ss,p.1=k/\s=.ref (q p.2) 0) ∨ lk r k=some s
 | [],h=>.inr h
 | x::ss,h=>by
  rw [List.map_cons,List.cons_append,C3] at h
  by_cases e:x.1=k
  . rw [if_pos e] at h; cases h; exact .inl ⟨x,List.mem_cons_self .., e,rfl⟩
  . rw [if_neg e] at h
    rcases b6x h with ⟨p,hp,e1,e2⟩ | h
    . exact .inl ⟨p,List.mem_cons_of_mem _ hp,e1,e2⟩
    . exact .inr h
theorem a7h {s:Nat} {p:TP}:∀ {ps:List TP} {i j:Nat},ps[j]?=some p->p.kept=some s->(s,i+j)∈a61 ps i
 | [],i,j,h,_=>by simp at h
 | q::ps,i,j,h,hk=>by
  unfold a61
  cases j with
  | zero =>
   simp at h; subst h
   rw [hk]; exact List.mem_cons_self ..
  | succ j =>
   have ih:=a7h (i:=i+1) (j:=j) (by simpa using h) hk
   rw [show i+(j+1)=i+1+j by omega]
   split
   . exact List.mem_cons_of_mem _ ih
   . exact ih
theorem b6w {b:Nat}:∀ {l:List Nat} {i j r:Nat},l[j]?=some r->(tnm b i l).getD j 0=bif Nat.beq r 0 then b+(i+j) else r-1
 | [],i,j,r,h=>by simp at h
 | x::l,i,j,r,h=>by
  unfold tnm
  cases j with
  | zero=>simp at h; subst h; rfl
  | succ j =>
   have ih:=b6w (b:=b) (l:=l) (i:=i+1) (j:=j) (r:=r) (by simpa using h)
   rw [show i+(j+1)=i+1+j by omega,<- ih]; rfl
theorem e23 {ids:List Nat} {ps:List TP} {b:Nat} (hbase:∀ s id off,p6 fx st s=.ref id off->∃ L,ρb id=some L) (hk:O3 fx' st' ids (a61 ps 0)=true) (he:P2 fx' st' ps=P2 fx st ps) (hl:ids.length=ps.length) (h2:∀ i L,ρb i=some L->ρ2 i=some L) (hρ:∀ i L,ρb i=some L->ρ i=some L)
  (hH:∀ j id,Y8 ids j id=true->∃ L,ρ id=some L/\ρ2 (b+j)=some L):∀ j id,Y8 ids j id=true->∃ L,ρ id=some L/\ρ2 ((tnm b 0 (P2 fx st ps)).getD j 0)=some L:=by
 intro j id hj
 have hjl:j<ps.length:=by
  unfold Y8 at hj
  split at hj
  . rename_i i hi; rw [<- hl]; exact o7 hi
  . cases hj
 have hp:=List.getElem?_eq_getElem hjl
 have hr:(P2 fx st ps)[j]?=some (b1c fx st ps[j]):=by unfold P2; rw [List.getElem?_map,hp]; rfl
 have hr':(P2 fx' st' ps)[j]?=some (b1c fx' st' ps[j]):=by unfold P2; rw [List.getElem?_map,hp]; rfl
 rw [he,hr] at hr'
 have e1:=Option.some.inj hr'
 rw [b6w hr]
 cases hkp:ps[j].kept with
 | none =>
  have:b1c fx st ps[j]=0:=by unfold b1c; rw [hkp]
  rw [this,Nat.zero_add]
  exact hH j id hj
 | some s =>
  obtain ⟨id',hs,hat⟩:=a1v hk (s,0+j) (a7h hp hkp)
  have hs:p6 fx' st' s=.ref id' 0:=hs
  have hat:Y8 ids j id'=true:=by simpa using hat
  have eid:id'=id:=by
   unfold Y8 at hat hj
   split at hj
   . rename_i i hi
     rw [hi] at hat
     rw [<- Nat.eq_of_beq_eq_true hat,<- Nat.eq_of_beq_eq_true hj]
   . cases hj
  subst eid
  have e2:b1c fx' st' ps[j]=id'+1:=by unfold b1c; rw [hkp]; simp only [hs]
  rw [e2] at e1
  have e3:∃ off,p6 fx st s=.ref id' off:=by
   unfold b1c at e1
   rw [hkp] at e1
   simp only at e1
   split at e1
   . rename_i i off ho
     have:i=id':=by omega
     subst this
     exact ⟨off,ho⟩
   . omega
  obtain ⟨off,ho⟩:=e3
  obtain ⟨L,hL⟩:=hbase s _ off ho
  refine ⟨L,hρ _ _ hL,?_⟩
  rw [e1]
  exact h2 _ _ hL
theorem a4o {ids:List Nat} {b:List (Nat×Nat)}:∀ {a:List (Nat×Nat)},O3 fx st ids (a++b)=true->O3 fx st ids a=true/\O3 fx st ids b=true
 | [],h=>⟨rfl,h⟩
 | x::a,h=>by
  rw [List.cons_append] at h
  unfold O3 at h
  obtain ⟨h1,h2⟩:=(Bool.and_eq_true _ _).mp h
  obtain ⟨h3,h4⟩:=a4o h2
  refine ⟨?_,h4⟩
  unfold O3
  exact (Bool.and_eq_true _ _).mpr ⟨h1,h3⟩
structure a94 (E:Env) (B0:List Nat) (ρb ρ:n9) (Z:Nat->Prop) (f:Fr) (w:World) (its:b9 E.N) (ρ2:n9) (os:List (Option Nat)) (new:E.St):Prop where
 tg:J9 E B0 ρ Z w its ρ2 os new.items
 fr:∀ i,new.nx<=i->ρ2 i=none
 sub:∀ i L,ρb i=some L->ρ2 i=some L
 sl:∀ k s,lk new.slots k=some s->Rep E.N E.T ρ2 Z w (f k) s
 gs:new.gs=[]
theorem a64:∀ {a b:List Nat},eqL a b=true->a=b
 | [],[],_=>rfl
 | [],_::_,h=>by cases h
 | _::_,[],h=>by cases h
 | x::a,y::b,h=>by
  simp only [eqL,Bool.and_eq_true] at h
  rw [Nat.eq_of_beq_eq_true h.1,a64 h.2]
theorem H3 (hbO:∀ s id,ownN fx st s=some id->∃ L,ρb id=some L) (hbase:∀ s id off,p6 fx st s=.ref id off->∃ L,ρb id=some L) (hbA:∀ s id,b0z (p6 fx st s)=some id ∨ obN (p6 fx st s)=some id->∃ L,ρb id=some L) (hρ:∀ i L,ρb i=some L->ρ i=some L) (h:Rel E C fx' lkd st' ρ Z f w) {α:Type} :
  ∀ (vs:List LV) (g:Cur E.N α vs) (a:α) (new:E.St) (ρ2:n9) (os:List (Option Nat)),H9 E fx' st' vs g=some a->z6 E fx' st' vs=z6 E fx st vs->a94 E C.B0 ρb ρ Z f w st'.items ρ2 os new->∀ K,F8 E fx st vs g new K ->
  ∃ new' ρ3 os',a94 E C.B0 ρb ρ Z f w st'.items ρ3 os' new'/\(os'.filterMap id).Perm (s5 E fx' st' vs++os.filterMap id)/\K a new'
 | [],g,a,new,ρ2,os,hr,_,hF,K,hK=>by cases hr; exact ⟨new,ρ2,os,hF,List.Perm.refl _,hK⟩
 | .slot s k::vs,g,a,new,ρ2,os,hr,he,hF,K,hK=>by
  simp only [H9] at hr
  split at hr
  . rename_i x hx
    obtain ⟨ρ3,os1,t1,f1,s1,r1,o1⟩:=L8 h.mem (h.slot s) hx hF.fr hF.tg
    have hF1:a94 E C.B0 ρb ρ Z f w st'.items ρ3 os1 ⟨(s,(fl1 E new.nx k x).1)::new.slots,[],(fl1 E new.nx k x).2.1++new.items,(fl1 E new.nx k x).2.2⟩:=⟨t1,f1,w6 hF.sub s1,fun k' s' hk=>by
     rw [C3] at hk
     by_cases e:s=k'
     . rw [if_pos e] at hk; cases hk; subst e; exact r1
     . rw [if_neg e] at hk; exact Rep.sub (hF.sl k' s' hk) s1,rfl⟩
    obtain ⟨new',ρ4,os2,hF2,o2,k2⟩:=H3 hbO hbase hbA hρ h vs (g x) a _ ρ3 os1 hr (by simpa [z6,H7] using he) hF1 K (hK x)
    refine ⟨new',ρ4,os2,hF2,?_,k2⟩
    have e0:a0b E fx' st' (.slot s k)=E6 k (p6 fx' st' s):=rfl
    have e:s5 E fx' st' (.slot s k::vs)=E6 k (p6 fx' st' s)++s5 E fx' st' vs:=by
     show a0b E fx' st' (.slot s k)++s5 E fx' st' vs=_
     rw [e0]
    rw [e]
    refine o2.trans ?_
    rw [o1,<- List.append_assoc]
    exact (List.perm_append_comm).append_right _
  . cases hr
 | .own s ks::vs,g,a,new,ρ2,os,hr,he,hF,K,hK=>by
  simp only [H9] at hr
  split at hr
  . rename_i id hs
    split at hr
    . rename_i T cells hi
      split at hr
      . rename_i g1 hc
        have hE:z6 E fx' st' (.own s ks::vs)=[id,T]++z6 E fx' st' vs:=by
         show H7 E fx' st' (.own s ks)++z6 E fx' st' vs=_
         rw [show H7 E fx' st' (.own s ks)=[id,T] by simp [H7,hs,hi]]
        rw [hE] at he
        have heB:z6 E fx st (.own s ks::vs)=H7 E fx st (.own s ks)++z6 E fx st vs:=rfl
        rw [heB] at he
        obtain ⟨j,hj,_⟩:=q6 hi
        obtain ⟨L,cs,hL,hbs,ho,hrep⟩:=h.mem.holds (l7 (l2:=lkd) hj)
        have hL:ρ id=some L:=hL
        -- the base
        cases hsb:ownN fx st s with
        | some idb =>
         cases hib:lk st.items idb with
         | none=>exact absurd hK (by simp [F8,hsb,hib])
         | some ib =>
          cases ib with
          | own Tb cb =>
           simp only [H7,hsb,hib] at he
           have he2:id::T::z6 E fx' st' vs=idb::Tb::z6 E fx st vs:=he
           simp only [List.cons.injEq] at he2
           obtain ⟨rfl,rfl,he3⟩:=he2
           obtain ⟨Lb,hLb⟩:=hbO s _ hsb
           have e1:=hρ _ _ hLb
           rw [hL] at e1; cases e1
           obtain ⟨ρ3,os1,n3,new3,cells3,t1,f1,s1,r1,o1,k1⟩:=R8 h.mem ks cells cs g g1 new.nx new.items [] [] ρ2 os hrep hc hF.fr hF.tg i7.nil
           have hL3:ρ3 id=some L:=s1 _ _ (hF.sub _ _ hLb)
           have hF1:a94 E C.B0 ρb ρ Z f w st'.items ρ3 (some id::os1) ⟨new.slots,[],(id,.own T cells3)::new3,n3⟩:=⟨.cons ⟨_,hi,⟨L,cs,hL3,hbs,ho,by simpa using r1⟩,fun b hb=>by rw [p8 hL3] at hb; rw [p8 hL]; exact hb⟩ t1,f1,w6 hF.sub s1,fun k' s' hk=>Rep.sub (hF.sl k' s' hk) s1,rfl⟩
           simp only [F8,hsb,hib] at hK
           obtain ⟨new',ρ4,os2,hF2,o2,k2⟩:=H3 hbO hbase hbA hρ h vs g1 a _ ρ3 (some id::os1) hr he3 hF1 K (k1 _ hK)
           refine ⟨new',ρ4,os2,hF2,?_,k2⟩
           . have e:s5 E fx' st' (.own s ks::vs)=id::((ks.zip cells).flatMap fun p=>E6 p.1 p.2)++s5 E fx' st' vs:=by
               show a0b E fx' st' (.own s ks)++s5 E fx' st' vs=_
               rw [show a0b E fx' st' (.own s ks)=id::((ks.zip cells).flatMap fun p=>E6 p.1 p.2) by simp only [a0b,hs,hi]; rw [a1l]]
             rw [e]
             refine o2.trans ?_
             have o3:(List.filterMap _root_.id (some id::os1)).Perm (id::(((ks.zip cells).flatMap fun p=>E6 p.1 p.2)++os.filterMap _root_.id)):=o1.cons id
             refine (o3.append_left (s5 E fx' st' vs)).trans ?_
             have:(s5 E fx' st' vs++id::(((ks.zip cells).flatMap fun p=>E6 p.1 p.2)++os.filterMap _root_.id))=(s5 E fx' st' vs++(id::((ks.zip cells).flatMap fun p=>E6 p.1 p.2)))++os.filterMap _root_.id:=by simp
             rw [this]
             exact (List.perm_append_comm).append_right _
          | _=>exact absurd hK (by simp [F8,hsb,hib])
        | none=>exact absurd hK (by simp [F8,hsb])
      . cases hr
    . cases hr
  . cases hr
 | .ob s k::vs,g,a,new,ρ2,os,hr,he,hF,K,hK=>by
  simp only [H9] at hr
  split at hr
  . rename_i id hs
    split at hr
    . rename_i k' fid x hi
      split at hr
      . rename_i hk
        subst hk
        have hE:z6 E fx' st' (.ob s k'::vs)=id::z6 E fx' st' vs:=by
         show H7 E fx' st' (.ob s k')++z6 E fx' st' vs=_
         rw [show H7 E fx' st' (.ob s k')=[id] by simp [H7,hs]]; rfl
        rw [hE] at he
        have heB:z6 E fx st (.ob s k'::vs)=H7 E fx st (.ob s k')++z6 E fx st vs:=rfl
        rw [heB] at he
        obtain ⟨j,hj,_⟩:=q6 hi
        obtain ⟨L,Lf,hL,hLf,ho⟩:=h.mem.holds (l7 (l2:=lkd) hj)
        have hL:ρ id=some L:=hL
        cases hsb:obN (p6 fx st s) with
        | some idb =>
         simp only [H7,hsb] at he
         have he2:id::z6 E fx' st' vs=idb::z6 E fx st vs:=he
         simp only [List.cons.injEq] at he2
         obtain ⟨rfl,he3⟩:=he2
         obtain ⟨Lb,hLb⟩:=hbA s _ (.inr hsb)
         have e1:=hρ _ _ hLb
         rw [hL] at e1; cases e1
         have hn:=hF.fr new.nx (Nat.le_refl _)
         have s1:=w4 (L:=Lf) hn
         have hF1:a94 E C.B0 ρb ρ Z f w st'.items (B5 ρ2 new.nx Lf) (some id::os) ⟨new.slots,[],(id,.ob k' new.nx x)::new.items,new.nx+1⟩:=⟨.cons ⟨_,hi,⟨L,Lf,s1 _ _ (hF.sub _ _ hLb),j9,ho⟩,fun b hb=>by rw [A1 j9] at hb; rw [A1 hLf]; exact hb⟩ (hF.tg.mono s1),fun i hi=>by
          have hi:new.nx+1<=i:=hi
          unfold B5; rw [if_neg (by omega)]; exact hF.fr i (by omega),w6 hF.sub s1,fun k' s' hk=>Rep.sub (hF.sl k' s' hk) s1,rfl⟩
         simp only [F8,hsb] at hK
         obtain ⟨new',ρ4,os2,hF2,o2,k2⟩:=H3 hbO hbase hbA hρ h vs (g x) a _ _ (some id::os) hr he3 hF1 K (hK x)
         refine ⟨new',ρ4,os2,hF2,?_,k2⟩
         . have e:s5 E fx' st' (.ob s k'::vs)=id::s5 E fx' st' vs:=by
             show a0b E fx' st' (.ob s k')++s5 E fx' st' vs=_
             rw [show a0b E fx' st' (.ob s k')=[id] by simp [a0b,hs]]; rfl
           rw [e]
           exact o2.trans List.perm_middle
        | none=>exact absurd hK (by simp [F8,hsb])
      . cases hr
    . cases hr
  . cases hr
 | .cont s t::vs,g,a,new,ρ2,os,hr,he,hF,K,hK=>by
  simp only [H9] at hr
  split at hr
  . rename_i id hs
    split at hr
    . rename_i t' l hi
      split at hr
      . rename_i hk
        subst hk
        have hE:z6 E fx' st' (.cont s t'::vs)=id::z6 E fx' st' vs:=by
         show H7 E fx' st' (.cont s t')++z6 E fx' st' vs=_
         rw [show H7 E fx' st' (.cont s t')=[id] by simp [H7,hs]]; rfl
        rw [hE] at he
        have heB:z6 E fx st (.cont s t'::vs)=H7 E fx st (.cont s t')++z6 E fx st vs:=rfl
        rw [heB] at he
        obtain ⟨j,hj,_⟩:=q6 hi
        obtain ⟨L,hL,hn1,hn2,hac⟩:=h.mem.holds (l7 (l2:=lkd) hj)
        cases hsb:b0z (p6 fx st s) with
        | some idb =>
         simp only [H7,hsb] at he
         have he2:id::z6 E fx' st' vs=idb::z6 E fx st vs:=he
         simp only [List.cons.injEq] at he2
         obtain ⟨rfl,he3⟩:=he2
         obtain ⟨Lb,hLb⟩:=hbA s _ (.inl hsb)
         have e1:=hρ _ _ hLb
         have hL:ρ id=some L:=hL
         rw [hL] at e1; cases e1
         have hF1:a94 E C.B0 ρb ρ Z f w st'.items ρ2 (some id::os) ⟨new.slots,[],(id,.ac t' l)::new.items,new.nx⟩:=⟨.cons ⟨_,hi,⟨L,hF.sub _ _ hLb,hn1,hn2,hac⟩,fun b hb=>by rw [s4 (hF.sub _ _ hLb)] at hb; rw [s4 hL]; exact hb⟩ hF.tg,hF.fr,hF.sub,hF.sl,rfl⟩
         simp only [F8,hsb] at hK
         obtain ⟨new',ρ4,os2,hF2,o2,k2⟩:=H3 hbO hbase hbA hρ h vs (g l) a _ _ (some id::os) hr he3 hF1 K (hK l)
         refine ⟨new',ρ4,os2,hF2,?_,k2⟩
         . have e:s5 E fx' st' (.cont s t'::vs)=id::s5 E fx' st' vs:=by
             show a0b E fx' st' (.cont s t')++s5 E fx' st' vs=_
             rw [show a0b E fx' st' (.cont s t')=[id] by simp [a0b,hs]]; rfl
           rw [e]
           exact o2.trans List.perm_middle
        | none=>exact absurd hK (by simp [F8,hsb])
      . cases hr
    . cases hr
  . cases hr
 | .chain s n T ks::vs,g,a,new,ρ2,os,hr,he,hF,K,hK=>by
  simp only [H9] at hr
  split at hr
  . rename_i g1 hc
    obtain ⟨ρ3,os1,n3,new3,sv3,t1,f1,s1,r1,_,o1,q1⟩:=b77 h.mem n (f s) (p6 fx' st' s) g g1 new.nx new.items ρ2 os (h.slot s) hc hF.fr hF.tg
    have hF1:a94 E C.B0 ρb ρ Z f w st'.items ρ3 os1 ⟨(s,sv3)::new.slots,[],new3,n3⟩:=⟨t1,f1,w6 hF.sub s1,fun k' s' hk=>by
     rw [C3] at hk
     by_cases e:s=k'
     . rw [if_pos e] at hk; cases hk; subst e; exact r1
     . rw [if_neg e] at hk; exact Rep.sub (hF.sl k' s' hk) s1,rfl⟩
    obtain ⟨new',ρ4,os2,hF2,o2,k2⟩:=H3 hbO hbase hbA hρ h vs g1 a _ ρ3 os1 hr (by simpa [z6,H7] using he) hF1 K (q1 _ hK)
    refine ⟨new',ρ4,os2,hF2,?_,k2⟩
    have e:s5 E fx' st' (.chain s n T ks::vs)=a4u st'.items ks n (p6 fx' st' s)++s5 E fx' st' vs:=rfl
    rw [e]
    refine o2.trans ?_
    refine (o1.append_left _).trans ?_
    rw [<- List.append_assoc]
    exact (List.perm_append_comm).append_right _
  . cases hr
 | .rows s n t ks::vs,g,a,new,ρ2,os,hr,he,hF,K,hK=>by
  simp only [H9] at hr
  split at hr
  . rename_i id hs
    split at hr
    . rename_i t' n' cells hi
      have ⟨hb,h2⟩:=j3 hr
      clear hr
      simp only [Bool.and_eq_true] at hb
      obtain ⟨e1,e2⟩:=hb
      have e1:=Nat.eq_of_beq_eq_true e1
      have e2:=Nat.eq_of_beq_eq_true e2
      subst e1; subst e2
      split at h2
      . rename_i g1 hc
        obtain ⟨j,hj,_⟩:=q6 hi
        obtain ⟨L,F,hL,hn1,hbg,hA,hrw,hrep⟩:=h.mem.holds (l7 (l2:=lkd) hj)
        have hL:ρ id=some L:=hL
        have hsl:=h.slot s
        rw [hs] at hsl
        have hval:f s=.slice L.A L.n L.cap:=by
         generalize f s=u at hsl
         cases hsl with
         | acc hL'=>rw [hL] at hL'; cases hL'; rfl
        have s0:=w4 (L:=L) (hF.fr new.nx (Nat.le_refl _))
        obtain ⟨ρ3,os1,n3,new3,cells3,t1,f1,s1,r1,o1,q1⟩:=R8 h.mem (a13 ks n') cells F g g1 (new.nx+1) new.items [] [] (B5 ρ2 new.nx L) os hrep hc (fun i hi=>by unfold B5; rw [if_neg (by omega)]; exact hF.fr i (by omega)) (hF.tg.mono s0) i7.nil
        have hL3:ρ3 new.nx=some L:=s1 _ _ j9
        have r1':i7 E.N E.T ρ3 Z w F cells3:=by simpa using r1
        have hF1:a94 E C.B0 ρb ρ Z f w st'.items ρ3 (some id::os1) ⟨(s,.acc new.nx)::new.slots,[],(new.nx,.rw t' n' cells3)::new3,n3⟩:=⟨.cons ⟨_,hi,⟨L,F,hL3,hn1,hbg,hA,hrw,r1'⟩,fun b hb=>by rw [A4 hL3] at hb; rw [A4 hL]; exact hb⟩ t1,f1,w6 hF.sub (w6 s0 s1),fun k' s' hk=>by
         rw [C3] at hk
         by_cases e:s=k'
         . rw [if_pos e] at hk; cases hk; subst e; rw [hval]; exact .acc hL3
         . rw [if_neg e] at hk; exact Rep.sub (hF.sl k' s' hk) (w6 s0 s1),rfl⟩
        have hK2:Q6 E (a13 ks n') (new.nx+1) new.items [] g (fun g nx its cs=>F8 E fx st vs g ⟨(s,.acc new.nx)::new.slots,[],(new.nx,.rw t' n' cs)::its,nx⟩ K):=by
         simp only [F8] at hK
         cases hb:Nat.ble n' 1000000 with
         | true=>rw [hb] at hK; exact hK
         | false=>rw [hb] at hK; exact hK.elim
        obtain ⟨new',ρ4,os2,hF2,o2,k2⟩:=H3 hbO hbase hbA hρ h vs g1 a _ ρ3 (some id::os1) h2 (by simpa [z6,H7] using he) hF1 K (q1 _ hK2)
        refine ⟨new',ρ4,os2,hF2,?_,k2⟩
        have e:s5 E fx' st' (.rows s n' t' ks::vs)=id::(((a13 ks n').zip cells).flatMap fun p=>E6 p.1 p.2)++s5 E fx' st' vs:=by
         show a0b E fx' st' (.rows s n' t' ks)++s5 E fx' st' vs=_
         rw [show a0b E fx' st' (.rows s n' t' ks)=id::(((a13 ks n').zip cells).flatMap fun p=>E6 p.1 p.2) by simp only [a0b,hs,hi]; rw [a1l]]
        rw [e]
        refine o2.trans ?_
        have o3:(List.filterMap _root_.id (some id::os1)).Perm (id::((((a13 ks n').zip cells).flatMap fun p=>E6 p.1 p.2)++os.filterMap _root_.id)):=o1.cons id
        refine (o3.append_left (s5 E fx' st' vs)).trans ?_
        have:(s5 E fx' st' vs++id::((((a13 ks n').zip cells).flatMap fun p=>E6 p.1 p.2)++os.filterMap _root_.id))=(s5 E fx' st' vs++(id::(((a13 ks n').zip cells).flatMap fun p=>E6 p.1 p.2)))++os.filterMap _root_.id:=by simp
        rw [this]
        exact (List.perm_append_comm).append_right _
      . cases h2
    . cases hr
  . cases hr
 | .tree ss ps::vs,g,a,new,ρ2,os,hr,he,hF,K,hK=>by
  simp only [H9] at hr
  have ⟨hss,hr2⟩:=j3 hr
  clear hr
  split at hr2
  . rename_i g1 hc
    obtain ⟨hsk,hss⟩:=a4o hss
    have hE:P2 fx' st' ps++z6 E fx' st' vs=P2 fx st ps++z6 E fx st vs:=he
    obtain ⟨he1,he2⟩:=List.append_inj hE (by unfold P2; rw [List.length_map,List.length_map])
    obtain ⟨ρ2',s0,f0,hH0⟩:=c5y (a96 h.mem ps _ g g1 hc) hF.fr
    have hlen:(Q9 fx' st' ss ps).length=ps.length:=a4t ps _ g g1 hc
    rw [hlen] at f0
    have hH:=e23 hbase hsk he1 hlen (w6 hF.sub s0) hρ hH0
    obtain ⟨ρ3,os1,n3,new3,t1,f1,s1,o1,q1⟩:=a7x h.mem ps (Q9 fx' st' ss ps) 0 g g1 (new.nx+ps.length) new.items ρ2' os rfl hc f0 (hF.tg.mono s0) hH
    have hF1:a94 E C.B0 ρb ρ Z f w st'.items ρ3 os1 ⟨(ss.map fun p=>(p.1,.ref ((tnm new.nx 0 (P2 fx st ps)).getD p.2 0) 0))++new.slots,[],new3,n3⟩:=⟨t1,f1,w6 hF.sub (w6 s0 s1),fun k' s' hk=>by
     rcases b6x (q:=fun j=>(tnm new.nx 0 (P2 fx st ps)).getD j 0) hk with ⟨p,hp,e1,e2⟩ | hk
     . subst e1; subst e2
       obtain ⟨id,hs,hat⟩:=a1v hss p hp
       have hsl:=h.slot p.1
       rw [hs] at hsl
       obtain ⟨L,e1,e2⟩:=hH p.2 id hat
       generalize f p.1=u at hsl
       cases hsl with
       | ref hL=>rw [e1] at hL; cases hL; exact .ref (s1 _ _ e2)
     . exact Rep.sub (hF.sl k' s' hk) (w6 s0 s1),rfl⟩
    obtain ⟨new',ρ4,os2,hF2,o2,k2⟩:=H3 hbO hbase hbA hρ h vs g1 a _ ρ3 os1 hr2 he2 hF1 K (q1 _ hK)
    refine ⟨new',ρ4,os2,hF2,?_,k2⟩
    have e:s5 E fx' st' (.tree ss ps::vs)=a2g st'.items ps (Q9 fx' st' ss ps)++s5 E fx' st' vs:=rfl
    rw [e]
    refine o2.trans ?_
    refine (o1.append_left _).trans ?_
    rw [<- List.append_assoc]
    exact (List.perm_append_comm).append_right _
  . cases hr2
 | .alt::vs,g,a,new,ρ2,os,hr,he,hF,K,hK=>by cases hr
 | .unr _::vs,g,a,new,ρ2,os,hr,he,hF,K,hK=>by cases hr
end
end Go.Rx
end
section
namespace Go.Rx
open Go Go.Wk Go.Wl
section
variable {B0:List Nat} {w0 w w':World} {Z Z':Nat->Prop} {l l':List It}
theorem Sep.pw (hs:Sep B0 w0 Z w l):(∀ t∈l,t.Ok B0 w0 Z w)/\l.Pairwise (fun s t=>∀ b∈s.F,b ∉ t.F):=by
 refine ⟨fun t ht=>?_,?_⟩
 . obtain ⟨i,hi,rfl⟩:=List.getElem_of_mem ht
   exact hs.ok i _ (by simp [hi])
 . rw [List.pairwise_iff_getElem]
   intro i j hi hj hij
   exact hs.apart i j _ _ (by simp [hi]) (by simp [hj]) (by omega)
theorem Sep.of_pw (hx:Ext B0 w0 w) (hz:∀ b,Z b->b<w.heap.size) (h1:∀ t∈l,t.Ok B0 w0 Z w) (h2:l.Pairwise (fun s t=>∀ b∈s.F,b ∉ t.F)):Sep B0 w0 Z w l:=by
 refine ⟨hx,hz,fun k t hk=>h1 t (List.mem_of_getElem? hk),fun j k s t hj hk hne=>?_⟩
 rw [List.pairwise_iff_getElem] at h2
 have hjl:=o7 hj
 have hkl:=o7 hk
 rw [List.getElem?_eq_getElem hjl] at hj
 rw [List.getElem?_eq_getElem hkl] at hk
 cases hj; cases hk
 rcases Nat.lt_or_ge j k with h | h
 . exact h2 j k hjl hkl h
 . exact fun b hb hb'=>h2 k j hkl hjl (by omega) b hb' hb
theorem Sep.perm (hs:Sep B0 w0 Z w l) (hp:l.Perm l'):Sep B0 w0 Z w l':=by
 obtain ⟨h1,h2⟩:=Sep.pw hs
 exact Sep.of_pw hs.ext hs.zlt (fun t ht=>h1 t (hp.mem_iff.2 ht)) ((hp.pairwise_iff (fun {a b} h x hx hx'=>h x hx' hx)).1 h2)
end
section
variable {E:Env} {C:Ctx} {f:Fr} {w w':World}
variable {ρ ρ':n9} {Z Z':Nat->Prop} {its its' lkd:b9 E.N} {nx:Nat} {fx:m7 E.N} {st:E.St}
theorem Mem.perm (hm:Mem E C ρ Z w its nx) (hp:its.Perm its'):Mem E C ρ Z w its' nx:=⟨Sep.perm hm.sep (hp.map _),hm.fr,hm.ge,hm.zge,hm.zle⟩
theorem R5 (its:b9 E.N) (ids:List Nat):its.Perm (within its ids++l4 its ids):=by
 induction its with
 | nil=>exact List.Perm.nil
 | cons p r ih =>
  unfold within l4 at *
  rw [List.filter_cons,List.filter_cons]
  cases ids.elem p.1 with
  | true=>simpa using ih
  | false=>exact ((List.Perm.cons p ih).trans List.perm_middle.symm)
def Ctx.at (C:Ctx) (ρ:n9) (Z:Nat->Prop) (w:World):Ctx:=⟨ρ,Z,C.w0,C.B0,w⟩
theorem Mem.down (hm:Mem E C ρ Z w its nx):Mem E (C.at ρ Z w) ρ Z w its nx:=⟨hm.sep,hm.fr,fun _ _ h=>h,fun _ h=>h,fun _ h=>.inl h⟩
theorem Mem.upC {ρb:n9} {Zb:Nat->Prop} {wb:World} {nb:Nat} {ib:b9 E.N} (hb:Mem E C ρb Zb wb ib nb) (hm:Mem E (C.at ρb Zb wb) ρ Z w its nx):Mem E C ρ Z w its nx :=
 ⟨hm.sep,hm.fr,fun i L e=>hm.ge i L (hb.ge i L e),fun b h=>hm.zge b (hb.zge b h),fun b h=>by
  rcases hm.zle b h with h | h
  . exact hb.zle b h
  . exact .inr h⟩
theorem Rel.enter (h:Rel E C fx lkd st ρ Z f w) (keep ids:List Nat):Rel E (C.at ρ Z w) (n8 fx st keep++fx) (l4 st.items ids++lkd) (inn st ids) ρ Z f w:=by
 refine ⟨h.sl,fun p hp=>?_,fun k j b s hk=>(by cases hk),?_,Tn.refl _ _ _,h.glob⟩
 . rcases List.mem_append.1 hp with hp | hp
   . simp only [n8,List.mem_map] at hp
     obtain ⟨s,_,rfl⟩:=hp
     exact h.slot s
   . exact h.fx p hp
 . refine h.mem.down.perm ?_
   rw [show (inn st ids).items=within st.items ids from rfl,<- List.append_assoc]
   exact (R5 st.items ids).append_right lkd
theorem b4u {β:Type} {l l2:List (Nat×β)} {k:Nat} {s:β} (h:lk (l++l2) k=some s):lk l k=some s ∨ (lk l k=none/\lk l2 k=some s):=by
 induction l with
 | nil=>exact .inr ⟨rfl,h⟩
 | cons p r ih =>
  have h:(bif Nat.beq p.1 k then some p.2 else lk (r++l2) k)=some s:=h
  show (bif Nat.beq p.1 k then some p.2 else lk r k)=some s ∨ ((bif Nat.beq p.1 k then some p.2 else lk r k)=none/\lk l2 k=some s)
  cases hb:Nat.beq p.1 k with
  | true=>rw [hb,cond_true] at h; exact .inl h
  | false=>rw [hb,cond_false] at h; exact ih h
theorem Rel.leave {ρb:n9} {Zb:Nat->Prop} {wb:World} {fb:Fr} {st':E.St} (hb:Rel E C fx lkd st ρb Zb fb wb) {ks:m7 E.N} {is:b9 E.N} (h:Rel E (C.at ρb Zb wb) (ks++fx) (is++lkd) st' ρ Z f w):Rel E C fx lkd ⟨st'.slots++ks,[],st'.items++is,st'.nx⟩ ρ Z f w:=by
 refine ⟨fun k s hk=>?_,fun p hp=>h.fx p (List.mem_append_right _ hp),fun k j b s hk=>(by cases hk),?_,hb.tn.trans h.tn,hb.g⟩
 . rcases b4u hk with hk | ⟨_,hk⟩
   . exact h.sl k s hk
   . obtain ⟨i,hi,_⟩:=q6 hk
     exact h.fx (k,s) (List.mem_append_left _ (List.mem_of_getElem? hi))
 . have:=Mem.upC hb.mem h.mem
   rw [<- List.append_assoc] at this
   exact this
end
end Go.Rx
end
section
namespace Go.Rx
open Go Go.Wk Go.Wl
section
variable {N:Uni} {T:K5} {f:Nat->Option Nat} {ρ ρ':n9} {Z:Nat->Prop} {w:World} {v:Value} {s s':SV N} {cs:List Value} {ss ss':List (SV N)}
def a0g (f:Nat->Option Nat) (ρ ρ':n9):Prop:=∀ i j,f i=some j->∀ L,ρ i=some L->ρ' j=some L
theorem b7f (hf:a0g f ρ ρ') (h:b2n f s=some s') (r:Rep N T ρ Z w v s):Rep N T ρ' Z w v s':=by
 cases s with
 | ref id off =>
  simp only [b2n,Option.map_eq_some_iff] at h
  obtain ⟨j,hj,rfl⟩:=h
  cases r with | ref hL=>exact .ref (hf _ _ hj _ hL)
 | acc id =>
  simp only [b2n,Option.map_eq_some_iff] at h
  obtain ⟨j,hj,rfl⟩:=h
  cases r with | acc hL=>exact .acc (hf _ _ hj _ hL)
 | el id t i off =>
  simp only [b2n,Option.map_eq_some_iff] at h
  obtain ⟨j,hj,rfl⟩:=h
  cases r with | el hL h0 h1=>exact .el (hf _ _ hj _ hL) h0 h1
 | sub id t lo n =>
  simp only [b2n,Option.map_eq_some_iff] at h
  obtain ⟨j,hj,rfl⟩:=h
  cases r with | subs hL a b c d e=>exact .subs (hf _ _ hj _ hL) a b c d e
 | ifc t v=>cases h
 | agg vs=>cases h
 | tup vs=>cases h
 | clo K vs=>cases h
 | yld id =>
  simp only [b2n,Option.map_eq_some_iff] at h
  obtain ⟨j,hj,rfl⟩:=h
  cases r with | yld hL=>exact .yld (hf _ _ hj _ hL)
 | un=>cases h; exact .un
 | undef=>cases h; cases r; exact .undef
 | int k x=>cases h; cases r with | int h=>exact .int h
 | byte c=>cases h; cases r; exact .byte
 | tt=>cases h; cases r; exact .tt
 | ff=>cases h; cases r; exact .ff
 | bl p d=>cases h; cases r; exact .bl
 | str x=>cases h; cases r with | str h=>exact .str h
 | con x=>cases h; cases r with | con h=>exact .con h
 | nils=>cases h; cases r; exact .nils
 | sl t l=>cases h; cases r with | sl h=>exact .sl h
 | fel t l i off=>cases h; cases r with | fel h a b=>exact .fel h a b
 | err e=>cases h; cases r with | err h=>exact .err h
 | fn K=>cases h; cases r; exact .fn
theorem W8 (hf:a0g f ρ ρ') (h:a2e f ss=some ss') (r:i7 N T ρ Z w cs ss):i7 N T ρ' Z w cs ss':=by
 induction ss generalizing cs ss' with
 | nil=>cases h; obtain rfl:=i7.nil_inv r; exact i7.nil
 | cons s ss ih =>
  obtain ⟨u,c,rfl,h1,hp,h2⟩:=i7.cons_inv r
  simp only [a2e] at h
  split at h
  . rename_i a b ha hb
    cases h
    exact i7.cons (b7f hf ha h1) hp (ih hb h2)
  . cases h
theorem b7l (hf:a0g f ρ ρ') (h:c9i f s=some s') (r:Rep N T ρ Z w v s):Rep N T ρ' Z w v s':=by
 unfold c9i at h
 split at h
 . obtain ⟨ss',h1,rfl⟩:=Option.map_eq_some_iff.1 h
   obtain ⟨cs,rfl,hr⟩:=Rep.agg_inv r
   exact W8 hf h1 hr
 . obtain ⟨ss',h1,rfl⟩:=Option.map_eq_some_iff.1 h
   cases r with
   | clo r=>exact .clo (W8 hf h1 r)
 . exact b7f hf h r
theorem b16 (hf:a0g f ρ ρ') (h:a4n f ss=some ss') (r:Rep N T ρ Z w (.tuple cs.toArray) (.tup ss)):Rep N T ρ' Z w (.tuple cs.toArray) (.tup ss'):=by
 induction ss generalizing cs ss' with
 | nil =>
  cases h
  generalize e:Value.tuple cs.toArray=u at r
  cases r with | tup0=>exact .tup0
 | cons s ss ih =>
  obtain ⟨u,c,rfl,h1,h2⟩:=Rep.tup_cons r
  simp only [a4n] at h
  split at h
  . rename_i a b ha hb
    cases h
    exact .tup1 (b7l hf ha h1) (ih hb h2)
  . cases h
theorem c7v (hf:a0g f ρ ρ') (h:c4t f s=some s') (r:Rep N T ρ Z w v s):Rep N T ρ' Z w v s':=by
 unfold c4t at h
 split at h
 . obtain ⟨ss',h1,rfl⟩:=Option.map_eq_some_iff.1 h
   obtain ⟨cs,rfl⟩:=Rep.tup_inv r
   exact b16 hf h1 r
 . exact b7l hf h r
theorem c78 {id id':Nat} {i i':Item N} (hf:a0g f ρ ρ') (hid:f id=some id') (h:b9t f i=some i') (r:holds N T ρ id Z w i):holds N T ρ' id' Z w i'/\o9 N ρ' id' i'=o9 N ρ id i:=by
 cases i with
 | own Ty cells =>
  obtain ⟨ss',h1,rfl⟩:=Option.map_eq_some_iff.1 (show (a2e f cells).map (fun vs=>Item.own Ty vs)=some i' from h)
  obtain ⟨L,cs,hL,hbs,ho,hr⟩:=r
  have hL':=hf _ _ hid _ hL
  exact ⟨⟨L,cs,hL',hbs,ho,W8 hf h1 hr⟩,by rw [p8 hL,p8 hL']⟩
 | ac t l =>
  cases h
  obtain ⟨L,hL,r⟩:=r
  have hL':=hf _ _ hid _ hL
  exact ⟨⟨L,hL',r⟩,by rw [s4 hL,s4 hL']⟩
 | fz t l =>
  cases h
  obtain ⟨L,hL,r⟩:=r
  exact ⟨⟨L,hf _ _ hid _ hL,r⟩,rfl⟩
 | ob k fid x =>
  obtain ⟨j,h1,rfl⟩:=Option.map_eq_some_iff.1 (show (f fid).map (fun j=>Item.ob k j x)=some i' from h)
  obtain ⟨L,Lf,hL,hLf,r⟩:=r
  have hL':=hf _ _ hid _ hL
  have hLf':=hf _ _ h1 _ hLf
  exact ⟨⟨L,Lf,hL',hLf',r⟩,by rw [A1 hLf,A1 hLf']⟩
 | rw t n cells =>
  obtain ⟨ss',h1,rfl⟩:=Option.map_eq_some_iff.1 (show (a2e f cells).map (fun vs=>Item.rw t n vs)=some i' from h)
  obtain ⟨L,F,hL,hn,hb,hA,hr,hrep⟩:=r
  have hL':=hf _ _ hid _ hL
  exact ⟨⟨L,F,hL',hn,hb,hA,hr,W8 hf h1 hrep⟩,by rw [A4 hL,A4 hL']⟩
theorem M4 {id:Nat} {i:Item N} (h:holds N T ρ id Z w i):(∃ L,ρ id=some L)/\∀ k fid x,i=.ob k fid x->∃ L,ρ fid=some L:=by
 cases i with
 | own Ty cells=>obtain ⟨L,cs,hL,_⟩:=h; exact ⟨⟨L,hL⟩,fun _ _ _ e=>by cases e⟩
 | ac t l=>obtain ⟨L,hL,_⟩:=h; exact ⟨⟨L,hL⟩,fun _ _ _ e=>by cases e⟩
 | fz t l=>obtain ⟨L,hL,_⟩:=h; exact ⟨⟨L,hL⟩,fun _ _ _ e=>by cases e⟩
 | ob k fid x=>obtain ⟨L,Lf,hL,hLf,_⟩:=h; exact ⟨⟨L,hL⟩,fun _ _ _ e=>by cases e; exact ⟨Lf,hLf⟩⟩
 | rw t n cells=>obtain ⟨L,F,hL,_⟩:=h; exact ⟨⟨L,hL⟩,fun _ _ _ e=>by cases e⟩
theorem c70 {nm:List (Option Nat)} {n i p:Nat} (h:S0 nm n i=some p):n<=p/\nm[p-n]?=some (some i):=by
 induction nm generalizing n with
 | nil=>cases h
 | cons o r ih =>
  unfold S0 at h
  cases o with
  | none =>
   obtain ⟨h1,h2⟩:=ih h
   refine ⟨by omega,?_⟩
   have:p-n=(p-(n+1))+1:=by omega
   rw [this,List.getElem?_cons_succ]; exact h2
  | some j =>
   simp only at h
   cases hb:Nat.beq j i with
   | true =>
    rw [hb,cond_true] at h
    cases h
    have:=Nat.eq_of_beq_eq_true hb
    subst this
    exact ⟨Nat.le_refl _,by simp⟩
   | false =>
    rw [hb,cond_false] at h
    obtain ⟨h1,h2⟩:=ih h
    refine ⟨by omega,?_⟩
    have:p-n=(p-(n+1))+1:=by omega
    rw [this,List.getElem?_cons_succ]; exact h2
theorem b82 {its:b9 N}:∀ {ids:List Nat} {p:Nat} {l:b9 N},c0g its f p ids=some l->l.length=ids.length/\∀ (k:Nat) (q:Nat×Item N),l[k]?=some q->∃ i it,ids[k]?=some i/\lk its i=some it/\b9t f it=some q.2/\q.1=p+k
 | [],_,l,h=>by cases h; exact ⟨rfl,fun k q h=>by simp at h⟩
 | i::r,p,l,h=>by
  simp only [c0g] at h
  split at h
  . rename_i it hit
    split at h
    . rename_i it' l' h1 h2
      cases h
      obtain ⟨e,g⟩:=b82 h2
      refine ⟨by simp [e],fun k q hk=>?_⟩
      cases k with
      | zero=>simp at hk; subst hk; exact ⟨i,it,rfl,hit,h1,rfl⟩
      | succ k =>
       obtain ⟨i',it2,a,b,c,d⟩:=g k q (by simpa using hk)
       exact ⟨i',it2,by simpa using a,b,c,by omega⟩
    . cases h
  . cases h
theorem b2e:∀ {its its':b9 N},a7s f its=some its'->its'.length=its.length/\∀ (k:Nat) (q:Nat×Item N),its'[k]?=some q->∃ p,its[k]?=some p/\f p.1=some q.1/\b9t f p.2=some q.2
 | [],its',h=>by cases h; exact ⟨rfl,fun k q h=>by simp at h⟩
 | p::r,its',h=>by
  simp only [a7s] at h
  split at h
  . rename_i i it r' h1 h2 h3
    cases h
    obtain ⟨e,g⟩:=b2e h3
    refine ⟨by simp [e],fun k q hk=>?_⟩
    cases k with
    | zero=>simp at hk; subst hk; exact ⟨p,rfl,h1,h2⟩
    | succ k=>obtain ⟨p',a,b⟩:=g k q (by simpa using hk); exact ⟨p',by simpa using a,b⟩
  . cases h
end
section
variable {E:Env} {C:Ctx} {f fb:Fr} {w wb:World} {ρb ρ:n9} {Z Zb:Nat->Prop} {lkd its:b9 E.N} {fx:m7 E.N} {st st':E.St} {nx:Nat}
theorem D0:∀ {l:List Nat},distinct l=true->l.Nodup
 | [],_=>List.nodup_nil
 | a::r,h=>by
  simp only [distinct,Bool.and_eq_true,Bool.not_eq_true'] at h
  rw [List.nodup_cons]
  refine ⟨fun hm=>?_,D0 h.2⟩
  have:=List.elem_eq_true_of_mem hm
  rw [this] at h; exact absurd h.1 (by simp)
theorem b1i {v:Value} {s:E.SV} {id:Nat} (h:Rep E.N E.T ρ Z w v s) (e:c79 s=some id):∃ L,ρ id=some L:=by
 unfold c79 at e
 split at e
 . cases e; cases h with | ref hL=>exact ⟨_,hL⟩
 . cases e
theorem Rel.ownN {s id:Nat} (h:Rel E C fx lkd st ρ Z f w) (e:Go.Rx.ownN fx st s=some id):∃ L,ρ id=some L:=by
 unfold Go.Rx.ownN at e
 cases hb:Nat.blt s 1000000 with
 | true=>rw [hb,cond_true] at e; exact b1i (h.slot s) e
 | false =>
  rw [hb,cond_false] at e
  have hs:=h.slot (s % 1000000)
  generalize hv:p6 fx st (s % 1000000)=x at e hs
  split at e
  . rename_i K vs
    split at e
    . rename_i v hv
      generalize f (s % 1000000)=u at hs
      cases hs with
      | clo r =>
       obtain ⟨v',_,h1,_⟩:=i7.get (show i7 E.N E.T ρ Z w _ vs from r) _ _ hv
       exact b1i h1 e
    . cases e
  . cases e
theorem a1n {keep ids:List Nat} {vs:List LV} {α:Type} {g:Cur E.N α vs} {Kα:α->Prop} {K:α->E.St->Prop} (h0:Rel E C fx lkd st ρb Zb fb wb)
  (h:Rel E (C.at ρb Zb wb) (n8 fx st keep++fx) (l4 st.items ids++lkd) st' ρ Z f w) (hv:rbP E fx st (n8 fx st keep++fx) st' vs g Kα) (hK:F8 E fx st vs g ⟨[],[],[],st.nx⟩ K) :
  ∃ new ρ2 a,Kα a/\K a new/\Rel E (C.at ρb Zb wb) (n8 fx st keep++fx) (l4 st.items ids++lkd) new ρ2 Z f w:=by
 unfold rbP at hv
 cases hb:b1z E fx st (n8 fx st keep++fx) st' vs with
 | false=>rw [hb] at hv; exact hv.elim
 | true =>
  rw [hb,cond_true] at hv
  unfold b1z at hb
  simp only [Bool.and_eq_true] at hb
  obtain ⟨hd,hr⟩:=hb
  split at hv
  . rename_i a ha
    have hρ:∀ i L,ρb i=some L->ρ i=some L:=h.mem.ge
    have hbase:∀ s id off,p6 fx st s=.ref id off->∃ L,ρb id=some L:=fun s id off e=>by
     have:=h0.slot s
     rw [e] at this
     generalize fb s=u at this
     cases this with
     | ref hL=>exact ⟨_,hL⟩
    have hbA:∀ s id,b0z (p6 fx st s)=some id ∨ obN (p6 fx st s)=some id->∃ L,ρb id=some L:=fun s id e=>by
     have:=h0.slot s
     generalize p6 fx st s=x at e this
     generalize fb s=u at this
     rcases e with e | e
     . cases this with
       | acc hL=>cases e; exact ⟨_,hL⟩
       | subs hL _ _ _ _ _=>cases e; exact ⟨_,hL⟩
       | _=>cases e
     . cases this with
       | ref hL=>cases e; exact ⟨_,hL⟩
       | yld hL=>cases e; exact ⟨_,hL⟩
       | _=>cases e
    obtain ⟨new,ρ2,os,hF,hp,hk⟩:=H3 (fun s id e=>h0.ownN e) hbase hbA hρ h vs g a ⟨[],[],[],st.nx⟩ ρb [] ha (a64 hr) ⟨.nil,h0.mem.fr,fun _ _ h=>h,fun k s e=>(by cases e),rfl⟩ K hK
    have hnd:(os.filterMap id).Nodup:=hp.nodup_iff.2 (by simpa using D0 hd)
    refine ⟨new,ρ2,a,hv,hk,hF.sl,fun p hp=>?_,fun k j b s e=>(by rw [hF.gs] at e; cases e),?_,⟨hF.sub,h.tn.z,h.tn.ext⟩,h.g⟩
    . have r1:=h.fx p hp
      have r2:∃ v,Rep E.N E.T ρb Zb wb v p.2:=by
       rcases List.mem_append.1 hp with hp | hp
       . simp only [n8,List.mem_map] at hp
         obtain ⟨s,_,rfl⟩:=hp
         exact ⟨_,h0.slot s⟩
       . exact ⟨_,h0.fx p hp⟩
      obtain ⟨v,r2⟩:=r2
      exact Rep.sub (Rep.lower r1 r2 hρ) hF.sub
    . refine Mem.rebuild h.mem (fun p hp=>?_) hF.tg hnd hF.fr hF.sub
      obtain ⟨k,hk⟩:=List.getElem?_of_mem hp
      have e1:holds E.N E.T ρ p.1 Z w p.2:=h.mem.holds (k:=st'.items.length+k) (by rw [List.getElem?_append_right (by omega)]; simpa using hk)
      have e2:holds E.N E.T ρb p.1 Zb wb p.2:=by
       have hin:p∈st.items++lkd:=by
        rcases List.mem_append.1 hp with hp | hp
        . exact List.mem_append_left _ ((List.mem_filter.1 hp).1)
        . exact List.mem_append_right _ hp
       obtain ⟨k2,hk2⟩:=List.getElem?_of_mem hin
       exact h0.mem.holds hk2
      obtain ⟨a1,a2⟩:=a2l e1 e2 hρ
      obtain ⟨b1,b2⟩:=G4 hF.sub a1
      exact ⟨b1,by rw [b2,a2]⟩
  . exact hv.elim
theorem e1z {its:b9 E.N} {i:Nat} {it:Item E.N} (h:lk its i=some it):∃ j:Nat,its[j]?=some (i,it):=by
 obtain ⟨j,hj,_⟩:=q6 h
 exact ⟨j,hj⟩
def b5t (E:Env) (ρ:n9) (its:b9 E.N) (i:Nat):List Nat:=match lk its i with | some it=>o9 E.N ρ i it | none=>[]
theorem b7b {K:Nat} {args a':List E.SV} {i':b9 E.N} {S:PT E.N} {k:E.SV->b9 E.N->Nat->Prop} {ids:List Nat} {vs:List Value} (hd:distinct ids=true) (ha:a4n (S0 (A5 its ids) 0) args=some a') (hi:c0g its (S0 (A5 its ids) 0) 0 ids=some i') (hG:O0 E.P E.N E.T E.G K a' i' (2 * i'.length) S)
  (hv:S (fun s it n=>match c4t (a2p (A5 its ids) nx) s,a7s (a2p (A5 its ids) nx) it with
    | some s',some it'=>k s' (it'++l4 its ids) (nx+(n-(A5 its ids).length))
    | _,_=>False))
  (hm:Mem E C ρ Z w (its++lkd) nx) (hg:E.G.is Z w) (ha0:Rep E.N E.T ρ Z w (.tuple vs.toArray) (.tup args)) :
  B7 E.P K vs w (fun v w'=>∃ ρ' Z' s its' nx',Mem E C ρ' Z' w' (its'++lkd) nx'/\Tn ρ Z w ρ' Z' w'/\Rep E.N E.T ρ' Z' w' v s/\k s its' nx'):=by
 have hnd:=D0 hd
 generalize hnm:A5 its ids=nm at ha hi hv
 have hlen:nm.length=2 * ids.length:=by rw [<- hnm]; unfold A5; simp only [List.length_append,List.length_map]; omega
 obtain ⟨hil,hsel⟩:=b82 hi
 have hm2:Mem E C ρ Z w (within its ids++(l4 its ids++lkd)) nx:=hm.perm (by rw [<- List.append_assoc]; exact (R5 its ids).append_right lkd)
 -- the parts chosen
 have pick:∀ (p i:Nat),ids[p]?=some i->∃ it j,lk its i=some it/\(within its ids)[j]?=some (i,it):=fun p i hp=>by
  have hlt:p<i'.length:=by rw [hil]; exact o7 hp
  obtain ⟨i2,it,h1,h2,_⟩:=hsel p _ (List.getElem?_eq_getElem hlt)
  rw [hp] at h1; cases h1
  obtain ⟨j,hj⟩:=e1z h2
  have hmem:(i,it)∈within its ids:=List.mem_filter.2 ⟨List.mem_of_getElem? hj,List.elem_eq_true_of_mem (List.mem_of_getElem? hp)⟩
  obtain ⟨j2,hj2⟩:=List.getElem?_of_mem hmem
  exact ⟨it,j2,h2,hj2⟩
 have holdsI:∀ (j:Nat) (i:Nat) (it:Item E.N),(within its ids)[j]?=some (i,it)->holds E.N E.T ρ i Z w it:=fun j i it hj=>hm2.holds (l7 (l2:=l4 its ids++lkd) hj)
 have named:∀ (j i:Nat),nm[j]?=some (some i)->∃ L,ρ i=some L:=fun j i hj=>by
  rw [<- hnm] at hj
  unfold A5 at hj
  by_cases hlt:j<ids.length
  . rw [List.getElem?_append_left (by simpa using hlt),List.getElem?_map] at hj
    obtain ⟨i2,h1,h2⟩:=Option.map_eq_some_iff.1 hj
    cases h2
    obtain ⟨it,j2,_,hj2⟩:=pick j i h1
    exact (M4 (holdsI j2 i it hj2)).1
  . rw [List.getElem?_append_right (by simpa using Nat.le_of_not_lt hlt),List.getElem?_map] at hj
    obtain ⟨i2,h1,h2⟩:=Option.map_eq_some_iff.1 hj
    obtain ⟨it,j2,hlk,hj2⟩:=pick _ i2 h1
    unfold d0d at h2
    rw [hlk] at h2
    cases it with
    | ob kk f x=>cases h2; exact (M4 (holdsI j2 i2 _ hj2)).2 kk i x rfl
    | _=>cases h2
 let ρc:n9:=fun p=>match nm[p]? with | some (some i)=>ρ i | _=>none
 have hρc:∀ p i,nm[p]?=some (some i)->ρc p=ρ i:=fun p i h=>by show (match nm[p]? with | some (some i)=>ρ i | _=>none)=_; rw [h]
 have hf:a0g (S0 nm 0) ρ ρc:=fun i p h L hL=>by
  obtain ⟨_,h2⟩:=c70 h
  rw [hρc p i (by simpa using h2)]; exact hL
 let B:List Nat:=ids.flatMap (b5t E ρ its)
 have hB:∀ b∈B,∃ (i j:Nat) (it:Item E.N),(within its ids)[j]?=some (i,it)/\b∈o9 E.N ρ i it:=fun b hb=>by
  obtain ⟨i,hi1,hb⟩:=List.mem_flatMap.1 hb
  obtain ⟨p,hp⟩:=List.getElem?_of_mem hi1
  obtain ⟨it,j,hlk,hj⟩:=pick p i hp
  unfold b5t at hb
  rw [hlk] at hb
  exact ⟨i,j,it,hj,hb⟩
 have okW:∀ (j:Nat) (i:Nat) (it:Item E.N),(within its ids)[j]?=some (i,it)->(u7 E.N E.T ρ C.B0 i it).Ok C.B0 C.w0 Z w:=fun j i it hj=>hm2.sep.ok j _ (j6 (l7 (l2:=l4 its ids++lkd) hj))
 -- the parts under their own names
 have parts:∀ (p:Nat) (q:Nat×Item E.N),i'[p]?=some q->∃ i it j,ids[p]?=some i/\(within its ids)[j]?=some (i,it)/\holds E.N E.T ρc q.1 Z w q.2/\o9 E.N ρc q.1 q.2=o9 E.N ρ i it:=fun p q hq=>by
  obtain ⟨i,it,h1,h2,h3,h4⟩:=hsel p q hq
  obtain ⟨it2,j,hlk,hj⟩:=pick p i h1
  rw [h2] at hlk; cases hlk
  have hid:a0g (fun x=>if x=i then some q.1 else S0 nm 0 x) ρ ρc:=fun x y e L hL=>by
   simp only at e
   split at e
   . rename_i ex; cases e; subst ex
     have hn:nm[q.1]?=some (some x):=by
      rw [<- hnm]; unfold A5
      have:p<ids.length:=o7 h1
      rw [h4,Nat.zero_add,List.getElem?_append_left (by simpa using this),List.getElem?_map,h1]; rfl
     rw [hρc _ _ hn]; exact hL
   . exact hf x y e L hL
  have h3':b9t (S0 nm 0) it=some q.2:=h3
  have hh:=holdsI j i it hj
  -- names of cells
  have:holds E.N E.T ρc q.1 Z w q.2/\o9 E.N ρc q.1 q.2=o9 E.N ρ i it:=by
   obtain ⟨L,hL⟩:=(M4 hh).1
   have hq1:ρc q.1=some L:=by
    have:=hid i q.1 (by simp) L hL
    exact this
   cases it with
   | own Ty cells =>
    obtain ⟨ss',e1,e2⟩:=Option.map_eq_some_iff.1 (show (a2e (S0 nm 0) cells).map (fun vs=>Item.own Ty vs)=some q.2 from h3')
    rw [<- e2]
    obtain ⟨L',cs,hL',hbs,ho,hr⟩:=hh
    rw [hL] at hL'; cases hL'
    exact ⟨⟨L,cs,hq1,hbs,ho,W8 hf e1 hr⟩,by rw [p8 hL,p8 hq1]⟩
   | ac t l =>
    have e2:Item.ac t l=q.2:=Option.some.inj h3'
    rw [<- e2]
    obtain ⟨L',hL',r⟩:=hh
    rw [hL] at hL'; cases hL'
    exact ⟨⟨L,hq1,r⟩,by rw [s4 hL,s4 hq1]⟩
   | fz t l =>
    have e2:Item.fz t l=q.2:=Option.some.inj h3'
    rw [<- e2]
    obtain ⟨L',hL',r⟩:=hh
    rw [hL] at hL'; cases hL'
    exact ⟨⟨L,hq1,r⟩,rfl⟩
   | ob kk fid x =>
    obtain ⟨jf,e1,e2⟩:=Option.map_eq_some_iff.1 (show (S0 nm 0 fid).map (fun j=>Item.ob kk j x)=some q.2 from h3')
    rw [<- e2]
    obtain ⟨L',Lf,hL',hLf,r⟩:=hh
    rw [hL] at hL'; cases hL'
    have hLf':=hf _ _ e1 _ hLf
    exact ⟨⟨L,Lf,hq1,hLf',r⟩,by rw [A1 hLf,A1 hLf']⟩
   | rw t n cells =>
    obtain ⟨ss',e1,e2⟩:=Option.map_eq_some_iff.1 (show (a2e (S0 nm 0) cells).map (fun vs=>Item.rw t n vs)=some q.2 from h3')
    rw [<- e2]
    obtain ⟨L',F,hL',hn,hb,hA,hr,hrep⟩:=hh
    rw [hL] at hL'; cases hL'
    exact ⟨⟨L,F,hq1,hn,hb,hA,hr,W8 hf e1 hrep⟩,by rw [A4 hL,A4 hq1]⟩
  exact ⟨i,it,j,h1,hj,this.1,this.2⟩
 have hsep:Sep B w Z w (n5 E.N E.T ρc B i'):=by
  refine ⟨Ext.refl _ _,hm.sep.zlt,fun p t hp=>?_,fun p p2 t t2 hp hp2 hne b hb hb2=>?_⟩
  . obtain ⟨q,hq,rfl⟩:=m8 hp
    obtain ⟨i,it,j,h1,hj,h2,h3⟩:=parts p q hq
    have ok:=okW j i it hj
    have hF:∀ b,b∈o9 E.N ρc q.1 q.2->b∈o9 E.N ρ i it:=fun b hb=>by rw [<- h3]; exact hb
    refine ⟨h2,p9,fun b hb=>ok.lt b (hF b hb),fun b hb=>ok.notZ b (hF b hb),fun b hb=>.inl ?_,fun b hb=>hb⟩
    refine List.mem_flatMap.2 ⟨i,List.mem_of_getElem? h1,?_⟩
    obtain ⟨it2,j2,hlk,hj2⟩:=pick p i h1
    have hlk':lk its i=some it:=by
     obtain ⟨i3,it3,g1,g2,g3,g4⟩:=hsel p q hq
     rw [h1] at g1; cases g1
     obtain ⟨i5,it5,j5,k1,k2,_⟩:=parts p q hq
     rw [hlk]
     by_cases e:it2=it
     . rw [e]
     . exfalso
       have e1:=hm2.sep.apart j j2 _ _ (j6 (l7 (l2:=l4 its ids++lkd) hj)) (j6 (l7 (l2:=l4 its ids++lkd) hj2)) (fun ej=>by subst ej; rw [hj] at hj2; cases hj2; exact e rfl) b (hF b hb)
       have f1:o9 E.N ρ i it2=o9 E.N ρ i it:=by
        have:o9 E.N ρc q.1 q.2=o9 E.N ρ i it2:=by
         rw [g2] at hlk; cases hlk
         have hh:=holdsI j2 i it2 hj2
         obtain ⟨L,hL⟩:=(M4 hh).1
         have hn:nm[q.1]?=some (some i):=by
          rw [<- hnm]; unfold A5
          have:p<ids.length:=o7 h1
          rw [g4,Nat.zero_add,List.getElem?_append_left (by simpa using this),List.getElem?_map,h1]; rfl
         have hq1:ρc q.1=some L:=by rw [hρc _ _ hn]; exact hL
         cases it2 with
         | own Ty cells =>
          obtain ⟨ss',e1,e2⟩:=Option.map_eq_some_iff.1 (show (a2e (S0 nm 0) cells).map (fun vs=>Item.own Ty vs)=some q.2 from g3)
          rw [<- e2,p8 hL,p8 hq1]
         | ac t l =>
          have e2:Item.ac t l=q.2:=Option.some.inj g3
          rw [<- e2,s4 hL,s4 hq1]
         | fz t l =>
          have e2:Item.fz t l=q.2:=Option.some.inj g3
          rw [<- e2]; rfl
         | ob kk fid x =>
          obtain ⟨jf,e1,e2⟩:=Option.map_eq_some_iff.1 (show (S0 nm 0 fid).map (fun j=>Item.ob kk j x)=some q.2 from g3)
          obtain ⟨Lf,hLf⟩:=(M4 hh).2 kk fid x rfl
          have hLf':=hf _ _ e1 _ hLf
          rw [<- e2,A1 hLf,A1 hLf']
         | rw t n cells =>
          obtain ⟨ss',e1,e2⟩:=Option.map_eq_some_iff.1 (show (a2e (S0 nm 0) cells).map (fun vs=>Item.rw t n vs)=some q.2 from g3)
          rw [<- e2,A4 hL,A4 hq1]
        rw [<- this,h3]
       exact e1 (by show b∈o9 E.N ρ i it2; rw [f1]; exact hF b hb)
    unfold b5t
    rw [hlk']
    exact hF b hb
  . obtain ⟨q,hq,rfl⟩:=m8 hp
    obtain ⟨q2,hq2,rfl⟩:=m8 hp2
    obtain ⟨i,it,j,h1,hj,_,h3⟩:=parts p q hq
    obtain ⟨i2,it2,j2,g1,gj,_,g3⟩:=parts p2 q2 hq2
    have hii:i≠i2:=fun e=>by
     subst e
     have hl1:=o7 h1
     have hl2:=o7 g1
     rw [List.getElem?_eq_getElem hl1] at h1
     rw [List.getElem?_eq_getElem hl2] at g1
     cases h1
     exact hne ((List.getElem_inj hnd).1 (Option.some.inj g1).symm)
    refine hm2.sep.apart j j2 _ _ (j6 (l7 (l2:=l4 its ids++lkd) hj)) (j6 (l7 (l2:=l4 its ids++lkd) gj)) (fun e=>by subst e; rw [hj] at gj; cases gj; exact hii rfl) b ?_ ?_
    . show b∈o9 E.N ρ i it; rw [<- h3]; exact hb
    . show b∈o9 E.N ρ i2 it2; rw [<- g3]; exact hb2
 have hnl:2 * i'.length=nm.length:=by rw [hlen,hil]
 have run:=hG _ hv ρc Z w vs B (fun i hi=>by
  show (match nm[i]? with | some (some i)=>ρ i | _=>none)=none
  rw [List.getElem?_eq_none (by omega)]) hsep hg (b16 hf ha ha0)
 refine run.mono fun v w' ⟨ρ',Z',s,it,n',hs',hfr',hρ',hz1,hz2,hr',hk⟩=>?_
 split at hk
 . rename_i s' it' h1 h2
   let ρ2:n9:=fun i=>if i<nx then ρ i else ρ' (nm.length+(i-nx))
   have old:∀ i L,ρ i=some L->ρ2 i=some L:=fun i L h=>by
    have:i<nx:=by
     rcases Nat.lt_or_ge i nx with h1 | h1
     . exact h1
     . rw [hm.fr i h1] at h; cases h
    show (if i<nx then ρ i else _)=_
    rw [if_pos this]; exact h
   have hf2:a0g (a2p nm nx) ρ' ρ2:=fun j i h L hL=>by
    unfold a2p at h
    cases hj:nm[j]? with
    | some o =>
     rw [hj] at h
     simp only at h
     subst h
     obtain ⟨L2,hL2⟩:=named j i hj
     have:=hρ' j L2 (by rw [hρc j i hj]; exact hL2)
     rw [hL] at this; cases this
     exact old i L hL2
    | none =>
     rw [hj] at h
     cases h
     have hge:nm.length<=j:=by
      rcases Nat.lt_or_ge j nm.length with h1 | h1
      . rw [List.getElem?_eq_getElem h1] at hj; cases hj
      . exact h1
     show (if nx+(j-nm.length)<nx then _ else ρ' (nm.length+(nx+(j-nm.length)-nx)))=some L
     rw [if_neg (by omega)]
     have e:nm.length+(nx+(j-nm.length)-nx)=j:=by omega
     rw [e]; exact hL
   obtain ⟨itl,itp⟩:=b2e h2
   have x:=hs'.ext
   have w0le:=hm.sep.ext.size
   have Bold:∀ b∈B,b<w.heap.size/\¬ Z b/\(b∈C.B0 ∨ C.w0.heap.size<=b):=fun b hb=>by
    obtain ⟨i,j,it,hj,hb⟩:=hB b hb
    have ok:=okW j i it hj
    exact ⟨ok.lt b hb,ok.notZ b hb,ok.org b hb⟩
   -- what is new,or was turned
   have newF:∀ {p:Nat} {q:Nat×Item E.N},it'[p]?=some q->∃ q0,it[p]?=some q0/\holds E.N E.T ρ2 q.1 Z' w' q.2/\o9 E.N ρ2 q.1 q.2=o9 E.N ρ' q0.1 q0.2/\∀ b∈o9 E.N ρ2 q.1 q.2,b<w'.heap.size/\¬ Z' b/\(b∈B ∨ w.heap.size<=b):=fun {p q} hq=>by
    obtain ⟨q0,h3,h4,h5⟩:=itp p q hq
    have ok:=hs'.ok p _ (j6 h3)
    obtain ⟨a1,a2⟩:=c78 (T:=E.T) (Z:=Z') (w:=w') hf2 h4 h5 ok.holds
    refine ⟨q0,h3,a1,a2,fun b hb=>?_⟩
    rw [a2] at hb
    exact ⟨ok.lt b hb,ok.notZ b hb,ok.org b hb⟩
   -- what lay beside
   have rest:∀ {p:Nat} {q:Nat×Item E.N},(l4 its ids++lkd)[p]?=some q->holds E.N E.T ρ2 q.1 Z' w' q.2/\o9 E.N ρ2 q.1 q.2=o9 E.N ρ q.1 q.2/\∀ b∈o9 E.N ρ q.1 q.2,b<w.heap.size/\¬ Z' b/\(b∈C.B0 ∨ C.w0.heap.size<=b)/\b ∉ B:=fun {p q} hq=>by
    have hq2:(within its ids++(l4 its ids++lkd))[(within its ids).length+p]?=some q:=by rw [List.getElem?_append_right (by omega)]; simpa using hq
    have ok:=hm2.sep.ok _ _ (j6 hq2)
    have nB:∀ b∈o9 E.N ρ q.1 q.2,b ∉ B:=fun b hb hbB=>by
     obtain ⟨i,j,it,hj,hb2⟩:=hB b hbB
     have hjl:=o7 hj
     exact hm2.sep.apart _ j _ _ (j6 hq2) (j6 (l7 (l2:=l4 its ids++lkd) hj)) (by omega) b hb hb2
    have h1:holds E.N E.T ρ q.1 Z' w' q.2:=p9 (B0:=C.B0) Z Z' B w w' (hm2.holds hq2) x (fun b hb h=>by
     rcases h with h | h
     . exact absurd hb (nB b h)
     . exact absurd h (Bold b hb).2.1) hz1
    obtain ⟨a1,a2⟩:=G4 old h1
    refine ⟨a1,a2,fun b hb=>⟨ok.lt b hb,fun hz=>?_,ok.org b hb,nB b hb⟩⟩
    rcases hz2 b hz with h | h | h
    . exact ok.notZ b hb h
    . exact nB b hb h
    . have:b<w.heap.size:=ok.lt b hb
      omega
   refine ⟨ρ2,Z',s',it'++l4 its ids,nx+(n'-nm.length),⟨⟨hm.sep.ext.trans x (fun b hb=>.inl hb) (fun b hb=>(Bold b hb).2.2),hs'.zlt,fun p t hp=>?_,fun p p2 t t2 hp hp2 hne b hb hb2=>?_⟩,fun i hi=>?_,fun i L e=>old i L (hm.ge i L e),fun b h=>hz1 b (hm.zge b h),fun b h=>?_⟩,⟨old,fun b h _=>hz1 b h,B,x,fun b hb hz=>absurd hz (Bold b hb).2.1⟩,c7v hf2 h1 hr',hk⟩
   . rw [List.append_assoc] at hp
     obtain ⟨q,hq,rfl⟩:=m8 hp
     by_cases hlt:p<it'.length
     . rw [List.getElem?_append_left hlt] at hq
       obtain ⟨q0,_,h3,h4,h5⟩:=newF hq
       refine ⟨h3,p9,fun b hb=>(h5 b hb).1,fun b hb=>(h5 b hb).2.1,fun b hb=>?_,fun b hb=>hb⟩
       rcases (h5 b hb).2.2 with h | h
       . exact (Bold b h).2.2
       . exact .inr (by omega)
     . rw [List.getElem?_append_right (by omega)] at hq
       obtain ⟨h3,h4,h5⟩:=rest hq
       have hF:∀ b,b∈o9 E.N ρ2 q.1 q.2->b∈o9 E.N ρ q.1 q.2:=fun b hb=>by rw [<- h4]; exact hb
       exact ⟨h3,p9,fun b hb=>by have:=(h5 b (hF b hb)).1; have:=x.size; omega,fun b hb=>(h5 b (hF b hb)).2.1,fun b hb=>(h5 b (hF b hb)).2.2.1,fun b hb=>hb⟩
   . rw [List.append_assoc] at hp hp2
     obtain ⟨q,hq,rfl⟩:=m8 hp
     obtain ⟨q2,hq2,rfl⟩:=m8 hp2
     have hb:b∈o9 E.N ρ2 q.1 q.2:=hb
     have hb2:b∈o9 E.N ρ2 q2.1 q2.2:=hb2
     have cross:∀ {u v:Nat×Item E.N} {a c:Nat},it'[a]?=some u->(l4 its ids++lkd)[c]?=some v->b∈o9 E.N ρ2 u.1 u.2->b∈o9 E.N ρ2 v.1 v.2->False:=fun {u v a c} hu hv h1 h2=>by
      obtain ⟨_,_,_,_,h3⟩:=newF hu
      obtain ⟨_,h4,h5⟩:=rest hv
      rw [h4] at h2
      obtain ⟨g1,_,_,g2⟩:=h5 b h2
      rcases (h3 b h1).2.2 with h | h
      . exact g2 h
      . omega
     by_cases e1:p<it'.length
     . rw [List.getElem?_append_left e1] at hq
       by_cases e2:p2<it'.length
       . rw [List.getElem?_append_left e2] at hq2
         obtain ⟨u,hu,_,hu2,_⟩:=newF hq
         obtain ⟨u2,hv,_,hv2,_⟩:=newF hq2
         rw [hu2] at hb
         rw [hv2] at hb2
         exact hs'.apart p p2 _ _ (j6 hu) (j6 hv) hne b hb hb2
       . rw [List.getElem?_append_right (by omega)] at hq2
         exact cross hq hq2 hb hb2
     . rw [List.getElem?_append_right (by omega)] at hq
       by_cases e2:p2<it'.length
       . rw [List.getElem?_append_left e2] at hq2
         exact cross hq2 hq hb2 hb
       . rw [List.getElem?_append_right (by omega)] at hq2
         rw [(rest hq).2.1] at hb
         rw [(rest hq2).2.1] at hb2
         have g1:(within its ids++(l4 its ids++lkd))[(within its ids).length+(p-it'.length)]?=some q:=by rw [List.getElem?_append_right (by omega)]; simpa using hq
         have g2:(within its ids++(l4 its ids++lkd))[(within its ids).length+(p2-it'.length)]?=some q2:=by rw [List.getElem?_append_right (by omega)]; simpa using hq2
         exact hm2.sep.apart _ _ _ _ (j6 g1) (j6 g2) (by omega) b hb hb2
   . show (if i<nx then ρ i else ρ' (nm.length+(i-nx)))=none
     rw [if_neg (by omega)]
     exact hfr' _ (by omega)
   . rcases hz2 b h with h | h | h
     . exact hm.zle b h
     . exact .inr (Bold b h).2.2
     . exact .inr (.inr (by omega))
 . exact hk.elim
theorem Y2 {nm:List Nat} {α:Type} {P:α->Nat->b9 E.N->List E.SV->Prop}:∀ (ks:List TK) (nx:Nat) (its:b9 E.N) (acc:List E.SV) (K:Nat->b9 E.N->List E.SV->α),(∀ nx its cs,P (K nx its cs) nx its cs)->a2n E nm ks nx its acc (b2i E nm ks nx its acc K) P
 | [],nx,its,acc,K,h=>h nx its acc
 | .v k::r,nx,its,acc,K,h=>fun x=>Y2 r _ _ _ K h
 | .to j::r,nx,its,acc,K,h=>Y2 r _ _ _ K h
 | .nilp::r,nx,its,acc,K,h=>Y2 r _ _ _ K h
theorem a1z {nm:List Nat} {α:Type} {P:α->Nat->b9 E.N->Prop}:∀ (ps:List TP) (i nx:Nat) (its:b9 E.N) (K:Nat->b9 E.N->α),(∀ nx its,P (K nx its) nx its)->a5f E nm ps i nx its (b6q E nm ps i nx its K) P
 | [],i,nx,its,K,h=>h nx its
 | .own _ T ks::r,i,nx,its,K,h=>Y2 ks nx its [] _ (fun nx1 its1 cs=>a1z r (i+1) nx1 _ K h)
 | .ob _ k::r,i,nx,its,K,h=>fun x=>a1z r (i+1) _ _ K h
theorem a5a {α:Type} {P:α->E.St->Prop}:∀ (vs:List LV) (new:E.St) (K:E.St->α),a6h vs=true->(∀ new',P (K new') new')->F8 E fx st vs (c6g E fx st vs new K) new P
 | [],new,K,_,h=>h new
 | .slot s k::r,new,K,ho,h=>fun x=>a5a r _ K ho h
 | .tree ss ps::r,new,K,ho,h=>a1z ps 0 _ _ _ (fun nx its=>a5a r _ K ho h)
 | .own _ _::_,_,_,ho,_=>by cases ho
 | .ob _ _::_,_,_,ho,_=>by cases ho
 | .cont _ _::_,_,_,ho,_=>by cases ho
 | .chain _ _ _ _::_,_,_,ho,_=>by cases ho
 | .rows _ _ _ _::_,_,_,ho,_=>by cases ho
 | .alt::_,_,_,ho,_=>by cases ho
 | .unr _::_,_,_,ho,_=>by cases ho
theorem a4j:∀ {ss:List (List LV)} {new:E.St},Rel E C [] lkd st ρ Z f w->b1d E st ss=some new->∃ ρ2,Mem E C ρ2 Z w (new.items++lkd) new.nx/\Tn ρ Z w ρ2 Z w/\∀ k,Rep E.N E.T ρ2 Z w (f k) (p6 [] new k)
 | [],_,_,h=>by cases h
 | vs::r,new,hr,h=>by
  unfold b1d at h
  cases hb:(a6h vs && b1z E [] st [] (inn st (s5 E [] st vs)) vs) with
  | false=>rw [hb,cond_false] at h; exact a4j hr h
  | true =>
   rw [hb,cond_true] at h
   simp only [Bool.and_eq_true] at hb
   split at h
   . rename_i n0 hn0
     simp only [Option.some.injEq] at h
     have hv:rbP E [] st (n8 [] st []++[]) (inn st (s5 E [] st vs)) vs (c6g E [] st vs ⟨[],[],[],st.nx⟩ id) (fun a=>a=n0):=by
      unfold rbP
      rw [show n8 ([]:m7 E.N) st []++[]=[] from rfl,hb.2,cond_true,hn0]
     obtain ⟨n1,ρ2,a,e1,e2,h3⟩:=a1n (K:=fun a n=>a=n) hr (hr.enter [] (s5 E [] st vs)) hv (a5a vs _ id hb.1 fun _=>rfl)
     subst e1; subst e2
     have hm:=Mem.upC hr.mem h3.mem
     subst h
     refine ⟨ρ2,by rw [List.append_assoc]; exact hm,h3.tn,fun k=>h3.slot k⟩
   . exact a4j hr h
theorem RepT.of_get {cs:List Value} {ss:List E.SV} (hl:cs.length=ss.length) (h:∀ (i:Nat) (u:Value) (s:E.SV),cs[i]?=some u->ss[i]?=some s->Rep E.N E.T ρ Z w u s):Rep E.N E.T ρ Z w (.tuple cs.toArray) (.tup ss):=by
 induction ss generalizing cs with
 | nil =>
  have:cs=[]:=List.eq_nil_of_length_eq_zero (by simpa using hl)
  subst this; exact .tup0
 | cons s ss ih =>
  cases cs with
  | nil=>simp at hl
  | cons c cs=>exact .tup1 (h 0 c s rfl rfl) (ih (by simpa using hl) fun i u s hu hs=>h (i+1) u s hu hs)
theorem RepT.get {cs:List Value} {ss:List E.SV} (h:Rep E.N E.T ρ Z w (.tuple cs.toArray) (.tup ss)):cs.length=ss.length/\∀ (i:Nat) (u:Value) (s:E.SV),cs[i]?=some u->ss[i]?=some s->Rep E.N E.T ρ Z w u s:=by
 induction ss generalizing cs with
 | nil =>
  generalize e:Value.tuple cs.toArray=u at h
  cases h with | tup0 => have : cs = [] := by simpa using e
                         subst this; exact ⟨rfl,fun i u s _ hs=>by simp at hs⟩
 | cons s ss ih =>
  obtain ⟨v,r,rfl,h1,h2⟩:=Rep.tup_cons h
  obtain ⟨i1,i2⟩:=ih h2
  refine ⟨by simp [i1],fun i u s' hu hs=>?_⟩
  cases i with
  | zero=>simp at hu hs; subst hu; subst hs; exact h1
  | succ i=>exact i2 i u s' hu hs
theorem a2o {st:E.St}:∀ (n i k:Nat) (s:E.SV),(N7 E st n i)[k]?=some s->s=p6 [] st (i+k)/\k<n
 | 0,i,k,s,h=>by simp [N7] at h
 | n+1,i,k,s,h=>by
  cases k with
  | zero=>simp [N7] at h; exact ⟨h.symm,by omega⟩
  | succ k =>
   obtain ⟨a,b⟩:=a2o n (i+1) k s (by simpa [N7] using h)
   exact ⟨by rw [a]; congr 1; omega,by omega⟩
theorem a2m {st:E.St}:∀ (n i:Nat),(N7 E st n i).length=n
 | 0,_=>rfl
 | n+1,i=>by simp [N7,a2m n (i+1)]
theorem a3d:∀ {vs:List Value} {args:List E.SV} {n:Nat},Rep E.N E.T ρ Z w (.tuple vs.toArray) (.tup args)->∀ k s,lk (number n args) (n+k)=some s->Rep E.N E.T ρ Z w (nth vs k) s
 | vs,[],n,_,k,s,e=>by cases e
 | vs,a::args,n,h,k,s,e=>by
  obtain ⟨v,r,rfl,h1,h2⟩:=Rep.tup_cons h
  have e:(bif Nat.beq n (n+k) then some a else lk (number (n+1) args) (n+k))=some s:=e
  cases k with
  | zero=>rw [Nat.add_zero,Nat.beq_refl,cond_true] at e; cases e; exact h1
  | succ k =>
   rw [J0 (by omega),cond_false] at e
   exact a3d (n:=n+1) h2 k s (by rw [<- e]; congr 1; omega)
theorem a1j:∀ {vs:List Value} {args:List E.SV},Rep E.N E.T ρ Z w (.tuple vs.toArray) (.tup args)->vs.length=args.length
 | vs,[],h=>by
  generalize e:Value.tuple vs.toArray=u at h
  cases h with
  | tup0 => have : vs = [] := by simpa using e
            rw [this]; rfl
 | vs,a::args,h=>by
  obtain ⟨v,r,rfl,h1,h2⟩:=Rep.tup_cons h
  simp [a1j h2]
theorem b79:∀ {vs:List Value} {k:Nat} {u:Value},vs[k]?=some u->nth vs k=u
 | [],k,u,h=>by simp at h
 | v::vs,0,u,h=>by simp at h; exact h
 | v::vs,k+1,u,h=>b79 (vs:=vs) (by simpa using h)
theorem c8x {vs:List Value} {args:List E.SV} {i:Nat} {v':E.SV} (h:Rep E.N E.T ρ Z w (.tuple vs.toArray) (.tup args)) (hv:∀ u,vs[i]?=some u->Rep E.N E.T ρ Z w u v'):Rep E.N E.T ρ Z w (.tuple vs.toArray) (.tup (args.set i v')):=by
 obtain ⟨h1,h2⟩:=RepT.get h
 refine RepT.of_get (by simpa using h1) fun k u s hu hs=>?_
 by_cases e:i=k
 . subst e
   have hl:=o7 hu
   rw [List.getElem?_set_self (by omega)] at hs
   cases hs; exact hv u hu
 . rw [List.getElem?_set_ne e] at hs; exact h2 k u s hu hs
theorem b0r:∀ {fz:List Nat} {args a':List E.SV} {its its':b9 E.N} {Z:Nat->Prop} {vs:List Value},Mem E C ρ Z w (its++lkd) nx->b02 its fz args=some (a',its')->Rep E.N E.T ρ Z w (.tuple vs.toArray) (.tup args)->∃ Z',Mem E C ρ Z' w (its'++lkd) nx/\Tn ρ Z w ρ Z' w/\Rep E.N E.T ρ Z' w (.tuple vs.toArray) (.tup a')
 | [],args,a',its,its',Z,vs,hm,h,ha=>by
  simp only [b02,Option.some.injEq,Prod.mk.injEq] at h
  obtain ⟨rfl,rfl⟩:=h
  exact ⟨Z,hm,Tn.refl _ _ _,ha⟩
 | i::r,args,a',its,its',Z,vs,hm,h,ha=>by
  unfold b02 at h
  split at h
  . rename_i v hv
    split at h
    . rename_i v' its1 h1
      obtain ⟨Z1,m1,t1,e1⟩:=a3m hm h1
      have ha1:Rep E.N E.T ρ Z1 w (.tuple vs.toArray) (.tup (args.set i v')):=c8x (t1.rep ha) fun u hu=>e1 u ((RepT.get ha).2 i u v hu hv)
      obtain ⟨Z2,m2,t2,a2⟩:=b0r m1 h ha1
      exact ⟨Z2,m2,t1.trans t2,a2⟩
    . cases h
  . cases h
theorem a78 {o:FC E.N} {args a':List E.SV} {its':b9 E.N} {m:Nat} {vs:List Value} (hg:E.G.is Z w) (hm:Mem E C ρ Z w (its++lkd) nx) (h:a7v o args its nx=some (a',its',m)) (ha:Rep E.N E.T ρ Z w (.tuple vs.toArray) (.tup args)) :
  ∃ ρ' Z',Mem E C ρ' Z' w (its'++lkd) m/\Tn ρ Z w ρ' Z' w/\Rep E.N E.T ρ' Z' w (.tuple vs.toArray) (.tup a'):=by
 unfold a7v at h
 split at h
 . rename_i a i hf
   obtain ⟨Z1,m1,t1,a1⟩:=b0r hm hf ha
   cases hb:o.ss.isEmpty with
   | true =>
    rw [hb,cond_true] at h
    simp only [Option.some.injEq,Prod.mk.injEq] at h
    obtain ⟨rfl,rfl,rfl⟩:=h
    exact ⟨ρ,Z1,m1,t1,a1⟩
   | false =>
    rw [hb,cond_false] at h
    split at h
    . rename_i new hn
      simp only [Option.some.injEq,Prod.mk.injEq] at h
      obtain ⟨rfl,rfl,rfl⟩:=h
      have h0:Rel E (C.at ρ Z1 w) [] lkd ⟨number 0 a,[],i,nx⟩ ρ Z1 (nth vs) w:=⟨fun k s e=>a3d (n:=0) a1 k s (by simpa using e),fun p hp=>(by cases hp),fun k j b s e=>(by cases e),m1.down,Tn.refl _ _ _,U5.turn hg t1⟩
      obtain ⟨ρ2,m2,t2,r2⟩:=a4j h0 hn
      refine ⟨ρ2,Z1,Mem.upC m1 m2,t1.trans t2,RepT.of_get (by rw [a1j a1,a2m]) fun k u s hu hs=>?_⟩
      obtain ⟨e,_⟩:=a2o _ 0 k s hs
      rw [Nat.zero_add] at e
      have:=r2 k
      rw [b79 hu] at this
      rw [e]; exact this
    . cases h
 . cases h
theorem c1z (hE:l5 E) {K:Nat} {o:FC E.N} {args:List E.SV} {s:S1 E.N} {vs:List Value} (hK:E.fnc K=some o) (h:b74 o args its nx=some s) (ho:m6 s.ob) (hm:Mem E C ρ Z w (its++lkd) nx) (hg:E.G.is Z w) (ha:Rep E.N E.T ρ Z w (.tuple vs.toArray) (.tup args)) :
  B7 E.P K vs w (fun v w'=>∃ ρ' Z',Mem E C ρ' Z' w' (s.items++lkd) s.nx/\Tn ρ Z w ρ' Z' w'/\Rep E.N E.T ρ' Z' w' v s.v/\m6 s.hy):=by
 unfold b74 at h
 split at h
 . rename_i a i m hA
   obtain ⟨ρ1,Z1,m1,t1,a1⟩:=a78 hg hm hA ha
   generalize reach i 60 (a.flatMap a4e) []=ids at h
   unfold d02 at h
   cases hd:distinct ids with
   | false=>rw [hd,cond_false] at h; cases h
   | true =>
    rw [hd,cond_true] at h
    split at h
    . rename_i a' i' h1 h2
      split at h
      . rename_i r hr
        split at h
        . rename_i v it h3 h4
          simp only [Option.some.injEq] at h
          subst h
          have hG:=hE.fnc K o a' i' r hK hr ho
          refine (b7b (k:=fun sv it' n=>sv=v/\it'=it++l4 i ids/\n=m+(r.n-(A5 i ids).length)/\m6 r.hy) hd h1 h2 hG (fun hy=>?_) m1 (U5.turn hg t1) a1).mono fun v' w' ⟨ρ',Z',sv,it',n',q1,q2,q3,q4⟩=>?_
          . dsimp only
            rw [h3,h4]
            exact ⟨rfl,rfl,rfl,hy⟩
          . obtain ⟨rfl,rfl,rfl,hy⟩:=q4
            exact ⟨ρ',Z',q1,t1.trans q2,q3,hy⟩
        . cases h
      . cases h
    . cases h
 . cases h
end
end Go.Rx
end
section
namespace Go.Rx
open Go Go.Wk Go.Wl
def D7 (E:Env) (inl:Inl E):Prop :=
 ∀ (K:Nat) (args:List E.SV) (its lkd:b9 E.N) (nx:Nat) (k:E.SV->b9 E.N->Nat->Prop),inl K args its lkd nx k->(E.inl K).isSome=true /\
  ∀ (C:Ctx) (ρ:n9) (Z:Nat->Prop) (w:World) (vs:List Value),Mem E C ρ Z w (its++lkd) nx->E.G.is Z w->Rep E.N E.T ρ Z w (.tuple vs.toArray) (.tup args) ->
   B7 E.P K vs w (fun v w'=>∃ ρ' Z' s its' nx',Mem E C ρ' Z' w' (its'++lkd) nx'/\Tn ρ Z w ρ' Z' w'/\Rep E.N E.T ρ' Z' w' v s/\k s its' nx')
section
variable {E:Env} {C:Ctx} {n:Nat} {ops:List Oper} {Q:Exit->Fr->World->Prop} {rest:List Oper} {f:Fr} {w w':World}
variable {ty T T':TypeId} {pos:String} {after:Array Edge} {x y z:Operand} {a b:Int} {ρ ρ':n9} {Z Z':Nat->Prop} {its its' lkd:b9 E.N} {nx:Nat} {s:S1 E.N}
variable {fx:m7 E.N} {st:E.St} {inl:Inl E}
theorem Mem.ext0 (hm:Mem E C ρ Z w its nx) (x:Ext [] w w'):Mem E C ρ Z w' its nx/\Tn ρ Z w ρ Z w':=by
 have:=hm.join (new:=[]) (ρ':=ρ) (Z':=Z) (nx':=nx) (fun _ _ h=>h) hm.fr (fun _ h=>h) (fun _ h=>.inl h) ⟨x,fun b hb=>by have:=hm.sep.zlt b hb; have:=x.size; omega,fun k t h=>by simp [n5] at h,fun j k s t h=>by simp [n5] at h⟩
 exact this
theorem Rep.bare {v:Value} {s:E.SV} (h:Rep E.N E.T (fun _=>none) (fun _=>False) w v s):Rep E.N E.T ρ Z w v s:=h.stab (Ext.refl [] w) (fun _ h=>by cases h) (fun _ h _=>h.elim) (fun _ _ h=>by cases h)
abbrev KR (E:Env) (C:Ctx) (m:Bool) (n:Nat) (ops:List Oper) (Q:Exit->Fr->World->Prop) (rest:List Oper) (fx:m7 E.N) (lkd:b9 E.N) (f:Fr) (d:Option Nat) (k:E.St->Prop):Prop :=
 ∀ st' ρ' Z' v w',Rel E C fx lkd st' ρ' Z' (G6 f d v) w'->k st'->WL E.P m n ops Q rest (G6 f d v) w'
theorem O9 {d:Option Nat} (h:free n fx st d=true):∀ d',d=some d'->Nat.blt d' n=true:=fun d' e=>by subst e; exact (C2 h).1
theorem b2v (hE:l5 E) {K:Nat} {Cf:List E.SV->Nat->Option (CR E.N)} {r:CR E.N} {args:List E.SV} {vs:List Value} (hm:Mem E C ρ Z w its nx) (hc:E.con K=some Cf) (hl:E.lend K=true) (hr:Cf (args.map (R6 its)) nx=some r) (hi:r.its.isEmpty=true) (hp:(args.map (R6 its)).all z7=true) (ho:m6 r.ob) (hg:E.G.is Z w)
  (hv:Rep E.N E.T ρ Z w (.tuple vs.toArray) (.tup args)):B7 E.P K vs w (fun v w'=>Ext [] w w'/\Rep E.N E.T (fun _=>none) (fun _=>False) w' v r.r/\m6 r.hy):=by
 have h1:=a3j (F:=[]) hm (fun _ h=>by cases h) (fun _ _ _ _ _ _ h=>by cases h) hv
 exact hE.lend K Cf _ _ r hc hl hr (List.isEmpty_iff.1 hi) ho (seen Z w []) w vs (fun b hb=>hb.1) (E.G.stab hg (Ext.refl [] w) (fun _ h=>by cases h) (fun b hz hb=>⟨hb,fun h=>by cases h⟩)) (E1 hp h1 _)
theorem b60 (hE:l5 E) {K:Nat} {args:List E.SV} {vs:List Value} {a:Q1 E.N} (h:Rel E C fx lkd st ρ Z f w) (hs:b4f lkd st K args=some a) (ho:m6 a.ob)
  (hv:Rep E.N E.T ρ Z w (.tuple vs.toArray) (.tup args)):(∀ ars w,(callFunc K ars).run E.P w=.ok (.enter K ars) w)/\B7 E.P K vs w (fun v w'=>Ext [] w w'/\Rep E.N E.T (fun _=>none) (fun _=>False) w' v a.v/\m6 a.hy):=by
 have roc:(match E.roc K with | some C=>C args (st.items++lkd) | none=>none)=some a->(∀ ars w,(callFunc K ars).run E.P w=.ok (.enter K ars) w)/\B7 E.P K vs w (fun v w'=>Ext [] w w'/\Rep E.N E.T (fun _=>none) (fun _=>False) w' v a.v/\m6 a.hy):=fun hs=>by
  split at hs
  . rename_i Cf hroc
    exact ⟨hE.callr K (by rw [hroc]; rfl),hE.roc K Cf args _ a hroc hs ho ρ Z w vs h.glob (fun i x hi=>by
     obtain ⟨j,hj,_⟩:=q6 hi
     exact h.mem.holds hj) hv⟩
  . cases hs
 unfold b4f at hs
 split at hs
 . rename_i a0 hl0
   simp only [Option.some.injEq] at hs
   subst hs
   unfold c37 at hl0
   cases hl:E.lend K with
   | true =>
    rw [hl,cond_true] at hl0
    split at hl0
    . rename_i Cf hcon
      split at hl0
      . rename_i r hr
        have ⟨hb2,ho3⟩:=j3 hl0
        simp only [Option.some.injEq] at ho3; subst ho3
        simp only [Bool.and_eq_true] at hb2
        exact ⟨hE.call K (by rw [hcon]; rfl),b2v hE h.mem hcon hl hr hb2.1 hb2.2 ho h.glob hv⟩
      . cases hl0
    . cases hl0
   | false=>rw [hl,cond_false] at hl0; cases hl0
 . exact roc hs
theorem c4f {k fid id:Nat} {xx x':E.N.O k} {L Lf:Loc} {F':List Nat} {w':World} (hm:Mem E C ρ Z w (st.items++lkd) st.nx) (hi:lk st.items id=some (.ob k fid xx)) (hL:ρ id=some L) (hLf:ρ fid=some Lf)
  (hob':((E.N.oj k).ob L.b).is Z w' x' F') (x:Ext Lf.bs w w') (hF':∀ b∈F',b∈Lf.bs ∨ w.heap.size<=b) :
  ∃ ρ',Mem E C ρ' Z w' (W6 st.items id (.ob k st.nx x')++lkd) (st.nx+1)/\Tn ρ Z w ρ' Z w':=by
 obtain ⟨j,hj,hu,_⟩:=q6 hi
 have hjg:=l7 (l2:=lkd) hj
 have hF:(u7 E.N E.T ρ C.B0 id (.ob k fid xx)).F=Lf.bs:=by show o9 E.N ρ id (.ob k fid xx)=_; exact A1 hLf
 have lt':=((E.N.oj k).ob L.b).lt hob'
 have hs1:=Wl.Sep.upd hm.tn (j+1) (t:=u7 E.N E.T ρ C.B0 id (.ob k fid xx)) (t':=⟨F',C.B0,fun Z w=>((E.N.oj k).ob L.b).is Z w x' F'⟩) (by rw [List.getElem?_cons_succ]; exact j6 hjg) (by rw [hF]; exact x) hob' (fun Z1 Z2 B w1 w2 h1 x1 hB hz1=>((E.N.oj k).ob L.b).stab Z1 Z2 B w1 w2 h1 x1 hB hz1) (fun b hb=>⟨by rw [hF]; exact hF' b hb,lt' b hb⟩) rfl
 have hjt:j<(n5 E.N E.T ρ C.B0 (st.items++lkd)).length:=by simpa [n5] using o7 hjg
 have hρ:=w4 (L:=⟨0,none,0,0,F'⟩) (hm.fr st.nx (Nat.le_refl _))
 have t2:=T5 (Z:=Z) (w:=w) (ρ:=ρ) (ρ':=B5 ρ st.nx ⟨0,none,0,0,F'⟩) (k:=0) hs1 (by simp) hρ
 have hs2:Sep C.B0 C.w0 Z w' ((n5 E.N E.T ρ C.B0 (st.items++lkd)).set j ⟨F',C.B0,fun Z w=>((E.N.oj k).ob L.b).is Z w x' F'⟩):=a0n (u:=tnI Z w) (by simpa using hs1)
 have m1:Mem E C (B5 ρ st.nx ⟨0,none,0,0,F'⟩) Z w' ((st.items++lkd).set j (id,.ob k st.nx x')) (st.nx+1):=by
  refine ⟨Sep.conv hs2 (by simp [n5]) fun k' s s' hk hk'=>?_,fun i hi=>by unfold B5; rw [if_neg (by omega)]; exact hm.fr i (by omega),fun i L' e=>hρ _ _ (hm.ge i L' e),hm.zge,hm.zle⟩
  obtain ⟨p',hp',rfl⟩:=m8 hk'
  by_cases e:k'=j
  . subst e
    rw [List.getElem?_set_self hjt] at hk
    rw [List.getElem?_set_self (o7 hjg)] at hp'
    cases hk; cases hp'
    exact ⟨⟨L,_,hρ _ _ hL,j9,hob'⟩,p9,fun b hb=>by
     have hb:b∈o9 E.N (B5 ρ st.nx ⟨0,none,0,0,F'⟩) id (.ob k st.nx x'):=hb
     rw [A1 j9] at hb; exact hb,rfl⟩
  . rw [List.getElem?_set_ne (Ne.symm e)] at hk hp'
    obtain ⟨p,hp,rfl⟩:=m8 hk
    rw [hp] at hp'; cases hp'
    exact a16 hρ (hs2.at k' (t:=u7 E.N E.T ρ C.B0 p'.1 p'.2) (by rw [List.getElem?_set_ne (Ne.symm e)]; exact j6 hp))
 rw [List.set_append_left _ _ (o7 hj),<- hu] at m1
 exact ⟨_,m1,t2⟩
theorem a7j (hE:l5 E) (hI:D7 E inl) {ch:List (Nat×Bool)} {d:Option Nat} {c:Call} {k:E.St->Prop} (h:Rel E C fx lkd st ρ Z f w) (hG:R1 f ch) (hf:free n fx st d=true) (hv:a5h inl fx lkd st ch d c k) (K:KR E C false n ops Q rest fx lkd f d k) :
  WL E.P false n ops Q (⟨d,.call c,ty,pos,after,none⟩::rest) f w:=by
 unfold a5h at hv
 split at hv
 . split at hv
   . rename_i id args o hcal hyl
     obtain ⟨z,xs,Ts,L,rfl,hz,hL,hargs⟩:=b31 (fun o=>h.ev hG o) hcal
     have hn:=O9 hf
     unfold d0j at hv
     cases hb:(d.isSome && (args.map (R6 (st.items++lkd))).all z7) with
     | false=>rw [hb,cond_false] at hv; exact hv.elim
     | true =>
      rw [hb,cond_true] at hv
      rw [Bool.and_eq_true] at hb
      obtain ⟨hd0,hb⟩:=hb
      split at hv
      . rename_i k' fid xx hi
        split at hv
        . rename_i hk
          obtain ⟨ok0,oC⟩:=o
          simp only at hk
          subst hk
          split at hv
          . rename_i r hr
            obtain ⟨ho,hv⟩:=Z3 hv
            cases d with
            | none=>cases hd0
            | some d =>
             obtain ⟨j,hj,hu,_⟩:=q6 hi
             have hjg:=l7 (l2:=lkd) hj
             obtain ⟨L',Lf,hL',hLf,hob⟩:=h.mem.holds hjg
             have hL':ρ id=some L':=hL'
             rw [hL] at hL'; cases hL'
             have okj:=h.mem.sep.ok j _ (j6 hjg)
             have hF:(u7 E.N E.T ρ C.B0 id (.ob k' fid xx)).F=Lf.bs:=by show o9 E.N ρ id (.ob k' fid xx)=_; exact A1 hLf
             have hA:∀ id2 t l,lk (st.items++lkd) id2=some (.ac t l)->∀ b∈o9 E.N ρ id2 (.ac t l),b ∉ Lf.bs:=fun id2 t l hi2 b hb hb'=>by
              obtain ⟨j2,hj2,_⟩:=q6 hi2
              have hne:j2≠j:=fun e=>by subst e; rw [hjg] at hj2; cases hj2
              exact h.mem.sep.apart j2 j _ _ (j6 hj2) (j6 hjg) hne b hb (by show b∈(u7 E.N E.T ρ C.B0 id (.ob k' fid xx)).F; rw [hF]; exact hb')
             have hlv:=E1 (ρ':=fun _=>none) hb (a3j (F:=Lf.bs) h.mem (fun b hb hz=>okj.notZ b (by show b∈(u7 E.N E.T ρ C.B0 id (.ob k' fid xx)).F; rw [hF]; exact hb) hz) hA hargs)
             have run:=hE.yl _ xx _ r hyl hr ho Z (seen Z w Lf.bs) w _ L.b Lf.bs h.mem.sep.zlt (fun b hb=>hb.1) (fun b hb=>⟨okj.notZ b (by show b∈(u7 E.N E.T ρ C.B0 id (.ob k' fid xx)).F; rw [hF]; exact hb),fun hs=>hs.2 hb⟩) hob (E.G.stab h.glob (Ext.refl [] w) (fun _ h=>by cases h) (fun b hz hb=>⟨hb,fun hm=>okj.notZ b (by show b∈(u7 E.N E.T ρ C.B0 id (.ob k' fid xx)).F; rw [hF]; exact hm) hz⟩)) hlv
             refine c9m hz run (hn d rfl) fun v w' ⟨F',hob',⟨x,hF'⟩,hrep,hy⟩=>?_
             obtain ⟨ρ1,m1,t2⟩:=c4f h.mem hi hL hLf hob' x hF'
             exact K _ _ _ _ _ (h.put hf t2 m1 (Rep.bare hrep)) (K6 hv hy)
          . exact hv.elim
        . exact hv.elim
      . exact hv.elim
   . exact hv.elim
 . rename_i K0 args hcal
   obtain ⟨z,xs,Ts,cap,rfl,hz,hargs⟩:=Y4 (fun o=>h.ev hG o) hcal
   have hn:=O9 hf
   split at hv
   . rename_i Cf hcon
     have hK:=hE.call K0 (by rw [hcon]; rfl)
     cases hl:E.lend K0 with
     | true =>
      rw [hl,cond_true] at hv
      unfold c15 at hv
      rw [hcon] at hv
      simp only at hv
      split at hv
      . rename_i r hr
        cases hb:(r.its.isEmpty && (args.map (R6 (st.items++lkd))).all z7) with
        | false=>rw [hb,cond_false] at hv; exact hv.elim
        | true =>
         rw [hb,cond_true] at hv
         simp only [Bool.and_eq_true] at hb
         obtain ⟨ho,hv⟩:=Z3 hv
         refine L0 hz hK (b2v hE h.mem hcon hl hr hb.1 hb.2 ho h.glob hargs) hn fun v w' ⟨x,hr',hy⟩=>?_
         obtain ⟨m1,t1⟩:=h.mem.ext0 x
         exact K _ _ _ _ _ (h.put hf t1 m1 (Rep.bare hr')) (K6 hv hy)
      . exact hv.elim
     | false =>
      rw [hl,cond_false] at hv
      split at hv
      . rename_i args' its hfz
        obtain ⟨Z1,hm1,t1,he⟩:=b61 h.mem hfz
        unfold c0q at hv
        rw [hcon] at hv
        simp only at hv
        split at hv
        . rename_i r hr
          cases hpu:args'.all z7 with
          | false=>rw [hpu] at hv; exact hv.elim
          | true =>
          rw [hpu,cond_true] at hv
          obtain ⟨ho,hv⟩:=Z3 hv
          have ok:=(hE.con K0 Cf args' st.nx r hcon hr hpu ho).run ρ Z1 w _ hm1.fr hm1.sep.zlt (U5.turn h.glob t1) (he.tup hargs)
          refine L0 hz hK ok hn fun v w' ⟨ρ',Z',hρ,hfr,hzz,hz',hrep,hsep,hy⟩=>?_
          have ⟨m2,t2⟩:=hm1.join hρ hfr hzz hz' hsep
          rw [<- List.append_assoc] at m2
          exact K _ _ _ _ _ (h.put hf (t1.trans t2) m2 hrep) (K6 hv hy)
        . exact hv.elim
      . exact hv.elim
   . split at hv
     . rename_i o hobc
       have hK:=hE.call K0 (by rw [hobc]; simp)
       unfold c2n at hv
       split at hv
       . rename_i v0 args0
         split at hv
         . rename_i id off
           cases hb:(Nat.beq off 0 && (args0.map (R6 (st.items++lkd))).all z7) with
           | false=>rw [hb,cond_false] at hv; exact hv.elim
           | true =>
            rw [hb,cond_true] at hv
            simp only [Bool.and_eq_true] at hb
            have hoff:=Nat.eq_of_beq_eq_true hb.1
            subst hoff
            split at hv
            . rename_i k' fid xx hi
              split at hv
              . rename_i hk
                obtain ⟨ok0,oC⟩:=o
                simp only at hk
                subst hk
                split at hv
                . rename_i r hr
                  obtain ⟨ho,hv⟩:=Z3 hv
                  obtain ⟨j,hj,hu,_⟩:=q6 hi
                  obtain ⟨L,Lf,hL,hLf,hob⟩:=h.mem.holds (l7 (l2:=lkd) hj)
                  have hL:ρ id=some L:=hL
                  have hjg:=l7 (l2:=lkd) hj
                  have okj:=h.mem.sep.ok j _ (j6 hjg)
                  have hF:(u7 E.N E.T ρ C.B0 id (.ob k' fid xx)).F=Lf.bs:=by show o9 E.N ρ id (.ob k' fid xx)=_; exact A1 hLf
                  obtain ⟨v1,vr,hvs,hv1,hvr⟩:=Rep.tup_cons hargs
                  have hv1':v1=.pointer (some ⟨L.b,0,none⟩):=by
                   cases hv1 with
                   | ref hL'=>rw [hL] at hL'; cases hL'; rfl
                  subst hv1'
                  have hA:∀ id2 t l,lk (st.items++lkd) id2=some (.ac t l)->∀ b∈o9 E.N ρ id2 (.ac t l),b ∉ Lf.bs:=fun id2 t l hi2 b hb hb'=>by
                   obtain ⟨j2,hj2,_⟩:=q6 hi2
                   have hne:j2≠j:=fun e=>by subst e; rw [hjg] at hj2; cases hj2
                   exact h.mem.sep.apart j2 j _ _ (j6 hj2) (j6 hjg) hne b hb (by show b∈(u7 E.N E.T ρ C.B0 id (.ob k' fid xx)).F; rw [hF]; exact hb')
                  have hlv:=E1 (ρ':=fun _=>none) hb.2 (a3j (F:=Lf.bs) h.mem (fun b hb hz=>okj.notZ b (by show b∈(u7 E.N E.T ρ C.B0 id (.ob k' fid xx)).F; rw [hF]; exact hb) hz) hA hvr)
                  have run:=hE.obc K0 _ xx _ r hobc hr ho Z (seen Z w Lf.bs) w vr L.b Lf.bs h.mem.sep.zlt (fun b hb=>hb.1) (fun b hb=>⟨okj.notZ b (by show b∈(u7 E.N E.T ρ C.B0 id (.ob k' fid xx)).F; rw [hF]; exact hb),fun hs=>hs.2 hb⟩) hob (E.G.stab h.glob (Ext.refl [] w) (fun _ h=>by cases h) (fun b hz hb=>⟨hb,fun hm=>okj.notZ b (by show b∈(u7 E.N E.T ρ C.B0 id (.ob k' fid xx)).F; rw [hF]; exact hm) hz⟩)) hlv
                  rw [<- hvs] at run
                  refine L0 hz hK run hn fun v w' ⟨F',hob',⟨x,hF'⟩,hrep,hy⟩=>?_
                  obtain ⟨ρ1,m1,t2⟩:=c4f h.mem hi hL hLf hob' x hF'
                  exact K _ _ _ _ _ (h.put hf t2 m1 (Rep.bare hrep)) (K6 hv hy)
                . exact hv.elim
              . exact hv.elim
            . exact hv.elim
         . exact hv.elim
       . exact hv.elim
     . split at hv
       . rename_i o hwrc
         have hK:=hE.call K0 (by rw [hwrc]; simp)
         unfold d0i at hv
         split at hv
         . rename_i v0 T id off
           cases hb:(Nat.beq off 0 && Nat.beq T o.T && z7 (R6 (st.items++lkd) v0)) with
           | false=>rw [hb,cond_false] at hv; exact hv.elim
           | true =>
            rw [hb,cond_true] at hv
            simp only [Bool.and_eq_true] at hb
            have hoff:=Nat.eq_of_beq_eq_true hb.1.1
            have hT:=Nat.eq_of_beq_eq_true hb.1.2
            subst hoff hT
            split at hv
            . rename_i S x hi
              cases hS:Nat.beq S o.S with
              | false=>rw [hS,cond_false] at hv; exact hv.elim
              | true =>
               rw [hS,cond_true] at hv
               have hS:=Nat.eq_of_beq_eq_true hS
               subst hS
               split at hv
               . rename_i r hr
                 obtain ⟨ho,hv⟩:=Z3 hv
                 obtain ⟨j,hj,hu,_⟩:=q6 hi
                 have hjg:=l7 (l2:=lkd) hj
                 obtain ⟨L,cs,hL,hbs,hown,hrep⟩:=h.mem.holds hjg
                 have hL:ρ id=some L:=hL
                 obtain ⟨cv,cr,rfl,hcv,_,hcr⟩:=i7.cons_inv hrep
                 obtain rfl:=i7.nil_inv hcr
                 obtain ⟨rfl,hxI⟩:cv=.int .i64 x/\InI x:=by cases hcv with | int h=>exact ⟨rfl,h rfl⟩
                 obtain ⟨v1,vr,hvs,hv1,hvr⟩:=Rep.tup_cons hargs
                 obtain ⟨v2,vr2,hvr2,hv2,hvr3⟩:=Rep.tup_cons hvr
                 have hnil:vr2=[]:=by
                  generalize e:Value.tuple vr2.toArray=u at hvr3
                  cases hvr3 with | tup0=>simpa using e
                 have hv2':v2=.iface o.T (.pointer (some ⟨L.b,0,none⟩)):=by
                  cases hv2 with
                  | ifc h=>cases h with | ref hL'=>rw [hL] at hL'; cases hL'; rfl
                 subst hnil hv2' hvr2
                 have okj:=h.mem.sep.ok j _ (j6 hjg)
                 have hF:(u7 E.N E.T ρ C.B0 id (.own o.S [.int .i64 x])).F=[L.b]:=by show o9 E.N ρ id (.own o.S [.int .i64 x])=_; rw [p8 hL,hbs]
                 have hnz:∀ b∈[L.b],¬ Z b:=fun b hb=>okj.notZ b (by rw [hF]; exact hb)
                 have hA:∀ id2 t l,lk (st.items++lkd) id2=some (.ac t l)->∀ b∈o9 E.N ρ id2 (.ac t l),b ∉ [L.b]:=fun id2 t l hi2 b hb hb'=>by
                  obtain ⟨j2,hj2,_⟩:=q6 hi2
                  have hne:j2≠j:=fun e=>by subst e; rw [hjg] at hj2; cases hj2
                  exact h.mem.sep.apart j2 j _ _ (j6 hj2) (j6 hjg) hne b hb (by rw [hF]; exact hb')
                 have hlv:=E1 (ρ':=fun _=>none) (ss:=[R6 (st.items++lkd) v0]) (by simp [hb.2]) (a3j (cs:=[v1]) (ss:=[v0]) (F:=[L.b]) h.mem (fun b hb hz=>hnz b hb hz) hA (.tup1 (cs:=[]) hv1 .tup0))
                 obtain ⟨u1,ur,hu1,hl1,_⟩:=Rep.tup_cons hlv
                 obtain ⟨rfl,rfl⟩:v1=u1/\[]=ur:=by cases hu1; exact ⟨rfl,rfl⟩
                 have run:=hE.wrc K0 o _ x r hwrc hr ho (seen Z w [L.b]) w v1 L.b (fun b hb=>hb.1) (fun hs=>hs.2 (by simp)) (E.G.stab h.glob (Ext.refl [] w) (fun _ h=>by cases h) (fun b hz hb=>⟨hb,fun hm=>hnz b hm hz⟩)) hl1 hown hxI
                 rw [<- hvs] at run
                 refine L0 hz hK run hn fun v w' ⟨x',hown',hrx,hrep',hy⟩=>?_
                 have hs1:=Wl.Sep.upd h.mem.tn (j+1) (t:=u7 E.N E.T ρ C.B0 id (.own o.S [.int .i64 x])) (t':=a5o L.b o.S [.int .i64 r.x] C.B0) (w':=w') (by rw [List.getElem?_cons_succ]; exact j6 hjg) (by rw [hF]; exact x') hown' c3b (fun b hb=>⟨.inl (by rw [hF]; exact hb),by have:=hown'.lt; simp at hb; omega⟩) rfl
                 have hjt:j<(n5 E.N E.T ρ C.B0 (st.items++lkd)).length:=by simpa [n5] using o7 hjg
                 have t1:=T5 (Z:=Z) (w:=w) (ρ:=ρ) (ρ':=ρ) (k:=0) hs1 (by simp) (fun _ _ h=>h)
                 have hs2:Sep C.B0 C.w0 Z w' ((n5 E.N E.T ρ C.B0 (st.items++lkd)).set j (a5o L.b o.S [.int .i64 r.x] C.B0)):=a0n (u:=tnI Z w) (by simpa using hs1)
                 have m1:=h.mem.turn (i':=.own o.S [.int .i64 r.x]) hjg hs2 ⟨L,_,hL,hbs,hs2.at j (t:=a5o L.b o.S [.int .i64 r.x] C.B0) (by rw [List.getElem?_set_self hjt]),i7.cons (.int fun _=>hrx) rfl i7.nil⟩ (fun b hb=>by rw [p8 hL,hbs] at hb; exact hb)
                 rw [List.set_append_left _ _ (o7 hj),<- hu] at m1
                 exact K _ _ _ _ _ (h.put hf t1 m1 (Rep.bare hrep')) (K6 hv hy)
               . exact hv.elim
            . exact hv.elim
         . exact hv.elim
       . split at hv
         . rename_i s hs
           obtain ⟨o,hfn,hs⟩:=Option.bind_eq_some_iff.1 hs
           have hK:=hE.callf K0 (by rw [hfn]; rfl)
           obtain ⟨ho,hv⟩:=Z3 hv
           refine L0 hz hK (c1z hE hfn hs ho h.mem h.glob hargs) hn fun v w' ⟨ρ',Z',hm',t',hr,hy⟩=>?_
           exact K _ _ _ _ _ (h.put hf t' hm' hr) (K6 hv hy)
         . obtain ⟨hi,hrun⟩:=hI _ _ _ _ _ _ hv
           have hK:=hE.call K0 (by rw [hi]; simp)
           refine L0 hz hK (hrun C ρ Z w _ h.mem h.glob hargs) hn fun v w' ⟨ρ',Z',s,its',nx',hm',t',hr,hk⟩=>?_
           exact K _ _ _ _ _ (h.put hf t' hm' hr) hk
theorem a11 {q:Bool} (hE:l5 E) (hI:D7 E inl) {d:Option Nat} {op:Op} {k:E.St->Prop} (h:Rel E C fx lkd st ρ Z f w) (hf:free n fx st d=true) (hv:b54 q inl fx lkd st d op ty k) (K:KR E C q n ops Q rest fx lkd f d k) :
  WL E.P q n ops Q (⟨d,op,ty,pos,after,none⟩::rest) f w:=by
 unfold b54 at hv
 split at hv
 . rename_i a hs
   cases d with
   | none=>exact hv.elim
   | some d =>
    obtain ⟨ho,hv⟩:=Z3 (show cj a.ob (im a.hy (k (put st (some d) a.v))) from hv)
    exact a5x h R1.nil hs ho (C2 hf).1 fun v hr hy=>K _ _ _ _ _ (h.put0 hf hr) (K6 hv hy)
 . cases q with
   | true=>exact hv.elim
   | false =>
    rw [cond_false] at hv
    split at hv
    . rename_i s hs
      cases hd:okD op d with
      | false=>rw [hd] at hv; exact hv.elim
      | true =>
       rw [hd,cond_true] at hv
       obtain ⟨ho,hv⟩:=Z3 hv
       refine b0e hE h.mem (fun o=>h.ev R1.nil o) hs ho ?_ fun v ρ' Z' w' m1 t1 hr hy=>K _ _ _ _ _ (h.put hf t1 m1 hr) (K6 hv hy)
       have hb:=O9 hf
       cases op with
       | store T a x =>
        cases d with
        | none=>rfl
        | some d=>cases hd
       | _ =>
        cases d with
        | none=>cases hd
        | some d=>exact ⟨d,rfl,hb d rfl⟩
    . split at hv
      . rename_i c hc
        cases op with
        | call c' =>
         simp only [a01,Option.some.injEq] at hc; subst hc
         split at hv
         . rename_i a ha
           cases d with
           | none=>cases ha
           | some d =>
            have ha2:a6y fx lkd st [] c'=some a:=ha
            clear ha
            obtain ⟨ho,hv⟩:=Z3 hv
            unfold a6y at ha2
            split at ha2
            . rename_i K0 args hcal
              obtain ⟨z,xs,Ts,cap,rfl,hz,hargs⟩:=Y4 (fun o=>h.ev R1.nil o) hcal
              obtain ⟨hK,hrun⟩:=b60 hE h ha2 ho hargs
              refine L0 hz hK hrun (O9 hf) fun v w' ⟨x,hr',hy⟩=>?_
              obtain ⟨m1,t1⟩:=h.mem.ext0 x
              exact K _ _ _ _ _ (h.put hf t1 m1 (Rep.bare hr')) (K6 hv hy)
            . cases ha2
         . exact a7j hE hI h R1.nil hf hv K
        | _=>cases hc
      . exact hv.elim
end
end Go.Rx
end
section
namespace Go.Rx
open Go Go.Wk Go.Wl
section
variable {E:Env} {C:Ctx} {n:Nat} {ops:List Oper} {Q:Exit->Fr->World->Prop} {rest:List Oper} {f:Fr} {w w':World}
variable {ty T T':TypeId} {pos:String} {after:Array Edge} {x y z:Operand} {a b:Int} {ρ ρ':n9} {Z Z':Nat->Prop} {its its' lkd:b9 E.N} {nx:Nat} {s:S1 E.N}
variable {fx:m7 E.N} {st:E.St} {inl:Inl E}
theorem a42 {b:Bool}:(undef:Value)≠.bool b:=fun h=>by cases h
theorem a1a (h:Rel E C fx lkd st ρ Z f w):∀ (m j:Nat) (b:Bool),f j=.bool b->R1 f (chain st.gs m j b)
 | 0,_,_,_=>R1.nil
 | m+1,j,b,e=>fun k c hk=>by
  simp only [chain,c6a,List.any_cons,Bool.or_eq_true,Bool.and_eq_true] at hk
  rcases hk with ⟨h1,h2⟩ | hk
  . have h1:=Nat.eq_of_beq_eq_true h1
    subst h1
    have:b=c:=by simpa using h2
    subst this; exact e
  . split at hk
    . rename_i j' b' v hg
      have hgs:=h.gs j j' b' v hg
      have e':f j'=.bool b':=by
       by_cases e2:f j'=.bool b'
       . exact e2
       . rw [hgs.2 e2] at e; exact absurd e a42
      exact a1a h m j' b' e' k c hk
    . simp at hk
theorem a0t (h:Rel E C fx lkd st ρ Z f w):∀ (m j:Nat) (b:Bool) (p:Prop) (d:Decidable p),b29 fx st m j b=some ⟨p,d⟩->(p↔f j=.bool b)/\(¬ p->f j=.bool (!b) ∨ f j=undef)
 | 0,_,_,_,_,e=>by cases e
 | m+1,j,b,p,d,e=>by
  unfold b29 at e
  split at e
  . rename_i j' b' v hg
    have hgs:=h.gs j j' b' v hg
    split at e
    . rename_i p1 d1 q1 e1 hp1 hq1
      have ih:=a0t h m j' b' q1 e1 hq1
      cases b with
      | true =>
       rw [cond_true] at e; cases e
       by_cases hq:q1
       . have hr:=(hgs.1 (ih.1.1 hq)).boolv hp1
         rw [hr]
         by_cases hp:p1 <;> simp [hq,hp]
       . have hu:=hgs.2 (fun e=>hq (ih.1.2 e))
         rw [hu]
         exact ⟨⟨fun h=>absurd h.1 hq,fun h=>absurd h a42⟩,fun _=>.inr rfl⟩
      | false =>
       rw [cond_false] at e; cases e
       by_cases hq:q1
       . have hr:=(hgs.1 (ih.1.1 hq)).boolv hp1
         rw [hr]
         by_cases hp:p1 <;> simp [hq,hp]
       . have hu:=hgs.2 (fun e=>hq (ih.1.2 e))
         rw [hu]
         exact ⟨⟨fun h=>absurd h.1 hq,fun h=>absurd h a42⟩,fun _=>.inr rfl⟩
    . cases e
  . split at e
    . rename_i p1 d1 hp1
      have hr:=(h.slot j).boolv hp1
      cases b with
      | true=>rw [cond_true] at e; cases e; rw [hr]; by_cases hp:p <;> simp [hp]
      | false=>rw [cond_false] at e; cases e; rw [hr]; by_cases hp:p1 <;> simp [hp]
    . cases e
theorem Rel.guarded {d dj:Nat} {b:Bool} {v:Value} {s:E.SV} (h:Rel E C fx lkd st ρ Z f w) (hf:free n fx st (some d)=true) (hd:d≠dj) (t:Tn ρ Z w ρ Z' w') (hm:Mem E C ρ Z' w' (st.items++lkd) st.nx) (hv:(f dj=.bool b->Rep E.N E.T ρ Z' w' v s)/\(f dj≠.bool b->v=undef)) :
  Rel E C fx lkd ⟨(d,.un)::st.slots,(d,dj,b,s)::st.gs,st.items,st.nx⟩ ρ Z' (upd f d v) w':=by
 obtain ⟨_,h2,h3,h4⟩:=C2 hf
 refine ⟨fun k s' hk=>?_,fun p hp=>?_,fun k j c s' hk=>?_,hm,h.tn.trans t,h.g⟩
 . rw [C3] at hk
   by_cases e:d=k
   . rw [if_pos e] at hk; cases hk; exact .un
   . rw [if_neg e] at hk; rw [O6 e]; exact t.rep (h.sl k s' hk)
 . rw [O6 (a3e h2 p hp)]; exact t.rep (h.fx p hp)
 . rw [C3] at hk
   by_cases e:d=k
   . rw [if_pos e] at hk; cases hk; subst e
     rw [a1d,O6 hd]; exact hv
   . rw [if_neg e] at hk
     have e2:d≠j:=Ne.symm (b81 h4 hk)
     rw [O6 e,O6 e2]
     exact ⟨fun e=>t.rep ((h.gs k j c s' hk).1 e),(h.gs k j c s' hk).2⟩
theorem b6t {p:Prop} {l:List Prop} (hp:p) (h:m6 (imp p l)):m6 l:=by
 induction l with
 | nil=>trivial
 | cons q l ih=>exact ⟨h.1 hp,ih h.2⟩
theorem a5m {p:Prop} {l:List Prop} (h:p->m6 l):m6 (imp p l):=by
 induction l with
 | nil=>trivial
 | cons q l ih=>exact ⟨fun hp=>(h hp).1,ih fun hp=>(h hp).2⟩
theorem Rel.knows {dj:Nat} {b:Bool} (h:Rel E C fx lkd st ρ Z f w) (e:f dj=.bool b):Rel E C fx lkd (Rx.put st (some dj) (bif b then .tt else .ff)) ρ Z f w:=by
 refine ⟨fun k s' hk=>?_,h.fx,h.gs,h.mem,h.tn,h.g⟩
 have hk:lk ((dj,bif b then SV.tt else SV.ff)::st.slots) k=some s':=hk
 rw [C3] at hk
 by_cases e2:dj=k
 . rw [if_pos e2] at hk; cases hk; subst e2; rw [e]
   cases b
   . exact .ff
   . exact .tt
 . rw [if_neg e2] at hk; exact h.sl k s' hk
theorem c71 {β:Type} {a b:List (Nat×β)} {k:Nat} {x:β} (h:lk (a++b) k=some x):lk a k=some x ∨ lk b k=some x:=by
 induction a with
 | nil=>exact .inr h
 | cons p a ih =>
  have h:(bif Nat.beq p.1 k then some p.2 else lk (a++b) k)=some x:=h
  show (bif Nat.beq p.1 k then some p.2 else lk a k)=some x ∨ _
  cases hb:Nat.beq p.1 k with
  | true=>rw [hb,cond_true] at h; left; rw [cond_true]; exact h
  | false=>rw [hb,cond_false] at h; rw [cond_false]; exact ih h
theorem d6p {β:Type} {a:List (Nat×β)} {k:Nat} {x:β} (h:lk a k=some x):(k,x)∈a:=by
 obtain ⟨i,hi,_⟩:=q6 h
 exact List.mem_of_getElem? hi
theorem a62 {β:Type} {l:List (Nat×β)} {g:Nat->Bool} {k:Nat} {x:β} (h:lk (l.filter fun p=>g p.1) k=some x):g k=true/\lk l k=some x:=by
 induction l with
 | nil=>cases h
 | cons p l ih =>
  show _/\(bif Nat.beq p.1 k then some p.2 else lk l k)=some x
  rw [List.filter_cons] at h
  by_cases hg:g p.1=true
  . rw [if_pos hg] at h
    have h:(bif Nat.beq p.1 k then some p.2 else lk (l.filter fun p=>g p.1) k)=some x:=h
    cases hb:Nat.beq p.1 k with
    | true =>
     rw [hb,cond_true] at h
     rw [cond_true]
     have:=Nat.eq_of_beq_eq_true hb
     exact ⟨by rw [<- this]; exact hg,h⟩
    | false=>rw [hb,cond_false] at h; rw [cond_false]; exact ih h
  . rw [if_neg hg] at h
    obtain ⟨h1,h2⟩:=ih h
    cases hb:Nat.beq p.1 k with
    | true =>
     have:=Nat.eq_of_beq_eq_true hb
     rw [this] at hg; exact absurd h1 hg
    | false=>rw [cond_false]; exact ⟨h1,h2⟩
theorem Rel.settle {dj:Nat} {b:Bool} (h:Rel E C fx lkd st ρ Z f w) (e:f dj=.bool b):Rel E C fx lkd (Rx.settle st dj b) ρ Z f w:=by
 refine ⟨fun k s' hk=>?_,h.fx,fun k j c s' hk=>?_,h.mem,h.tn,h.g⟩
 . rcases c71 hk with hk | hk
   . have hm:=d6p hk
     rw [List.mem_filterMap] at hm
     obtain ⟨p,_,hp⟩:=hm
     split at hp
     . rename_i j w' v hl
       cases hb:Nat.beq j dj with
       | false=>rw [hb,cond_false] at hp; cases hp
       | true =>
        rw [hb,cond_true] at hp
        have hj:=Nat.eq_of_beq_eq_true hb
        subst hj
        simp only [Option.some.injEq,Prod.mk.injEq] at hp
        obtain ⟨rfl,rfl⟩:=hp
        have g:=h.gs p.1 j w' v hl
        by_cases hw:w'=b
        . subst hw
          rw [beq_self_eq_true,cond_true]; exact g.1 e
        . have:(w' == b)=false:=by simpa using hw
          rw [this,cond_false,g.2 (by rw [e]; intro x; cases x; exact hw rfl)]
          exact .undef
     . cases hp
   . exact h.sl k s' hk
 . have hk:lk (st.gs.filter (fun p=>match lk st.gs p.1 with | some (j,_,_)=>!Nat.beq j dj | none=>false)) k=some (j,c,s'):=hk
   exact h.gs k j c s' (a62 (g:=fun k=>match lk st.gs k with | some (j,_,_)=>!Nat.beq j dj | none=>false) hk).2
theorem N5 {dj:Nat} {b:Bool} {d:Option Nat} (h:free n fx st d=true):free n fx (settle st dj b) d=true:=by
 cases d with
 | none=>rfl
 | some d =>
  unfold free at h ⊢
  simp only [Bool.and_eq_true] at h ⊢
  obtain ⟨⟨⟨h1,h2⟩,h3⟩,h4⟩:=h
  refine ⟨⟨⟨h1,h2⟩,?_⟩,?_⟩
  . cases hl:lk (settle st dj b).gs d with
    | none=>rfl
    | some x =>
     have hl:lk (st.gs.filter (fun p=>match lk st.gs p.1 with | some (j,_,_)=>!Nat.beq j dj | none=>false)) d=some x:=hl
     have:=(a62 (g:=fun k=>match lk st.gs k with | some (j,_,_)=>!Nat.beq j dj | none=>false) hl).2
     rw [this] at h3; cases h3
  . rw [List.all_eq_true] at h4 ⊢
    intro p hp
    exact h4 p (List.mem_filter.1 hp).1
theorem a0e {dj:Nat} {s:E.SV} {d:Option Nat} (h:free n fx st d=true):free n fx (put st (some dj) s) d=true:=by
 cases d with
 | none=>rfl
 | some d=>exact h
theorem a60 {q:Bool} {j dj:Nat} {b:Bool} {d:Option Nat} {op:Op} {k:E.St->Prop} (hj:o5 ops j=some dj) (hnj:Nat.blt dj n=true) (h:Rel E C fx lkd st ρ Z f w) (hf:free n fx st d=true) (hq:q=true->d.isSome=true) (e:f dj=.bool (!b) ∨ f dj=undef) (hk:k (put st d .undef)) (K:KR E C q n ops Q rest fx lkd f d k) :
  WL E.P q n ops Q (⟨d,op,ty,pos,after,some (j,b)⟩::rest) f w:=by
 have hr:=h.put0 (v:=undef) hf .undef
 cases d with
 | some d =>
  have hn:=(C2 hf).1
  rcases e with e | e
  . exact a8b hj hnj hn e (K _ _ _ _ _ hr hk)
  . exact a3s hj hnj hn e (K _ _ _ _ _ hr hk)
 | none =>
  cases q with
  | true=>exact absurd (hq rfl) (by simp)
  | false =>
   rcases e with e | e
   . exact c80 hj hnj e (K _ _ _ _ _ hr hk)
   . exact c6q hj hnj e (K _ _ _ _ _ hr hk)
theorem b4r {e0 q:Bool} (hE:l5 E) (hI:D7 E inl) {j dj:Nat} {b:Bool} {d:Option Nat} {op:Op} {k:E.St->Prop} (hj:o5 ops j=some dj) (hnj:Nat.blt dj n=true) (h:Rel E C fx lkd st ρ Z f w) (hf:free n fx st d=true) (hq:q=true->d.isSome=true) (hv:a86 n e0 q inl fx lkd st dj b d op ty k) (K:KR E C q n ops Q rest fx lkd f d k) :
  WL E.P q n ops Q (⟨d,op,ty,pos,after,some (j,b)⟩::rest) f w:=by
 unfold a86 at hv
 split at hv
 . rename_i p a d' hs
   replace hs:b1a q fx lkd st dj b d op=some (p,a,d'):=by
    cases e0 with
    | true=>cases hs
    | false=>exact hs
   unfold b1a at hs
   split at hs
   . rename_i p1 dp a1 d1 hg ho1
     cases hb:Nat.beq d1 dj with
     | true=>rw [hb] at hs; cases hs
     | false =>
      rw [hb,cond_false] at hs; cases hs
      have hne:d'≠dj:=fun e=>by subst e; rw [Nat.beq_refl] at hb; cases hb
      obtain ⟨ho,hv⟩:=Z3 hv
      obtain ⟨g1,g2⟩:=a0t h 8 dj b p dp hg
      by_cases hp:p
      . have e:=g1.1 hp
        have ho:=b6t hp ho
        have hc:=a1a h 8 dj b e
        refine a5t hj hnj e ?_
        unfold gOp at ho1
        split at ho1
        . rename_i a2 hs2
          simp only [Option.some.injEq] at ho1; subst ho1
          exact a5x h hc hs2 ho (C2 hf).1 fun v hr hy=>K _ _ _ _ _ (h.guarded hf hne (Tn.refl _ _ _) h.mem ⟨fun _=>hr,fun e'=>absurd e e'⟩) (K6 hv (a5m fun _=>hy))
        . cases q with
          | true=>cases ho1
          | false =>
           rw [cond_false] at ho1
           split at ho1
           . rename_i c hc2
             cases op with
             | call c' =>
              simp only [a01,Option.some.injEq] at hc2; subst hc2
              unfold a6y at ho1
              split at ho1
              . rename_i K0 args hcal
                obtain ⟨z,xs,Ts,cap,rfl,hz,hargs⟩:=Y4 (fun o=>h.ev hc o) hcal
                obtain ⟨hK,hrun⟩:=b60 hE h ho1 ho hargs
                refine L0 hz hK hrun (O9 hf) fun v w' ⟨x,hr',hy⟩=>?_
                obtain ⟨m1,t1⟩:=h.mem.ext0 x
                exact K _ _ _ _ _ (h.guarded hf hne t1 m1 ⟨fun _=>Rep.bare hr',fun e'=>absurd e e'⟩) (K6 hv (a5m fun _=>hy))
              . cases ho1
             | _=>cases hc2
           . cases ho1
      . have e:=g2 hp
        have hr:=h.guarded (v:=undef) (s:=a.v) (b:=b) hf hne (Tn.refl _ _ _) h.mem ⟨fun e'=>absurd (g1.2 e') hp,fun _=>rfl⟩
        have hk:=K6 hv (a5m fun hp'=>absurd hp' hp)
        rcases e with e | e
        . exact a8b hj hnj (C2 hf).1 e (K _ _ _ _ _ hr hk)
        . exact a3s hj hnj (C2 hf).1 e (K _ _ _ _ _ hr hk)
   . cases hs
 . cases hb:((lk st.gs dj).isNone && !q) with
   | false=>rw [hb] at hv; exact hv.elim
   | true =>
    rw [hb,cond_true] at hv
    split at hv
    . rename_i p dp hp
      have hr:=(h.slot dj).boolv hp
      by_cases hpp:p
      . have e:f dj=.bool true:=by rw [hr]; simp [hpp]
        have hk:=hv.1 hpp
        have h2:=(h.settle e).knows e
        cases b with
        | true=>rw [cond_true] at hk; exact a5t hj hnj e (a11 hE hI h2 (a0e (N5 hf)) hk K)
        | false=>rw [cond_false] at hk; exact a60 hj hnj h2 (a0e (N5 hf)) hq (.inl e) hk K
      . have e:f dj=.bool false:=by rw [hr]; simp [hpp]
        have hk:=hv.2 hpp
        have h2:=(h.settle e).knows e
        cases b with
        | true=>rw [cond_true] at hk; exact a60 hj hnj h2 (a0e (N5 hf)) hq (.inl e) hk K
        | false=>rw [cond_false] at hk; exact a5t hj hnj e (a11 hE hI h2 (a0e (N5 hf)) hk K)
    . exact hv.elim
theorem a5u {q:Bool} (hE:l5 E) (hI:D7 E inl) {k:E.St->Prop}:∀ (l:List Oper) (st:E.St) (ρ:n9) (Z:Nat->Prop) (f:Fr) (w:World),Rel E C fx lkd st ρ Z f w->T4 n q inl fx lkd ops l st k->(∀ st' ρ' Z' f' w',Rel E C fx lkd st' ρ' Z' f' w'->st'.gs=[]->k st'->Q .normal f' w')->WL E.P q n ops Q l f w
 | [],st,ρ,Z,f,w,h,hv,K=>V2 (K ⟨st.slots,[],st.items,st.nx⟩ ρ Z f w ⟨h.sl,h.fx,fun k j b s hk=>(by cases hk),h.mem,h.tn,h.g⟩ rfl hv)
 | o::rest,st,ρ,Z,f,w,h,hv,K=>by
  obtain ⟨dst,op,ty,pos,after,guard⟩:=o
  unfold T4 at hv
  rw [c1r] at hv
  cases hb:(free n fx st dst && (!q || dst.isSome)) with
  | false=>simp only [hb] at hv; exact hv.elim
  | true =>
   simp only [hb,cond_true] at hv
   simp only [Bool.and_eq_true,Bool.or_eq_true,Bool.not_eq_true'] at hb
   obtain ⟨hf,hq⟩:=hb
   have hq':q=true->dst.isSome=true:=fun e=>by
    rcases hq with h | h
    . rw [e] at h; cases h
    . exact h
   have KK:KR E C q n ops Q rest fx lkd f dst (fun st=>T4 n q inl fx lkd ops rest st k):=fun st' ρ' Z' v w' hr hk=>a5u hE hI rest st' ρ' Z' _ w' hr hk K
   cases guard with
   | none=>exact a11 hE hI h hf hv KK
   | some g =>
    obtain ⟨j,b⟩:=g
    simp only at hv
    split at hv
    . exact hv.elim
    . rename_i dj hj
      cases hnj:Nat.blt dj n with
      | false=>rw [hnj] at hv; exact hv.elim
      | true =>
       rw [hnj,cond_true] at hv
       have hslot:∀ s,(bif (lk st.gs dj).isNone then p6 fx st dj else .un)=s->Rep E.N E.T ρ Z w (f dj) s:=fun s e=>by
        subst e
        cases (lk st.gs dj).isNone with
        | true=>exact h.slot dj
        | false=>exact .un
       split at hv
       . rename_i e
         have hr:=hslot _ e
         have e1:f dj=.bool true:=by generalize f dj=u at hr; cases hr; rfl
         cases b with
         | true=>rw [cond_true] at hv; exact a5t hj hnj e1 (a11 hE hI h hf hv KK)
         | false=>rw [cond_false] at hv; exact a60 hj hnj h hf hq' (.inl e1) hv KK
       . rename_i e
         have hr:=hslot _ e
         have e1:f dj=.bool false:=by generalize f dj=u at hr; cases hr; rfl
         cases b with
         | true=>rw [cond_true] at hv; exact a60 hj hnj h hf hq' (.inl e1) hv KK
         | false=>rw [cond_false] at hv; exact a5t hj hnj e1 (a11 hE hI h hf hv KK)
       . rename_i e
         have hr:=hslot _ e
         have e1:f dj=undef:=by generalize f dj=u at hr; cases hr; rfl
         exact a60 hj hnj h hf hq' (.inr e1) hv KK
       . exact b4r hE hI hj hnj h hf hq' hv KK
end
end Go.Rx
end
section
namespace Go.Rx
open Go Go.Wk Go.Wl
section
variable {E:Env} {C:Ctx} {n:Nat} {ops:List Oper} {Q:Exit->Fr->World->Prop} {rest:List Oper} {f:Fr} {w w':World}
variable {ty T T':TypeId} {pos:String} {after:Array Edge} {x y z:Operand} {ρ ρ':n9} {Z Z':Nat->Prop} {its its' lkd:b9 E.N} {nx:Nat}
variable {fx:m7 E.N} {st:E.St}
theorem c1p {ps:List Prop} {r:Prop} (h:m6 ps) (hr:r):cj ps r:=by
 induction ps with
 | nil=>exact hr
 | cons p ps ih=>exact ⟨h.1,ih h.2⟩
theorem b2o {ps:List Prop} {r:Prop} (h:m6 ps->r):im ps r:=by
 induction ps with
 | nil=>exact h trivial
 | cons p ps ih=>exact fun hp=>ih fun hs=>h ⟨hp,hs⟩
theorem b8h:∀ {ps:List Prop},cjl ps->m6 ps
 | [],_=>trivial
 | [_],h=>⟨h,trivial⟩
 | _::_::_,h=>⟨h.1,b8h h.2⟩
theorem c32 (hE:l5 E) {ch:List (Nat×Bool)} {op:Op} {d:Nat} {a:Q1 E.N} (h:Rel E C fx lkd st ρ Z f w) (hc:R1 f ch) (hs:gOp false fx lkd st ch op=some a) (ho:m6 a.ob) (hn:Nat.blt d n=true)
  (K:∀ v w',Ext [] w w'->Rep E.N E.T ρ Z w' v a.v->m6 a.hy->WL E.P false n ops Q rest (upd f d v) w'):WL E.P false n ops Q (⟨some d,op,ty,pos,after,none⟩::rest) f w:=by
 unfold gOp at hs
 split at hs
 . rename_i a2 hs2
   simp only [Option.some.injEq] at hs; subst hs
   exact a5x h hc hs2 ho hn fun v hr hy=>K v w (Ext.refl [] w) hr hy
 . rw [cond_false] at hs
   split at hs
   . rename_i c hc2
     cases op with
     | call c' =>
      simp only [a01,Option.some.injEq] at hc2; subst hc2
      unfold a6y at hs
      split at hs
      . rename_i K0 args hcal
        obtain ⟨z,xs,Ts,cap,rfl,hz,hargs⟩:=Y4 (fun o=>h.ev hc o) hcal
        obtain ⟨hK,hrun⟩:=b60 hE h hs ho hargs
        exact L0 hz hK hrun (fun d' e=>by cases e; exact hn) fun v w' ⟨x,hr',hy⟩=>K v w' x (Rep.bare hr') hy
      . cases hs
     | _=>cases hc2
   . cases hs
def e2d (E:Env):Inl E:=fun _ _ _ _ _ _=>False
theorem c9o:D7 E (e2d E):=fun _ _ _ _ _ _ h=>h.elim
theorem c42 {ch:List (Nat×Bool)} {d:Option Nat} {c:Call} {s:S1 E.N} {k:E.St->Prop} (hs:c1w fx lkd st ch c=some s) (ho:m6 s.ob) (hk:m6 s.hy->k (put ⟨st.slots,st.gs,s.items,s.nx⟩ d s.v)):a5h (e2d E) fx lkd st ch d c k:=by
 unfold c1w at hs
 unfold a5h
 split at hs
 . cases hs
 . rename_i K args hcal
   split at hs
   . rename_i Cf hcon
     cases hl:E.lend K with
     | true=>rw [hl] at hs; cases hs
     | false =>
      rw [hl,cond_false] at hs
      try rw [hcon]
      simp only [cond_false]
      split at hs
      . rename_i args' its hf
        try rw [hf]
        try simp only
        unfold e36 at hs
        unfold c0q
        rw [hcon] at hs ⊢
        simp only at hs ⊢
        split at hs
        . rename_i r hr
          have ⟨hb,hs2⟩:=j3 hs
          simp only [Option.some.injEq] at hs2; subst hs2
          try rw [hr]
          rw [hb]
          exact c1p ho (b2o hk)
        . cases hs
      . cases hs
   . rename_i hcon
     try rw [hcon]
     try simp only
     split at hs
     . rename_i o hob
       try rw [hob]
       try simp only
       unfold e3f at hs
       unfold c2n
       split at hs
       . rename_i v args0
         split at hs
         . rename_i id off
           have ⟨hb,hs2⟩:=j3 hs
           simp only [hb,cond_true]
           split at hs2
           . rename_i k' fid x hi
             try rw [hi]
             try simp only
             split at hs2
             . rename_i hk'
               try rw [dif_pos hk']
               split at hs2
               . rename_i r hr
                 simp only [Option.some.injEq] at hs2; subst hs2
                 try rw [hr]
                 exact c1p ho (b2o hk)
               . cases hs2
             . cases hs2
           . cases hs2
         . cases hs
       . cases hs
     . rename_i hob
       try rw [hob]
       try simp only
       split at hs
       . cases hs
       . rename_i hw
         try rw [hw]
         try simp only
         rw [hs]
         exact c1p ho (b2o hk)
theorem c8r (hE:l5 E) {ch:List (Nat×Bool)} {d:Option Nat} {op:Op} {s:S1 E.N} (h:Rel E C fx lkd st ρ Z f w) (hG:R1 f ch) (hf:free n fx st d=true) (hs:b4s fx lkd st ch d op ty=some s) (ho:m6 s.ob)
  (K:∀ v ρ' Z' w',Rel E C fx lkd (put ⟨st.slots,st.gs,s.items,s.nx⟩ d s.v) ρ' Z' (G6 f d v) w'->m6 s.hy->WL E.P false n ops Q rest (G6 f d v) w') :
  WL E.P false n ops Q (⟨d,op,ty,pos,after,none⟩::rest) f w:=by
 unfold b4s at hs
 split at hs
 . rename_i s' hs'
   have ⟨hd,hs2⟩:=j3 hs
   simp only [Option.some.injEq] at hs2; subst hs2
   refine b0e hE h.mem (fun o=>h.ev hG o) hs' ho ?_ fun v ρ' Z' w' m1 t1 hr hy=>K _ _ _ _ (h.put hf t1 m1 hr) hy
   have hb:=O9 hf
   cases op with
   | store T a x =>
    cases d with
    | none=>rfl
    | some d=>cases hd
   | _ =>
    cases d with
    | none=>cases hd
    | some d=>exact ⟨d,rfl,hb d rfl⟩
 . split at hs
   . rename_i c hc
     cases op with
     | call c' =>
      simp only [a01,Option.some.injEq] at hc; subst hc
      refine a7j hE c9o h hG hf (c42 (k:=fun st'=>st'=put ⟨st.slots,st.gs,s.items,s.nx⟩ d s.v/\m6 s.hy) hs ho fun hy=>⟨rfl,hy⟩) fun st' ρ' Z' v w' hr hk=>?_
      obtain ⟨e,hy⟩:=hk
      subst e
      exact K v ρ' Z' w' hr hy
     | _=>cases hc
   . cases hs
end
end Go.Rx
end
section
namespace Go.Rx
open Go Go.Wk Go.Wl
section
variable {N:Uni} {p:Nat->Bool}
theorem a1w:∀ {ents:List (Ent N)} {j0 k:Nat} {s:SV N},lk (O7 p j0 ents) k=some s->∃ j e,ents[j]?=some e/\p (j0+j)=true/\e.dst=some k/\s=e.now
 | [],_,_,_,h=>by cases h
 | e::r,j0,k,s,h=>by
  have go:lk (O7 p (j0+1) r) k=some s->∃ j e',(e::r)[j]?=some e'/\p (j0+j)=true/\e'.dst=some k/\s=e'.now:=fun h=>by
   obtain ⟨j,e',h1,h2,h3⟩:=a1w h
   exact ⟨j+1,e',by simpa using h1,by rw [show j0+(j+1)=j0+1+j by omega]; exact h2,h3⟩
  unfold O7 at h
  cases hp:p j0 with
  | false=>rw [hp,cond_false] at h; exact go h
  | true =>
   rw [hp,cond_true] at h
   split at h
   . rename_i d hd
     rw [C3] at h
     by_cases e1:d=k
     . rw [if_pos e1] at h; cases h; exact ⟨0,e,rfl,hp,by rw [hd,e1],rfl⟩
     . rw [if_neg e1] at h; exact go h
   . exact go h
theorem c2g:∀ {ents:List (Ent N)} {j0 k j':Nat} {b:Bool} {s:SV N},lk (dGs p j0 ents) k=some (j',b,s)->∃ j e jj,ents[j]?=some e/\p (j0+j)=true/\p jj=true/\e.dst=some k/\e.g=some (jj,j',b)/\s=e.sv
 | [],_,_,_,_,_,h=>by cases h
 | e::r,j0,k,j',b,s,h=>by
  have go:lk (dGs p (j0+1) r) k=some (j',b,s)->∃ j e' jj,(e::r)[j]?=some e'/\p (j0+j)=true/\p jj=true/\e'.dst=some k/\e'.g=some (jj,j',b)/\s=e'.sv:=fun h=>by
   obtain ⟨j,e',jj,h1,h2,h3⟩:=c2g h
   exact ⟨j+1,e',jj,by simpa using h1,by rw [show j0+(j+1)=j0+1+j by omega]; exact h2,h3⟩
  unfold dGs at h
  cases hp:p j0 with
  | false=>rw [hp,cond_false] at h; exact go h
  | true =>
   rw [hp,cond_true] at h
   split at h
   . rename_i d jj dj b' hd hg
     cases hpj:p jj with
     | false=>rw [hpj,cond_false] at h; exact go h
     | true =>
      rw [hpj,cond_true] at h
      rw [C3] at h
      by_cases e1:d=k
      . rw [if_pos e1] at h; cases h; exact ⟨0,e,jj,rfl,hp,hpj,by rw [hd,e1],hg,rfl⟩
      . rw [if_neg e1] at h; exact go h
   . exact go h
theorem c1e {a b:List Prop} (h:m6 a) (k:m6 b):m6 (a++b):=by
 induction a with
 | nil=>exact k
 | cons p r ih=>exact ⟨h.1,ih h.2⟩
theorem a9a:∀ {ents:List (Ent N)} {j0:Nat},(∀ j e,ents[j]?=some e->p (j0+j)=true->m6 e.hy)->m6 (dHy p j0 ents)
 | [],_,_=>trivial
 | e::r,j0,h=>by
  have go:m6 (dHy p (j0+1) r):=a9a fun j e' h1 h2=>h (j+1) e' (by simpa using h1) (by rw [show j0+(j+1)=j0+1+j by omega]; exact h2)
  unfold dHy
  cases hp:p j0 with
  | false=>exact go
  | true=>exact c1e (h 0 e rfl hp) go
theorem a7a {β:Type} {q:Nat->Bool} {l:List (Nat×β)} {k:Nat} {s:β} (h:lk (l.filter (fun p=>q p.1)) k=some s):q k=true/\lk l k=some s:=by
 induction l with
 | nil=>cases h
 | cons p r ih =>
  rw [List.filter_cons] at h
  by_cases hq:q p.1=true
  . rw [if_pos hq] at h
    have h:lk ((p.1,p.2)::r.filter (fun p=>q p.1)) k=some s:=h
    show _/\lk ((p.1,p.2)::r) k=some s
    rw [C3] at h ⊢
    by_cases e:p.1=k
    . rw [if_pos e] at h ⊢; exact ⟨by rw [<- e]; exact hq,h⟩
    . rw [if_neg e] at h ⊢; exact ih h
  . rw [if_neg hq] at h
    have ⟨h1,h2⟩:=ih h
    refine ⟨h1,?_⟩
    show lk ((p.1,p.2)::r) k=some s
    rw [C3,if_neg]
    . exact h2
    . intro e; rw [e] at hq; exact hq h1
end
section
variable {B0:List Nat} {w0 w w':World} {Z:Nat->Prop} {l l':List It}
theorem Sep.sub (hs:Sep B0 w0 Z w l) (h:l'.Sublist l):Sep B0 w0 Z w l':=by
 obtain ⟨h1,h2⟩:=Sep.pw hs
 exact Sep.of_pw hs.ext hs.zlt (fun t ht=>h1 t (h.subset ht)) (h2.sublist h)
end
section
variable {E:Env} {C:Ctx} {ρ ρ':n9} {Z Z':Nat->Prop} {w w':World} {its its':b9 E.N} {nx nx':Nat}
theorem Mem.sub (hm:Mem E C ρ Z w its nx) (h:its'.Sublist its) (hn:nx<=nx'):Mem E C ρ Z w its' nx':=⟨Sep.sub hm.sep (h.map _),fun i hi=>hm.fr i (by omega),hm.ge,hm.zge,hm.zle⟩
theorem a6c {X T:List Nat} (h:∀ t∈T,t∈X):l4 (l4 its X) T=l4 its X:=by
 unfold l4
 rw [List.filter_eq_self]
 intro p hp
 rw [List.mem_filter] at hp
 have h1:=hp.2
 simp only [Bool.not_eq_true',List.elem_eq_mem,decide_eq_false_iff_not] at h1 ⊢
 exact fun ht=>h1 (h _ ht)
end
def a4b (E:Env) (ρ:n9) (Z:Nat->Prop) (w:World) (D:Nat->Bool) (V:Nat->Value) (j:Nat) (e:Ent E.N):Prop :=
 m6 e.hy/\match e.g with
  | none=>Rep E.N E.T ρ Z w (V j) e.sv
  | some (jj,_,b)=>D jj=true/\(V jj=.bool b->Rep E.N E.T ρ Z w (V j) e.sv)/\(V jj≠.bool b->V j=undef)
structure JI (E:Env) (C:Ctx) (fx:m7 E.N) (lkd:b9 E.N) (st0:E.St) (f0:Fr) (F:DA E.N) (D:Nat->Bool) (V:Nat->Value) (w:World) (ρ:n9) (Z:Nat->Prop) (k:Nat):Prop where
 eff:∀ r e,F.effs[r]?=some e->(D e=true↔r<k)
 mem:∃ m,F.mems[k]?=some m/\Mem E C ρ Z w (m.1++lkd) m.2
 tn:Tn C.ρ0 C.Z0 C.w1 ρ Z w
 sl:∀ k s,lk st0.slots k=some s->Rep E.N E.T ρ Z w (f0 k) s
 fx:∀ p∈fx,Rep E.N E.T ρ Z w (f0 p.1) p.2
 ent:∀ j e,F.ents[j]?=some e->D j=true->a4b E ρ Z w D V j e
 g:E.G.is C.Z0 C.w1
def JF (E:Env) (C:Ctx) (fx:m7 E.N) (lkd:b9 E.N) (st0:E.St) (f0:Fr) (F:DA E.N):JP:=fun D V w=>∃ ρ Z k,JI E C fx lkd st0 f0 F D V w ρ Z k
structure WA (E:Env) (l:List Oper) (H:I1) (i:Nat) (a:DA E.N):Prop where
 len:a.ents.length=i
 ent:∀ j e,a.ents[j]?=some e->o5 l j=e.dst/\∀ jj dj b,e.g=some (jj,dj,b)->o5 l jj=some dj
 eff:∀ e∈a.effs,e<i/\∃ T,lk H e=some T
 up:a.effs.Pairwise (· < ·)
 mlen:a.mems.length=a.effs.length+1
 chain:∀ (r e:Nat) (m m':b9 E.N×Nat),a.effs[r]?=some e->a.mems[r]?=some m->a.mems[r+1]?=some m'->∃ T new,lk H e=some T/\m'.1=new++l4 (E:=E) m.1 T
 nx:∀ m∈a.mems,m.2<=NX
structure Up {N:Uni} (a F:DA N) (i:Nat):Prop where
 ents:∃ x,F.ents=a.ents++x
 effs:∃ y,F.effs=a.effs++y/\∀ e∈y,i<=e
 mems:∃ z,F.mems=a.mems++z
theorem Up.ent {N:Uni} {a F:DA N} {i j:Nat} {e:Ent N} (h:Up a F i) (hj:a.ents[j]?=some e):F.ents[j]?=some e:=by
 obtain ⟨x,hx⟩:=h.ents
 rw [hx,List.getElem?_append_left (o7 hj)]; exact hj
theorem Up.eff {N:Uni} {a F:DA N} {i j e:Nat} (h:Up a F i) (hj:a.effs[j]?=some e):F.effs[j]?=some e:=by
 obtain ⟨x,hx,_⟩:=h.effs
 rw [hx,List.getElem?_append_left (o7 hj)]; exact hj
theorem Up.mem {N:Uni} {a F:DA N} {i j:Nat} {e:b9 N×Nat} (h:Up a F i) (hj:a.mems[j]?=some e):F.mems[j]?=some e:=by
 obtain ⟨x,hx⟩:=h.mems
 rw [hx,List.getElem?_append_left (o7 hj)]; exact hj
section
variable {E:Env} {C C':Ctx} {n:Nat} {l:List Oper} {ms:List Nat} {H:I1} {f0:Fr} {st0:E.St} {fx:m7 E.N} {lkd lkd':b9 E.N} {F a:DA E.N} {D:Nat->Bool} {V:Nat->Value} {w w':World} {ρ ρ':n9} {Z Z':Nat->Prop} {i k:Nat} {g:Fr} {its:b9 E.N} {nx:Nat}
theorem b9c (hf:R7 fx l=true) {p:Nat×E.SV} (hp:p∈fx):L6 ms i p.1 l 0=true:=by
 have key:∀ (r:List Oper) (j:Nat),(∀ o∈r,∀ d,o.dst=some d->d≠p.1)->L6 ms i p.1 r j=true:=by
  intro r
  induction r with
  | nil=>intro j _; rfl
  | cons o r ih =>
   intro j h
   unfold L6
   rw [ih (j+1) (fun o ho=>h o (List.mem_cons_of_mem _ ho)),Bool.and_true]
   split
   . rename_i d hd
     rw [J0 (h o (List.mem_cons_self ..) d hd)]; rfl
   . rfl
 refine key l 0 fun o ho d hd e=>?_
 unfold R7 at hf
 rw [List.all_eq_true] at hf
 have:=hf o ho
 rw [hd] at this
 simp only [Option.isNone_iff_eq_none] at this
 exact a3e this p hp e
theorem JI.rel (hj:JI E C fx lkd st0 f0 F D V w ρ Z k) (hf:R7 fx l=true) (hw:WA E l H i a) (hu:∀ (j:Nat) (e:Ent E.N),a.ents[j]?=some e->F.ents[j]?=some e) (hd:∀ j,bit ms i j=true->D j=true)
  (hdone:∀ j t,D j=true->o5 l j=some t->g t=V j) (hkept:∀ t,L6 ms i t l 0=true->g t=f0 t) (hm:Mem E C' ρ Z w (its++lkd') nx) (ht:Tn C'.ρ0 C'.Z0 C'.w1 ρ Z w) (hg0:E.G.is C'.Z0 C'.w1):Rel E C' fx lkd' (dSt l ms st0 i a its nx) ρ Z g w:=by
 refine ⟨fun k s hk=>?_,fun p hp=>by rw [hkept _ (b9c hf hp)]; exact hj.fx p hp,fun k j' b s hk=>?_,hm,ht,hg0⟩
 . rcases b4u hk with hk | ⟨_,hk⟩
   . obtain ⟨j,e,h1,h2,h3,rfl⟩:=a1w hk
     rw [Nat.zero_add] at h2
     have hD:=hd j h2
     have hg:=hdone j k hD (by rw [(hw.ent j e h1).1]; exact h3)
     have ho:=(hj.ent j e (hu j e h1) hD).2
     unfold Ent.now
     split
     . rename_i hn; rw [hn] at ho; rw [hg]; exact ho
     . exact .un
   . have ⟨h1,h2⟩:=a7a (q:=fun t=>L6 ms i t l 0) hk
     rw [hkept k h1]; exact hj.sl k s h2
 . obtain ⟨j,e,jj,h1,h2,h3,h4,h5,rfl⟩:=c2g hk
   rw [Nat.zero_add] at h2
   have hD:=hd j h2
   have hg:=hdone j k hD (by rw [(hw.ent j e h1).1]; exact h4)
   have hg':=hdone jj j' (hd jj h3) ((hw.ent j e h1).2 _ _ _ h5)
   have ho:=(hj.ent j e (hu j e h1) hD).2
   rw [h5] at ho
   rw [hg,hg']; exact ho.2
theorem JI.hys (hj:JI E C fx lkd st0 f0 F D V w ρ Z k) (hu:∀ (j:Nat) (e:Ent E.N),a.ents[j]?=some e->F.ents[j]?=some e) (hd:∀ j,bit ms i j=true->D j=true):m6 (dHy (bit ms i) 0 a.ents) :=
 a9a fun j e h1 h2=>(hj.ent j e (hu j e h1) (hd j (by rw [Nat.zero_add] at h2; exact h2))).1
theorem a4b.turn {e:Ent E.N} {j:Nat} {v:Value} (h:a4b E ρ Z w D V j e) (t:Tn ρ Z w ρ' Z' w') (hi:D i=false) (hj:D j=true):a4b E ρ' Z' w' (V6 D i) (M0 V i v) j e:=by
 have ne:∀ {x},D x=true->x≠i:=fun hx e=>by rw [e,hi] at hx; cases hx
 refine ⟨h.1,?_⟩
 have h2:=h.2
 split at h2
 . rename_i hg
   rw [X0 (ne hj)]; exact t.rep h2
 . rename_i jj dj b hg
   rw [X0 (ne hj),X0 (ne h2.1),H1 (ne h2.1)]
   exact ⟨h2.1,fun e=>t.rep (h2.2.1 e),h2.2.2⟩
end
end Go.Rx
end
section
namespace Go.Rx
open Go Go.Wk Go.Wl
section
variable {E:Env} {C C':Ctx} {n:Nat} {l:List Oper} {ms:List Nat} {H:I1} {f0:Fr} {st0:E.St} {fx:m7 E.N} {lkd lkd':b9 E.N} {F a:DA E.N} {D:Nat->Bool} {V:Nat->Value} {w w':World} {ρ ρ':n9} {Z Z':Nat->Prop} {i k m:Nat} {g:Fr} {its:b9 E.N} {nx:Nat}
theorem b1t {α:Type} {b:Bool} {o:Option α} {r:α} (h:(bif b then none else o)=some r):b=false/\o=some r:=by
 cases b with
 | true=>cases h
 | false=>exact ⟨rfl,h⟩
theorem a6o:∀ {effs:List Nat} {r:Nat},r<L3 ms i effs->∃ e,effs[r]?=some e/\bit ms i e=true
 | [],_,h=>by simp [L3] at h
 | e::s,r,h=>by
  unfold L3 at h
  cases hb:bit ms i e with
  | false=>rw [hb] at h; simp at h
  | true =>
   rw [hb,cond_true] at h
   cases r with
   | zero=>exact ⟨e,rfl,hb⟩
   | succ r=>obtain ⟨e',h1,h2⟩:=a6o (effs:=s) (r:=r) (by omega); exact ⟨e',by simpa using h1,h2⟩
theorem b5b {effs:List Nat} (h:effs.Pairwise (· < ·)) {r s e:Nat} (hr:effs[r]?=some e) (hs:effs[s]?=some e):r=s:=by
 rw [List.pairwise_iff_getElem] at h
 have h1:=o7 hr
 have h2:=o7 hs
 rw [List.getElem?_eq_getElem h1] at hr
 rw [List.getElem?_eq_getElem h2] at hs
 simp only [Option.some.injEq] at hr hs
 rcases Nat.lt_trichotomy r s with c | c | c
 . have:=h r s h1 h2 c; omega
 . exact c
 . have:=h s r h2 h1 c; omega
theorem c4e (hj:JI E C fx lkd st0 f0 F D V w ρ Z k) (hF:WA E l H m F) (hu:Up a F i) (hdep:∀ j,bit ms i j=true->D j=true) (hsucc:∀ j,bit ms j i=true->D j=false) {m0 mk:b9 E.N×Nat} (hm0:a.mems[L3 ms i a.effs]?=some m0) (hmk:F.mems[k]?=some mk) :
  (l4 m0.1 (shut ms H i (a.effs.take (L3 ms i a.effs)))).Sublist mk.1:=by
 have hlo:L3 ms i a.effs<=k:=by
  rcases Nat.lt_or_ge k (L3 ms i a.effs) with h | h
  . obtain ⟨e,h1,h2⟩:=a6o h
    have:=(hj.eff k e (hu.eff h1)).1 (hdep e h2)
    omega
  . exact h
 have key:∀ t mr,F.mems[L3 ms i a.effs+t]?=some mr->L3 ms i a.effs+t<=k->(l4 m0.1 (shut ms H i (a.effs.take (L3 ms i a.effs)))).Sublist mr.1:=by
  intro t
  induction t with
  | zero =>
   intro mr hr _
   have:=hu.mem hm0
   rw [Nat.add_zero,this] at hr
   cases hr
   exact List.filter_sublist
  | succ t ih =>
   intro mr hr hk
   have hl:=o7 hr
   obtain ⟨m1,hm1⟩:∃ m1,F.mems[L3 ms i a.effs+t]?=some m1:=⟨_,List.getElem?_eq_getElem (by omega)⟩
   have hl2:L3 ms i a.effs+t<F.effs.length:=by have:=hF.mlen; omega
   obtain ⟨e,he⟩:∃ e,F.effs[L3 ms i a.effs+t]?=some e:=⟨_,List.getElem?_eq_getElem hl2⟩
   obtain ⟨T,new,hT,hnew⟩:=hF.chain _ e m1 mr he hm1 hr
   have hs:=ih m1 hm1 (by omega)
   have hDe:D e=true:=(hj.eff _ e he).2 (by omega)
   have hTX:∀ t∈T,t∈shut ms H i (a.effs.take (L3 ms i a.effs)):=fun t ht=>by
    obtain ⟨x,hx,_⟩:=q6 hT
    unfold shut
    rw [List.mem_flatMap]
    refine ⟨(e,T),List.mem_of_getElem? hx,?_⟩
    have h1:bit ms e i=false:=by
     cases hb:bit ms e i with
     | false=>rfl
     | true=>rw [hsucc e hb] at hDe; cases hDe
    have h2:(a.effs.take (L3 ms i a.effs)).elem e=false:=by
     cases hb:(a.effs.take (L3 ms i a.effs)).elem e with
     | false=>rfl
     | true =>
      exfalso
      have hb:=List.mem_of_elem_eq_true hb
      obtain ⟨r,hr1,hr2⟩:=List.getElem_of_mem hb
      simp only [List.length_take] at hr1
      rw [List.getElem_take] at hr2
      have hr3:a.effs[r]?=some e:=by rw [List.getElem?_eq_getElem (by omega),hr2]
      have:=b5b hF.up (hu.eff hr3) he
      omega
    rw [h1,h2]; exact ht
   rw [hnew,<- a6c hTX]
   exact List.Sublist.trans (List.Sublist.filter _ hs) (List.sublist_append_right _ _)
 have:=key (k-L3 ms i a.effs) mk (by rw [show L3 ms i a.effs+(k-L3 ms i a.effs)=k by omega]; exact hmk) (by omega)
 exact this
theorem JI.quiet (hj:JI E C fx lkd st0 f0 F D V w ρ Z k) (hF:WA E l H m F) (hH:lk H i=none) (hDi:D i=false) (x:Ext [] w w') {e:Ent E.N} (he:F.ents[i]?=some e) {v:Value} (ho:a4b E ρ Z w' (V6 D i) (M0 V i v) i e):JI E C fx lkd st0 f0 F (V6 D i) (M0 V i v) w' ρ Z k:=by
 obtain ⟨mm,hm,hmem⟩:=hj.mem
 obtain ⟨m1,t⟩:=hmem.ext0 x
 refine ⟨fun r e' hr=>?_,⟨mm,hm,m1⟩,hj.tn.trans t,fun k s h=>t.rep (hj.sl k s h),fun p hp=>t.rep (hj.fx p hp),fun j e' hj' hD=>?_,hj.g⟩
 . obtain ⟨_,T,hT⟩:=hF.eff e' (List.mem_of_getElem? hr)
   rw [H1 (fun e2=>by rw [e2,hH] at hT; cases hT)]
   exact hj.eff r e' hr
 . by_cases e2:j=i
   . subst e2; rw [he] at hj'; cases hj'; exact ho
   . rw [H1 e2] at hD
     exact (hj.ent j e' hj' hD).turn t hDi hD
theorem c1f {b:Option Bool} {q0:Option (Q1 E.N)} {q:Q1 E.N} (h:frc b q0=some q):∃ q1,q0=some q1/\q.hy=q1.hy/\(m6 q.ob->m6 q1.ob/\∀ {ρ:n9} {Z:Nat->Prop} {w:World} {v:Value},Rep E.N E.T ρ Z w v q1.v->Rep E.N E.T ρ Z w v q.v):=by
 unfold frc at h
 cases b with
 | none=>exact ⟨q,h,rfl,fun ho=>⟨ho,fun r=>r⟩⟩
 | some b =>
  simp only at h
  cases q0 with
  | none=>cases h
  | some q1 =>
   simp only at h
   split at h
   . rename_i p d hp
     simp only [Option.some.injEq] at h
     subst h
     refine ⟨q1,rfl,rfl,fun ho=>?_⟩
     have key:∀ {l:List Prop} {x:Prop},m6 (l++[x])->m6 l/\x:=fun {l x}=>by
      induction l with
      | nil=>exact fun h=>⟨trivial,h.1⟩
      | cons y l ih=>exact fun h=>⟨⟨h.1,(ih h.2).1⟩,(ih h.2).2⟩
     obtain ⟨h1,h2⟩:=key ho
     refine ⟨h1,fun r=>?_⟩
     generalize q1.v=u at hp r
     cases u with
     | tt =>
      cases hp
      cases r
      cases b with
      | true=>exact .tt
      | false=>exact absurd trivial h2
     | ff =>
      cases hp
      cases r
      cases b with
      | true=>exact h2.elim
      | false=>exact .ff
     | bl p' d' =>
      cases hp
      cases r
      cases b with
      | true=>rw [decide_eq_true (show p from h2)]; exact .tt
      | false=>rw [decide_eq_false (show ¬ p from h2)]; exact .ff
     | _=>cases hp
   . cases h
theorem c1o (hE:l5 E) {o:Oper} {e:Ent E.N} {ob:List Prop} (hf:R7 fx l=true) (hq:a4s n fx lkd l ms H st0 i o a=some (ob,e)) (hH:lk H i=none)
  (hob:im (dHy (bit ms i) 0 a.ents) (m6 ob)) (hw:WA E l H i a) (hF:WA E l H m F) (hu:Up a F i) (he:F.ents[i]?=some e):c2y E.P n l ms (JF E C fx lkd st0 f0 F) f0 i o:=by
 intro D V g w hJ hDi hdep hsucc hdone hkept
 obtain ⟨ρ,Z,k,hj⟩:=hJ
 have hob:=K6 hob (hj.hys (fun j e h=>hu.ent h) hdep)
 unfold a4s at hq
 split at hq
 . cases hq
 rename_i m0 hm0
 have h2:=j3 hq
 clear hq
 obtain ⟨hfr,hq⟩:=h2
 obtain ⟨mk,hmk,hmem⟩:=hj.mem
 have hR:=hj.rel hf hw (fun j e h=>hu.ent h) hdep hdone hkept (C':=C) (hmem.sub ((c4e hj hF hu hdep hsucc hm0 hmk).append_right lkd) (hF.nx mk (List.mem_of_getElem? hmk))) hj.tn hj.g
 obtain ⟨dst,op,ty,pos,after,guard⟩:=o
 cases guard with
 | none =>
  simp only at hq hfr
  split at hq
  . rename_i q d hgop0
    simp only [Option.some.injEq,Prod.mk.injEq] at hq
    obtain ⟨rfl,rfl⟩:=hq
    obtain ⟨q1,hgop,hhy,hconv⟩:=c1f hgop0
    obtain ⟨hob,hconv⟩:=hconv hob
    exact c32 hE hR R1.nil hgop hob (C2 hfr).1 fun v w' x hr hy=>V2 ⟨rfl,v,rfl,ρ,Z,k,hj.quiet hF hH hDi x he ⟨by show m6 q.hy; rw [hhy]; exact hy,by show Rep E.N E.T ρ Z w' (M0 V i v i) q.v; rw [L4]; exact hconv hr⟩⟩
  . cases hq
 | some jb =>
  obtain ⟨j,b⟩:=jb
  simp only at hq hfr
  split at hq
  . rename_i dj hdj
    have h2:=j3 hq
    clear hq
    obtain ⟨hb,hq⟩:=h2
    simp only [Bool.and_eq_true] at hb
    obtain ⟨hbj,hnj⟩:=hb
    have hDj:=hdep j hbj
    have hji:j≠i:=fun e=>by rw [e,hDi] at hDj; cases hDj
    have hgj:=hdone j dj hDj hdj
    split at hq
    . rename_i p q d hs
      simp only [Option.some.injEq,Prod.mk.injEq] at hq
      obtain ⟨rfl,rfl⟩:=hq
      unfold b1a at hs
      split at hs
      . rename_i p1 dp q1 d1 hg ho1
        have h2:=b1t hs
        clear hs
        have hs:=h2.2
        simp only [Option.some.injEq,Prod.mk.injEq] at hs
        obtain ⟨rfl,rfl,rfl⟩:=hs
        obtain ⟨g1,g2⟩:=a0t hR 8 dj b p1 dp hg
        by_cases hp:p1
        . have e1:=g1.1 hp
          refine a5t hdj hnj e1 (c32 hE hR (a1a hR 8 dj b e1) ho1 (b6t hp hob) (C2 hfr).1 fun v w' x hr hy=>V2 ⟨rfl,v,rfl,ρ,Z,k,hj.quiet hF hH hDi x he ⟨a5m fun _=>hy,?_⟩⟩)
          show V6 D i j=true/\(M0 V i v j=.bool b->Rep E.N E.T ρ Z w' (M0 V i v i) q1.v)/\(M0 V i v j≠.bool b->M0 V i v i=undef)
          rw [H1 hji,X0 hji,L4,<- hgj]
          exact ⟨hDj,fun _=>hr,fun h=>absurd e1 h⟩
        . have e1:=g2 hp
          have ho:a4b E ρ Z w (V6 D i) (M0 V i undef) i ⟨some d1,some (j,dj,b),q1.v,imp p1 q1.hy⟩:=by
           refine ⟨a5m fun h=>absurd h hp,?_⟩
           show V6 D i j=true/\(M0 V i undef j=.bool b->Rep E.N E.T ρ Z w (M0 V i undef i) q1.v)/\(M0 V i undef j≠.bool b->M0 V i undef i=undef)
           rw [H1 hji,X0 hji,L4,<- hgj]
           exact ⟨hDj,fun h=>absurd (g1.2 h) hp,fun _=>rfl⟩
          have fin:=hj.quiet hF hH hDi (Ext.refl [] w) he ho
          rcases e1 with e1 | e1
          . exact a8b hdj hnj (C2 hfr).1 e1 (V2 ⟨rfl,undef,rfl,ρ,Z,k,fin⟩)
          . exact a3s hdj hnj (C2 hfr).1 e1 (V2 ⟨rfl,undef,rfl,ρ,Z,k,fin⟩)
      . cases hs
    . cases hq
  . cases hq
theorem b0p {s:E.SV} {b:Bool} {v:Value} (h:b6i s b=true) (r:Rep E.N E.T ρ Z w v s):v=.bool (!b):=by
 cases s with
 | tt =>
  cases b with
  | false=>cases r; rfl
  | true=>cases h
 | ff =>
  cases b with
  | true=>cases r; rfl
  | false=>cases h
 | _=>cases h
theorem c7u {o:Oper} {e:Ent E.N} (hq:b23 n l ms i o a=some e) (hH:lk H i=none) (hF:WA E l H m F) (hu:Up a F i) (he:F.ents[i]?=some e):c2y E.P n l ms (JF E C fx lkd st0 f0 F) f0 i o:=by
 intro D V g w hJ hDi hdep hsucc hdone hkept
 obtain ⟨ρ,Z,k,hj⟩:=hJ
 obtain ⟨dst,op,ty,pos,after,guard⟩:=o
 unfold b23 at hq
 split at hq
 . rename_i j b d hg hd
   simp only at hg hd
   subst hg hd
   split at hq
   . rename_i dj ej hdj hej
     have ⟨hb,hq2⟩:=j3 hq
     clear hq
     simp only [Bool.and_eq_true] at hb
     obtain ⟨⟨⟨hbj,hnj⟩,hnd⟩,hoff⟩:=hb
     simp only [Option.some.injEq] at hq2
     subst hq2
     have hDj:=hdep j hbj
     have hji:j≠i:=fun e=>by rw [e,hDi] at hDj; cases hDj
     have hgj:=hdone j dj hDj hdj
     have hoj:=(hj.ent j ej (hu.ent hej) hDj).2
     have hv:g dj=.bool (!b) ∨ g dj=undef:=by
      rw [hgj]
      unfold e2b at hoff
      split at hoff
      . rename_i hsv
        split at hoj
        . rw [hsv] at hoj
          generalize V j=u at hoj
          cases hoj; exact .inr rfl
        . rename_i hg0; rw [hg0] at hoff; cases hoff
      . split at hoj
        . exact .inl (b0p hoff hoj)
        . rename_i jj dj' b' _
          by_cases e:V jj=.bool b'
          . exact .inl (b0p hoff (hoj.2.1 e))
          . exact .inr (hoj.2.2 e)
     have ho:a4b E ρ Z w (V6 D i) (M0 V i undef) i (⟨some d,none,.undef,[]⟩:Ent E.N):=⟨trivial,by
      show Rep E.N E.T ρ Z w (M0 V i undef i) .undef
      rw [L4]; exact .undef⟩
     have fin:=hj.quiet hF hH hDi (Ext.refl [] w) he ho
     rcases hv with e1 | e1
     . exact a8b hdj hnj hnd e1 (V2 ⟨rfl,undef,rfl,ρ,Z,k,fin⟩)
     . exact a3s hdj hnj hnd e1 (V2 ⟨rfl,undef,rfl,ρ,Z,k,fin⟩)
   . cases hq
 . cases hq
end
end Go.Rx
end
