/- 12 texts, one behind the other. -/
import Derived.Test.YtdjfeninmbpflaaGreatV2
set_option linter.unusedVariables false
set_option linter.unusedSimpArgs false
set_option maxRecDepth 100000
section
namespace Go.Rx
open Go Go.Wk Go.Wl
section
variable {E:Env} {C:Ctx} {n:Nat} {ops:List Oper} {Q:Exit->Fr->World->Prop} {rest:List Oper} {f:Fr} {w w':World} {d:Nat}
variable {ty T T':TypeId} {pos:String} {after:Array Edge} {x y z:Operand} {a b:Int} {ρ ρ':n9} {Z Z':Nat->Prop} {its its' lkd:i6 E.N} {nx:Nat} {s:S1 E.N}
theorem Mem.move {j id:Nat} {i i':Item E.N} {L:Loc} {t':It} (hm:Mem E C ρ Z w its nx) (hj:its[j]?=some (id,i)) (hs:Sep C.B0 C.w0 Z w' ((o0 E.N E.T ρ C.B0 its).set j t')) (hh:Go.Rx.holds E.N E.T (C8 ρ nx L) nx Z w' i') (hF:∀ b∈o8 E.N (C8 ρ nx L) nx i',b∈t'.F):Mem E C (C8 ρ nx L) Z w' ((nx,i')::its.eraseIdx j) (nx+1):=by
 have hρ:=z7 (L:=L) (hm.fr nx (Nat.le_refl _))
 have hjl:=s6 hj
 have hjt:j<(o0 E.N E.T ρ C.B0 its).length:=by simpa [o0] using hjl
 refine ⟨Sep.sel hs (fun k=>match k with | 0=>j | k+1=>if k<j then k else k+1) (fun k1 k2 _ _ e=>?_) fun k t hk=>?_,fun k hk=>?_,fun k L' e=>hρ _ _ (hm.ge k L' e),hm.zge,hm.zle⟩
 . grind
 . cases k with
   | zero =>
    simp [o0] at hk
    subst hk
    refine ⟨t',?_,hh,p7,hF,rfl⟩
    simp_all
   | succ k =>
    have hk:(o0 E.N E.T (C8 ρ nx L) C.B0 (its.eraseIdx j))[k]?=some t:=hk
    obtain ⟨p,hp,rfl⟩:=m9 hk
    rw [List.getElem?_eraseIdx] at hp
    have key:∀ m,m≠j->its[m]?=some p->∃ t,((o0 E.N E.T ρ C.B0 its).set j t')[m]?=some t/\b6u C.B0 Z w' t (z6 E.N E.T (C8 ρ nx L) C.B0 p.1 p.2):=fun m hmj hp=>by
     have e:((o0 E.N E.T ρ C.B0 its).set j t')[m]?=some (z6 E.N E.T ρ C.B0 p.1 p.2):=by rw [List.getElem?_set_ne (Ne.symm hmj)]; exact l4 hp
     exact ⟨_,e,a26 hρ (hs.at m e)⟩
    grind
 . unfold C8
   rw [if_neg (by omega)]; exact hm.fr k (by omega)
theorem c5l {k b:Nat} (h1:1<=b) (h:k * b<=140737488355328):k<=9223372036854775807:=by
 have:=Nat.mul_le_mul_left k h1
 omega
theorem a3s {t:Nat} {xs:List (E.N.U t)} {sx:E.SV} {cl:Call} (hm:Mem E C ρ Z w (its++lkd) nx) (hx:Rep E.N E.T ρ Z w (ev f x) sx)
  (rule:a7s E t=true->∀ {al:List (E.N.U t)} {bs O:List Nat} {L:List It},Sep C.B0 C.w0 Z w L->∀ j:Nat,L[j]?=some (iAc (E.N.tb t).r (ev f x) al bs O)->(al.length+xs.length) * (E.bytes t).getD 0<=140737488355328->(∀ A cap bs' w',Sep C.B0 C.w0 Z w' (L.set j (iAc (E.N.tb t).r (.slice A (al++xs).length cap) (al++xs) bs' O))->WL E.P false n ops Q rest (upd f d (.slice A (al++xs).length cap)) w')->WL E.P false n ops Q (⟨some d,.call cl,ty,pos,after,none⟩::rest) f w)
  (h:a2j E its nx t xs sx=some s) (ho:q6 s.ob) (hn:Nat.blt d n=true) (K:KE E C n ops Q rest f w (some d) ρ Z lkd s) :
  WL E.P false n ops Q (⟨some d,.call cl,ty,pos,after,none⟩::rest) f w:=by
 generalize hvx:ev f x=vx at hx
 unfold a2j at h
 cases sx with
 | nils =>
  have ⟨h1,h2⟩:=j3 h
  simp only [Option.some.injEq] at h2; subst h2
  obtain ⟨hE,_,info,zv,hI,hb,hb1,hz,hzs,_⟩:=M7 h1
  have ho1:xs.length * (E.bytes t).getD 0<=140737488355328:=ho.1
  rw [hb] at ho1
  cases hx
  have hs1:=Wl.Sep.fact hm.tn (t:=iAc (E.N.tb t).r (.slice none 0 0) [] [] []) Ac.nil sAc rfl rfl
  refine rule h1 (al:=[]) (bs:=[]) (O:=[]) hs1 0 (by rw [hvx]; rfl) (by simp_all) fun A cap bs' w' hs=>?_
  have hs':Sep C.B0 C.w0 Z w' (iAc (E.N.tb t).r (.slice A xs.length cap) xs bs' []::tnI Z w::o0 E.N E.T ρ C.B0 (its++lkd)):=hs
  have hac:Ac (E.N.tb t).r Z w' (.slice A xs.length cap) xs bs':=hs'.at 0 rfl
  have ⟨m1,t1⟩:=hm.lay (i:=.ac t xs) (L:=⟨0,A,xs.length,cap,bs'⟩) hs' ⟨_,l5,rfl,c5l hb1 ho1,hac⟩ (fun y hy=>by rw [q7 l5] at hy; exact hy)
  exact K _ _ _ _ m1 t1 (.acc l5) trivial
 | acc id =>
  simp only at h
  split at h
  . rename_i t' l hi
    split at h
    . rename_i ht
      subst ht
      have ⟨h1,h2⟩:=j3 h
      simp only [Option.some.injEq] at h2; subst h2
      obtain ⟨hE,_,info,zv,hI,hb,hb1,hz,hzs,_⟩:=M7 h1
      have ho1:(l.length+xs.length) * (E.bytes t').getD 0<=140737488355328:=ho.1
      rw [hb] at ho1
      obtain ⟨j,hj,_,hr⟩:=p8 hi
      obtain ⟨L,hL,hn1,hlen,hac⟩:=hm.holds (l8 hj)
      cases hx with
      | acc hL' =>
       have hL:ρ id=some L:=hL
       rw [hL] at hL'; cases hL'
       have hjt:j<(o0 E.N E.T ρ C.B0 (its++lkd)).length:=by simpa [o0] using s6 (l8 (l2:=lkd) hj)
       have hs1:=Wl.Sep.upd hm.tn (j+1) (t:=z6 E.N E.T ρ C.B0 id (.ac t' l)) (t':=iAc (E.N.tb t').r (.slice L.A L.n L.cap) l L.bs C.B0) (w':=w) (by rw [List.getElem?_cons_succ]; exact l4 (l8 hj)) (Ext.refl _ _) hac sAc (fun b hb=>⟨.inl (by show b∈o8 E.N ρ id (.ac t' l); rw [q7 hL]; exact hb),hac.lt b hb⟩) rfl
       refine rule h1 (al:=l) (bs:=L.bs) (O:=C.B0) hs1 (j+1) (by rw [hvx,List.getElem?_set_self (by simpa using hjt)]) (by simp_all) fun A cap bs' w' hs=>?_
       rw [List.set_set] at hs
       have t2:=X8 (Z:=Z) (w:=w) (ρ:=ρ) (ρ':=C8 ρ nx ⟨0,A,(l++xs).length,cap,bs'⟩) (k:=0) hs (by simp) (z7 (hm.fr nx (Nat.le_refl _)))
       have hs2:Sep C.B0 C.w0 Z w' ((o0 E.N E.T ρ C.B0 (its++lkd)).set j (iAc (E.N.tb t').r (.slice A (l++xs).length cap) (l++xs) bs' C.B0)):=a2w (u:=tnI Z w) (by simpa using hs)
       have m1:=hm.move (i':=.ac t' (l++xs)) (L:=⟨0,A,(l++xs).length,cap,bs'⟩) (l8 hj) hs2 ⟨_,l5,rfl,by rw [List.length_append]; exact c5l hb1 ho1,hs2.at j (t:=iAc (E.N.tb t').r (.slice A (l++xs).length cap) (l++xs) bs' C.B0) (by rw [List.getElem?_set_self hjt])⟩ (fun b hb=>by rw [q7 l5] at hb; exact hb)
       refine K _ _ _ _ ?_ t2 (.acc l5) trivial
       have e:(nx,Item.ac t' (l++xs))::(its++lkd).eraseIdx j=((nx,Item.ac t' (O5 rfl l++xs))::rmv its id)++lkd:=by
        rw [hr,List.eraseIdx_append_of_lt_length (s6 hj)]; rfl
       grind
    . cases h
  . cases h
 | _=>cases h
theorem b61 {t:Nat} {xs:List (E.N.U t)} {sx:E.SV} (hm:Mem E C ρ Z w (its++lkd) nx) (hT:E.sliceOf T=some t) (hx:Rep E.N E.T ρ Z w (ev f x) sx) (hy:Src (E.N.tb t).r Z w (ev f y) xs) (h:a2j E its nx t xs sx=some s) (ho:q6 s.ob) (hn:Nat.blt d n=true) (K:KE E C n ops Q rest f w (some d) ρ Z lkd s) :
  WL E.P false n ops Q (⟨some d,.call ⟨.builtin .append,#[x,y],#[T,T]⟩,T,pos,after,none⟩::rest) f w :=
 a3s hm hx (fun h1 {al bs O L} hs j hj hb K=>by
  obtain ⟨hE,_,info,zv,hI,hb0,hb1,hz,hzs,_⟩:=M7 h1
  rw [hb0] at hb
  exact b39 hs j hj hy (u5 hT) hI hE hz hzs hb hb1 hn K) h ho hn K
theorem c76 {P:Program} {tb:Ty1} (h8:tb=⟨UInt8,n5,⟨0⟩⟩) {s:Str} (xs:List tb.α) (e:Str=List tb.α) (hxs:cast e s=xs) {T2 el:TypeId} {info:TypeInfo} {zv:Value} {al:List tb.α} {bs O B0:List Nat} {w0:World} {L:List It} (hs:Sep B0 w0 Z w L) (j:Nat) (hj:L[j]?=some (iAc tb.r (ev f x) al bs O)) (hy:ev f y=sv s)
  (hT:∀ w,(underlying T).run P w=.ok (.slice el) w) (hT2:∀ w,(underlying T2).run P w=.ok .string w) (hI:∀ w,(typeInfo el).run P w=.ok info w) (hE:∀ w,(sizeOf el).run P w=.ok tb.r.sz w) (hz:∀ w,(zeroValue el).run P w=.ok zv w) (hzs:zv.cells.size=tb.r.sz)
  (hb:(al.length+xs.length) * info.bytes<=140737488355328) (hb1:1<=info.bytes) (hn:Nat.blt d n=true)
  (K:∀ A cap bs' w',Sep B0 w0 Z w' (L.set j (iAc tb.r (.slice A (al++xs).length cap) (al++xs) bs' O))->WL P false n ops Q rest (upd f d (.slice A (al++xs).length cap)) w') :
  WL P false n ops Q (⟨some d,.call ⟨.builtin .append,#[x,y],#[T,T2]⟩,T,pos,after,none⟩::rest) f w:=by
 subst h8
 subst hxs
 exact c1d hs j hj hy hT hT2 hI hE hz hzs hb hb1 hn K
theorem c1v {P:Program} {tb:Ty1} (h8:tb=⟨UInt8,n5,⟨0⟩⟩) {s:Str} (xs:List tb.α) (e:Str=List tb.α) (hxs:cast e s=xs) {T2 T3 el:TypeId} {al:List tb.α} {bs O B0:List Nat} {w0:World} {L:List It} (hs:Sep B0 w0 Z w L) (j:Nat) (hj:L[j]?=some (iAc tb.r (ev f x) al bs O)) (hy:ev f y=sv s)
  (hT:∀ w,(underlying T).run P w=.ok (.slice el) w) (hE:∀ w,(sizeOf el).run P w=.ok tb.r.sz w) (hn:Nat.blt d n=true)
  (K:∀ w',Sep B0 w0 Z w' (L.set j (iAc tb.r (ev f x) (xs.take al.length++al.drop xs.length) bs O))->WL P false n ops Q rest (upd f d (.int .i64 (min (xs.length:Int) al.length))) w') :
  WL P false n ops Q (⟨some d,.call ⟨.builtin .copy,#[x,y],#[T,T2]⟩,T3,pos,after,none⟩::rest) f w:=by
 subst h8
 subst hxs
 exact c8i hs j hj hy hT hE hn K
theorem c7h {t S':Nat} {sx sy:E.SV} (hm:Mem E C ρ Z w (its++lkd) nx) (hT:E.sliceOf T=some t) (hS:E.isStr S'=true) (hx:Rep E.N E.T ρ Z w (ev f x) sx) (hy:Rep E.N E.T ρ Z w (ev f y) sy) (h:c7o E its nx t sx sy=some s) (ho:q6 s.ob) (hn:Nat.blt d n=true) (K:KE E C n ops Q rest f w (some d) ρ Z lkd s) :
  WL E.P false n ops Q (⟨some d,.call ⟨.builtin .append,#[x,y],#[T,S']⟩,T,pos,after,none⟩::rest) f w:=by
 unfold c7o at h
 split at h
 . rename_i u
   split at h
   . rename_i xs hxs
     unfold ofBytes at hxs
     split at hxs
     . rename_i yy hyy
       split at hxs
       . rename_i h8 hb8
         simp only [Option.some.injEq] at hxs
         generalize hv:ev f y=vy at hy
         cases hy with | str hl =>
         exact a3s hm hx (fun h1 {al bs O L} hs j hj hb K=>by
          obtain ⟨hE,_,info,zv,hI,hb0,hb1,hz,hzs,_⟩:=M7 h1
          rw [hb0] at hb
          exact c76 h8.down xs (by rw [h8.down]) hxs hs j hj hv (u5 hT) (L5 hS) hI hE hz hzs hb hb1 hn K) h ho hn K
       . cases hxs
     . cases hxs
   . cases h
 . cases h
theorem c48 {t S' T3:Nat} {sx sy:E.SV} (hm:Mem E C ρ Z w (its++lkd) nx) (hT:E.sliceOf T=some t) (hx:Rep E.N E.T ρ Z w (ev f x) sx) (hy:Rep E.N E.T ρ Z w (ev f y) sy) (h:c3j E its nx t sy sx=some s) (hn:Nat.blt d n=true) (K:KE E C n ops Q rest f w (some d) ρ Z lkd s) :
  WL E.P false n ops Q (⟨some d,.call ⟨.builtin .copy,#[x,y],#[T,S']⟩,T3,pos,after,none⟩::rest) f w:=by
 unfold c3j at h
 split at h
 . rename_i id
   split at h
   . rename_i t' l hi
     have ⟨h1,h2⟩:=j3 h
     simp only [Bool.and_eq_true] at h1
     have et:=Nat.eq_of_beq_eq_true h1.1
     subst et
     split at h2
     . rename_i u
       split at h2
       . rename_i xs hxs
         simp only [Option.some.injEq] at h2; subst h2
         unfold ofBytes at hxs
         split at hxs
         . rename_i yy hyy
           split at hxs
           . rename_i h8 hb8
             simp only [Option.some.injEq] at hxs
             generalize hvy:ev f y=vy at hy
             cases hy with | str hl =>
             obtain ⟨j,hj,hu,hr⟩:=p8 hi
             obtain ⟨L,hL,hn1,hlen,hac⟩:=hm.holds (l8 hj)
             generalize hvx:ev f x=vx at hx
             cases hx with
             | acc hL' =>
              have hL:ρ id=some L:=hL
              rw [hL] at hL'; cases hL'
              have hjt:j<(o0 E.N E.T ρ C.B0 (its++lkd)).length:=by simpa [o0] using s6 (l8 (l2:=lkd) hj)
              have hs1:=Wl.Sep.upd hm.tn (j+1) (t:=z6 E.N E.T ρ C.B0 id (.ac t' l)) (t':=iAc (E.N.tb t').r (.slice L.A L.n L.cap) l L.bs C.B0) (w':=w) (by rw [List.getElem?_cons_succ]; exact l4 (l8 hj)) (Ext.refl _ _) hac sAc (fun b hb=>⟨.inl (by show b∈o8 E.N ρ id (.ac t' l); rw [q7 hL]; exact hb),(hac.lt b hb)⟩) rfl
              refine c1v h8.down xs (by rw [h8.down]) hxs (al:=l) (bs:=L.bs) (O:=C.B0) hs1 (j+1) (by simp_all) hvy (u5 hT) (J9 h1.2) hn fun w' hs=>?_
              rw [hvx,List.set_set] at hs
              have hll:(xs.take l.length++l.drop xs.length).length=l.length:=by rw [List.length_append,List.length_take,List.length_drop]; omega
              have t2:=X8 (Z:=Z) (w:=w) (ρ:=ρ) (ρ':=ρ) (k:=0) hs (by simp) (fun _ _ h=>h)
              have hs2:Sep C.B0 C.w0 Z w' ((o0 E.N E.T ρ C.B0 (its++lkd)).set j (iAc (E.N.tb t').r (.slice L.A L.n L.cap) (xs.take l.length++l.drop xs.length) L.bs C.B0)):=a2w (u:=tnI Z w) (by simp_all)
              have m1:=hm.turn (i':=.ac t' (xs.take l.length++l.drop xs.length)) (l8 hj) hs2 ⟨L,hL,by omega,by omega,hs2.at j (t:=iAc (E.N.tb t').r (.slice L.A L.n L.cap) (xs.take l.length++l.drop xs.length) L.bs C.B0) (by simp_all)⟩ (fun b hb=>by rw [q7 hL] at hb; exact hb)
              rw [List.set_append_left _ _ (s6 hj),<- hu] at m1
              exact K _ ρ Z w' m1 t2 (.int fun _=>by have h2:=hlen; simp only [InI]; omega) trivial
           . cases hxs
         . cases hxs
       . cases h2
     . cases h2
   . cases h
 . cases h
theorem H2.mono {α:Type} {r:Rd α} {Z Z':Nat->Prop} {w:World} (hZ:∀ b,Z b->b<w.heap.size->Z' b):∀ {cs:List (List Value)} {xs:List α},H2 r Z w cs xs->H2 r Z' w cs xs
 | [],[],_=>trivial
 | [],_::_,h=>h.elim
 | _::_,[],h=>h.elim
 | c::cs,x::xs,⟨h1,h2⟩=>⟨r.weak h1 hZ,H2.mono hZ h2⟩
theorem c0d {t:Nat} {yy:TyI E.N E.T t} {e:Operand->E.SV}:∀ {ps:List (Nat×Operand)} {its its':i6 E.N} {Z:Nat->Prop} {xs:List (E.N.U t)},Mem E C ρ Z w (its++lkd) nx->(∀ o,Rep E.N E.T ρ Z w (ev f o) (e o))->c65 E yy e its ps=some (xs,its') ->
  ∃ Z',Mem E C ρ Z' w (its'++lkd) nx/\Tn ρ Z w ρ Z' w/\H2 (E.N.tb t).r Z' w (ps.map fun p=>(ev f p.2).cells.toList) xs/\xs.length=ps.length
 | [],its,its',Z,xs,hm,he,h=>by
  simp [c65] at h; obtain ⟨rfl,rfl⟩:=h
  exact ⟨Z,hm,Tn.refl _ _ _,trivial,rfl⟩
 | p::r,its,its',Z,xs,hm,he,h=>by
  unfold c65 at h
  split at h
  . rename_i v its1 hf
    obtain ⟨Z1,hm1,t1,hr1⟩:=a4p hm hf
    have ⟨h1,h2⟩:=j3 h
    split at h2
    . rename_i x xs' its2 hb hl
      simp only [Option.some.injEq,Prod.mk.injEq] at h2
      obtain ⟨rfl,rfl⟩:=h2
      obtain ⟨Z',hm',t',ha,hlen⟩:=c0d hm1 (fun o=>t1.rep (he o)) hl
      exact ⟨Z',hm',t1.trans t',⟨(E.N.tb t).r.weak (yy.bk_ok ((hr1 _ (he p.2)).leaves h1) hb) t'.z,ha⟩,by simp [hlen]⟩
    . cases h2
  . cases h
theorem a3c {e:Operand->Value}:∀ {ps:List (Nat×Operand)} {i:Nat},b1c i ps=true->Q9 i (ps.map fun p=>(p.1,e p.2))=true
 | [],_,_=>rfl
 | p::r,i,h=>by
  simp only [b1c,Bool.and_eq_true] at h
  simp only [List.map_cons,Q9,Bool.and_eq_true]
  exact ⟨h.1,a3c h.2⟩
theorem H2.sizes {α:Type} {r:Rd α} {Z:Nat->Prop} {w:World} {e:Operand->Value}:∀ {ps:List (Nat×Operand)} {xs:List α},H2 r Z w (ps.map fun p=>(e p.2).cells.toList) xs->(ps.map fun p=>(p.1,e p.2)).all (fun p=>Nat.beq p.2.cells.size r.sz)=true
 | [],_,_=>rfl
 | _::_,[],h=>h.elim
 | p::ps,x::xs,⟨h1,h2⟩=>by
  simp only [List.map_cons,List.all_cons,Bool.and_eq_true]
  refine ⟨?_,H2.sizes h2⟩
  have:=r.len h1
  simp_all
theorem c8h {e:Operand->E.SV} {len:Nat} {ps:Array (Nat×Operand)} (hm:Mem E C ρ Z w (its++lkd) nx) (he:∀ o,Rep E.N E.T ρ Z w (ev f o) (e o)) (h:c97 E its nx e T len ps.toList=some s) (hn:Nat.blt d n=true) (K:KE E C n ops Q rest f w (some d) ρ Z lkd s) :
  WL E.P false n ops Q (⟨some d,.buildSlice T len ps,ty,pos,after,none⟩::rest) f w:=by
 unfold c97 at h
 split at h
 . rename_i t hT
   split at h
   . rename_i yy hty
     have ⟨h1,h2⟩:=j3 h
     clear h
     simp only [Bool.and_eq_true] at h1
     obtain ⟨⟨⟨h1,ho⟩,hl⟩,hsm⟩:=h1
     have hl:=Nat.eq_of_beq_eq_true hl
     split at h2
     . rename_i xs its' hlit
       simp only [Option.some.injEq] at h2; subst h2
       obtain ⟨Z1,hm1,t1,ha,hlen⟩:=c0d hm he hlit
       obtain ⟨hE,hp,info,zv,hI,hb,hb1,hz,hzs,_⟩:=M7 h1
       have hsm':=Nat.le_of_ble_eq_true hsm
       refine a9u (css:=ps.toList.map fun p=>(ev f p.2).cells.toList) (al:=xs) hm1.tn (u5 hT) hE hz rfl (by simp_all) (a3c ho) (H2.sizes ha) (by simp [List.flatMap_def,List.map_map]; rfl) hsm (by rw [hlen,hl]) ha hn fun b w' hs=>?_
       have hac:=hs.at 0 rfl
       have hxl:xs.length=len:=by rw [hlen,hl]
       have ⟨m1,t2⟩:=hm1.lay (i:=.ac t xs) (L:=⟨0,some ⟨b,0,none⟩,len,len,[b]⟩) hs ⟨_,l5,hxl.symm,by have:=Nat.mul_le_mul_left len hp; omega,hac⟩ (fun y hy=>by rw [q7 l5] at hy; exact hy)
       exact K _ _ _ _ m1 (t1.trans t2) (.acc l5) trivial
     . cases h2
   . cases h
 . cases h
theorem c63 {sx sy:E.SV} (hm:Mem E C ρ Z w (its++lkd) nx) (hx:Rep E.N E.T ρ Z w (ev f x) sx) (hy:Rep E.N E.T ρ Z w (ev f y) sy) (h:c6i E its nx T sx sy=some s) (ho:q6 s.ob) (hn:Nat.blt d n=true) (K:KE E C n ops Q rest f w (some d) ρ Z lkd s) :
  WL E.P false n ops Q (⟨some d,.makeSlice T x y,ty,pos,after,none⟩::rest) f w:=by
 unfold c6i at h
 split at h
 . rename_i t a b hT ha hb
   split at h
   . rename_i yy hty
     have ⟨h1,h2⟩:=j3 h
     clear h
     split at h2
     . rename_i zx hz0
       simp only [Option.some.injEq] at h2; subst h2
       obtain ⟨hE,hp,info,zv,hI,hbb,hb1,hz,hzs,hzv⟩:=M7 h1
       simp only [Option.bind_eq_some_iff] at hz0
       obtain ⟨sz,hsz,hbk⟩:=hz0
       have ⟨hf,hbk⟩:=j3 hbk
       unfold Env.zero at hsz
       rw [hzv] at hsz
       simp only [Option.map_some,Option.some.injEq] at hsz
       have ho1:0<=a:=ho.1
       have ho2:a=b:=ho.2.1
       have ho3:(((E.bytes t).getD 0:Nat):Int) * a<=140737488355328:=ho.2.2.1
       rw [hbb] at ho3
       have ha2:a<=140737488355328:=by
        have:1 * a<=(info.bytes:Int) * a:=Int.mul_le_mul_of_nonneg_right (by omega) ho1
        omega
       have hx':=b0g hx ha
       have hy':=b0g hy hb
       rw [<- ho2] at hy'
       have hzr:∀ (Z:Nat->Prop) (w:World),(E.N.tb t).r.rd Z w zv.cells.toList zx:=fun Z w=>by
        refine yy.bk_ok (ρ:=ρ) (Rep.leaves ?_ hf) hbk
        rw [<- hsz]; exact a4r
       refine b1m (zc:=zv.cells.toList) (zx:=zx) hm.tn (u5 hT) hI hE hz (by simp) rfl hp hzr hx' hy' ho1 ho3 (by omega) hn fun b w' hs=>?_
       have hac:=hs.at 0 rfl
       have ⟨m1,t2⟩:=hm.lay (i:=.ac t (List.replicate a.toNat zx)) (L:=⟨0,some ⟨b,0,none⟩,a.toNat,a.toNat,[b]⟩) hs ⟨_,l5,by simp,by grind,hac⟩ (fun y hy=>by rw [q7 l5] at hy; exact hy)
       exact K _ _ _ _ m1 t2 (.acc l5) trivial
     . cases h2
   . cases h
 . cases h
theorem b5e {t:Nat} (h:E.N.tb t=⟨UInt8,n5,⟨0⟩⟩) (l:Str) (e:Str=List (E.N.U t)) {v:Value} {Z:Nat->Prop} {w:World} :
  (cast e l:List (E.N.U t)).length=l.length/\∀ bs,Ac n5 Z w v l bs->Ac (E.N.tb t).r Z w v (cast e l) bs:=by
 grind
theorem c1n {S D:Nat} {sx:E.SV} (hm:Mem E C ρ Z w (its++lkd) nx) (hx:Rep E.N E.T ρ Z w (ev f x) sx) (h:b77 E its nx S D sx=some s) (hn:Nat.blt d n=true) (K:KE E C n ops Q rest f w (some d) ρ Z lkd s) :
  WL E.P false n ops Q (⟨some d,.convert S D x,ty,pos,after,none⟩::rest) f w:=by
 unfold b77 at h
 split at h
 . rename_i t
   split at h
   . rename_i e hD
     have ⟨h1,h2⟩:=j3 h
     clear h
     split at h2
     . rename_i hi
       split at h2
       . rename_i l hl
         simp only [Option.some.injEq] at h2; subst h2
         generalize hv:ev f x=vx at hx
         cases hx with | str hlen =>
         have hS:E.P.underlying S=some .string:=by
          unfold Env.isStr at h1; split at h1
          . assumption
          . cases h1
         have hT:E.P.underlying D=some (.slice e):=by
          unfold Env.sliceOf at hD; split at hD
          . simp_all
          . cases hD
         have hE:E.P.underlying e=some (.int .u8):=by
          unfold Env.intOf at hi; split at hi
          . simp_all
          . cases hi
         unfold ofBytes at hl
         split at hl
         . rename_i yy hy
           split at hl
           . rename_i h8 hb8
             simp only [Option.some.injEq] at hl
             refine c9q hm.tn hS hT hE hv hn fun b cap w' hs=>?_
             have hac:=hs.at 0 rfl
             have hc:=b5e (Z:=Z) (w:=w') (v:=.slice (some ⟨b,0,none⟩) t.length cap) h8.down t (by grind)
             rw [hl] at hc
             have hac2:=hc.2 [b] hac
             have hs2:=hs.upd 0 rfl (Ext.refl _ _) (t':=iAc (E.N.tb e).r (.slice (some ⟨b,0,none⟩) t.length cap) l [b] []) hac2 sAc (fun x hx=>⟨.inl hx,hs.lt 0 rfl x hx⟩) rfl
             have ⟨m1,t2⟩:=hm.lay (i:=.ac e l) (L:=⟨0,some ⟨b,0,none⟩,t.length,cap,[b]⟩) hs2 ⟨_,l5,hc.1.symm,by omega,hac2⟩ (fun y hy=>by rw [q7 l5] at hy; exact hy)
             exact K _ _ _ _ m1 t2 (.acc l5) trivial
           . cases hl
         . cases hl
       . cases h2
     . cases h2
   . cases h
 . cases h
theorem b96 {e:Operand->E.SV} {sz:Nat} (he:∀ o,Rep E.N E.T ρ Z w (ev f o) (e o)):∀ {ps:List (Nat×Operand)} {ls:List E.SV},c7w e sz ps=some ls ->
  i7 E.N E.T ρ Z w (ps.flatMap fun p=>(ev f p.2).cells.toList) ls/\(ps.map fun p=>(p.1,ev f p.2)).all (fun p=>Nat.beq p.2.cells.size sz)=true/\(ps.flatMap fun p=>(ev f p.2).cells.toList).length=ps.length * sz
 | [],ls,h=>by cases h; exact ⟨i7.nil,rfl,by simp⟩
 | p::r,ls,h=>by
  unfold c7w at h
  have ⟨h1,h2⟩:=j3 h
  simp only [Bool.and_eq_true] at h1
  obtain ⟨hf,hl⟩:=h1
  have hl:=Nat.eq_of_beq_eq_true hl
  split at h2
  . rename_i ls' hr
    cases h2
    obtain ⟨g1,g2,g3⟩:=b96 he hr
    have hlv:=(he p.2).leaves hf
    have hsz:(ev f p.2).cells.toList.length=sz:=by rw [hlv.len,hl]
    refine ⟨by rw [List.flatMap_cons]; exact i7.app hlv g1,?_,?_⟩
    all_goals grind
  . cases h2
theorem c6a {e:Operand->E.SV} {len:Nat} {ps:Array (Nat×Operand)} (hm:Mem E C ρ Z w (its++lkd) nx) (he:∀ o,Rep E.N E.T ρ Z w (ev f o) (e o)) (h:b20 E its nx e T len ps.toList=some s) (hn:Nat.blt d n=true) (K:KE E C n ops Q rest f w (some d) ρ Z lkd s) :
  WL E.P false n ops Q (⟨some d,.buildSlice T len ps,ty,pos,after,none⟩::rest) f w:=by
 unfold b20 at h
 split at h
 . rename_i t hT
   have ⟨h1,h2⟩:=j3 h
   clear h
   simp only [Bool.and_eq_true] at h1
   obtain ⟨⟨⟨⟨⟨⟨_,h1⟩,ho⟩,hl⟩,hsm⟩,hbig⟩,hpos⟩:=h1
   have hl:=Nat.eq_of_beq_eq_true hl
   have hbig:=Nat.le_of_ble_eq_true hbig
   split at h2
   . rename_i ls hlit
     simp only [Option.some.injEq] at h2; subst h2
     obtain ⟨hE,hp,info,zv,hI,hb,hb1,hz,hzs,_⟩:=M7 h1
     obtain ⟨g1,g2,g3⟩:=b96 he hlit
     refine c1w (cs:=ps.toList.flatMap fun p=>(ev f p.2).cells.toList) hm.tn (u5 hT) hE hz rfl (by simp_all) (a3c ho) g2 (by simp [List.flatMap_map]) (by rw [g3,hl]) hsm hn fun b w' hs=>?_
     have hrw:=hs.at 0 rfl
     have t0:=X8 (ρ:=ρ) (ρ':=ρ) (k:=1) hs rfl (fun _ _ h=>h)
     have hr:=Rep.sub (t0.rep g1) (z7 (L:=⟨b,some ⟨b,0,none⟩,len,len,[b]⟩) (hm.fr nx (Nat.le_refl _)))
     have ⟨m1,t1⟩:=hm.lay (i:=.rw t len ls) (L:=⟨b,some ⟨b,0,none⟩,len,len,[b]⟩) hs ⟨_,_,l5,rfl,hbig,fun _=>rfl,hrw,hr⟩ (fun y hy=>by rw [B7 l5] at hy; exact hy)
     exact K _ _ _ _ m1 t1 (.acc l5) trivial
   . cases h2
 . cases h
theorem c2q {sx:E.SV} {id off t nn:Nat} {cells:List E.SV} (hm:Mem E C ρ Z w (its++lkd) nx) (ha:Rep E.N E.T ρ Z w (ev f x) (.ref id off)) (hx:Rep E.N E.T ρ Z w (ev f y) sx) (hi:lk its id=some (.rw t nn cells)) (hn0:0<nn) {mm:Nat} (hz:E.size T=some mm) (hle:off+mm<=cells.length) (hf:flat sx=true) (hl:(leaves sx).length=mm)
  (K:KE E C n ops Q rest f w none ρ Z lkd ⟨[],[],.un,Z4 its id (.rw t nn (setLeaves E cells off (leaves sx))),nx⟩) :
  WL E.P false n ops Q (⟨none,.store T x y,ty,pos,after,none⟩::rest) f w:=by
 obtain ⟨j,hj,hu,_⟩:=p8 hi
 have hj':(its++lkd)[j]?=some (id,.rw t nn cells):=l8 hj
 obtain ⟨L,F,hL,hn1,hb,hA,hrw,hr⟩:=hm.holds hj'
 generalize hv:ev f x=vx at ha
 cases ha with
 | ref hL' =>
  have hL:ρ id=some L:=hL
  rw [hL] at hL'; cases hL'
  have hA:=hA hn0
  rw [hA] at hrw
  have hlv:=hx.leaves hf
  have hcl:=hr.len
  have hs1:=Wl.Sep.upd hm.tn (j+1) (t:=z6 E.N E.T ρ C.B0 id (.rw t nn cells)) (t':=iRw (E.N.tb t).r.sz (.slice (some ⟨L.b,0,none⟩) nn L.cap) nn F L.bs C.B0) (w':=w) (by rw [List.getElem?_cons_succ]; exact l4 hj') (Ext.refl _ _) hrw sRw (fun b hb=>⟨.inl (by show b∈o8 E.N ρ id (.rw t nn cells); rw [B7 hL]; exact hb),hrw.lt b hb⟩) rfl
  have hjt:j<(o0 E.N E.T ρ C.B0 (its++lkd)).length:=by simpa [o0] using s6 hj'
  refine c26 hs1 (j+1) (O:=C.B0) (by rw [List.getElem?_set_self (by simp_all)]) (H1 hz) hv (c:=(ev f y).cells.toList) rfl (by rw [hlv.len,hl]) (by omega) hlv.plain fun w' hs=>?_
  rw [List.set_set] at hs
  have t1:=X8 (Z:=Z) (w:=w) (ρ:=ρ) (ρ':=ρ) (k:=0) hs (by simp) (fun _ _ h=>h)
  have hs2:Sep C.B0 C.w0 Z w' ((o0 E.N E.T ρ C.B0 (its++lkd)).set j (iRw (E.N.tb t).r.sz (.slice (some ⟨L.b,0,none⟩) nn L.cap) nn (v7 F off (ev f y).cells.toList) L.bs C.B0)):=a2w (u:=tnI Z w) (by simp_all)
  have hnew:=hs2.at j (t:=iRw (E.N.tb t).r.sz (.slice (some ⟨L.b,0,none⟩) nn L.cap) nn (v7 F off (ev f y).cells.toList) L.bs C.B0) (by simp_all)
  have m1:=hm.turn (i':=.rw t nn (setLeaves E cells off (leaves sx))) hj' hs2 ⟨L,v7 F off (ev f y).cells.toList,hL,hn1,hb,fun _=>hA,by simp_all,i7.setLeaves (show i7 E.N E.T ρ Z w' F cells from t1.rep hr) (show i7 E.N E.T ρ Z w' _ _ from t1.rep hlv)⟩ (fun b hb=>by rw [B7 hL] at hb; exact hb)
  refine K .nilIface ρ Z w' ?_ t1 .un trivial
  grind
theorem b6b {k:Int} {hi:Operand} {sx:E.SV} (hm:Mem E C ρ Z w (its++lkd) nx) (hx:Rep E.N E.T ρ Z w (ev f x) sx) (hk:ev f hi=.int .i64 k) (h:a9s E its nx T k sx=some s) (ho:q6 s.ob) (hn:Nat.blt d n=true) (K:KE E C n ops Q rest f w (some d) ρ Z lkd s) :
  WL E.P false n ops Q (⟨some d,.slice T x none (some hi) none,ty,pos,after,none⟩::rest) f w:=by
 unfold a9s at h
 split at h
 . rename_i id
   split at h
   . rename_i e t nn cells hT hit
     have ⟨h1,h2⟩:=j3 h
     simp only [Option.some.injEq] at h2; subst h2
     simp only [Bool.and_eq_true] at h1
     obtain ⟨h1,hn0⟩:=h1
     have hn0:=A1 hn0
     have hk0:0<=k:=ho.1
     have hk1:k<=(nn:Int):=ho.2.1
     obtain ⟨j,hj,_,hr⟩:=p8 hit
     obtain ⟨L,F,hL,hn1,hb,hA,hrw,hrep⟩:=hm.holds (l8 hj)
     have hA:=hA hn0
     generalize hv:ev f x=vx at hx
     cases hx with
     | acc hL' =>
      have hL:ρ id=some L:=hL
      rw [hL] at hL'; cases hL'
      have hcap:L.n<=L.cap:=by
       rw [hn1]
       rcases hrw with ⟨e1,h0,_⟩ | ⟨_,cap',_,_,e1,_,_,_,hc,_⟩
       . omega
       . simp_all
      refine a5x (lo:=none) (hi:=some hi) (a:=0) (b:=k) (u5 hT) (J9 h1) hv rfl hk ⟨Int.le_refl _,hk0,by omega⟩ hcap hn ?_
      have ev2:(if L.cap=(0:Int).toNat then L.A else L.A.map (·.add ((0:Int).toNat * (E.N.tb t).r.sz)))=some ⟨L.b,0,none⟩:=by
       rw [if_neg (by omega),hA]
       simp [Addr.add]
      rw [ev2,show k.toNat-(0:Int).toNat=k.toNat from rfl,show L.cap-(0:Int).toNat=L.cap from rfl]
      rw [hA] at hrw
      have htk:=hrw.take (k:=k.toNat) (by omega)
      have hjt:j<(o0 E.N E.T ρ C.B0 (its++lkd)).length:=by simpa [o0] using s6 (l8 (l2:=lkd) hj)
      have hs1:=Wl.Sep.upd hm.tn (j+1) (t:=z6 E.N E.T ρ C.B0 id (.rw t nn cells)) (t':=iRw (E.N.tb t).r.sz (.slice (some ⟨L.b,0,none⟩) k.toNat L.cap) k.toNat (F.take (k.toNat * (E.N.tb t).r.sz)) L.bs C.B0) (w':=w) (by rw [List.getElem?_cons_succ]; exact l4 (l8 hj)) (Ext.refl _ _) htk sRw (fun b hb=>⟨.inl (by show b∈o8 E.N ρ id (.rw t nn cells); rw [B7 hL]; exact hb),htk.lt b hb⟩) rfl
      have t2:=X8 (Z:=Z) (w:=w) (ρ:=ρ) (ρ':=C8 ρ nx ⟨L.b,some ⟨L.b,0,none⟩,k.toNat,L.cap,L.bs⟩) (k:=0) hs1 (by simp) (z7 (hm.fr nx (Nat.le_refl _)))
      have hs2:Sep C.B0 C.w0 Z w ((o0 E.N E.T ρ C.B0 (its++lkd)).set j (iRw (E.N.tb t).r.sz (.slice (some ⟨L.b,0,none⟩) k.toNat L.cap) k.toNat (F.take (k.toNat * (E.N.tb t).r.sz)) L.bs C.B0)):=a2w (u:=tnI Z w) (by simp_all)
      have m1:=hm.move (i':=.rw t k.toNat (cells.take (k.toNat * (E.N.tb t).r.sz))) (L:=⟨L.b,some ⟨L.b,0,none⟩,k.toNat,L.cap,L.bs⟩) (l8 hj) hs2 ⟨_,F.take (k.toNat * (E.N.tb t).r.sz),l5,rfl,by omega,fun _=>rfl,htk,Rep.sub ((hrep.drop 0).take (k.toNat * (E.N.tb t).r.sz)) (z7 (hm.fr nx (Nat.le_refl _)))⟩ (fun b hb=>by rw [B7 l5] at hb; exact hb)
      refine K _ _ _ _ ?_ t2 (.acc l5) trivial
      grind
   . cases h
 . cases h
theorem c2s {t id id2:Nat} (hm:Mem E C ρ Z w (its++lkd) nx) (hT:E.sliceOf T=some t) (hx:Rep E.N E.T ρ Z w (ev f x) (.acc id)) (hy:Rep E.N E.T ρ Z w (ev f y) (.acc id2)) (h:b7b E its nx t id id2=some s) (ho:q6 s.ob) (hn:Nat.blt d n=true) (K:KE E C n ops Q rest f w (some d) ρ Z lkd s) :
  WL E.P false n ops Q (⟨some d,.call ⟨.builtin .append,#[x,y],#[T,T]⟩,T,pos,after,none⟩::rest) f w:=by
 unfold b7b at h
 split at h
 . rename_i t1 n1 c1 t2 m2 c2 hi1 hi2
   have ⟨h1,h2⟩:=j3 h
   simp only [Option.some.injEq] at h2; subst h2
   simp only [Bool.and_eq_true] at h1
   obtain ⟨⟨⟨⟨⟨e1,e2⟩,_⟩,h1⟩,hbig⟩,hpos⟩:=h1
   have e1:=Nat.eq_of_beq_eq_true e1
   have e2:=Nat.eq_of_beq_eq_true e2
   have hbig:=Nat.le_of_ble_eq_true hbig
   have hpos:=A1 hpos
   subst e1; subst e2
   obtain ⟨hE,_,info,zv,hI,hb,hb1,hz,hzs,_⟩:=M7 h1
   have ho1:(n1+m2) * (E.bytes t2).getD 0<=140737488355328:=ho.1
   rw [hb] at ho1
   obtain ⟨j,hj,_,hr⟩:=p8 hi1
   obtain ⟨j2,hj2,_,_⟩:=p8 hi2
   obtain ⟨L,F,hL,hn1,hbb,hA,hrw,hrep⟩:=hm.holds (l8 hj)
   obtain ⟨L2,F2,hL2,hn2,_,_,hrw2,hrep2⟩:=hm.holds (l8 hj2)
   have hL:ρ id=some L:=hL
   have hL2:ρ id2=some L2:=hL2
   have hac:=hrw.ac (Z:=Z) hrep.plain
   have hac2:=hrw2.ac (Z:=Z) hrep2.plain
   have hF1:F.length=n1 * (E.N.tb t2).r.sz:=by
    rcases hrw with ⟨_,h0,hF0,_⟩ | ⟨_,_,_,_,_,_,_,_,_,h⟩
    . simp_all
    . exact h
   have hF2:F2.length=m2 * (E.N.tb t2).r.sz:=by
    rcases hrw2 with ⟨_,h0,hF0,_⟩ | ⟨_,_,_,_,_,_,_,_,_,h⟩
    . omega
    . exact h
   obtain ⟨f1,l1,_⟩:=a0b hF1
   obtain ⟨f2,l2,_⟩:=a0b hF2
   generalize hvx:ev f x=vx at hx
   generalize hvy:ev f y=vy at hy
   cases hx with
   | acc hL' =>
    cases hy with
    | acc hL2' =>
     rw [hL] at hL'; cases hL'
     rw [hL2] at hL2'; cases hL2'
     rw [hn1] at hvx
     rw [hn2] at hvy
     have hjt:j<(o0 E.N E.T ρ C.B0 (its++lkd)).length:=by simpa [o0] using s6 (l8 (l2:=lkd) hj)
     have hs1:=Wl.Sep.upd hm.tn (j+1) (t:=z6 E.N E.T ρ C.B0 id (.rw t2 n1 c1)) (t':=iAc (b7v (E.N.tb t2).r.sz) (.slice L.A n1 L.cap) (G5 (E.N.tb t2).r.sz n1 F) L.bs C.B0) (w':=w) (by rw [List.getElem?_cons_succ]; exact l4 (l8 hj)) (Ext.refl _ _) hac sAc (fun b hb=>⟨.inl (by show b∈o8 E.N ρ id (.rw t2 n1 c1); rw [B7 hL]; exact hb),hac.lt b hb⟩) rfl
     refine b39 (r:=b7v (E.N.tb t2).r.sz) (al:=G5 (E.N.tb t2).r.sz n1 F) (xs:=G5 (E.N.tb t2).r.sz m2 F2) (bs:=L.bs) (O:=C.B0) hs1 (j+1) (by simp_all) (by rw [hvy]; exact Src.ac hac2) (u5 hT) hI hE hz hzs (by simp_all) hb1 hn fun A cap bs' w' hs=>?_
     rw [List.set_set] at hs
     have hlen:(G5 (E.N.tb t2).r.sz n1 F++G5 (E.N.tb t2).r.sz m2 F2).length=n1+m2:=by rw [List.length_append,l1,l2]
     rw [hlen] at hs ⊢
     have hacn:Ac (b7v (E.N.tb t2).r.sz) Z w' (.slice A (n1+m2) cap) (G5 (E.N.tb t2).r.sz n1 F++G5 (E.N.tb t2).r.sz m2 F2) bs':=hs.at (j+1) (t:=iAc (b7v (E.N.tb t2).r.sz) (.slice A (n1+m2) cap) (G5 (E.N.tb t2).r.sz n1 F++G5 (E.N.tb t2).r.sz m2 F2) bs' C.B0) (by simp_all)
     have hrn:=(S6.of hacn).1
     rw [hlen,List.flatten_append,f1,f2] at hrn
     obtain ⟨b',hA',hbs',_⟩:=hrn.cells (by omega)
     have hρ':=z7 (L:=⟨b',A,n1+m2,cap,bs'⟩) (hm.fr nx (Nat.le_refl _))
     have t2':=X8 (Z:=Z) (w:=w) (ρ:=ρ) (ρ':=C8 ρ nx ⟨b',A,n1+m2,cap,bs'⟩) (k:=0) hs (by simp) hρ'
     have hs2:Sep C.B0 C.w0 Z w' ((o0 E.N E.T ρ C.B0 (its++lkd)).set j (iAc (b7v (E.N.tb t2).r.sz) (.slice A (n1+m2) cap) (G5 (E.N.tb t2).r.sz n1 F++G5 (E.N.tb t2).r.sz m2 F2) bs' C.B0)):=a2w (u:=tnI Z w) (by simp_all)
     have m1:=hm.move (i':=.rw t2 (n1+m2) (c1++c2)) (L:=⟨b',A,n1+m2,cap,bs'⟩) (l8 hj) hs2 ⟨_,F++F2,l5,rfl,hbig,fun _=>hA',hrn,i7.app (t2'.rep hrep) (t2'.rep hrep2)⟩ (fun b hb=>by rw [B7 l5] at hb; exact hb)
     refine K _ _ _ _ ?_ t2' (.acc l5) trivial
     grind
 . cases h
theorem b3o {t:Nat} {yy:TyI E.N E.T t}:∀ {m:Nat} {ls:List E.SV} {its its':i6 E.N} {Z:Nat->Prop} {xs:List (E.N.U t)} {F:List Value},Mem E C ρ Z w (its++lkd) nx->i7 E.N E.T ρ Z w F ls->F.length=m * (E.N.tb t).r.sz->b29 E yy m ls its=some (xs,its') ->
  ∃ Z',Mem E C ρ Z' w (its'++lkd) nx/\Tn ρ Z w ρ Z' w/\xs.length=m/\H2 (E.N.tb t).r Z' w (G5 (E.N.tb t).r.sz m F) xs
 | 0,ls,its,its',Z,xs,F,hm,hr,hl,h=>by
  simp [b29] at h; obtain ⟨rfl,rfl⟩:=h
  exact ⟨Z,hm,Tn.refl _ _ _,rfl,trivial⟩
 | m+1,ls,its,its',Z,xs,F,hm,hr,hl,h=>by
  unfold b29 at h
  split at h
  . rename_i vs its1 hf
    split at h
    . rename_i x xs' its2 hb hrr
      simp only [Option.some.injEq,Prod.mk.injEq] at h
      obtain ⟨rfl,rfl⟩:=h
      obtain ⟨Z1,m1,t1,e1⟩:=a0d hm hf
      have g1:i7 E.N E.T ρ Z w (F.take (E.N.tb t).r.sz) (ls.take (E.N.tb t).r.sz):=by simpa using (hr.drop 0).take (E.N.tb t).r.sz
      have hx:(E.N.tb t).r.rd Z1 w (F.take (E.N.tb t).r.sz) x:=yy.bk_ok (s:=.agg vs) (e1.repL g1) hb
      obtain ⟨Z2,m2,t2,l2,a2⟩:=b3o m1 (show i7 E.N E.T ρ Z1 w _ _ from t1.rep (hr.drop (E.N.tb t).r.sz)) (by grind) hrr
      exact ⟨Z2,m2,t1.trans t2,by simp [l2],(E.N.tb t).r.weak hx t2.z,a2⟩
    . cases h
  . cases h
theorem d4n {t n:Nat} {w:World} {v:Value} {F:List Value} {bs:List Nat} (h:S6 t w v n F bs):F.length=n * t:=by
 rcases h with ⟨_,h0,hF0,_⟩ | ⟨_,_,_,_,_,_,_,_,_,h⟩
 all_goals simp_all
theorem c1b {t id:Nat} (hm:Mem E C ρ Z w (its++lkd) nx) (h:a5y E its t id=some its'):∃ Z',Mem E C ρ Z' w (its'++lkd) nx/\Tn ρ Z w ρ Z' w:=by
 unfold a5y at h
 split at h
 . rename_i t' m ls hi
   have ⟨ht,h2⟩:=j3 h
   clear h
   have ht:=Nat.eq_of_beq_eq_true ht
   subst ht
   split at h2
   . rename_i yy hty
     split at h2
     . rename_i xs its1 hrows
       split at h2
       . rename_i t2 m2 ls2 hi2
         have ⟨hb,h3⟩:=j3 h2
         clear h2
         simp only [Bool.and_eq_true] at hb
         obtain ⟨e1,e2⟩:=hb
         have e1:=Nat.eq_of_beq_eq_true e1
         have e2:=Nat.eq_of_beq_eq_true e2
         subst e1; subst e2
         simp only [Option.some.injEq] at h3; subst h3
         obtain ⟨j,hj,_,_⟩:=p8 hi
         obtain ⟨L,F,hL,hn1,hb,hA,hrw,hrep⟩:=hm.holds (l8 hj)
         have hL:ρ id=some L:=hL
         obtain ⟨Z1,m1,t1,hxl,ha⟩:=b3o hm hrep (d4n hrw) hrows
         obtain ⟨j2,hj2,hu2,_⟩:=p8 hi2
         obtain ⟨L',F',hL',hn1',_,_,hrw',_⟩:=m1.holds (l8 hj2)
         have hL':ρ id=some L':=hL'
         rw [hL] at hL'; cases hL'
         have hac:=hrw.acOf ha hxl rfl
         have hjt:j2<(o0 E.N E.T ρ C.B0 (its1++lkd)).length:=by simpa [o0] using s6 (l8 (l2:=lkd) hj2)
         have hs1:=Wl.Sep.upd m1.sep j2 (t:=z6 E.N E.T ρ C.B0 id (.rw t2 m2 ls2)) (t':=iAc (E.N.tb t2).r (.slice L.A m2 L.cap) xs L.bs C.B0) (w':=w) (l4 (l8 hj2)) (Ext.refl _ _) hac sAc (fun b hb=>⟨.inl (by show b∈o8 E.N ρ id (.rw t2 m2 ls2); rw [B7 hL]; exact hb),hac.lt b hb⟩) rfl
         have m2':=m1.turn (i':=.ac t2 xs) (l8 hj2) hs1 ⟨L,hL,by omega,by omega,by simp_all⟩ (fun b hb=>by rw [q7 hL] at hb; exact hb)
         grind
       . cases h2
     . cases h2
   . cases h2
 . cases h
theorem b1d {e:Operand->E.SV} (hm:Mem E C ρ Z w (its++lkd) nx) (he:∀ o,Rep E.N E.T ρ Z w (ev f o) (e o)) {c:Call} (h:a5k E its nx e c ty=some s) (ho:q6 s.ob) (hn:Nat.blt d n=true) (K:KE E C n ops Q rest f w (some d) ρ Z lkd s) :
  WL E.P false n ops Q (⟨some d,.call c,ty,pos,after,none⟩::rest) f w:=by
 obtain ⟨cal,args,Ts⟩:=c
 simp only [a5k] at h
 cases cal with
 | builtin b =>
  cases b with
  | append =>
   simp only at h
   split at h
   . rename_i x y S S' ha hT
     obtain rfl:=b1b ha
     obtain rfl:=b1b hT
     cases hb:(Nat.beq S S' && Nat.beq S ty) with
     | true =>
      rw [hb,cond_true] at h
      simp only [Bool.and_eq_true] at hb
      obtain ⟨e1,e2⟩:=hb
      have e1:=Nat.eq_of_beq_eq_true e1
      have e2:=Nat.eq_of_beq_eq_true e2
      subst e1; subst e2
      split at h
      . rename_i t hs
        split at h
        . rename_i xs hxs
          exact b61 hm hs (he x) (c8z hm (he y) hxs) h ho hn K
        . cases h
      . cases h
     | false =>
      rw [hb,cond_false] at h
      have ⟨h1,h2⟩:=j3 h
      simp only [Bool.and_eq_true] at h1
      have e2:=Nat.eq_of_beq_eq_true h1.1
      subst e2
      split at h2
      . rename_i t hs
        exact c7h hm hs h1.2 (he x) (he y) h2 ho hn K
      . cases h2
   . cases h
  | copy =>
   simp only at h
   split at h
   . rename_i x y S S' ha hT
     obtain rfl:=b1b ha
     obtain rfl:=b1b hT
     have ⟨h1,h2⟩:=j3 h
     split at h2
     . rename_i t hs
       exact c48 hm hs (he x) (he y) h2 hn K
     . cases h2
   . cases h
  | _=>cases h
 | _=>cases h
theorem c33 {e:Operand->E.SV} (hm:Mem E C ρ Z w (its++lkd) nx) (he:∀ o,Rep E.N E.T ρ Z w (ev f o) (e o)) {c:Call} (h:b3i E its nx e c ty=some s) (ho:q6 s.ob) (hn:Nat.blt d n=true) (K:KE E C n ops Q rest f w (some d) ρ Z lkd s) :
  WL E.P false n ops Q (⟨some d,.call c,ty,pos,after,none⟩::rest) f w:=by
 have rec1:∀ {t id2:Nat},(match a5y E its t id2 with | some its'=>a5k E its' nx e c ty | none=>none)=some s->WL E.P false n ops Q (⟨some d,.call c,ty,pos,after,none⟩::rest) f w:=fun {t id2} h=>by
  split at h
  . rename_i its' hrc
    obtain ⟨Z1,m1,t1⟩:=c1b hm hrc
    exact b1d m1 (fun o=>t1.rep (he o)) h ho hn (fun v ρ' Z' w' m t r hy=>K v ρ' Z' w' m (t1.trans t) r hy)
  . cases h
 unfold b3i at h
 split at h
 . rename_i x y S hap
   split at h
   . rename_i t hT
     split at h
     . rename_i id2 hy
       split at h
       . split at h
         . rename_i id hx
           split at h
           . obtain ⟨cal,args,Ts⟩:=c
             unfold e0h at hap
             simp only at hap
             split at hap
             . split at hap
               . split at hap
                 . rename_i x' y' S1 S2 ha hTs
                   obtain rfl:=b1b ha
                   obtain rfl:=b1b hTs
                   have ⟨h1,h2⟩:=j3 hap
                   simp only [Option.some.injEq,Prod.mk.injEq] at h2
                   obtain ⟨rfl,rfl,rfl⟩:=h2
                   simp only [Bool.and_eq_true] at h1
                   have e1:=Nat.eq_of_beq_eq_true h1.1
                   have e2:=Nat.eq_of_beq_eq_true h1.2
                   subst e1; subst e2
                   have rx:=he x'
                   have ry:=he y'
                   rw [hx] at rx
                   rw [hy] at ry
                   exact c2s hm hT rx ry h ho hn K
                 . cases hap
               . cases hap
             . cases hap
           . exact rec1 h
         . exact rec1 h
       . cases h
     . cases h
   . cases h
 . cases h
theorem b2m {e:Operand->E.SV} (hE:j7 E) (hm:Mem E C ρ Z w (its++lkd) nx) (he:∀ o,Rep E.N E.T ρ Z w (ev f o) (e o)) {op:Op} {d:Option Nat} (h:c04 E its nx e op ty=some s) (ho:q6 s.ob) (hn:match op with | .store _ _ _=>d=none | _=>∃ d',d=some d'/\Nat.blt d' n=true) (K:KE E C n ops Q rest f w d ρ Z lkd s) :
  WL E.P false n ops Q (⟨d,op,ty,pos,after,none⟩::rest) f w:=by
 unfold c04 at h
 cases op with
 | alloc T=>obtain ⟨d',rfl,hn⟩:=hn; exact c2o hE hm h hn K
 | box T x =>
  obtain ⟨d',rfl,hn⟩:=hn
  have ⟨h1,h2⟩:=j3 h
  simp only [Option.some.injEq] at h2; subst h2
  exact c7t hm (he x) h1 hn K
 | makeInterface T x=>obtain ⟨d',rfl,hn⟩:=hn; exact c1o hm (he x) h ho hn K
 | store T a x =>
  simp only at hn; subst hn
  simp only at h
  have ha:=he a
  generalize e a=sa at h ha
  cases sa with
  | ref id off =>
   simp only [c45] at h
   split at h
   . rename_i S cells hi
     have ⟨h1,h2⟩:=j3 h
     simp only [Option.some.injEq] at h2; subst h2
     simp only [Bool.and_eq_true] at h1
     obtain ⟨⟨⟨e1,e2⟩,e3⟩,e4⟩:=h1
     cases hs:E.size T with
     | none=>simp_all
     | some mm =>
      rw [hs] at e1 e4
      exact b75 hm ha (he x) hi hs (Nat.le_of_ble_eq_true e1) e2 (Nat.eq_of_beq_eq_true e4) K
   . rename_i t nn cells hi
     have ⟨h1,h2⟩:=j3 h
     clear h
     simp only [Option.some.injEq] at h2; subst h2
     simp only [Bool.and_eq_true] at h1
     obtain ⟨⟨⟨⟨e0,e1⟩,e2⟩,e3⟩,e4⟩:=h1
     cases hs:E.size T with
     | none=>simp_all
     | some mm =>
      rw [hs] at e1 e4
      exact c2q hm ha (he x) hi (A1 e0) hs (Nat.le_of_ble_eq_true e1) e2 (Nat.eq_of_beq_eq_true e4) K
   . cases h
  | el id t i off=>exact b46 hm ha (he x) h K
  | _=>cases h
 | buildSlice T len ps =>
  obtain ⟨d',rfl,hn⟩:=hn
  have h:(match b20 E its nx e T len ps.toList with | some s=>some s | none=>c97 E its nx e T len ps.toList)=some s:=h
  cases h2:b20 E its nx e T len ps.toList with
  | some s2=>rw [h2] at h; cases h; exact c6a hm he h2 hn K
  | none=>rw [h2] at h; exact c8h hm he h hn K
 | makeSlice T x y=>obtain ⟨d',rfl,hn⟩:=hn; exact c63 hm (he x) (he y) h ho hn K
 | convert S D x=>obtain ⟨d',rfl,hn⟩:=hn; exact c1n hm (he x) h hn K
 | call c =>
  obtain ⟨d',rfl,hn⟩:=hn
  have h:(match b3i E its nx e c ty with | some s=>some s | none=>a5k E its nx e c ty)=some s:=h
  cases h2:b3i E its nx e c ty with
  | some s2=>rw [h2] at h; cases h; exact c33 hm he h2 ho hn K
  | none=>rw [h2] at h; exact b1d hm he h ho hn K
 | slice T x lo hi m =>
  obtain ⟨d',rfl,hn⟩:=hn
  simp only at h
  split at h
  . rename_i k hk
    unfold b16 at hk
    split at hk
    . cases hk
    . rename_i o
      simp only [Option.map_eq_some_iff,Option.some.injEq] at hk
      obtain ⟨a,ha,rfl⟩:=hk
      exact b6b hm (he x) (b0g (he o) ha) h ho hn K
  . cases h
 | _=>cases h
end
end Go.Rx
end
section
namespace Go.Rx
open Go Go.Wk Go.Wl
section
variable {E:Env} {C:Ctx} {n:Nat} {ops:List Oper} {Q:Exit->Fr->World->Prop} {rest:List Oper} {f:Fr} {w w':World} {d:Nat}
variable {ty T T':TypeId} {pos:String} {after:Array Edge} {x y z:Operand} {a b:Int} {ρ ρ':n9} {Z Z':Nat->Prop} {its its' lkd:i6 E.N} {nx:Nat} {s:S1 E.N}
variable {fx:m6 E.N} {st:E.St}
structure Rel (E:Env) (C:Ctx) (fx:m6 E.N) (lkd:i6 E.N) (st:E.St) (ρ:n9) (Z:Nat->Prop) (f:Fr) (w:World):Prop where
 sl:∀ k s,lk st.slots k=some s->Rep E.N E.T ρ Z w (f k) s
 fx:∀ p∈fx,Rep E.N E.T ρ Z w (f p.1) p.2
 gs:∀ k j b s,lk st.gs k=some (j,b,s)->(f j=.bool b->Rep E.N E.T ρ Z w (f k) s)/\(f j≠.bool b->f k=undef)
 mem:Mem E C ρ Z w (st.items++lkd) st.nx
 tn:Tn C.ρ0 C.Z0 C.w1 ρ Z w
 g:E.G.is C.Z0 C.w1
theorem Y2.turn {G:Y2} (h:G.is Z w) (t:Tn ρ Z w ρ' Z' w'):G.is Z' w':=by
 obtain ⟨B,x,hB⟩:=t.ext
 exact G.stab h x hB t.z
theorem Rel.glob (h:Rel E C fx lkd st ρ Z f w):E.G.is Z w:=Y2.turn h.g h.tn
theorem c5a {v:Value} {s:E.SV} (hm:Mem E C ρ Z w its nx) (h:Rep E.N E.T ρ Z w v s):Rep E.N E.T ρ Z w v (nrm its s):=by
 cases s with
 | acc id =>
  simp only [nrm]
  split
  . rename_i t l hi
    obtain ⟨L,hL,hn,hr⟩:=hm.at hi
    cases h with
    | acc hL'=>rw [hL] at hL'; cases hL'; exact .sl hr
  . exact h
 | _=>exact h
theorem a4d {β:Type} {l:List (Nat×β)} {d:Nat} (h:lk l d=none):∀ p∈l,d≠p.1:=by
 induction l with
 | nil=>simp_all
 | cons q r ih =>
  unfold lk at h
  cases hb:Nat.beq q.1 d with
  | true=>simp_all
  | false =>
   rw [hb,cond_false] at h
   intro p hp
   rcases List.mem_cons.1 hp with rfl | hp
   . intro e; simp_all
   grind
theorem Rel.slot (h:Rel E C fx lkd st ρ Z f w) (k:Nat):Rep E.N E.T ρ Z w (f k) (p5 fx st k):=by
 unfold p5
 split
 . rename_i v hv; exact h.sl k v hv
 . split
   . rename_i v hv; obtain ⟨i,hi,_⟩:=p8 hv; exact h.fx (k,v) (List.mem_of_getElem? hi)
   . exact .un
def W8 (f:Fr) (ch:List (Nat×Bool)):Prop:=∀ j w,c78 ch j w=true->f j=.bool w
theorem W8.nil:W8 f []:=fun j w h=>by simp [c78] at h
theorem Rel.ev (h:Rel E C fx lkd st ρ Z f w) {ch:List (Nat×Bool)} (hc:W8 f ch) (o:Operand):Rep E.N E.T ρ Z w (ev f o) (evS fx lkd st ch o):=by
 cases o with
 | tmp t =>
  show Rep E.N E.T ρ Z w (f t) _
  simp only [evS]
  split
  . rename_i j b v hv
    cases hg:c78 ch j b with
    | true=>exact c5a h.mem ((h.gs t j b v hv).1 (hc j b hg))
    | false=>exact .un
  . exact c5a h.mem (h.slot t)
 | const v=>exact a4r
 | global g=>exact .con rfl
 | func K=>exact .fn
theorem D9 {β:Type} {l:List (Nat×β)} {d k:Nat} {v:β}:lk ((d,v)::l) k=if d=k then some v else lk l k:=by
 show (bif Nat.beq d k then some v else lk l k)=_
 simp_all
theorem S8 {d k:Nat} {v:Value} (h:d≠k):upd f d v k=f k:=by rw [H7,if_neg (Ne.symm h)]
theorem a1q {d:Nat} {v:Value}:upd f d v d=v:=by rw [H7,if_pos rfl]
theorem b9d {gs:List (Nat×Nat×Bool×E.SV)} {d:Nat} (h:(gs.all fun p=>!Nat.beq p.2.1 d)=true) {k j:Nat} {b:Bool} {s:E.SV} (hk:lk gs k=some (j,b,s)):j≠d:=by
 obtain ⟨i,hi,_⟩:=p8 hk
 rw [List.all_eq_true] at h
 have:=h _ (List.mem_of_getElem? hi)
 intro e; simp_all
theorem D5 {d:Nat} (h:free n fx st (some d)=true):Nat.blt d n=true/\lk fx d=none/\lk st.gs d=none/\(st.gs.all fun p=>!Nat.beq p.2.1 d)=true:=by
 simp only [free,Bool.and_eq_true,Option.isNone_iff_eq_none] at h
 grind
theorem Rel.put {d:Option Nat} {v:Value} {s:E.SV} {items:i6 E.N} {nx:Nat} (h:Rel E C fx lkd st ρ Z f w) (hf:free n fx st d=true) (t:Tn ρ Z w ρ' Z' w') (hm:Mem E C ρ' Z' w' (items++lkd) nx) (hv:Rep E.N E.T ρ' Z' w' v s) :
  Rel E C fx lkd (put ⟨st.slots,st.gs,items,nx⟩ d s) ρ' Z' (J1 f d v) w':=by
 cases d with
 | none=>exact ⟨fun k s hk=>t.rep (h.sl k s hk),fun p hp=>t.rep (h.fx p hp),fun k j b s hk=>⟨fun e=>t.rep ((h.gs k j b s hk).1 e),(h.gs k j b s hk).2⟩,hm,h.tn.trans t,h.g⟩
 | some d =>
  obtain ⟨_,h2,h3,h4⟩:=D5 hf
  refine ⟨fun k s' hk=>?_,fun p hp=>?_,fun k j b s' hk=>?_,hm,h.tn.trans t,h.g⟩
  . show Rep E.N E.T ρ' Z' w' (upd f d v k) s'
    have hk:lk ((d,s)::st.slots) k=some s':=hk
    rw [D9] at hk
    by_cases e:d=k
    . rw [if_pos e] at hk; cases hk; subst e; rw [a1q]; exact hv
    . rw [if_neg e] at hk; rw [S8 e]; exact t.rep (h.sl k s' hk)
  . show Rep E.N E.T ρ' Z' w' (upd f d v p.1) p.2
    rw [S8 (a4d h2 p hp)]; exact t.rep (h.fx p hp)
  . have hk:lk st.gs k=some (j,b,s'):=hk
    have e:d≠k:=fun e=>by simp_all
    have e2:d≠j:=Ne.symm (b9d h4 hk)
    show (upd f d v j=_->Rep E.N E.T ρ' Z' w' (upd f d v k) s')/\(upd f d v j≠_->upd f d v k=_)
    rw [S8 e,S8 e2]
    exact ⟨fun e=>t.rep ((h.gs k j b s' hk).1 e),(h.gs k j b s' hk).2⟩
theorem Rel.put0 {d:Option Nat} {v:Value} {s:E.SV} (h:Rel E C fx lkd st ρ Z f w) (hf:free n fx st d=true) (hv:Rep E.N E.T ρ Z w v s):Rel E C fx lkd (Rx.put st d s) ρ Z (J1 f d v) w:=by
 have:=h.put hf (Tn.refl ρ Z w) h.mem hv
 exact this
theorem a14 {ps:List Prop} {r:Prop} (h:cj ps r):q6 ps/\r:=by
 induction ps with
 | nil=>exact ⟨trivial,h⟩
 | cons p ps ih=>exact ⟨⟨h.1,(ih h.2).1⟩,(ih h.2).2⟩
theorem N6 {ps:List Prop} {r:Prop} (h:im ps r) (hp:q6 ps):r:=by
 induction ps with
 | nil=>exact h
 | cons p ps ih=>exact ih (h hp.1) hp.2
theorem c5h {m:Bool} {ch:List (Nat×Bool)} {c:Operand} {s:E.SV} (h:Rel E C fx lkd st ρ Z f w) (hc:W8 f ch) {ya yb:Operand} (hp:N5 fx lkd st ch c ya yb=some s) (hn:Nat.blt d n=true) (K:∀ v,Rep E.N E.T ρ Z w v s->WL E.P m n ops Q rest (upd f d v) w) :
  WL E.P m n ops Q (⟨some d,.pick c ya yb,ty,pos,after,none⟩::rest) f w:=by
 cases c with
 | tmp j =>
  simp only [N5] at hp
  have he:=h.ev hc (.tmp j)
  split at hp
  . rename_i p dp hpp
    have hv:=he.boolv hpp
    refine b4m hv hn ?_
    split at hp
    . rename_i t
      split at hp
      . rename_i j' b v hg
        have ⟨h1,h2⟩:=j3 hp
        simp only [Bool.and_eq_true] at h1
        obtain ⟨e1,e2⟩:=h1
        have e1:=Nat.eq_of_beq_eq_true e1
        subst e1; subst e2
        split at h2
        . rename_i q dq hq
          simp only [Option.some.injEq] at h2; subst h2
          have hgs:=h.gs t j true v hg
          have hv':f j=.bool (@decide p dp):=hv
          have e:(if @decide p dp=true then Wk.ev f (.tmp t) else Wk.ev f (.const (.bool false)))=.bool (decide (p/\q)):=by
           by_cases hpp:p
           . rw [if_pos (by simp [hpp])]
             have hr:=hgs.1 (by simp_all)
             show f t=_
             rw [hr.boolv hq]; simp [hpp]
           . rw [if_neg (by simp [hpp])]
             show Value.bool false=_
             simp [hpp]
          rw [e]; exact K _ .bl
        . cases h2
      . cases hp
    . rename_i t
      split at hp
      . rename_i j' b v hg
        have ⟨h1,h2⟩:=j3 hp
        simp only [Bool.and_eq_true,Bool.not_eq_true'] at h1
        obtain ⟨e1,e2⟩:=h1
        have e1:=Nat.eq_of_beq_eq_true e1
        subst e1; subst e2
        split at h2
        . rename_i q dq hq
          simp only [Option.some.injEq] at h2; subst h2
          have hgs:=h.gs t j false v hg
          have hv':f j=.bool (@decide p dp):=hv
          have e:(if @decide p dp=true then Wk.ev f (.const (.bool true)) else Wk.ev f (.tmp t))=.bool (decide (p ∨ q)):=by
           by_cases hpp:p
           . rw [if_pos (by simp [hpp])]
             show Value.bool true=_
             simp [hpp]
           . rw [if_neg (by simp [hpp])]
             have hr:=hgs.1 (by simp_all)
             show f t=_
             rw [hr.boolv hq]; simp [hpp]
          rw [e]; exact K _ .bl
        . cases h2
      . cases hp
    . cases hp
  . cases hp
 | _=>cases hp
theorem a7g {m:Bool} {ch:List (Nat×Bool)} {op:Op} {q:Q1 E.N} (h:Rel E C fx lkd st ρ Z f w) (hc:W8 f ch) (hs:stepG fx lkd st ch op=some q) (ho:q6 q.ob) (hn:Nat.blt d n=true) (K:KQ E m n ops Q rest f w d ρ Z q) :
  WL E.P m n ops Q (⟨some d,op,ty,pos,after,none⟩::rest) f w:=by
 unfold stepG at hs
 split at hs
 . rename_i v hp
   cases op with
   | pick c a b=>exact c5h h hc hp hn (fun v hv=>K.q0 hs hv)
   | _=>cases hp
 . exact c6j h.mem (fun o=>h.ev hc o) hs ho hn K
theorem Mem.join {new:i6 E.N} {nx':Nat} (hm:Mem E C ρ Z w its nx) (hρ:∀ i L,ρ i=some L->ρ' i=some L) (hfr:∀ i,nx'<=i->ρ' i=none) (hz:∀ b,Z b->Z' b) (hz':∀ b,Z' b->Z b ∨ w.heap.size<=b) (hs:Sep [] w Z' w' (o0 E.N E.T ρ' [] new)):Mem E C ρ' Z' w' (new++its) nx'/\Tn ρ Z w ρ' Z' w':=by
 have x:=hs.ext
 have hold:∀ {k:Nat} {p:Nat×Item E.N},its[k]?=some p->Go.Rx.holds E.N E.T ρ' p.1 Z' w' p.2/\(∀ b∈o8 E.N ρ' p.1 p.2,b∈o8 E.N ρ p.1 p.2):=fun {k p} hp=>by
  have h1:Go.Rx.holds E.N E.T ρ p.1 Z' w' p.2:=p7 (B0:=C.B0) Z Z' [] w w' (hm.holds hp) x (fun _ h=>by cases h) hz
  have h2:=J0 hρ h1
  simp_all
 have oldF:∀ {k:Nat} {p:Nat×Item E.N},its[k]?=some p->∀ b∈o8 E.N ρ p.1 p.2,b<w.heap.size/\¬ Z b/\(b∈C.B0 ∨ C.w0.heap.size<=b):=fun {k p} hp b hb=>by
  have ok:=hm.sep.ok k _ (l4 hp)
  exact ⟨ok.lt b hb,ok.notZ b hb,ok.org b hb⟩
 have newF:∀ {k:Nat} {p:Nat×Item E.N},new[k]?=some p->Go.Rx.holds E.N E.T ρ' p.1 Z' w' p.2/\∀ b∈o8 E.N ρ' p.1 p.2,b<w'.heap.size/\¬ Z' b/\w.heap.size<=b:=fun {k p} hp=>by
  have ok:=hs.ok k _ (l4 hp)
  exact ⟨ok.holds,fun b hb=>⟨ok.lt b hb,ok.notZ b hb,by
   rcases ok.org b hb with h | h
   . cases h
   . exact h⟩⟩
 have w0le:=hm.sep.ext.size
 refine ⟨⟨⟨hm.sep.ext.trans x (fun b hb=>.inl hb) (fun b hb=>by cases hb),hs.zlt,fun k t hk=>?_,fun j k s t hj hk hne b hb hb'=>?_⟩,hfr,fun i L e=>hρ _ _ (hm.ge i L e),fun b h=>hz b (hm.zge b h),fun b h=>?_⟩,⟨hρ,fun b h _=>hz b h,[],x,fun _ h=>by cases h⟩⟩
 . obtain ⟨p,hp,rfl⟩:=m9 hk
   by_cases hlt:k<new.length
   . rw [List.getElem?_append_left hlt] at hp
     obtain ⟨h1,h2⟩:=newF hp
     exact ⟨h1,p7,fun b hb=>(h2 b hb).1,fun b hb=>(h2 b hb).2.1,fun b hb=>.inr (by have:=(h2 b hb).2.2; omega),fun b hb=>hb⟩
   . rw [List.getElem?_append_right (by omega)] at hp
     obtain ⟨h1,h2⟩:=hold hp
     exact ⟨h1,p7,fun b hb=>by have:=(oldF hp b (h2 b hb)).1; have:=x.size; omega,fun b hb hZ=>by
      have o:=oldF hp b (h2 b hb)
      grind,fun b hb=>(oldF hp b (h2 b hb)).2.2,fun b hb=>hb⟩
 . obtain ⟨p,hp,rfl⟩:=m9 hj
   obtain ⟨q,hq,rfl⟩:=m9 hk
   have hb:b∈o8 E.N ρ' p.1 p.2:=hb
   have hb':b∈o8 E.N ρ' q.1 q.2:=hb'
   by_cases h1:j<new.length
   . rw [List.getElem?_append_left h1] at hp
     by_cases h2:k<new.length
     . rw [List.getElem?_append_left h2] at hq
       exact hs.apart j k _ _ (l4 hp) (l4 hq) hne b hb hb'
     grind
   . rw [List.getElem?_append_right (by omega)] at hp
     by_cases h2:k<new.length
     . grind
     . rw [List.getElem?_append_right (by omega)] at hq
       exact hm.sep.apart _ _ _ _ (l4 hp) (l4 hq) (by omega) b ((hold hp).2 b hb) ((hold hq).2 b hb')
 . rcases hz' b h with h | h
   . exact hm.zle b h
   omega
theorem b04 {e:Operand->E.SV} (he:∀ o,Rep E.N E.T ρ Z w (Wk.ev f o) (e o)):∀ (l:List Operand),Rep E.N E.T ρ Z w (.tuple (l.map (Wk.ev f)).toArray) (.tup (l.map e))
 | []=>.tup0
 | o::l=>.tup1 (he o) (b04 he l)
theorem d3l {cs c2:List Value} {ss s2:List E.SV} (h:Rep E.N E.T ρ Z w (.tuple cs.toArray) (.tup ss)) (h2:i7 E.N E.T ρ Z w c2 s2):Rep E.N E.T ρ Z w (.tuple (cs++c2).toArray) (.tup (ss++s2)):=by
 induction ss generalizing cs with
 | nil =>
  have:cs=[]:=by
   generalize e:Value.tuple cs.toArray=u at h
   cases h with
   | tup0=>simpa using e
  subst this
  show Rep E.N E.T ρ Z w (.tuple c2.toArray) (.tup s2)
  clear h
  induction s2 generalizing c2 with
  | nil=>have:=i7.nil_inv h2; subst this; exact .tup0
  | cons s r ih=>obtain ⟨v,rr,rfl,h1,_,h3⟩:=i7.cons_inv h2; exact .tup1 h1 (ih h3)
 | cons s ss ih=>obtain ⟨v,r,rfl,h1,h3⟩:=Rep.tup_cons h; exact .tup1 h1 (ih h3)
theorem a0r {e:Operand->E.SV} (he:∀ o,Rep E.N E.T ρ Z w (Wk.ev f o) (e o)) {c:Call} {K:Nat} {args:List E.SV} (h:callee e c=some (K,args)):∃ z xs Ts cap,c=⟨.value z,xs,Ts⟩/\Wk.ev f z=.func (.func K) #[] cap/\Rep E.N E.T ρ Z w (.tuple (xs.toList.map (Wk.ev f)++cap.toList).toArray) (.tup args):=by
 obtain ⟨cal,xs,Ts⟩:=c
 unfold callee at h
 cases cal with
 | value z =>
  simp only at h
  have hz:=he z
  generalize hv:Wk.ev f z=vz at hz
  split at h
  . rename_i K' hk
    simp only [Option.some.injEq,Prod.mk.injEq] at h
    obtain ⟨rfl,rfl⟩:=h
    rw [hk] at hz
    cases hz with
    | fn=>exact ⟨z,xs,Ts,#[],rfl,hv,by simpa using b04 he xs.toList⟩
  . rename_i K' cs hk
    simp only [Option.some.injEq,Prod.mk.injEq] at h
    obtain ⟨rfl,rfl⟩:=h
    rw [hk] at hz
    cases hz with
    | clo hr=>exact ⟨z,xs,Ts,_,rfl,hv,d3l (b04 he xs.toList) hr⟩
  . cases h
 | _=>cases h
theorem N8 {z:Operand} {xs:Array Operand} {Ts:Array TypeId} {cap:Array Value} {K0:Nat} {d:Option Nat} {R:Value->World->Prop} (hv:Wk.ev f z=.func (.func K0) #[] cap) (hK:∀ ars w,(callFunc K0 ars).run E.P w=.ok (.enter K0 ars) w)
  (hc:D4 E.P K0 (xs.toList.map (Wk.ev f)++cap.toList) w R) (hn:∀ d',d=some d'->Nat.blt d' n=true) (K:∀ v w',R v w'->WL E.P false n ops Q rest (J1 f d v) w'):WL E.P false n ops Q (⟨d,.call ⟨.value z,xs,Ts⟩,ty,pos,after,none⟩::rest) f w:=by
 have key:∀ w1,Sim w w1->(execOp (Wk.ev f) ⟨d,.call ⟨.value z,xs,Ts⟩,ty,pos,after,none⟩).run E.P w1=.ok (.enter K0 (xs.toList.map (Wk.ev f)++cap.toList).toArray) w1:=fun w1 _=>by
  have:xs.map (Wk.ev f)++cap=(xs.toList.map (Wk.ev f)++cap.toList).toArray:=by apply Array.ext'; simp
  simp [execOp,resolve,Deferred.ofValue,invoke,hv,go_sem,hK,<- this]
 cases d with
 | none=>exact c1x rfl rfl key hc K
 | some d=>exact c5t rfl rfl (hn d rfl) key hc K
theorem b4p {e:Operand->E.SV} (he:∀ o,Rep E.N E.T ρ Z w (Wk.ev f o) (e o)) {c:Call} {id:Nat} {args:List E.SV} (h:b15 e c=some (id,args)):∃ z xs Ts L,c=⟨.value z,xs,Ts⟩/\Wk.ev f z=.func (.yield L.b) #[] #[]/\ρ id=some L/\Rep E.N E.T ρ Z w (.tuple (xs.toList.map (Wk.ev f)).toArray) (.tup args):=by
 obtain ⟨cal,xs,Ts⟩:=c
 unfold b15 at h
 cases cal with
 | value z =>
  simp only at h
  have hz:=he z
  generalize hv:Wk.ev f z=vz at hz
  split at h
  . rename_i id' hk
    simp only [Option.some.injEq,Prod.mk.injEq] at h
    obtain ⟨rfl,rfl⟩:=h
    rw [hk] at hz
    cases hz with
    | yld hL=>exact ⟨z,xs,Ts,_,rfl,hv,hL,b04 he xs.toList⟩
  . cases h
 | _=>cases h
theorem d0k {z:Operand} {xs:Array Operand} {Ts:Array TypeId} {b:Nat} {d:Nat} {R:Value->World->Prop} (hv:Wk.ev f z=.func (.yield b) #[] #[])
  (hc:T5 E.P b (xs.toList.map (Wk.ev f)) w R) (hn:Nat.blt d n=true) (K:∀ v w',R v w'->WL E.P false n ops Q rest (upd f d v) w'):WL E.P false n ops Q (⟨some d,.call ⟨.value z,xs,Ts⟩,ty,pos,after,none⟩::rest) f w:=by
 refine c5n rfl rfl hn (fun w1=>?_) hc K
 have:xs.map (Wk.ev f)=(xs.toList.map (Wk.ev f)).toArray:=by apply Array.ext'; simp
 simp [execOp,resolve,Deferred.ofValue,invoke,hv,go_sem,<- this]
theorem a95 {v:Value} {s:E.SV} (hp:B3 s=true) (h:Rep E.N E.T ρ Z w v s) (ρ':n9):Rep E.N E.T ρ' Z w v s:=by
 have one:∀ {v:Value} {s:E.SV},(match s with | .int _ _=>true | .byte _=>true | .tt=>true | .ff=>true | .bl _ _=>true | .str _=>true | .con _=>true | .nils=>true | .sl _ _=>true | .err _=>true | .fn _=>true | _=>false)=true->Rep E.N E.T ρ Z w v s->Rep E.N E.T ρ' Z w v s:=fun {v s} hp h=>by
  cases h with
  | int h=>exact .int h
  | byte=>exact .byte
  | tt=>exact .tt
  | ff=>exact .ff
  | bl=>exact .bl
  | str h=>exact .str h
  | con h=>exact .con h
  | nils=>exact .nils
  | sl h=>exact .sl h
  | err h=>exact .err h
  | fn=>exact .fn
  | _=>cases hp
 cases s with
 | agg vs =>
  have ⟨cs,e,h2⟩:=Rep.agg_inv h
  subst e
  clear h
  rename i7 E.N E.T ρ Z w cs vs=>h
  simp only [B3] at hp
  show i7 E.N E.T ρ' Z w cs vs
  induction vs generalizing cs with
  | nil=>have:=i7.nil_inv h; subst this; exact i7.nil
  | cons s r ih =>
   obtain ⟨u,rr,rfl,h1,hpl,h2⟩:=i7.cons_inv h
   simp only [List.all_cons,Bool.and_eq_true] at hp
   refine Rep.agg1 (one ?_ h1) hpl (ih hp.2 rr h2)
   grind
 | un=>cases hp
 | undef=>cases hp
 | ref=>cases hp
 | acc=>cases hp
 | el=>cases hp
 | fel t l i off=>cases h with | fel h a b=>exact .fel h a b
 | sub=>cases hp
 | tup=>cases hp
 | ifc=>cases hp
 | clo=>cases hp
 | yld=>cases hp
 | _=>exact one rfl h
theorem E6 {cs:List Value} {ss:List E.SV} (hp:ss.all B3=true) (h:Rep E.N E.T ρ Z w (.tuple cs.toArray) (.tup ss)) (ρ':n9):Rep E.N E.T ρ' Z w (.tuple cs.toArray) (.tup ss):=by
 induction ss generalizing cs with
 | nil =>
  generalize e:Value.tuple cs.toArray=u at h ⊢
  cases h with | tup0=>exact .tup0
 | cons s ss ih =>
  obtain ⟨v,r,rfl,h1,h2⟩:=Rep.tup_cons h
  simp only [List.all_cons,Bool.and_eq_true] at hp
  exact .tup1 (a95 hp.1 h1 ρ') (ih hp.2 h2)
def seen (Z:Nat->Prop) (w:World) (F:List Nat):Nat->Prop:=fun b=>b<w.heap.size/\b ∉ F
theorem a4m {F:List Nat} {cs:List Value} {ss:List E.SV} (hm:Mem E C ρ Z w its nx) (hF:∀ b∈F,¬ Z b) (hA:∀ id t l,lk its id=some (.ac t l)->∀ b∈o8 E.N ρ id (.ac t l),b ∉ F) (h:Rep E.N E.T ρ Z w (.tuple cs.toArray) (.tup ss)):Rep E.N E.T ρ (seen Z w F) w (.tuple cs.toArray) (.tup (ss.map (V3 its))):=by
 have hZ:∀ b,Z b->b<w.heap.size->seen Z w F b:=fun b hz hb=>⟨hb,fun hm=>hF b hm hz⟩
 have up:∀ {v:Value} {s:E.SV},Rep E.N E.T ρ Z w v s->Rep E.N E.T ρ (seen Z w F) w v s:=fun h=>h.stab (Ext.refl [] w) (fun _ h=>by cases h) hZ (fun _ _ h=>h)
 have one:∀ {v:Value} {s:E.SV},Rep E.N E.T ρ Z w v s->Rep E.N E.T ρ (seen Z w F) w v (a7x its s):=fun {v s} h1=>by
  cases s with
  | acc id =>
   simp only [a7x]
   split
   . rename_i t l hi
     obtain ⟨L,hL,hn,hl,hac⟩:=hm.at hi
     cases h1 with
     | acc hL' =>
      rw [hL] at hL'; cases hL'
      have hrd:=Ac.rd hac hl
      refine .sl (Rd.weak _ hrd fun b hb hlt=>?_)
      rcases hb with h | h
      . simp_all
      . exact ⟨hlt,hA id t l hi b (by rw [q7 hL]; exact h)⟩
   simp_all
  | sub id t lo n =>
   simp only [a7x]
   split
   . rename_i t' l hi
     cases hb:Nat.beq t t' with
     | false=>simp_all
     | true =>
      rw [cond_true]
      have e:=Nat.eq_of_beq_eq_true hb
      subst e
      obtain ⟨L,hL,hn,hl,hac⟩:=hm.at hi
      cases h1 with
      | subs hL' l0 n0 l1 hc hA' =>
       rw [hL] at hL'; cases hL'
       have hrd:=Ac.rd hac hl
       rw [hn] at hrd
       have hs:=a6r (a:=lo.toNat) (b:=lo.toNat+n.toNat) hrd (by omega) (by omega)
       rw [Nat.add_sub_cancel_left] at hs
       rw [hc,hA']
       refine .sl (Rd.weak _ hs fun b hb hlt=>?_)
       rcases hb with h | h
       . simp_all
       . exact ⟨hlt,hA id t l hi b (by rw [q7 hL]; exact h)⟩
   simp_all
  | _=>exact up h1
 have many:∀ {vs:List E.SV} {us:List Value},i7 E.N E.T ρ Z w us vs->i7 E.N E.T ρ (seen Z w F) w us (vs.map (a7x its)):=fun {vs}=>by
  induction vs with
  | nil=>intro us h; obtain rfl:=i7.nil_inv h; exact i7.nil
  | cons s vs ih=>intro us h; obtain ⟨v,r,rfl,h1,hp,h2⟩:=i7.cons_inv h; exact i7.cons (one h1) hp (ih h2)
 induction ss generalizing cs with
 | nil =>
  simp_all
 | cons s ss ih =>
  obtain ⟨v,r,rfl,h1,h2⟩:=Rep.tup_cons h
  refine .tup1 ?_ (ih h2)
  cases s with
  | agg vs =>
   obtain ⟨us,rfl,hr⟩:=Rep.agg_inv h1
   exact many hr
  | _=>exact one h1
end
end Go.Rx
end
section
namespace Go.Rx
open Go Go.Wk Go.Wl
theorem Sep.sel2 {B0:List Nat} {w0 w:World} {Z:Nat->Prop} {l l':List It} (hs:Sep B0 w0 Z w l) (φ:Nat->Option Nat) (inj:∀ i j a,i<l'.length->j<l'.length->φ i=some a->φ j=some a->i=j)
  (h:∀ (i:Nat) (t':It),l'[i]?=some t'->(∃ k t,φ i=some k/\l[k]?=some t/\b6u B0 Z w t t') ∨ (t'.P Z w/\t'.Stab/\t'.F=[]/\t'.O=B0)):Sep B0 w0 Z w l':=by
 refine ⟨hs.ext,hs.zlt,fun i t' hi=>?_,fun i j s t hi hj hne b hb hb'=>?_⟩
 . rcases h i t' hi with ⟨k,t,_,ht,lk⟩ | ⟨h1,h2,h3,h4⟩
   . have ok:=hs.ok _ t ht
     exact ⟨lk.P,lk.stab,fun b hb=>ok.lt b (lk.F b hb),fun b hb=>ok.notZ b (lk.F b hb),fun b hb=>by
      rw [lk.O]
      rcases ok.org b (lk.F b hb) with h | h
      . exact .inl (ok.org0 b h)
      omega,fun b hb=>by rw [lk.O] at hb; exact hb⟩
   . exact ⟨h1,h2,fun b hb=>(by simp_all),fun b hb=>(by simp_all),fun b hb=>(by simp_all),fun b hb=>by simp_all⟩
 . rcases h i s hi with ⟨k,s1,e1,hs1,lk1⟩ | ⟨_,_,h3,_⟩
   . rcases h j t hj with ⟨k2,t1,e2,ht1,lk2⟩ | ⟨_,_,h3,_⟩
     . exact hs.apart k k2 s1 t1 hs1 ht1 (fun e=>hne (inj i j k (s6 hi) (s6 hj) e1 (by simp_all))) b (lk1.F b hb) (lk2.F b hb')
     simp_all
   simp_all
def b6l {β:Type}:List (Nat×β)->Nat->Nat
 | [],_=>0
 | p::r,j=>bif Nat.beq p.1 j then 0 else b6l r j+1
theorem a27 {β:Type} {l:List (Nat×β)} {j:Nat} {x:β} (h:lk l j=some x):l[b6l l j]?=some (j,x):=by
 induction l with
 | nil=>cases h
 | cons p r ih =>
  unfold lk at h; unfold b6l
  cases hb:Nat.beq p.1 j with
  | true=>rw [hb,cond_true] at h; cases h; have:=Nat.eq_of_beq_eq_true hb; grind
  | false=>simp_all
section
variable {E:Env} {C:Ctx} {f:Fr} {w:World}
variable {ρb ρ ρ2 ρ3:n9} {Z Zb:Nat->Prop} {wb:World} {its lkd:i6 E.N} {nx:Nat}
theorem a41 {id:Nat} {i:Item E.N} (h:holds E.N E.T ρ id Z w i) (hb:holds E.N E.T ρb id Zb wb i) (hρ:∀ i L,ρb i=some L->ρ i=some L):holds E.N E.T ρb id Z w i/\o8 E.N ρb id i=o8 E.N ρ id i:=by
 cases i with
 | own Ty cells =>
  obtain ⟨L,cs,hL,hbs,ho,hr⟩:=h
  obtain ⟨L',cs',hL',_,_,hr'⟩:=hb
  have:=hρ _ _ hL'; rw [hL] at this; cases this
  exact ⟨⟨L,cs,hL',hbs,ho,Rep.lower hr hr' hρ⟩,by rw [p6 hL,p6 hL']⟩
 | ac t l =>
  obtain ⟨L,hL,r⟩:=h
  obtain ⟨L',hL',_⟩:=hb
  have:=hρ _ _ hL'; rw [hL] at this; cases this
  exact ⟨⟨L,hL',r⟩,by rw [q7 hL,q7 hL']⟩
 | fz t l =>
  obtain ⟨L,hL,r⟩:=h
  obtain ⟨L',hL',_⟩:=hb
  have:=hρ _ _ hL'; rw [hL] at this; cases this
  exact ⟨⟨L,hL',r⟩,rfl⟩
 | ob k fid x =>
  obtain ⟨L,Lf,hL,hf,r⟩:=h
  obtain ⟨L',Lf',hL',hf',_⟩:=hb
  have:=hρ _ _ hL'; rw [hL] at this; cases this
  have:=hρ _ _ hf'; rw [hf] at this; cases this
  exact ⟨⟨L,Lf,hL',hf',r⟩,by rw [A7 hf,A7 hf']⟩
 | rw t n cells =>
  obtain ⟨L,F,hL,hn,hb',hA,hr,hrep⟩:=h
  obtain ⟨L',F',hL',_,_,_,_,hrep'⟩:=hb
  have:=hρ _ _ hL'; rw [hL] at this; cases this
  exact ⟨⟨L,F,hL',hn,hb',hA,hr,Rep.lower hrep hrep' hρ⟩,by rw [B7 hL,B7 hL']⟩
theorem Ac.takeN {α:Type} {r:Rd α} {Z:Nat->Prop} {w:World} {A:Option Addr} {nn cap k:Nat} {l:List α} {bs:List Nat} (h:Ac r Z w (.slice A nn cap) l bs) (hk:k<=nn):Ac r Z w (.slice A k cap) (l.take k) bs:=by
 have hl:l.length=nn:=Ac.n h
 rcases h with ⟨e,rfl,rfl⟩ | ⟨b,cap',C,T,hv,rfl,ho,hC,hle,hc⟩
 . simp only [Value.slice.injEq] at e
   obtain ⟨rfl,rfl,rfl⟩:=e
   have:k=0:=by omega
   subst this; exact .inl ⟨rfl,rfl,rfl⟩
 . simp only [Value.slice.injEq] at hv
   obtain ⟨rfl,_,rfl⟩:=hv
   refine .inr ⟨b,cap,C,T,by grind,rfl,ho,hC,by grind,fun i hi=>?_⟩
   have hi':i<l.length:=by rw [List.length_take] at hi; omega
   grind
def Tgt (E:Env) (B0:List Nat) (ρ:n9) (Z:Nat->Prop) (w:World) (its:i6 E.N) (ρ2:n9) (o:Option Nat) (p:Nat×Item E.N):Prop:=match o with
 | some sid=>∃ it,lk its sid=some it/\holds E.N E.T ρ2 p.1 Z w p.2/\∀ b∈o8 E.N ρ2 p.1 p.2,b∈o8 E.N ρ sid it
 | none=>holds E.N E.T ρ2 p.1 Z w p.2/\o8 E.N ρ2 p.1 p.2=[]
inductive M1 (E:Env) (B0:List Nat) (ρ:n9) (Z:Nat->Prop) (w:World) (its:i6 E.N) (ρ2:n9):List (Option Nat)->i6 E.N->Prop
 | nil:M1 E B0 ρ Z w its ρ2 [] []
 | cons {o:Option Nat} {p:Nat×Item E.N} {os:List (Option Nat)} {ps:i6 E.N}:Tgt E B0 ρ Z w its ρ2 o p->M1 E B0 ρ Z w its ρ2 os ps->M1 E B0 ρ Z w its ρ2 (o::os) (p::ps)
theorem Tgt.mono {B0:List Nat} {o:Option Nat} {p:Nat×Item E.N} (hρ:∀ i L,ρ2 i=some L->ρ3 i=some L) (h:Tgt E B0 ρ Z w its ρ2 o p):Tgt E B0 ρ Z w its ρ3 o p:=by
 cases o with
 | some sid=>obtain ⟨it,h1,h2,h3⟩:=h; have:=J0 hρ h2; exact ⟨it,h1,this.1,fun b hb=>h3 b (by simp_all)⟩
 | none=>obtain ⟨h1,h2⟩:=h; have:=J0 hρ h1; exact ⟨this.1,by simp_all⟩
theorem M1.mono {B0:List Nat} {os:List (Option Nat)} {ps:i6 E.N} (hρ:∀ i L,ρ2 i=some L->ρ3 i=some L) (h:M1 E B0 ρ Z w its ρ2 os ps):M1 E B0 ρ Z w its ρ3 os ps:=by
 induction h with
 | nil=>exact .nil
 | cons h _ ih=>exact .cons (h.mono hρ) ih
theorem M1.get {B0:List Nat} {os:List (Option Nat)} {ps:i6 E.N} (h:M1 E B0 ρ Z w its ρ2 os ps):os.length=ps.length/\∀ (i:Nat) (p:Nat×Item E.N),ps[i]?=some p->∃ o,os[i]?=some o/\Tgt E B0 ρ Z w its ρ2 o p:=by
 induction h with
 | nil=>simp_all
 | cons h _ ih =>
  grind
theorem b59 {os:List (Option Nat)} (h:(os.filterMap id).Nodup):∀ (i j sid:Nat),os[i]?=some (some sid)->os[j]?=some (some sid)->i=j:=by
 induction os with
 | nil=>simp_all
 | cons o r ih =>
  grind
theorem Mem.rebuild {os:List (Option Nat)} {new:i6 E.N} {n2:Nat} (hm:Mem E C ρ Z w (its++lkd) nx) (hl:∀ p∈lkd,Go.Rx.holds E.N E.T ρ2 p.1 Z w p.2/\o8 E.N ρ2 p.1 p.2=o8 E.N ρ p.1 p.2) (ht:M1 E C.B0 ρ Z w its ρ2 os new) (hd:(os.filterMap id).Nodup) (hfr:∀ i,n2<=i->ρ2 i=none) (hge:∀ i L,C.ρ0 i=some L->ρ2 i=some L):Mem E C ρ2 Z w (new++lkd) n2:=by
 obtain ⟨hlen,hget⟩:=ht.get
 refine ⟨Sep.sel2 hm.sep (fun i=>if i<new.length then (match os[i]? with | some (some sid)=>some (b6l its sid) | _=>none) else some (its.length+(i-new.length))) (fun i j a hi hj e1 e2=>?_) fun i t' hi=>?_,hfr,hge,hm.zge,hm.zle⟩
 . have small:∀ i,i<new.length->(match os[i]? with | some (some sid)=>some (b6l its sid) | _=>none)=some a->∃ sid,os[i]?=some (some sid)/\b6l its sid=a/\a<its.length/\∃ it,its[a]?=some (sid,it):=fun i hi e=>by
     split at e
     . rename_i sid hs
       cases e
       obtain ⟨o,ho,htg⟩:=hget i _ (List.getElem?_eq_getElem hi)
       rw [hs] at ho; cases ho
       obtain ⟨it,h1,_⟩:=htg
       exact ⟨sid,hs,rfl,s6 (a27 h1),it,a27 h1⟩
     . cases e
   by_cases h1:i<new.length
   . rw [if_pos h1] at e1
     obtain ⟨s1,a1,b1,c1,it1,d1⟩:=small i h1 e1
     by_cases h2:j<new.length
     . rw [if_pos h2] at e2
       obtain ⟨s2,a2,b2,c2,it2,d2⟩:=small j h2 e2
       rw [d1] at d2; cases d2
       exact b59 hd i j s1 a1 a2
     grind
   grind
 . obtain ⟨p,hp,rfl⟩:=m9 hi
   by_cases h1:i<new.length
   . rw [List.getElem?_append_left h1] at hp
     obtain ⟨o,ho,htg⟩:=hget i p hp
     simp only [if_pos h1,ho]
     cases o with
     | some sid =>
      obtain ⟨it,a1,a2,a3⟩:=htg
      exact .inl ⟨_,_,rfl,l4 (l8 (a27 a1)),a2,p7,a3,rfl⟩
     | none=>exact .inr ⟨htg.1,p7,htg.2,rfl⟩
   . rw [List.getElem?_append_right (by omega)] at hp
     simp only [if_neg h1]
     have hq:(its++lkd)[its.length+(i-new.length)]?=some p:=by rw [List.getElem?_append_right (by omega)]; simpa using hp
     obtain ⟨a1,a2⟩:=hl p (List.mem_of_getElem? hp)
     exact .inl ⟨_,_,rfl,l4 hq,a1,p7,fun b hb=>by have hb:b∈o8 E.N ρ2 p.1 p.2:=hb; rw [a2] at hb; exact hb,rfl⟩
theorem w9 {ρ1 ρ2 ρ3:n9} (h:∀ i L,ρ1 i=some L->ρ2 i=some L) (k:∀ i L,ρ2 i=some L->ρ3 i=some L):∀ i L,ρ1 i=some L->ρ3 i=some L:=fun i L e=>k _ _ (h _ _ e)
theorem M9 {k:VK} {v:E.SV} {u:Value} {x:k.den E.N} {n2:Nat} {os:List (Option Nat)} {new:i6 E.N} (hm:Mem E C ρ Z w (its++lkd) nx) (hu:Rep E.N E.T ρ Z w u v) (h:rb1 E its k v=some x) (hfr:∀ i,n2<=i->ρ2 i=none) (ht:M1 E C.B0 ρ Z w its ρ2 os new) :
  ∃ ρ3 os',M1 E C.B0 ρ Z w its ρ3 os' ((fl1 E n2 k x).2.1++new)/\(∀ i,(fl1 E n2 k x).2.2<=i->ρ3 i=none)/\(∀ i L,ρ2 i=some L->ρ3 i=some L)/\Rep E.N E.T ρ3 Z w u (fl1 E n2 k x).1/\os'.filterMap id=K7 k v++os.filterMap id:=by
 have same:K7 k v=[]->(fl1 E n2 k x).2.1=[]->(fl1 E n2 k x).2.2=n2->Rep E.N E.T ρ2 Z w u (fl1 E n2 k x).1->∃ ρ3 os',M1 E C.B0 ρ Z w its ρ3 os' ((fl1 E n2 k x).2.1++new)/\(∀ i,(fl1 E n2 k x).2.2<=i->ρ3 i=none)/\(∀ i L,ρ2 i=some L->ρ3 i=some L)/\Rep E.N E.T ρ3 Z w u (fl1 E n2 k x).1/\os'.filterMap id=K7 k v++os.filterMap id:=fun e0 e1 e2 hr=>⟨ρ2,os,by simp_all,by simp_all,fun _ _ h=>h,hr,by rw [e0]; rfl⟩
 cases k with
 | int k =>
  cases v with
  | int k' y =>
   simp only [rb1] at h
   split at h
   . rename_i e; subst e
     cases h
     cases hu with
     | int hi=>exact same rfl rfl rfl (.int hi)
   . cases h
  | _=>cases h
 | byte =>
  cases v with
  | byte y=>cases h; cases hu; exact same rfl rfl rfl .byte
  | _=>cases h
 | bool =>
  have hb:∀ y:Bool,Value.bool y=.bool (@decide (y=true) inferInstance):=fun y=>by simp_all
  cases v with
  | tt=>cases h; cases hu; refine same rfl rfl rfl ?_; rw [hb true]; exact .bl
  | ff=>cases h; cases hu; refine same rfl rfl rfl ?_; rw [hb false]; exact .bl
  | bl p d =>
   cases h
   have he:u=.bool (@decide p d):=by cases hu; rfl
   refine same rfl rfl rfl ?_
   rw [he,hb (@decide p d)]; exact .bl
  | _=>cases h
 | str =>
  cases v with
  | str y=>cases h; cases hu with | str hl=>exact same rfl rfl rfl (.str hl)
  | _=>cases h
 | err =>
  cases v with
  | err y=>cases h; cases hu with | err he=>exact same rfl rfl rfl (.err he)
  | _=>cases h
 | sl t =>
  simp only [rb1] at h
  have hu':Rep E.N E.T ρ Z w u (nrm its v):=by
   cases v with
   | acc id =>
    simp only [nrm]
    split
    . rename_i t l hi
      obtain ⟨j,hj,_⟩:=p8 hi
      obtain ⟨L,hL,hn,hr⟩:=hm.holds (l8 hj)
      cases hu with
      | acc hL'=>have hL:ρ id=some L:=hL; rw [hL] at hL'; cases hL'; exact .sl hr
    . exact hu
   | _=>exact hu
  exact same (by unfold K7; rfl) rfl rfl (.sl (c2y hu' h))
 | nilp =>
  cases v with
  | con u' =>
   simp only [rb1] at h
   split at h
   . split at h
     . cases hu; exact same rfl rfl rfl (.con rfl)
     . cases h
   . cases h
  | _=>cases h
 | val t =>
  cases v with
  | agg vs =>
   simp only [rb1] at h
   split at h
   . rename_i y hy
     obtain ⟨cs,rfl,hr⟩:=Rep.agg_inv hu
     have hrd:=y.bk_ok (s:=.agg vs) hr h
     have hsv:=y.sv_ok (ρ:=ρ2) hrd
     refine same rfl rfl rfl ?_
     simp only [fl1,hy]
     split
     . rename_i ls hls; rw [hls] at hsv; exact hsv
     . exact .un
   . cases h
  | _=>cases h
 | acc t =>
  have hn:=hfr n2 (Nat.le_refl _)
  cases v with
  | nils =>
   cases h
   cases hu
   refine ⟨C8 ρ2 n2 ⟨0,none,0,0,[]⟩,none::os,.cons ⟨⟨_,l5,rfl,by simp,Ac.nil⟩,by rw [q7 l5]⟩ (ht.mono (z7 hn)),fun i hi=>?_,z7 hn,.acc l5,rfl⟩
   have hi:n2+1<=i:=hi
   unfold C8; grind
  | acc id =>
   simp only [rb1] at h
   split at h
   . rename_i t' l hi
     split at h
     . rename_i e; subst e
       cases h
       obtain ⟨j,hj,_⟩:=p8 hi
       obtain ⟨L,hL,r⟩:=hm.holds (l8 hj)
       have hL:ρ id=some L:=hL
       cases hu with
       | acc hL' =>
        rw [hL] at hL'; cases hL'
        refine ⟨C8 ρ2 n2 L,some id::os,.cons ⟨_,hi,⟨L,l5,r⟩,fun b hb=>by rw [q7 l5] at hb; rw [q7 hL]; exact hb⟩ (ht.mono (z7 hn)),fun i hi=>?_,z7 hn,.acc l5,rfl⟩
        have hi:n2+1<=i:=hi
        unfold C8; grind
     . cases h
   . cases h
  | sub id t2 lo nn =>
   simp only [rb1] at h
   split at h
   . split at h
     . rename_i t' l hi
       split at h
       . rename_i e; subst e
         have ⟨hb,h2⟩:=j3 h
         clear h
         simp only [Bool.and_eq_true] at hb
         obtain ⟨e2,hel⟩:=hb
         have e2:=Nat.eq_of_beq_eq_true e2
         subst e2
         cases h2
         obtain ⟨j,hj,_⟩:=p8 hi
         obtain ⟨L,hL,hn1,hlen,hac⟩:=hm.holds (l8 hj)
         have hL:ρ id=some L:=hL
         cases hu with
         | subs hL' l0 n0 l1 hc hA =>
          rw [hL] at hL'; cases hL'
          have hnl:nn.toNat<=l.length:=by have l1:(0:Int)+nn<=L.n:=l1; omega
          have hact:=Ac.takeN (k:=nn.toNat) hac (by omega)
          have e0:(Int.ofNat 0).toNat=0:=rfl
          rw [e0,Nat.zero_mul] at hA
          rw [e0,Nat.sub_zero] at hc
          have hA2:_=L.A:=hA.trans (by
           split
           . rfl
           . cases hLA:L.A with
             | none=>rfl
             | some a=>show some (a.add 0)=some a; obtain ⟨ab,ao,asp⟩:=a; rfl)
          rw [hc,hA2]
          have hl2:(O5 rfl l:List (E.N.U t2)).take nn.toNat=l.take nn.toNat:=rfl
          refine ⟨C8 ρ2 n2 ⟨L.b,L.A,nn.toNat,L.cap,L.bs⟩,some id::os,.cons ⟨_,hi,⟨_,l5,by simp_all,by grind,hact⟩,fun b hb=>by rw [q7 l5] at hb; rw [q7 hL]; exact hb⟩ (ht.mono (z7 hn)),fun i hi=>?_,z7 hn,.acc l5,rfl⟩
          have hi:n2+1<=i:=hi
          unfold C8; grind
       . cases h
     . cases h
   . cases h
  | _=>cases h
end
end Go.Rx
end
section
namespace Go.Rx
open Go Go.Wk Go.Wl
section
variable {E:Env} {C:Ctx} {f:Fr} {w:World}
variable {ρb ρ ρ2 ρ3:n9} {Z Zb:Nat->Prop} {wb:World} {its lkd:i6 E.N} {nx:Nat} {fx fx':m6 E.N} {st st':E.St}
theorem a35 (ks:List VK) (vs:List E.SV):((ks.zip vs).filterMap F8)=(ks.zip vs).flatMap fun p=>K7 p.1 p.2:=by
 induction ks generalizing vs with
 | nil=>rfl
 | cons k ks ih =>
  cases vs with
  | nil=>rfl
  | cons v vs =>
   rw [List.zip_cons_cons,List.flatMap_cons,<- ih vs]
   cases k with
   | acc t=>cases v <;> rfl
   | _=>cases v <;> rfl
theorem X2 {α:Type} (hm:Mem E C ρ Z w (its++lkd) nx):∀ (ks:List VK) (vs:List E.SV) (cs:List Value) (g:D0 E.N α ks) (a:α) (n2:Nat) (new:i6 E.N) (acc:List E.SV) (ac:List Value) (ρ2:n9) (os:List (Option Nat)),
  i7 E.N E.T ρ Z w cs vs->B5 E its ks vs g=some a->(∀ i,n2<=i->ρ2 i=none)->M1 E C.B0 ρ Z w its ρ2 os new->i7 E.N E.T ρ2 Z w ac acc ->
  ∃ ρ3 os' n3 new' cells',M1 E C.B0 ρ Z w its ρ3 os' new'/\(∀ i,n3<=i->ρ3 i=none)/\(∀ i L,ρ2 i=some L->ρ3 i=some L)/\i7 E.N E.T ρ3 Z w (ac++cs) cells'/\(os'.filterMap id).Perm (((ks.zip vs).flatMap fun p=>K7 p.1 p.2)++os.filterMap id)/\∀ K,T8 E ks n2 new acc g K->K a n3 new' cells'
 | [],vs,cs,g,a,n2,new,acc,ac,ρ2,os,hr,h,hfr,ht,hac=>by
  cases vs with
  | nil =>
   cases h
   obtain rfl:=i7.nil_inv hr
   exact ⟨ρ2,os,n2,new,acc,ht,hfr,fun _ _ h=>h,by simp_all,List.Perm.refl _,fun K h=>h⟩
  | cons v vs=>cases h
 | k::ks,vs,cs,g,a,n2,new,acc,ac,ρ2,os,hr,h,hfr,ht,hac=>by
  cases vs with
  | nil=>cases h
  | cons v vs =>
   obtain ⟨u,r,rfl,hu,hp,hr⟩:=i7.cons_inv hr
   simp only [B5] at h
   split at h
   . rename_i x hx
     obtain ⟨ρ3,os1,t1,f1,s1,r1,o1⟩:=M9 hm hu hx hfr ht
     have hac1:i7 E.N E.T ρ3 Z w (ac++[u]) (acc++[(fl1 E n2 k x).1]):=i7.app (Rep.sub hac s1) (Rep.agg1 r1 hp Rep.agg0)
     obtain ⟨ρ4,os2,n4,new4,cells4,t2,f2,s2,r2,o2,k2⟩:=X2 hm ks vs r (g x) a _ _ _ _ ρ3 os1 hr h f1 t1 hac1
     refine ⟨ρ4,os2,n4,new4,cells4,t2,f2,w9 s1 s2,by simp_all,?_,fun K hK=>k2 K (hK x)⟩
     rw [List.zip_cons_cons,List.flatMap_cons]
     grind
   . cases h
theorem b1l {cs:List Value} {cells:List E.SV} {n:Nat} (h:i7 E.N E.T ρ Z w cs cells) (hn:cells.length=n+1):∃ c0 v,cs=c0++[v]/\i7 E.N E.T ρ Z w c0 (cells.take n)/\Rep E.N E.T ρ Z w v (a8o cells)/\w5 v=true/\c0.length=n:=by
 induction n generalizing cs cells with
 | zero =>
  match cells,hn with
  | [s],_ =>
   obtain ⟨v,r,rfl,h1,hp,hr⟩:=i7.cons_inv h
   obtain rfl:=i7.nil_inv hr
   exact ⟨[],v,rfl,i7.nil,h1,hp,rfl⟩
 | succ n ih =>
  match cells,hn with
  | s::t::r,hn =>
   obtain ⟨v,c,rfl,h1,hp,hr⟩:=i7.cons_inv h
   obtain ⟨c0,u,rfl,g1,g2,g3,g4⟩:=ih hr (by simp_all)
   exact ⟨v::c0,u,rfl,i7.cons h1 hp g1,g2,g3,by simp [g4]⟩
theorem b93 {T:Nat} {ks:List VK} {α:Type} (hm:Mem E C ρ Z w (its++lkd) nx):∀ (n:Nat) (v:Value) (sv:E.SV) (g:chD E.N α ks n) (a:α) (n2:Nat) (new:i6 E.N) (ρ2:n9) (os:List (Option Nat)),
  Rep E.N E.T ρ Z w v sv->c7i E its T ks n sv g=some a->(∀ i,n2<=i->ρ2 i=none)->M1 E C.B0 ρ Z w its ρ2 os new ->
  ∃ ρ3 os' n3 new' sv',M1 E C.B0 ρ Z w its ρ3 os' new'/\(∀ i,n3<=i->ρ3 i=none)/\(∀ i L,ρ2 i=some L->ρ3 i=some L)/\Rep E.N E.T ρ3 Z w v sv'/\w5 v=true/\(os'.filterMap id).Perm (a55 its ks n sv++os.filterMap id)/\∀ K,c51 E T ks n n2 new g K->K a n3 new' sv'
 | 0,v,sv,g,a,n2,new,ρ2,os,hr,h,hfr,ht=>by
  unfold c7i at h
  split at h
  . split at h
    . split at h
      . cases h
        cases hr
        exact ⟨ρ2,os,n2,new,_,ht,hfr,fun _ _ h=>h,.con rfl,rfl,List.Perm.refl _,fun K h=>h⟩
      . cases h
    . cases h
  . cases h
 | n+1,v,sv,g,a,n2,new,ρ2,os,hr,h,hfr,ht=>by
  unfold c7i at h
  split at h
  . rename_i id off
    have ⟨ho0,hh⟩:=j3 h
    clear h
    have h:=hh
    clear hh
    have ho0:=Nat.eq_of_beq_eq_true ho0
    subst ho0
    split at h
    . rename_i T' cells hi
      have ⟨hb,hh⟩:=j3 h
      clear h
      have h:=hh
      clear hh
      obtain ⟨hb1,hb2⟩:=(Bool.and_eq_true _ _).mp hb
      have hb1:=Nat.eq_of_beq_eq_true hb1
      have hb2:=Nat.eq_of_beq_eq_true hb2
      subst hb1
      split at h
      . rename_i g1 hc
        obtain ⟨j,hj,_⟩:=p8 hi
        obtain ⟨L,cs,hL,hbs,ho,hrep⟩:=hm.holds (l8 (l2:=lkd) hj)
        have hL:ρ id=some L:=hL
        cases hr with
        | ref hL' =>
         rw [hL] at hL'; cases hL'
         obtain ⟨c0,u,rfl,k1,k2,k3,k4⟩:=b1l hrep hb2
         have s0:=z7 (L:=L) (hfr n2 (Nat.le_refl _))
         obtain ⟨ρ3,os1,n3,new3,cells3,t1,f1,s1,r1,o1,q1⟩:=X2 hm ks (cells.take ks.length) c0 g g1 (n2+1) new [] [] (C8 ρ2 n2 L) os k1 hc (fun i hi=>by unfold C8; grind) (ht.mono s0) i7.nil
         obtain ⟨ρ4,os2,n4,new4,sv4,t2,f2,s2,r2,p2,o2,q2⟩:=b93 hm n u (a8o cells) g1 a n3 new3 ρ3 os1 k2 h f1 t1
         have hL4:ρ4 n2=some L:=s2 _ _ (s1 _ _ l5)
         have r1':i7 E.N E.T ρ3 Z w c0 cells3:=by simpa using r1
         refine ⟨ρ4,some id::os2,n4,(n2,.own T' (cells3++[sv4]))::new4,.ref n2 0,.cons ⟨_,hi,⟨L,c0++[u],hL4,hbs,ho,i7.app (Rep.sub r1' s2) (i7.cons r2 p2 i7.nil)⟩,fun b hb=>by rw [p6 hL4] at hb; rw [p6 hL]; exact hb⟩ t2,f2,w9 s0 (w9 s1 s2),.ref hL4,rfl,?_,fun K hK=>q2 _ (q1 _ hK)⟩
         have e:a55 its ks (n+1) (.ref id 0)=id::(((ks.zip (cells.take ks.length)).flatMap fun p=>K7 p.1 p.2)++a55 its ks n (a8o cells)):=by
          rw [<- a35]
          conv=>lhs; unfold a55
          simp only [hi]
         grind
      . cases h
    . cases h
  . cases h
theorem a4j {α:Type} {nm ids:List Nat} (hm:Mem E C ρ Z w (its++lkd) nx):∀ (ks:List TK) (vs:List E.SV) (cs:List Value) (g:tcD E.N α ks) (a:α) (n2:Nat) (new:i6 E.N) (acc:List E.SV) (ac:List Value) (ρ2:n9) (os:List (Option Nat)),
  i7 E.N E.T ρ Z w cs vs->b1j E its ids ks vs g=some a->(∀ i,n2<=i->ρ2 i=none)->M1 E C.B0 ρ Z w its ρ2 os new->i7 E.N E.T ρ2 Z w ac acc->(∀ j id,a0x ids j id=true->∃ L,ρ id=some L/\ρ2 (nm.getD j 0)=some L) ->
  ∃ ρ3 os' n3 new' cells',M1 E C.B0 ρ Z w its ρ3 os' new'/\(∀ i,n3<=i->ρ3 i=none)/\(∀ i L,ρ2 i=some L->ρ3 i=some L)/\i7 E.N E.T ρ3 Z w (ac++cs) cells'/\(os'.filterMap id).Perm (a3y ks vs++os.filterMap id)/\∀ K,a3x E nm ks n2 new acc g K->K a n3 new' cells'
 | [],vs,cs,g,a,n2,new,acc,ac,ρ2,os,hr,h,hfr,ht,hac,_=>by
  cases vs with
  | nil =>
   cases h
   obtain rfl:=i7.nil_inv hr
   exact ⟨ρ2,os,n2,new,acc,ht,hfr,fun _ _ h=>h,by simp_all,List.Perm.refl _,fun K h=>h⟩
  | cons v vs=>cases h
 | .v k::ks,vs,cs,g,a,n2,new,acc,ac,ρ2,os,hr,h,hfr,ht,hac,hH=>by
  cases vs with
  | nil=>cases h
  | cons v vs =>
   obtain ⟨u,r,rfl,hu,hp,hq⟩:=i7.cons_inv hr
   simp only [b1j] at h
   split at h
   . rename_i x hx
     obtain ⟨ρ3,os1,t1,f1,s1,r1,o1⟩:=M9 hm hu hx hfr ht
     have hac1:i7 E.N E.T ρ3 Z w (ac++[u]) (acc++[(fl1 E n2 k x).1]):=i7.app (Rep.sub hac s1) (Rep.agg1 r1 hp Rep.agg0)
     obtain ⟨ρ4,os2,n4,new4,cells4,t2,f2,s2,r2,o2,k2⟩:=a4j hm ks vs r (g x) a _ _ _ _ ρ3 os1 hq h f1 t1 hac1 (fun j id hj=>by obtain ⟨L,e1,e2⟩:=hH j id hj; exact ⟨L,e1,s1 _ _ e2⟩)
     refine ⟨ρ4,os2,n4,new4,cells4,t2,f2,w9 s1 s2,by simp_all,?_,fun K hK=>k2 K (hK x)⟩
     refine o2.trans ?_
     show (a3y ks vs++os1.filterMap id).Perm ((K7 k v++a3y ks vs)++os.filterMap id)
     grind
   . cases h
 | .to j::ks,vs,cs,g,a,n2,new,acc,ac,ρ2,os,hr,h,hfr,ht,hac,hH=>by
  cases vs with
  | nil=>cases h
  | cons v vs =>
   obtain ⟨u,r,rfl,hu,hp,hq⟩:=i7.cons_inv hr
   simp only [b1j] at h
   split at h
   . rename_i id off
     have ⟨hb,h2⟩:=j3 h
     clear h
     obtain ⟨hb1,hb2⟩:=(Bool.and_eq_true _ _).mp hb
     have hb1:=Nat.eq_of_beq_eq_true hb1
     subst hb1
     obtain ⟨L,e1,e2⟩:=hH j id hb2
     have hru:Rep E.N E.T ρ2 Z w u (.ref (nm.getD j 0) 0):=by
      cases hu with
      | ref hL=>rw [e1] at hL; cases hL; exact .ref e2
     obtain ⟨ρ4,os2,n4,new4,cells4,t2,f2,s2,r2,o2,k2⟩:=a4j hm ks vs r g a n2 new _ _ ρ2 os hq h2 hfr ht (i7.app hac (Rep.agg1 hru hp Rep.agg0)) hH
     exact ⟨ρ4,os2,n4,new4,cells4,t2,f2,s2,by simp_all,o2,fun K hK=>k2 K hK⟩
   . cases h
 | .nilp::ks,vs,cs,g,a,n2,new,acc,ac,ρ2,os,hr,h,hfr,ht,hac,hH=>by
  cases vs with
  | nil=>cases h
  | cons v vs =>
   obtain ⟨u,r,rfl,hu,hp,hq⟩:=i7.cons_inv hr
   simp only [b1j] at h
   have ⟨hb,h2⟩:=j3 h
   clear h
   have hru:Rep E.N E.T ρ2 Z w u (.con (.pointer none)):=by
    unfold c5z at hb
    split at hb
    . split at hb
      . rename_i p
        cases p with
        | none=>cases hu; exact .con rfl
        | some p=>cases hb
      . cases hb
    . cases hb
   obtain ⟨ρ4,os2,n4,new4,cells4,t2,f2,s2,r2,o2,k2⟩:=a4j hm ks vs r g a n2 new _ _ ρ2 os hq h2 hfr ht (i7.app hac (Rep.agg1 hru hp Rep.agg0)) hH
   exact ⟨ρ4,os2,n4,new4,cells4,t2,f2,s2,by simp_all,o2,fun K hK=>k2 K hK⟩
theorem b0t {α:Type} {ids:List Nat} (hm:Mem E C ρ Z w (its++lkd) nx):∀ (ps:List TP) (rest:List Nat) (g:tpD E.N α ps) (a:α),a4c E its ids ps rest g=some a->∀ id∈rest,∃ L,ρ id=some L
 | [],rest,g,a,h,id,hi=>by
  cases rest with
  | nil=>cases hi
  | cons _ _=>cases h
 | .own s0 T ks::ps,rest,g,a,h,id,hi=>by
  cases rest with
  | nil=>cases hi
  | cons id0 rest =>
   simp only [a4c] at h
   split at h
   . rename_i T' cells hl
     have ⟨_,h2⟩:=j3 h
     split at h2
     . rename_i g1 _
       rcases List.mem_cons.1 hi with rfl | hi
       . obtain ⟨j,hj,_⟩:=p8 hl
         obtain ⟨L,cs,hL,_⟩:=hm.holds (l8 (l2:=lkd) hj)
         simp_all
       . exact b0t hm ps rest g1 a h2 id hi
     . cases h2
   . cases h
 | .ob s0 k::ps,rest,g,a,h,id,hi=>by
  cases rest with
  | nil=>cases hi
  | cons id0 rest =>
   simp only [a4c] at h
   split at h
   . rename_i k' fid x hl
     split at h
     . rename_i hk
       rcases List.mem_cons.1 hi with rfl | hi
       . obtain ⟨j,hj,_⟩:=p8 hl
         obtain ⟨L,Lf,hL,_⟩:=hm.holds (l8 (l2:=lkd) hj)
         simp_all
       . exact b0t hm ps rest _ a h id hi
     . cases h
   . cases h
theorem b0o {α:Type} {nm ids:List Nat} (hm:Mem E C ρ Z w (its++lkd) nx):∀ (ps:List TP) (rest:List Nat) (i:Nat) (g:tpD E.N α ps) (a:α) (n2:Nat) (new:i6 E.N) (ρ2:n9) (os:List (Option Nat)),
  rest=ids.drop i->a4c E its ids ps rest g=some a->(∀ i,n2<=i->ρ2 i=none)->M1 E C.B0 ρ Z w its ρ2 os new->(∀ j id,a0x ids j id=true->∃ L,ρ id=some L/\ρ2 (nm.getD j 0)=some L) ->
  ∃ ρ3 os' n3 new',M1 E C.B0 ρ Z w its ρ3 os' new'/\(∀ i,n3<=i->ρ3 i=none)/\(∀ i L,ρ2 i=some L->ρ3 i=some L)/\(os'.filterMap id).Perm (a45 its ps rest++os.filterMap id)/\∀ K,a7i E nm ps i n2 new g K->K a n3 new'
 | [],rest,i,g,a,n2,new,ρ2,os,hrest,h,hfr,ht,hH=>by
  cases rest with
  | nil=>cases h; exact ⟨ρ2,os,n2,new,ht,hfr,fun _ _ h=>h,List.Perm.refl _,fun K h=>h⟩
  | cons _ _=>cases h
 | .own s0 T ks::ps,rest,i,g,a,n2,new,ρ2,os,hrest,h,hfr,ht,hH=>by
  cases rest with
  | nil=>cases h
  | cons id0 rest =>
   have hat:a0x ids i id0=true:=by
    have:ids[i]?=some id0:=by
     have e:(ids.drop i)[0]?=some id0:=by rw [<- hrest]; rfl
     simpa using e
    unfold a0x; rw [this]; exact Nat.beq_refl _
   have hrest':rest=ids.drop (i+1):=by rw [<- List.drop_drop,<- hrest]; rfl
   simp only [a4c] at h
   split at h
   . rename_i T' cells hl
     have ⟨hb,h2⟩:=j3 h
     have hb:=Nat.eq_of_beq_eq_true hb
     subst hb
     split at h2
     . rename_i g1 hc
       obtain ⟨j,hj,_⟩:=p8 hl
       obtain ⟨L,cs,hL,hbs,ho,hrep⟩:=hm.holds (l8 (l2:=lkd) hj)
       have hL:ρ id0=some L:=hL
       obtain ⟨L',e1,e2⟩:=hH i id0 hat
       rw [hL] at e1; cases e1
       obtain ⟨ρ3,os1,n3,new3,cells3,t1,f1,s1,r1,o1,q1⟩:=a4j (nm:=nm) hm ks cells cs g g1 n2 new [] [] ρ2 os hrep hc hfr ht i7.nil hH
       have hL3:ρ3 (nm.getD i 0)=some L:=s1 _ _ e2
       have r1':i7 E.N E.T ρ3 Z w cs cells3:=by simpa using r1
       have t1':M1 E C.B0 ρ Z w its ρ3 (some id0::os1) ((nm.getD i 0,.own T' cells3)::new3):=.cons ⟨_,hl,⟨L,cs,hL3,hbs,ho,r1'⟩,fun x hx=>by rw [p6 hL3] at hx; rw [p6 hL]; exact hx⟩ t1
       obtain ⟨ρ4,os2,n4,new4,t2,f2,s2,o2,q2⟩:=b0o hm ps rest (i+1) g1 a n3 _ ρ3 (some id0::os1) hrest' h2 f1 t1' (fun j id hj=>by obtain ⟨L,e1,e2⟩:=hH j id hj; exact ⟨L,e1,s1 _ _ e2⟩)
       refine ⟨ρ4,os2,n4,new4,t2,f2,w9 s1 s2,?_,fun K hK=>q2 K (q1 _ hK)⟩
       have e:a45 its (.own s0 T' ks::ps) (id0::rest)=(id0::a3y ks cells)++a45 its ps rest:=by simp only [a45,hl]
       grind
     . cases h2
   . cases h
 | .ob s0 k::ps,rest,i,g,a,n2,new,ρ2,os,hrest,h,hfr,ht,hH=>by
  cases rest with
  | nil=>cases h
  | cons id0 rest =>
   have hat:a0x ids i id0=true:=by
    have:ids[i]?=some id0:=by
     have e:(ids.drop i)[0]?=some id0:=by rw [<- hrest]; rfl
     simpa using e
    unfold a0x; rw [this]; exact Nat.beq_refl _
   have hrest':rest=ids.drop (i+1):=by rw [<- List.drop_drop,<- hrest]; rfl
   simp only [a4c] at h
   split at h
   . rename_i k' fid x hl
     split at h
     . rename_i hk
       subst hk
       obtain ⟨j,hj,_⟩:=p8 hl
       obtain ⟨L,Lf,hL,hLf,ho⟩:=hm.holds (l8 (l2:=lkd) hj)
       have hL:ρ id0=some L:=hL
       obtain ⟨L',e1,e2⟩:=hH i id0 hat
       rw [hL] at e1; cases e1
       have hn:=hfr n2 (Nat.le_refl _)
       have s1:=z7 (L:=Lf) hn
       have t1':M1 E C.B0 ρ Z w its (C8 ρ2 n2 Lf) (some id0::os) ((nm.getD i 0,.ob k' n2 x)::new):=.cons ⟨_,hl,⟨L,Lf,s1 _ _ e2,l5,ho⟩,fun y hy=>by rw [A7 l5] at hy; rw [A7 hLf]; exact hy⟩ (ht.mono s1)
       obtain ⟨ρ4,os2,n4,new4,t2,f2,s2,o2,q2⟩:=b0o hm ps rest (i+1) (g x) a (n2+1) _ (C8 ρ2 n2 Lf) (some id0::os) hrest' h (fun j hj=>by unfold C8; grind) t1' (fun j id hj=>by obtain ⟨L,e1,e2⟩:=hH j id hj; exact ⟨L,e1,s1 _ _ e2⟩)
       exact ⟨ρ4,os2,n4,new4,t2,f2,w9 s1 s2,o2.trans List.perm_middle,fun K hK=>q2 K (hK x)⟩
     . cases h
   . cases h
theorem a6t {α:Type} {ids:List Nat}:∀ (ps:List TP) (rest:List Nat) (g:tpD E.N α ps) (a:α),a4c E its ids ps rest g=some a->rest.length=ps.length
 | [],rest,g,a,h=>by
  cases rest with
  | nil=>rfl
  | cons _ _=>cases h
 | .own s0 T ks::ps,rest,g,a,h=>by
  cases rest with
  | nil=>cases h
  | cons id0 rest =>
   simp only [a4c] at h
   split at h
   . have ⟨_,h2⟩:=j3 h
     split at h2
     . simp [a6t ps rest _ a h2]
     . cases h2
   . cases h
 | .ob s0 k::ps,rest,g,a,h=>by
  cases rest with
  | nil=>cases h
  | cons id0 rest =>
   simp only [a4c] at h
   split at h
   . split at h
     . rename_i hk; simp [a6t ps rest _ a h]
     . cases h
   . cases h
theorem c57 {ids:List Nat} {n2:Nat} (hin:∀ id∈ids,∃ L,ρ id=some L) (hfr:∀ i,n2<=i->ρ2 i=none) :
  ∃ ρ3:n9,(∀ i L,ρ2 i=some L->ρ3 i=some L)/\(∀ i,n2+ids.length<=i->ρ3 i=none)/\∀ j id,a0x ids j id=true->∃ L,ρ id=some L/\ρ3 (n2+j)=some L:=by
 refine ⟨fun i=>if n2<=i then (ids[i-n2]?).bind ρ else ρ2 i,fun i L h=>?_,fun i hi=>?_,fun j id hj=>?_⟩
 . grind
 . grind
 . unfold a0x at hj
   split at hj
   . rename_i i hi
     have:=Nat.eq_of_beq_eq_true hj
     subst this
     obtain ⟨L,hL⟩:=hin i (List.mem_of_getElem? hi)
     simp_all
   . cases hj
theorem a3e {ids:List Nat}:∀ {ss:List (Nat×Nat)},S7 fx st ids ss=true->∀ p∈ss,∃ id,p5 fx st p.1=.ref id 0/\a0x ids p.2 id=true
 | [],_,p,hp=>by cases hp
 | q::ss,h,p,hp=>by
  unfold S7 at h
  obtain ⟨h1,h2⟩:=(Bool.and_eq_true _ _).mp h
  rcases List.mem_cons.1 hp with rfl | hp
  . split at h1
    all_goals simp_all
  . exact a3e h2 p hp
theorem c07 {q:Nat->Nat} {k:Nat} {s:E.SV} {r:m6 E.N}:∀ {ss:List (Nat×Nat)},lk ((ss.map fun p=>(p.1,(.ref (q p.2) 0:E.SV)))++r) k=some s->(∃ p∈ss,p.1=k/\s=.ref (q p.2) 0) ∨ lk r k=some s
 | [],h=>.inr h
 | x::ss,h=>by
  rw [List.map_cons,List.cons_append,D9] at h
  by_cases e:x.1=k
  . simp_all
  . rw [if_neg e] at h
    rcases c07 h with ⟨p,hp,e1,e2⟩ | h
    all_goals grind
theorem a8t {s:Nat} {p:TP}:∀ {ps:List TP} {i j:Nat},ps[j]?=some p->p.kept=some s->(s,i+j)∈a7c ps i
 | [],i,j,h,_=>by simp at h
 | q::ps,i,j,h,hk=>by
  unfold a7c
  cases j with
  | zero =>
   simp_all
  | succ j =>
   have ih:=a8t (i:=i+1) (j:=j) (by simpa using h) hk
   grind
theorem b9h {b:Nat}:∀ {l:List Nat} {i j r:Nat},l[j]?=some r->(tnm b i l).getD j 0=bif Nat.beq r 0 then b+(i+j) else r-1
 | [],i,j,r,h=>by simp at h
 | x::l,i,j,r,h=>by
  unfold tnm
  cases j with
  | zero=>simp_all
  | succ j =>
   have ih:=b9h (b:=b) (l:=l) (i:=i+1) (j:=j) (r:=r) (by simpa using h)
   grind
theorem d8d {ids:List Nat} {ps:List TP} {b:Nat} (hbase:∀ s id off,p5 fx st s=.ref id off->∃ L,ρb id=some L) (hk:S7 fx' st' ids (a7c ps 0)=true) (he:U2 fx' st' ps=U2 fx st ps) (hl:ids.length=ps.length) (h2:∀ i L,ρb i=some L->ρ2 i=some L) (hρ:∀ i L,ρb i=some L->ρ i=some L)
  (hH:∀ j id,a0x ids j id=true->∃ L,ρ id=some L/\ρ2 (b+j)=some L):∀ j id,a0x ids j id=true->∃ L,ρ id=some L/\ρ2 ((tnm b 0 (U2 fx st ps)).getD j 0)=some L:=by
 intro j id hj
 have hjl:j<ps.length:=by
  unfold a0x at hj
  split at hj
  . grind
  . cases hj
 have hp:=List.getElem?_eq_getElem hjl
 have hr:(U2 fx st ps)[j]?=some (b1f fx st ps[j]):=by unfold U2; rw [List.getElem?_map,hp]; rfl
 have hr':(U2 fx' st' ps)[j]?=some (b1f fx' st' ps[j]):=by unfold U2; rw [List.getElem?_map,hp]; rfl
 rw [he,hr] at hr'
 have e1:=Option.some.inj hr'
 rw [b9h hr]
 cases hkp:ps[j].kept with
 | none =>
  have:b1f fx st ps[j]=0:=by unfold b1f; rw [hkp]
  rw [this,Nat.zero_add]
  simp_all
 | some s =>
  obtain ⟨id',hs,hat⟩:=a3e hk (s,0+j) (a8t hp hkp)
  have hs:p5 fx' st' s=.ref id' 0:=hs
  have hat:a0x ids j id'=true:=by simpa using hat
  have eid:id'=id:=by
   unfold a0x at hat hj
   split at hj
   . simp_all
   . cases hj
  subst eid
  have e2:b1f fx' st' ps[j]=id'+1:=by unfold b1f; rw [hkp]; simp only [hs]
  rw [e2] at e1
  have e3:∃ off,p5 fx st s=.ref id' off:=by
   unfold b1f at e1
   rw [hkp] at e1
   simp only at e1
   split at e1
   . simp_all
   . omega
  grind
theorem a60 {ids:List Nat} {b:List (Nat×Nat)}:∀ {a:List (Nat×Nat)},S7 fx st ids (a++b)=true->S7 fx st ids a=true/\S7 fx st ids b=true
 | [],h=>⟨rfl,h⟩
 | x::a,h=>by
  rw [List.cons_append] at h
  unfold S7 at h
  obtain ⟨h1,h2⟩:=(Bool.and_eq_true _ _).mp h
  obtain ⟨h3,h4⟩:=a60 h2
  refine ⟨?_,h4⟩
  unfold S7
  simp_all
structure a9o (E:Env) (B0:List Nat) (ρb ρ:n9) (Z:Nat->Prop) (f:Fr) (w:World) (its:i6 E.N) (ρ2:n9) (os:List (Option Nat)) (new:E.St):Prop where
 tg:M1 E B0 ρ Z w its ρ2 os new.items
 fr:∀ i,new.nx<=i->ρ2 i=none
 sub:∀ i L,ρb i=some L->ρ2 i=some L
 sl:∀ k s,lk new.slots k=some s->Rep E.N E.T ρ2 Z w (f k) s
 gs:new.gs=[]
theorem a7e:∀ {a b:List Nat},eqL a b=true->a=b
 | [],[],_=>rfl
 | [],_::_,h=>by cases h
 | _::_,[],h=>by cases h
 | x::a,y::b,h=>by
  simp only [eqL,Bool.and_eq_true] at h
  rw [Nat.eq_of_beq_eq_true h.1,a7e h.2]
theorem K1 (hbO:∀ s id,ownN fx st s=some id->∃ L,ρb id=some L) (hbase:∀ s id off,p5 fx st s=.ref id off->∃ L,ρb id=some L) (hbA:∀ s id,b3c (p5 fx st s)=some id ∨ obN (p5 fx st s)=some id->∃ L,ρb id=some L) (hρ:∀ i L,ρb i=some L->ρ i=some L) (h:Rel E C fx' lkd st' ρ Z f w) {α:Type} :
  ∀ (vs:List LV) (g:Cur E.N α vs) (a:α) (new:E.St) (ρ2:n9) (os:List (Option Nat)),K5 E fx' st' vs g=some a->A4 E fx' st' vs=A4 E fx st vs->a9o E C.B0 ρb ρ Z f w st'.items ρ2 os new->∀ K,H8 E fx st vs g new K ->
  ∃ new' ρ3 os',a9o E C.B0 ρb ρ Z f w st'.items ρ3 os' new'/\(os'.filterMap id).Perm (s8 E fx' st' vs++os.filterMap id)/\K a new'
 | [],g,a,new,ρ2,os,hr,_,hF,K,hK=>by cases hr; exact ⟨new,ρ2,os,hF,List.Perm.refl _,hK⟩
 | .slot s k::vs,g,a,new,ρ2,os,hr,he,hF,K,hK=>by
  simp only [K5] at hr
  split at hr
  . rename_i x hx
    obtain ⟨ρ3,os1,t1,f1,s1,r1,o1⟩:=M9 h.mem (h.slot s) hx hF.fr hF.tg
    have hF1:a9o E C.B0 ρb ρ Z f w st'.items ρ3 os1 ⟨(s,(fl1 E new.nx k x).1)::new.slots,[],(fl1 E new.nx k x).2.1++new.items,(fl1 E new.nx k x).2.2⟩:=⟨t1,f1,w9 hF.sub s1,fun k' s' hk=>by
     rw [D9] at hk
     by_cases e:s=k'
     . simp_all
     . rw [if_neg e] at hk; exact Rep.sub (hF.sl k' s' hk) s1,rfl⟩
    obtain ⟨new',ρ4,os2,hF2,o2,k2⟩:=K1 hbO hbase hbA hρ h vs (g x) a _ ρ3 os1 hr (by simpa [A4,J8] using he) hF1 K (hK x)
    refine ⟨new',ρ4,os2,hF2,?_,k2⟩
    have e0:a1b E fx' st' (.slot s k)=K7 k (p5 fx' st' s):=rfl
    have e:s8 E fx' st' (.slot s k::vs)=K7 k (p5 fx' st' s)++s8 E fx' st' vs:=by
     show a1b E fx' st' (.slot s k)++s8 E fx' st' vs=_
     rw [e0]
    grind
  . cases hr
 | .own s ks::vs,g,a,new,ρ2,os,hr,he,hF,K,hK=>by
  simp only [K5] at hr
  split at hr
  . rename_i id hs
    split at hr
    . rename_i T cells hi
      split at hr
      . rename_i g1 hc
        have hE:A4 E fx' st' (.own s ks::vs)=[id,T]++A4 E fx' st' vs:=by
         show J8 E fx' st' (.own s ks)++A4 E fx' st' vs=_
         rw [show J8 E fx' st' (.own s ks)=[id,T] by simp [J8,hs,hi]]
        rw [hE] at he
        have heB:A4 E fx st (.own s ks::vs)=J8 E fx st (.own s ks)++A4 E fx st vs:=rfl
        rw [heB] at he
        obtain ⟨j,hj,_⟩:=p8 hi
        obtain ⟨L,cs,hL,hbs,ho,hrep⟩:=h.mem.holds (l8 (l2:=lkd) hj)
        have hL:ρ id=some L:=hL
        -- the base
        cases hsb:ownN fx st s with
        | some idb =>
         cases hib:lk st.items idb with
         | none=>exact absurd hK (by simp [H8,hsb,hib])
         | some ib =>
          cases ib with
          | own Tb cb =>
           simp only [J8,hsb,hib] at he
           have he2:id::T::A4 E fx' st' vs=idb::Tb::A4 E fx st vs:=he
           simp only [List.cons.injEq] at he2
           obtain ⟨rfl,rfl,he3⟩:=he2
           obtain ⟨Lb,hLb⟩:=hbO s _ hsb
           have e1:=hρ _ _ hLb
           rw [hL] at e1; cases e1
           obtain ⟨ρ3,os1,n3,new3,cells3,t1,f1,s1,r1,o1,k1⟩:=X2 h.mem ks cells cs g g1 new.nx new.items [] [] ρ2 os hrep hc hF.fr hF.tg i7.nil
           have hL3:ρ3 id=some L:=s1 _ _ (hF.sub _ _ hLb)
           have hF1:a9o E C.B0 ρb ρ Z f w st'.items ρ3 (some id::os1) ⟨new.slots,[],(id,.own T cells3)::new3,n3⟩:=⟨.cons ⟨_,hi,⟨L,cs,hL3,hbs,ho,by simp_all⟩,fun b hb=>by rw [p6 hL3] at hb; rw [p6 hL]; exact hb⟩ t1,f1,w9 hF.sub s1,fun k' s' hk=>Rep.sub (hF.sl k' s' hk) s1,rfl⟩
           simp only [H8,hsb,hib] at hK
           obtain ⟨new',ρ4,os2,hF2,o2,k2⟩:=K1 hbO hbase hbA hρ h vs g1 a _ ρ3 (some id::os1) hr he3 hF1 K (k1 _ hK)
           refine ⟨new',ρ4,os2,hF2,?_,k2⟩
           . have e:s8 E fx' st' (.own s ks::vs)=id::((ks.zip cells).flatMap fun p=>K7 p.1 p.2)++s8 E fx' st' vs:=by
               show a1b E fx' st' (.own s ks)++s8 E fx' st' vs=_
               rw [show a1b E fx' st' (.own s ks)=id::((ks.zip cells).flatMap fun p=>K7 p.1 p.2) by simp only [a1b,hs,hi]; rw [a35]]
             grind
          | _=>exact absurd hK (by simp [H8,hsb,hib])
        | none=>exact absurd hK (by simp [H8,hsb])
      . cases hr
    . cases hr
  . cases hr
 | .ob s k::vs,g,a,new,ρ2,os,hr,he,hF,K,hK=>by
  simp only [K5] at hr
  split at hr
  . rename_i id hs
    split at hr
    . rename_i k' fid x hi
      split at hr
      . rename_i hk
        subst hk
        have hE:A4 E fx' st' (.ob s k'::vs)=id::A4 E fx' st' vs:=by
         show J8 E fx' st' (.ob s k')++A4 E fx' st' vs=_
         rw [show J8 E fx' st' (.ob s k')=[id] by simp [J8,hs]]; rfl
        rw [hE] at he
        have heB:A4 E fx st (.ob s k'::vs)=J8 E fx st (.ob s k')++A4 E fx st vs:=rfl
        rw [heB] at he
        obtain ⟨j,hj,_⟩:=p8 hi
        obtain ⟨L,Lf,hL,hLf,ho⟩:=h.mem.holds (l8 (l2:=lkd) hj)
        have hL:ρ id=some L:=hL
        cases hsb:obN (p5 fx st s) with
        | some idb =>
         simp only [J8,hsb] at he
         have he2:id::A4 E fx' st' vs=idb::A4 E fx st vs:=he
         simp only [List.cons.injEq] at he2
         obtain ⟨rfl,he3⟩:=he2
         obtain ⟨Lb,hLb⟩:=hbA s _ (.inr hsb)
         have e1:=hρ _ _ hLb
         rw [hL] at e1; cases e1
         have hn:=hF.fr new.nx (Nat.le_refl _)
         have s1:=z7 (L:=Lf) hn
         have hF1:a9o E C.B0 ρb ρ Z f w st'.items (C8 ρ2 new.nx Lf) (some id::os) ⟨new.slots,[],(id,.ob k' new.nx x)::new.items,new.nx+1⟩:=⟨.cons ⟨_,hi,⟨L,Lf,s1 _ _ (hF.sub _ _ hLb),l5,ho⟩,fun b hb=>by rw [A7 l5] at hb; rw [A7 hLf]; exact hb⟩ (hF.tg.mono s1),fun i hi=>by
          have hi:new.nx+1<=i:=hi
          unfold C8; rw [if_neg (by omega)]; exact hF.fr i (by omega),w9 hF.sub s1,fun k' s' hk=>Rep.sub (hF.sl k' s' hk) s1,rfl⟩
         simp only [H8,hsb] at hK
         obtain ⟨new',ρ4,os2,hF2,o2,k2⟩:=K1 hbO hbase hbA hρ h vs (g x) a _ _ (some id::os) hr he3 hF1 K (hK x)
         refine ⟨new',ρ4,os2,hF2,?_,k2⟩
         . have e:s8 E fx' st' (.ob s k'::vs)=id::s8 E fx' st' vs:=by
             show a1b E fx' st' (.ob s k')++s8 E fx' st' vs=_
             rw [show a1b E fx' st' (.ob s k')=[id] by simp [a1b,hs]]; rfl
           grind
        | none=>exact absurd hK (by simp [H8,hsb])
      . cases hr
    . cases hr
  . cases hr
 | .cont s t::vs,g,a,new,ρ2,os,hr,he,hF,K,hK=>by
  simp only [K5] at hr
  split at hr
  . rename_i id hs
    split at hr
    . rename_i t' l hi
      split at hr
      . rename_i hk
        subst hk
        have hE:A4 E fx' st' (.cont s t'::vs)=id::A4 E fx' st' vs:=by
         show J8 E fx' st' (.cont s t')++A4 E fx' st' vs=_
         rw [show J8 E fx' st' (.cont s t')=[id] by simp [J8,hs]]; rfl
        rw [hE] at he
        have heB:A4 E fx st (.cont s t'::vs)=J8 E fx st (.cont s t')++A4 E fx st vs:=rfl
        rw [heB] at he
        obtain ⟨j,hj,_⟩:=p8 hi
        obtain ⟨L,hL,hn1,hn2,hac⟩:=h.mem.holds (l8 (l2:=lkd) hj)
        cases hsb:b3c (p5 fx st s) with
        | some idb =>
         simp only [J8,hsb] at he
         have he2:id::A4 E fx' st' vs=idb::A4 E fx st vs:=he
         simp only [List.cons.injEq] at he2
         obtain ⟨rfl,he3⟩:=he2
         obtain ⟨Lb,hLb⟩:=hbA s _ (.inl hsb)
         have e1:=hρ _ _ hLb
         have hL:ρ id=some L:=hL
         rw [hL] at e1; cases e1
         have hF1:a9o E C.B0 ρb ρ Z f w st'.items ρ2 (some id::os) ⟨new.slots,[],(id,.ac t' l)::new.items,new.nx⟩:=⟨.cons ⟨_,hi,⟨L,hF.sub _ _ hLb,hn1,hn2,hac⟩,fun b hb=>by rw [q7 (hF.sub _ _ hLb)] at hb; rw [q7 hL]; exact hb⟩ hF.tg,hF.fr,hF.sub,hF.sl,rfl⟩
         simp only [H8,hsb] at hK
         obtain ⟨new',ρ4,os2,hF2,o2,k2⟩:=K1 hbO hbase hbA hρ h vs (g l) a _ _ (some id::os) hr he3 hF1 K (hK l)
         refine ⟨new',ρ4,os2,hF2,?_,k2⟩
         . have e:s8 E fx' st' (.cont s t'::vs)=id::s8 E fx' st' vs:=by
             show a1b E fx' st' (.cont s t')++s8 E fx' st' vs=_
             rw [show a1b E fx' st' (.cont s t')=[id] by simp [a1b,hs]]; rfl
           grind
        | none=>exact absurd hK (by simp [H8,hsb])
      . cases hr
    . cases hr
  . cases hr
 | .chain s n T ks::vs,g,a,new,ρ2,os,hr,he,hF,K,hK=>by
  simp only [K5] at hr
  split at hr
  . rename_i g1 hc
    obtain ⟨ρ3,os1,n3,new3,sv3,t1,f1,s1,r1,_,o1,q1⟩:=b93 h.mem n (f s) (p5 fx' st' s) g g1 new.nx new.items ρ2 os (h.slot s) hc hF.fr hF.tg
    have hF1:a9o E C.B0 ρb ρ Z f w st'.items ρ3 os1 ⟨(s,sv3)::new.slots,[],new3,n3⟩:=⟨t1,f1,w9 hF.sub s1,fun k' s' hk=>by
     rw [D9] at hk
     by_cases e:s=k'
     . simp_all
     . rw [if_neg e] at hk; exact Rep.sub (hF.sl k' s' hk) s1,rfl⟩
    obtain ⟨new',ρ4,os2,hF2,o2,k2⟩:=K1 hbO hbase hbA hρ h vs g1 a _ ρ3 os1 hr (by simpa [A4,J8] using he) hF1 K (q1 _ hK)
    refine ⟨new',ρ4,os2,hF2,?_,k2⟩
    have e:s8 E fx' st' (.chain s n T ks::vs)=a55 st'.items ks n (p5 fx' st' s)++s8 E fx' st' vs:=rfl
    grind
  . cases hr
 | .rows s n t ks::vs,g,a,new,ρ2,os,hr,he,hF,K,hK=>by
  simp only [K5] at hr
  split at hr
  . rename_i id hs
    split at hr
    . rename_i t' n' cells hi
      have ⟨hb,h2⟩:=j3 hr
      clear hr
      simp only [Bool.and_eq_true] at hb
      obtain ⟨e1,e2⟩:=hb
      have e1:=Nat.eq_of_beq_eq_true e1
      have e2:=Nat.eq_of_beq_eq_true e2
      subst e1; subst e2
      split at h2
      . rename_i g1 hc
        obtain ⟨j,hj,_⟩:=p8 hi
        obtain ⟨L,F,hL,hn1,hbg,hA,hrw,hrep⟩:=h.mem.holds (l8 (l2:=lkd) hj)
        have hL:ρ id=some L:=hL
        have hsl:=h.slot s
        rw [hs] at hsl
        have hval:f s=.slice L.A L.n L.cap:=by
         generalize f s=u at hsl
         cases hsl with
         | acc hL'=>simp_all
        have s0:=z7 (L:=L) (hF.fr new.nx (Nat.le_refl _))
        obtain ⟨ρ3,os1,n3,new3,cells3,t1,f1,s1,r1,o1,q1⟩:=X2 h.mem (a6x ks n') cells F g g1 (new.nx+1) new.items [] [] (C8 ρ2 new.nx L) os hrep hc (fun i hi=>by unfold C8; rw [if_neg (by omega)]; exact hF.fr i (by omega)) (hF.tg.mono s0) i7.nil
        have hL3:ρ3 new.nx=some L:=s1 _ _ l5
        have r1':i7 E.N E.T ρ3 Z w F cells3:=by simpa using r1
        have hF1:a9o E C.B0 ρb ρ Z f w st'.items ρ3 (some id::os1) ⟨(s,.acc new.nx)::new.slots,[],(new.nx,.rw t' n' cells3)::new3,n3⟩:=⟨.cons ⟨_,hi,⟨L,F,hL3,hn1,hbg,hA,hrw,r1'⟩,fun b hb=>by rw [B7 hL3] at hb; rw [B7 hL]; exact hb⟩ t1,f1,w9 hF.sub (w9 s0 s1),fun k' s' hk=>by
         rw [D9] at hk
         by_cases e:s=k'
         . rw [if_pos e] at hk; cases hk; subst e; rw [hval]; exact .acc hL3
         . rw [if_neg e] at hk; exact Rep.sub (hF.sl k' s' hk) (w9 s0 s1),rfl⟩
        have hK2:T8 E (a6x ks n') (new.nx+1) new.items [] g (fun g nx its cs=>H8 E fx st vs g ⟨(s,.acc new.nx)::new.slots,[],(new.nx,.rw t' n' cs)::its,nx⟩ K):=by
         simp only [H8] at hK
         cases hb:Nat.ble n' 1000000 with
         | true=>simp_all
         | false=>simp_all
        obtain ⟨new',ρ4,os2,hF2,o2,k2⟩:=K1 hbO hbase hbA hρ h vs g1 a _ ρ3 (some id::os1) h2 (by simpa [A4,J8] using he) hF1 K (q1 _ hK2)
        refine ⟨new',ρ4,os2,hF2,?_,k2⟩
        have e:s8 E fx' st' (.rows s n' t' ks::vs)=id::(((a6x ks n').zip cells).flatMap fun p=>K7 p.1 p.2)++s8 E fx' st' vs:=by
         show a1b E fx' st' (.rows s n' t' ks)++s8 E fx' st' vs=_
         rw [show a1b E fx' st' (.rows s n' t' ks)=id::(((a6x ks n').zip cells).flatMap fun p=>K7 p.1 p.2) by simp only [a1b,hs,hi]; rw [a35]]
        grind
      . cases h2
    . cases hr
  . cases hr
 | .tree ss ps::vs,g,a,new,ρ2,os,hr,he,hF,K,hK=>by
  simp only [K5] at hr
  have ⟨hss,hr2⟩:=j3 hr
  clear hr
  split at hr2
  . rename_i g1 hc
    obtain ⟨hsk,hss⟩:=a60 hss
    have hE:U2 fx' st' ps++A4 E fx' st' vs=U2 fx st ps++A4 E fx st vs:=he
    obtain ⟨he1,he2⟩:=List.append_inj hE (by unfold U2; simp_all)
    obtain ⟨ρ2',s0,f0,hH0⟩:=c57 (b0t h.mem ps _ g g1 hc) hF.fr
    have hlen:(V2 fx' st' ss ps).length=ps.length:=a6t ps _ g g1 hc
    rw [hlen] at f0
    have hH:=d8d hbase hsk he1 hlen (w9 hF.sub s0) hρ hH0
    obtain ⟨ρ3,os1,n3,new3,t1,f1,s1,o1,q1⟩:=b0o h.mem ps (V2 fx' st' ss ps) 0 g g1 (new.nx+ps.length) new.items ρ2' os rfl hc f0 (hF.tg.mono s0) hH
    have hF1:a9o E C.B0 ρb ρ Z f w st'.items ρ3 os1 ⟨(ss.map fun p=>(p.1,.ref ((tnm new.nx 0 (U2 fx st ps)).getD p.2 0) 0))++new.slots,[],new3,n3⟩:=⟨t1,f1,w9 hF.sub (w9 s0 s1),fun k' s' hk=>by
     rcases c07 (q:=fun j=>(tnm new.nx 0 (U2 fx st ps)).getD j 0) hk with ⟨p,hp,e1,e2⟩ | hk
     . subst e1; subst e2
       obtain ⟨id,hs,hat⟩:=a3e hss p hp
       have hsl:=h.slot p.1
       rw [hs] at hsl
       obtain ⟨L,e1,e2⟩:=hH p.2 id hat
       generalize f p.1=u at hsl
       cases hsl with
       | ref hL=>rw [e1] at hL; cases hL; exact .ref (s1 _ _ e2)
     . exact Rep.sub (hF.sl k' s' hk) (w9 s0 s1),rfl⟩
    obtain ⟨new',ρ4,os2,hF2,o2,k2⟩:=K1 hbO hbase hbA hρ h vs g1 a _ ρ3 os1 hr2 he2 hF1 K (q1 _ hK)
    refine ⟨new',ρ4,os2,hF2,?_,k2⟩
    have e:s8 E fx' st' (.tree ss ps::vs)=a45 st'.items ps (V2 fx' st' ss ps)++s8 E fx' st' vs:=rfl
    grind
  . cases hr2
 | .alt::vs,g,a,new,ρ2,os,hr,he,hF,K,hK=>by cases hr
 | .unr _::vs,g,a,new,ρ2,os,hr,he,hF,K,hK=>by cases hr
end
end Go.Rx
end
section
namespace Go.Rx
open Go Go.Wk Go.Wl
section
variable {B0:List Nat} {w0 w w':World} {Z Z':Nat->Prop} {l l':List It}
theorem Sep.pw (hs:Sep B0 w0 Z w l):(∀ t∈l,t.Ok B0 w0 Z w)/\l.Pairwise (fun s t=>∀ b∈s.F,b ∉ t.F):=by
 refine ⟨fun t ht=>?_,?_⟩
 . obtain ⟨i,hi,rfl⟩:=List.getElem_of_mem ht
   exact hs.ok i _ (by simp [hi])
 . rw [List.pairwise_iff_getElem]
   intro i j hi hj hij
   exact hs.apart i j _ _ (by simp [hi]) (by simp [hj]) (by omega)
theorem Sep.of_pw (hx:Ext B0 w0 w) (hz:∀ b,Z b->b<w.heap.size) (h1:∀ t∈l,t.Ok B0 w0 Z w) (h2:l.Pairwise (fun s t=>∀ b∈s.F,b ∉ t.F)):Sep B0 w0 Z w l:=by
 refine ⟨hx,hz,fun k t hk=>h1 t (List.mem_of_getElem? hk),fun j k s t hj hk hne=>?_⟩
 rw [List.pairwise_iff_getElem] at h2
 grind
theorem Sep.perm (hs:Sep B0 w0 Z w l) (hp:l.Perm l'):Sep B0 w0 Z w l':=by
 obtain ⟨h1,h2⟩:=Sep.pw hs
 exact Sep.of_pw hs.ext hs.zlt (fun t ht=>h1 t (hp.mem_iff.2 ht)) ((hp.pairwise_iff (fun {a b} h x hx hx'=>h x hx' hx)).1 h2)
end
section
variable {E:Env} {C:Ctx} {f:Fr} {w w':World}
variable {ρ ρ':n9} {Z Z':Nat->Prop} {its its' lkd:i6 E.N} {nx:Nat} {fx:m6 E.N} {st:E.St}
theorem Mem.perm (hm:Mem E C ρ Z w its nx) (hp:its.Perm its'):Mem E C ρ Z w its' nx:=⟨Sep.perm hm.sep (hp.map _),hm.fr,hm.ge,hm.zge,hm.zle⟩
theorem W3 (its:i6 E.N) (ids:List Nat):its.Perm (within its ids++l6 its ids):=by
 induction its with
 | nil=>exact List.Perm.nil
 | cons p r ih =>
  unfold within l6 at *
  rw [List.filter_cons,List.filter_cons]
  cases ids.elem p.1 with
  | true=>simp_all
  | false=>exact ((List.Perm.cons p ih).trans List.perm_middle.symm)
def Ctx.at (C:Ctx) (ρ:n9) (Z:Nat->Prop) (w:World):Ctx:=⟨ρ,Z,C.w0,C.B0,w⟩
theorem Mem.down (hm:Mem E C ρ Z w its nx):Mem E (C.at ρ Z w) ρ Z w its nx:=⟨hm.sep,hm.fr,fun _ _ h=>h,fun _ h=>h,fun _ h=>.inl h⟩
theorem Mem.upC {ρb:n9} {Zb:Nat->Prop} {wb:World} {nb:Nat} {ib:i6 E.N} (hb:Mem E C ρb Zb wb ib nb) (hm:Mem E (C.at ρb Zb wb) ρ Z w its nx):Mem E C ρ Z w its nx :=
 ⟨hm.sep,hm.fr,fun i L e=>hm.ge i L (hb.ge i L e),fun b h=>hm.zge b (hb.zge b h),fun b h=>by
  rcases hm.zle b h with h | h
  . exact hb.zle b h
  . exact .inr h⟩
theorem Rel.enter (h:Rel E C fx lkd st ρ Z f w) (keep ids:List Nat):Rel E (C.at ρ Z w) (n8 fx st keep++fx) (l6 st.items ids++lkd) (inn st ids) ρ Z f w:=by
 refine ⟨h.sl,fun p hp=>?_,fun k j b s hk=>(by cases hk),?_,Tn.refl _ _ _,h.glob⟩
 . rcases List.mem_append.1 hp with hp | hp
   . simp only [n8,List.mem_map] at hp
     obtain ⟨s,_,rfl⟩:=hp
     exact h.slot s
   . exact h.fx p hp
 . refine h.mem.down.perm ?_
   rw [show (inn st ids).items=within st.items ids from rfl,<- List.append_assoc]
   exact (W3 st.items ids).append_right lkd
theorem b64 {β:Type} {l l2:List (Nat×β)} {k:Nat} {s:β} (h:lk (l++l2) k=some s):lk l k=some s ∨ (lk l k=none/\lk l2 k=some s):=by
 induction l with
 | nil=>exact .inr ⟨rfl,h⟩
 | cons p r ih =>
  have h:(bif Nat.beq p.1 k then some p.2 else lk (r++l2) k)=some s:=h
  show (bif Nat.beq p.1 k then some p.2 else lk r k)=some s ∨ ((bif Nat.beq p.1 k then some p.2 else lk r k)=none/\lk l2 k=some s)
  grind
theorem Rel.leave {ρb:n9} {Zb:Nat->Prop} {wb:World} {fb:Fr} {st':E.St} (hb:Rel E C fx lkd st ρb Zb fb wb) {ks:m6 E.N} {is:i6 E.N} (h:Rel E (C.at ρb Zb wb) (ks++fx) (is++lkd) st' ρ Z f w):Rel E C fx lkd ⟨st'.slots++ks,[],st'.items++is,st'.nx⟩ ρ Z f w:=by
 refine ⟨fun k s hk=>?_,fun p hp=>h.fx p (List.mem_append_right _ hp),fun k j b s hk=>(by cases hk),?_,hb.tn.trans h.tn,hb.g⟩
 . rcases b64 hk with hk | ⟨_,hk⟩
   . exact h.sl k s hk
   . obtain ⟨i,hi,_⟩:=p8 hk
     exact h.fx (k,s) (List.mem_append_left _ (List.mem_of_getElem? hi))
 . have:=Mem.upC hb.mem h.mem
   simp_all
end
end Go.Rx
end
section
namespace Go.Rx
open Go Go.Wk Go.Wl
section
variable {N:Uni} {T:N3} {f:Nat->Option Nat} {ρ ρ':n9} {Z:Nat->Prop} {w:World} {v:Value} {s s':SV N} {cs:List Value} {ss ss':List (SV N)}
def a1s (f:Nat->Option Nat) (ρ ρ':n9):Prop:=∀ i j,f i=some j->∀ L,ρ i=some L->ρ' j=some L
theorem b8l (hf:a1s f ρ ρ') (h:b2t f s=some s') (r:Rep N T ρ Z w v s):Rep N T ρ' Z w v s':=by
 cases s with
 | ref id off =>
  simp only [b2t,Option.map_eq_some_iff] at h
  obtain ⟨j,hj,rfl⟩:=h
  cases r with | ref hL=>exact .ref (hf _ _ hj _ hL)
 | acc id =>
  simp only [b2t,Option.map_eq_some_iff] at h
  obtain ⟨j,hj,rfl⟩:=h
  cases r with | acc hL=>exact .acc (hf _ _ hj _ hL)
 | el id t i off =>
  simp only [b2t,Option.map_eq_some_iff] at h
  obtain ⟨j,hj,rfl⟩:=h
  cases r with | el hL h0 h1=>exact .el (hf _ _ hj _ hL) h0 h1
 | sub id t lo n =>
  simp only [b2t,Option.map_eq_some_iff] at h
  obtain ⟨j,hj,rfl⟩:=h
  cases r with | subs hL a b c d e=>exact .subs (hf _ _ hj _ hL) a b c d e
 | ifc t v=>cases h
 | agg vs=>cases h
 | tup vs=>cases h
 | clo K vs=>cases h
 | yld id =>
  simp only [b2t,Option.map_eq_some_iff] at h
  obtain ⟨j,hj,rfl⟩:=h
  cases r with | yld hL=>exact .yld (hf _ _ hj _ hL)
 | un=>cases h; exact .un
 | undef=>cases h; cases r; exact .undef
 | int k x=>cases h; cases r with | int h=>exact .int h
 | byte c=>cases h; cases r; exact .byte
 | tt=>cases h; cases r; exact .tt
 | ff=>cases h; cases r; exact .ff
 | bl p d=>cases h; cases r; exact .bl
 | str x=>cases h; cases r with | str h=>exact .str h
 | con x=>cases h; cases r with | con h=>exact .con h
 | nils=>cases h; cases r; exact .nils
 | sl t l=>cases h; cases r with | sl h=>exact .sl h
 | fel t l i off=>cases h; cases r with | fel h a b=>exact .fel h a b
 | err e=>cases h; cases r with | err h=>exact .err h
 | fn K=>cases h; cases r; exact .fn
theorem a0p (hf:a1s f ρ ρ') (h:a3d f ss=some ss') (r:i7 N T ρ Z w cs ss):i7 N T ρ' Z w cs ss':=by
 induction ss generalizing cs ss' with
 | nil=>cases h; obtain rfl:=i7.nil_inv r; exact i7.nil
 | cons s ss ih =>
  obtain ⟨u,c,rfl,h1,hp,h2⟩:=i7.cons_inv r
  simp only [a3d] at h
  split at h
  . rename_i a b ha hb
    cases h
    exact i7.cons (b8l hf ha h1) hp (ih hb h2)
  . cases h
theorem b9l (hf:a1s f ρ ρ') (h:d0c f s=some s') (r:Rep N T ρ Z w v s):Rep N T ρ' Z w v s':=by
 unfold d0c at h
 split at h
 . obtain ⟨ss',h1,rfl⟩:=Option.map_eq_some_iff.1 h
   obtain ⟨cs,rfl,hr⟩:=Rep.agg_inv r
   exact a0p hf h1 hr
 . obtain ⟨ss',h1,rfl⟩:=Option.map_eq_some_iff.1 h
   cases r with
   | clo r=>exact .clo (a0p hf h1 r)
 . exact b8l hf h r
theorem b1z (hf:a1s f ρ ρ') (h:a7h f ss=some ss') (r:Rep N T ρ Z w (.tuple cs.toArray) (.tup ss)):Rep N T ρ' Z w (.tuple cs.toArray) (.tup ss'):=by
 induction ss generalizing cs ss' with
 | nil =>
  cases h
  generalize e:Value.tuple cs.toArray=u at r
  cases r with | tup0=>exact .tup0
 | cons s ss ih =>
  obtain ⟨u,c,rfl,h1,h2⟩:=Rep.tup_cons r
  simp only [a7h] at h
  split at h
  . rename_i a b ha hb
    cases h
    exact .tup1 (b9l hf ha h1) (ih hb h2)
  . cases h
theorem c8d (hf:a1s f ρ ρ') (h:c2t f s=some s') (r:Rep N T ρ Z w v s):Rep N T ρ' Z w v s':=by
 unfold c2t at h
 split at h
 . obtain ⟨ss',h1,rfl⟩:=Option.map_eq_some_iff.1 h
   obtain ⟨cs,rfl⟩:=Rep.tup_inv r
   exact b1z hf h1 r
 . exact b9l hf h r
theorem c9e {id id':Nat} {i i':Item N} (hf:a1s f ρ ρ') (hid:f id=some id') (h:c1r f i=some i') (r:holds N T ρ id Z w i):holds N T ρ' id' Z w i'/\o8 N ρ' id' i'=o8 N ρ id i:=by
 cases i with
 | own Ty cells =>
  obtain ⟨ss',h1,rfl⟩:=Option.map_eq_some_iff.1 (show (a3d f cells).map (fun vs=>Item.own Ty vs)=some i' from h)
  obtain ⟨L,cs,hL,hbs,ho,hr⟩:=r
  have hL':=hf _ _ hid _ hL
  exact ⟨⟨L,cs,hL',hbs,ho,a0p hf h1 hr⟩,by rw [p6 hL,p6 hL']⟩
 | ac t l =>
  cases h
  obtain ⟨L,hL,r⟩:=r
  have hL':=hf _ _ hid _ hL
  exact ⟨⟨L,hL',r⟩,by rw [q7 hL,q7 hL']⟩
 | fz t l =>
  cases h
  obtain ⟨L,hL,r⟩:=r
  exact ⟨⟨L,hf _ _ hid _ hL,r⟩,rfl⟩
 | ob k fid x =>
  obtain ⟨j,h1,rfl⟩:=Option.map_eq_some_iff.1 (show (f fid).map (fun j=>Item.ob k j x)=some i' from h)
  obtain ⟨L,Lf,hL,hLf,r⟩:=r
  have hL':=hf _ _ hid _ hL
  have hLf':=hf _ _ h1 _ hLf
  exact ⟨⟨L,Lf,hL',hLf',r⟩,by rw [A7 hLf,A7 hLf']⟩
 | rw t n cells =>
  obtain ⟨ss',h1,rfl⟩:=Option.map_eq_some_iff.1 (show (a3d f cells).map (fun vs=>Item.rw t n vs)=some i' from h)
  obtain ⟨L,F,hL,hn,hb,hA,hr,hrep⟩:=r
  have hL':=hf _ _ hid _ hL
  exact ⟨⟨L,F,hL',hn,hb,hA,hr,a0p hf h1 hrep⟩,by rw [B7 hL,B7 hL']⟩
theorem P3 {id:Nat} {i:Item N} (h:holds N T ρ id Z w i):(∃ L,ρ id=some L)/\∀ k fid x,i=.ob k fid x->∃ L,ρ fid=some L:=by
 cases i with
 | own Ty cells=>obtain ⟨L,cs,hL,_⟩:=h; simp_all
 | ac t l=>obtain ⟨L,hL,_⟩:=h; simp_all
 | fz t l=>obtain ⟨L,hL,_⟩:=h; simp_all
 | ob k fid x=>obtain ⟨L,Lf,hL,hLf,_⟩:=h; grind
 | rw t n cells=>obtain ⟨L,F,hL,_⟩:=h; simp_all
theorem c7x {nm:List (Option Nat)} {n i p:Nat} (h:X0 nm n i=some p):n<=p/\nm[p-n]?=some (some i):=by
 induction nm generalizing n with
 | nil=>cases h
 | cons o r ih =>
  unfold X0 at h
  cases o with
  | none =>
   grind
  | some j =>
   simp only at h
   cases hb:Nat.beq j i with
   | true =>
    simp_all
   | false =>
    grind
theorem b8s {its:i6 N}:∀ {ids:List Nat} {p:Nat} {l:i6 N},c19 its f p ids=some l->l.length=ids.length/\∀ (k:Nat) (q:Nat×Item N),l[k]?=some q->∃ i it,ids[k]?=some i/\lk its i=some it/\c1r f it=some q.2/\q.1=p+k
 | [],_,l,h=>by cases h; simp_all
 | i::r,p,l,h=>by
  simp only [c19] at h
  split at h
  . rename_i it hit
    split at h
    . rename_i it' l' h1 h2
      cases h
      obtain ⟨e,g⟩:=b8s h2
      grind
    . cases h
  . cases h
theorem b4f:∀ {its its':i6 N},a82 f its=some its'->its'.length=its.length/\∀ (k:Nat) (q:Nat×Item N),its'[k]?=some q->∃ p,its[k]?=some p/\f p.1=some q.1/\c1r f p.2=some q.2
 | [],its',h=>by cases h; simp_all
 | p::r,its',h=>by
  simp only [a82] at h
  split at h
  . rename_i i it r' h1 h2 h3
    cases h
    obtain ⟨e,g⟩:=b4f h3
    grind
  . cases h
end
section
variable {E:Env} {C:Ctx} {f fb:Fr} {w wb:World} {ρb ρ:n9} {Z Zb:Nat->Prop} {lkd its:i6 E.N} {fx:m6 E.N} {st st':E.St} {nx:Nat}
theorem E3:∀ {l:List Nat},distinct l=true->l.Nodup
 | [],_=>List.nodup_nil
 | a::r,h=>by
  simp only [distinct,Bool.and_eq_true,Bool.not_eq_true'] at h
  rw [List.nodup_cons]
  refine ⟨fun hm=>?_,E3 h.2⟩
  simp_all
theorem b3v {v:Value} {s:E.SV} {id:Nat} (h:Rep E.N E.T ρ Z w v s) (e:d04 s=some id):∃ L,ρ id=some L:=by
 unfold d04 at e
 split at e
 . cases e; cases h with | ref hL=>simp_all
 . cases e
theorem Rel.ownN {s id:Nat} (h:Rel E C fx lkd st ρ Z f w) (e:Go.Rx.ownN fx st s=some id):∃ L,ρ id=some L:=by
 unfold Go.Rx.ownN at e
 cases hb:Nat.blt s 1000000 with
 | true=>rw [hb,cond_true] at e; exact b3v (h.slot s) e
 | false =>
  rw [hb,cond_false] at e
  have hs:=h.slot (s % 1000000)
  generalize hv:p5 fx st (s % 1000000)=x at e hs
  split at e
  . rename_i K vs
    split at e
    . rename_i v hv
      generalize f (s % 1000000)=u at hs
      cases hs with
      | clo r =>
       obtain ⟨v',_,h1,_⟩:=i7.get (show i7 E.N E.T ρ Z w _ vs from r) _ _ hv
       exact b3v h1 e
    . cases e
  . cases e
theorem a2z {keep ids:List Nat} {vs:List LV} {α:Type} {g:Cur E.N α vs} {Kα:α->Prop} {K:α->E.St->Prop} (h0:Rel E C fx lkd st ρb Zb fb wb)
  (h:Rel E (C.at ρb Zb wb) (n8 fx st keep++fx) (l6 st.items ids++lkd) st' ρ Z f w) (hv:rbP E fx st (n8 fx st keep++fx) st' vs g Kα) (hK:H8 E fx st vs g ⟨[],[],[],st.nx⟩ K) :
  ∃ new ρ2 a,Kα a/\K a new/\Rel E (C.at ρb Zb wb) (n8 fx st keep++fx) (l6 st.items ids++lkd) new ρ2 Z f w:=by
 unfold rbP at hv
 cases hb:b4d E fx st (n8 fx st keep++fx) st' vs with
 | false=>simp_all
 | true =>
  rw [hb,cond_true] at hv
  unfold b4d at hb
  simp only [Bool.and_eq_true] at hb
  obtain ⟨hd,hr⟩:=hb
  split at hv
  . rename_i a ha
    have hρ:∀ i L,ρb i=some L->ρ i=some L:=h.mem.ge
    have hbase:∀ s id off,p5 fx st s=.ref id off->∃ L,ρb id=some L:=fun s id off e=>by
     have:=h0.slot s
     rw [e] at this
     generalize fb s=u at this
     cases this with
     | ref hL=>simp_all
    have hbA:∀ s id,b3c (p5 fx st s)=some id ∨ obN (p5 fx st s)=some id->∃ L,ρb id=some L:=fun s id e=>by
     have:=h0.slot s
     generalize p5 fx st s=x at e this
     generalize fb s=u at this
     rcases e with e | e
     . cases this with
       | acc hL=>cases e; simp_all
       | subs hL _ _ _ _ _=>cases e; simp_all
       | _=>cases e
     . cases this with
       | ref hL=>cases e; simp_all
       | yld hL=>cases e; simp_all
       | _=>cases e
    obtain ⟨new,ρ2,os,hF,hp,hk⟩:=K1 (fun s id e=>h0.ownN e) hbase hbA hρ h vs g a ⟨[],[],[],st.nx⟩ ρb [] ha (a7e hr) ⟨.nil,h0.mem.fr,fun _ _ h=>h,fun k s e=>(by cases e),rfl⟩ K hK
    have hnd:(os.filterMap id).Nodup:=hp.nodup_iff.2 (by simpa using E3 hd)
    refine ⟨new,ρ2,a,hv,hk,hF.sl,fun p hp=>?_,fun k j b s e=>(by rw [hF.gs] at e; cases e),?_,⟨hF.sub,h.tn.z,h.tn.ext⟩,h.g⟩
    . have r1:=h.fx p hp
      have r2:∃ v,Rep E.N E.T ρb Zb wb v p.2:=by
       rcases List.mem_append.1 hp with hp | hp
       . simp only [n8,List.mem_map] at hp
         obtain ⟨s,_,rfl⟩:=hp
         exact ⟨_,h0.slot s⟩
       . exact ⟨_,h0.fx p hp⟩
      obtain ⟨v,r2⟩:=r2
      exact Rep.sub (Rep.lower r1 r2 hρ) hF.sub
    . refine Mem.rebuild h.mem (fun p hp=>?_) hF.tg hnd hF.fr hF.sub
      obtain ⟨k,hk⟩:=List.getElem?_of_mem hp
      have e1:holds E.N E.T ρ p.1 Z w p.2:=h.mem.holds (k:=st'.items.length+k) (by grind)
      have e2:holds E.N E.T ρb p.1 Zb wb p.2:=by
       have hin:p∈st.items++lkd:=by
        rcases List.mem_append.1 hp with hp | hp
        . exact List.mem_append_left _ ((List.mem_filter.1 hp).1)
        . simp_all
       obtain ⟨k2,hk2⟩:=List.getElem?_of_mem hin
       exact h0.mem.holds hk2
      obtain ⟨a1,a2⟩:=a41 e1 e2 hρ
      obtain ⟨b1,b2⟩:=J0 hF.sub a1
      simp_all
  simp_all
theorem d8u {its:i6 E.N} {i:Nat} {it:Item E.N} (h:lk its i=some it):∃ j:Nat,its[j]?=some (i,it):=by
 obtain ⟨j,hj,_⟩:=p8 h
 grind
def b6e (E:Env) (ρ:n9) (its:i6 E.N) (i:Nat):List Nat:=match lk its i with | some it=>o8 E.N ρ i it | none=>[]
theorem c00 {K:Nat} {args a':List E.SV} {i':i6 E.N} {S:PT E.N} {k:E.SV->i6 E.N->Nat->Prop} {ids:List Nat} {vs:List Value} (hd:distinct ids=true) (ha:a7h (X0 (B6 its ids) 0) args=some a') (hi:c19 its (X0 (B6 its ids) 0) 0 ids=some i') (hG:R9 E.P E.N E.T E.G K a' i' (2 * i'.length) S)
  (hv:S (fun s it n=>match c2t (a44 (B6 its ids) nx) s,a82 (a44 (B6 its ids) nx) it with
    | some s',some it'=>k s' (it'++l6 its ids) (nx+(n-(B6 its ids).length))
    | _,_=>False))
  (hm:Mem E C ρ Z w (its++lkd) nx) (hg:E.G.is Z w) (ha0:Rep E.N E.T ρ Z w (.tuple vs.toArray) (.tup args)) :
  D4 E.P K vs w (fun v w'=>∃ ρ' Z' s its' nx',Mem E C ρ' Z' w' (its'++lkd) nx'/\Tn ρ Z w ρ' Z' w'/\Rep E.N E.T ρ' Z' w' v s/\k s its' nx'):=by
 have hnd:=E3 hd
 generalize hnm:B6 its ids=nm at ha hi hv
 have hlen:nm.length=2 * ids.length:=by rw [<- hnm]; unfold B6; simp only [List.length_append,List.length_map]; omega
 obtain ⟨hil,hsel⟩:=b8s hi
 have hm2:Mem E C ρ Z w (within its ids++(l6 its ids++lkd)) nx:=hm.perm (by rw [<- List.append_assoc]; exact (W3 its ids).append_right lkd)
 -- the parts chosen
 have pick:∀ (p i:Nat),ids[p]?=some i->∃ it j,lk its i=some it/\(within its ids)[j]?=some (i,it):=fun p i hp=>by
  have hlt:p<i'.length:=by rw [hil]; exact s6 hp
  obtain ⟨i2,it,h1,h2,_⟩:=hsel p _ (List.getElem?_eq_getElem hlt)
  rw [hp] at h1; cases h1
  obtain ⟨j,hj⟩:=d8u h2
  have hmem:(i,it)∈within its ids:=List.mem_filter.2 ⟨List.mem_of_getElem? hj,List.elem_eq_true_of_mem (List.mem_of_getElem? hp)⟩
  obtain ⟨j2,hj2⟩:=List.getElem?_of_mem hmem
  exact ⟨it,j2,h2,hj2⟩
 have holdsI:∀ (j:Nat) (i:Nat) (it:Item E.N),(within its ids)[j]?=some (i,it)->holds E.N E.T ρ i Z w it:=fun j i it hj=>hm2.holds (l8 (l2:=l6 its ids++lkd) hj)
 have named:∀ (j i:Nat),nm[j]?=some (some i)->∃ L,ρ i=some L:=fun j i hj=>by
  rw [<- hnm] at hj
  unfold B6 at hj
  by_cases hlt:j<ids.length
  . rw [List.getElem?_append_left (by simpa using hlt),List.getElem?_map] at hj
    obtain ⟨i2,h1,h2⟩:=Option.map_eq_some_iff.1 hj
    cases h2
    obtain ⟨it,j2,_,hj2⟩:=pick j i h1
    exact (P3 (holdsI j2 i it hj2)).1
  . rw [List.getElem?_append_right (by simpa using Nat.le_of_not_lt hlt),List.getElem?_map] at hj
    obtain ⟨i2,h1,h2⟩:=Option.map_eq_some_iff.1 hj
    obtain ⟨it,j2,hlk,hj2⟩:=pick _ i2 h1
    unfold d0n at h2
    rw [hlk] at h2
    cases it with
    | ob kk f x=>cases h2; exact (P3 (holdsI j2 i2 _ hj2)).2 kk i x rfl
    | _=>cases h2
 let ρc:n9:=fun p=>match nm[p]? with | some (some i)=>ρ i | _=>none
 have hρc:∀ p i,nm[p]?=some (some i)->ρc p=ρ i:=fun p i h=>by grind
 have hf:a1s (X0 nm 0) ρ ρc:=fun i p h L hL=>by
  obtain ⟨_,h2⟩:=c7x h
  simp_all
 let B:List Nat:=ids.flatMap (b6e E ρ its)
 have hB:∀ b∈B,∃ (i j:Nat) (it:Item E.N),(within its ids)[j]?=some (i,it)/\b∈o8 E.N ρ i it:=fun b hb=>by
  obtain ⟨i,hi1,hb⟩:=List.mem_flatMap.1 hb
  obtain ⟨p,hp⟩:=List.getElem?_of_mem hi1
  obtain ⟨it,j,hlk,hj⟩:=pick p i hp
  unfold b6e at hb
  grind
 have okW:∀ (j:Nat) (i:Nat) (it:Item E.N),(within its ids)[j]?=some (i,it)->(z6 E.N E.T ρ C.B0 i it).Ok C.B0 C.w0 Z w:=fun j i it hj=>hm2.sep.ok j _ (l4 (l8 (l2:=l6 its ids++lkd) hj))
 -- the parts under their own names
 have parts:∀ (p:Nat) (q:Nat×Item E.N),i'[p]?=some q->∃ i it j,ids[p]?=some i/\(within its ids)[j]?=some (i,it)/\holds E.N E.T ρc q.1 Z w q.2/\o8 E.N ρc q.1 q.2=o8 E.N ρ i it:=fun p q hq=>by
  obtain ⟨i,it,h1,h2,h3,h4⟩:=hsel p q hq
  obtain ⟨it2,j,hlk,hj⟩:=pick p i h1
  rw [h2] at hlk; cases hlk
  have hid:a1s (fun x=>if x=i then some q.1 else X0 nm 0 x) ρ ρc:=fun x y e L hL=>by
   simp only at e
   split at e
   . rename_i ex; cases e; subst ex
     have hn:nm[q.1]?=some (some x):=by
      rw [<- hnm]; unfold B6
      have:p<ids.length:=s6 h1
      rw [h4,Nat.zero_add,List.getElem?_append_left (by simpa using this),List.getElem?_map,h1]; rfl
     simp_all
   . exact hf x y e L hL
  have h3':c1r (X0 nm 0) it=some q.2:=h3
  have hh:=holdsI j i it hj
  -- names of cells
  have:holds E.N E.T ρc q.1 Z w q.2/\o8 E.N ρc q.1 q.2=o8 E.N ρ i it:=by
   obtain ⟨L,hL⟩:=(P3 hh).1
   have hq1:ρc q.1=some L:=by
    have:=hid i q.1 (by simp) L hL
    exact this
   cases it with
   | own Ty cells =>
    obtain ⟨ss',e1,e2⟩:=Option.map_eq_some_iff.1 (show (a3d (X0 nm 0) cells).map (fun vs=>Item.own Ty vs)=some q.2 from h3')
    rw [<- e2]
    obtain ⟨L',cs,hL',hbs,ho,hr⟩:=hh
    rw [hL] at hL'; cases hL'
    exact ⟨⟨L,cs,hq1,hbs,ho,a0p hf e1 hr⟩,by rw [p6 hL,p6 hq1]⟩
   | ac t l =>
    have e2:Item.ac t l=q.2:=Option.some.inj h3'
    rw [<- e2]
    obtain ⟨L',hL',r⟩:=hh
    rw [hL] at hL'; cases hL'
    exact ⟨⟨L,hq1,r⟩,by rw [q7 hL,q7 hq1]⟩
   | fz t l =>
    have e2:Item.fz t l=q.2:=Option.some.inj h3'
    rw [<- e2]
    obtain ⟨L',hL',r⟩:=hh
    rw [hL] at hL'; cases hL'
    exact ⟨⟨L,hq1,r⟩,rfl⟩
   | ob kk fid x =>
    obtain ⟨jf,e1,e2⟩:=Option.map_eq_some_iff.1 (show (X0 nm 0 fid).map (fun j=>Item.ob kk j x)=some q.2 from h3')
    rw [<- e2]
    obtain ⟨L',Lf,hL',hLf,r⟩:=hh
    rw [hL] at hL'; cases hL'
    have hLf':=hf _ _ e1 _ hLf
    exact ⟨⟨L,Lf,hq1,hLf',r⟩,by rw [A7 hLf,A7 hLf']⟩
   | rw t n cells =>
    obtain ⟨ss',e1,e2⟩:=Option.map_eq_some_iff.1 (show (a3d (X0 nm 0) cells).map (fun vs=>Item.rw t n vs)=some q.2 from h3')
    rw [<- e2]
    obtain ⟨L',F,hL',hn,hb,hA,hr,hrep⟩:=hh
    rw [hL] at hL'; cases hL'
    exact ⟨⟨L,F,hq1,hn,hb,hA,hr,a0p hf e1 hrep⟩,by rw [B7 hL,B7 hq1]⟩
  exact ⟨i,it,j,h1,hj,this.1,this.2⟩
 have hsep:Sep B w Z w (o0 E.N E.T ρc B i'):=by
  refine ⟨Ext.refl _ _,hm.sep.zlt,fun p t hp=>?_,fun p p2 t t2 hp hp2 hne b hb hb2=>?_⟩
  . obtain ⟨q,hq,rfl⟩:=m9 hp
    obtain ⟨i,it,j,h1,hj,h2,h3⟩:=parts p q hq
    have ok:=okW j i it hj
    have hF:∀ b,b∈o8 E.N ρc q.1 q.2->b∈o8 E.N ρ i it:=fun b hb=>by rw [<- h3]; exact hb
    refine ⟨h2,p7,fun b hb=>ok.lt b (hF b hb),fun b hb=>ok.notZ b (hF b hb),fun b hb=>.inl ?_,fun b hb=>hb⟩
    refine List.mem_flatMap.2 ⟨i,List.mem_of_getElem? h1,?_⟩
    obtain ⟨it2,j2,hlk,hj2⟩:=pick p i h1
    have hlk':lk its i=some it:=by
     obtain ⟨i3,it3,g1,g2,g3,g4⟩:=hsel p q hq
     rw [h1] at g1; cases g1
     obtain ⟨i5,it5,j5,k1,k2,_⟩:=parts p q hq
     rw [hlk]
     by_cases e:it2=it
     . rw [e]
     . exfalso
       have e1:=hm2.sep.apart j j2 _ _ (l4 (l8 (l2:=l6 its ids++lkd) hj)) (l4 (l8 (l2:=l6 its ids++lkd) hj2)) (fun ej=>by simp_all) b (hF b hb)
       have f1:o8 E.N ρ i it2=o8 E.N ρ i it:=by
        have:o8 E.N ρc q.1 q.2=o8 E.N ρ i it2:=by
         rw [g2] at hlk; cases hlk
         have hh:=holdsI j2 i it2 hj2
         obtain ⟨L,hL⟩:=(P3 hh).1
         have hn:nm[q.1]?=some (some i):=by
          rw [<- hnm]; unfold B6
          have:p<ids.length:=s6 h1
          rw [g4,Nat.zero_add,List.getElem?_append_left (by simpa using this),List.getElem?_map,h1]; rfl
         have hq1:ρc q.1=some L:=by rw [hρc _ _ hn]; exact hL
         cases it2 with
         | own Ty cells =>
          obtain ⟨ss',e1,e2⟩:=Option.map_eq_some_iff.1 (show (a3d (X0 nm 0) cells).map (fun vs=>Item.own Ty vs)=some q.2 from g3)
          rw [<- e2,p6 hL,p6 hq1]
         | ac t l =>
          have e2:Item.ac t l=q.2:=Option.some.inj g3
          rw [<- e2,q7 hL,q7 hq1]
         | fz t l =>
          have e2:Item.fz t l=q.2:=Option.some.inj g3
          rw [<- e2]; rfl
         | ob kk fid x =>
          obtain ⟨jf,e1,e2⟩:=Option.map_eq_some_iff.1 (show (X0 nm 0 fid).map (fun j=>Item.ob kk j x)=some q.2 from g3)
          obtain ⟨Lf,hLf⟩:=(P3 hh).2 kk fid x rfl
          have hLf':=hf _ _ e1 _ hLf
          rw [<- e2,A7 hLf,A7 hLf']
         | rw t n cells =>
          obtain ⟨ss',e1,e2⟩:=Option.map_eq_some_iff.1 (show (a3d (X0 nm 0) cells).map (fun vs=>Item.rw t n vs)=some q.2 from g3)
          rw [<- e2,B7 hL,B7 hq1]
        rw [<- this,h3]
       exact e1 (by show b∈o8 E.N ρ i it2; rw [f1]; exact hF b hb)
    unfold b6e
    rw [hlk']
    exact hF b hb
  . obtain ⟨q,hq,rfl⟩:=m9 hp
    obtain ⟨q2,hq2,rfl⟩:=m9 hp2
    obtain ⟨i,it,j,h1,hj,_,h3⟩:=parts p q hq
    obtain ⟨i2,it2,j2,g1,gj,_,g3⟩:=parts p2 q2 hq2
    have hii:i≠i2:=fun e=>by
     subst e
     have hl1:=s6 h1
     have hl2:=s6 g1
     rw [List.getElem?_eq_getElem hl1] at h1
     rw [List.getElem?_eq_getElem hl2] at g1
     cases h1
     exact hne ((List.getElem_inj hnd).1 (Option.some.inj g1).symm)
    refine hm2.sep.apart j j2 _ _ (l4 (l8 (l2:=l6 its ids++lkd) hj)) (l4 (l8 (l2:=l6 its ids++lkd) gj)) (fun e=>by simp_all) b ?_ ?_
    . show b∈o8 E.N ρ i it; rw [<- h3]; exact hb
    . show b∈o8 E.N ρ i2 it2; rw [<- g3]; exact hb2
 have hnl:2 * i'.length=nm.length:=by rw [hlen,hil]
 have run:=hG _ hv ρc Z w vs B (fun i hi=>by
  grind) hsep hg (b1z hf ha ha0)
 refine run.mono fun v w' ⟨ρ',Z',s,it,n',hs',hfr',hρ',hz1,hz2,hr',hk⟩=>?_
 split at hk
 . rename_i s' it' h1 h2
   let ρ2:n9:=fun i=>if i<nx then ρ i else ρ' (nm.length+(i-nx))
   have old:∀ i L,ρ i=some L->ρ2 i=some L:=fun i L h=>by
    have:i<nx:=by
     rcases Nat.lt_or_ge i nx with h1 | h1
     . exact h1
     . rw [hm.fr i h1] at h; cases h
    grind
   have hf2:a1s (a44 nm nx) ρ' ρ2:=fun j i h L hL=>by
    unfold a44 at h
    grind
   obtain ⟨itl,itp⟩:=b4f h2
   have x:=hs'.ext
   have w0le:=hm.sep.ext.size
   have Bold:∀ b∈B,b<w.heap.size/\¬ Z b/\(b∈C.B0 ∨ C.w0.heap.size<=b):=fun b hb=>by
    obtain ⟨i,j,it,hj,hb⟩:=hB b hb
    have ok:=okW j i it hj
    exact ⟨ok.lt b hb,ok.notZ b hb,ok.org b hb⟩
   -- what is new,or was turned
   have newF:∀ {p:Nat} {q:Nat×Item E.N},it'[p]?=some q->∃ q0,it[p]?=some q0/\holds E.N E.T ρ2 q.1 Z' w' q.2/\o8 E.N ρ2 q.1 q.2=o8 E.N ρ' q0.1 q0.2/\∀ b∈o8 E.N ρ2 q.1 q.2,b<w'.heap.size/\¬ Z' b/\(b∈B ∨ w.heap.size<=b):=fun {p q} hq=>by
    obtain ⟨q0,h3,h4,h5⟩:=itp p q hq
    have ok:=hs'.ok p _ (l4 h3)
    obtain ⟨a1,a2⟩:=c9e (T:=E.T) (Z:=Z') (w:=w') hf2 h4 h5 ok.holds
    refine ⟨q0,h3,a1,a2,fun b hb=>?_⟩
    rw [a2] at hb
    exact ⟨ok.lt b hb,ok.notZ b hb,ok.org b hb⟩
   -- what lay beside
   have rest:∀ {p:Nat} {q:Nat×Item E.N},(l6 its ids++lkd)[p]?=some q->holds E.N E.T ρ2 q.1 Z' w' q.2/\o8 E.N ρ2 q.1 q.2=o8 E.N ρ q.1 q.2/\∀ b∈o8 E.N ρ q.1 q.2,b<w.heap.size/\¬ Z' b/\(b∈C.B0 ∨ C.w0.heap.size<=b)/\b ∉ B:=fun {p q} hq=>by
    have hq2:(within its ids++(l6 its ids++lkd))[(within its ids).length+p]?=some q:=by rw [List.getElem?_append_right (by omega)]; simpa using hq
    have ok:=hm2.sep.ok _ _ (l4 hq2)
    have nB:∀ b∈o8 E.N ρ q.1 q.2,b ∉ B:=fun b hb hbB=>by
     obtain ⟨i,j,it,hj,hb2⟩:=hB b hbB
     have hjl:=s6 hj
     exact hm2.sep.apart _ j _ _ (l4 hq2) (l4 (l8 (l2:=l6 its ids++lkd) hj)) (by omega) b hb hb2
    have h1:holds E.N E.T ρ q.1 Z' w' q.2:=p7 (B0:=C.B0) Z Z' B w w' (hm2.holds hq2) x (fun b hb h=>by
     rcases h with h | h
     . exact absurd hb (nB b h)
     . exact absurd h (Bold b hb).2.1) hz1
    obtain ⟨a1,a2⟩:=J0 old h1
    refine ⟨a1,a2,fun b hb=>⟨ok.lt b hb,fun hz=>?_,ok.org b hb,nB b hb⟩⟩
    rcases hz2 b hz with h | h | h
    . exact ok.notZ b hb h
    . exact nB b hb h
    . have:b<w.heap.size:=ok.lt b hb
      omega
   refine ⟨ρ2,Z',s',it'++l6 its ids,nx+(n'-nm.length),⟨⟨hm.sep.ext.trans x (fun b hb=>.inl hb) (fun b hb=>(Bold b hb).2.2),hs'.zlt,fun p t hp=>?_,fun p p2 t t2 hp hp2 hne b hb hb2=>?_⟩,fun i hi=>?_,fun i L e=>old i L (hm.ge i L e),fun b h=>hz1 b (hm.zge b h),fun b h=>?_⟩,⟨old,fun b h _=>hz1 b h,B,x,fun b hb hz=>absurd hz (Bold b hb).2.1⟩,c8d hf2 h1 hr',hk⟩
   . rw [List.append_assoc] at hp
     obtain ⟨q,hq,rfl⟩:=m9 hp
     by_cases hlt:p<it'.length
     . rw [List.getElem?_append_left hlt] at hq
       obtain ⟨q0,_,h3,h4,h5⟩:=newF hq
       refine ⟨h3,p7,fun b hb=>(h5 b hb).1,fun b hb=>(h5 b hb).2.1,fun b hb=>?_,fun b hb=>hb⟩
       rcases (h5 b hb).2.2 with h | h
       . exact (Bold b h).2.2
       omega
     . rw [List.getElem?_append_right (by omega)] at hq
       obtain ⟨h3,h4,h5⟩:=rest hq
       have hF:∀ b,b∈o8 E.N ρ2 q.1 q.2->b∈o8 E.N ρ q.1 q.2:=fun b hb=>by rw [<- h4]; exact hb
       exact ⟨h3,p7,fun b hb=>by have:=(h5 b (hF b hb)).1; have:=x.size; omega,fun b hb=>(h5 b (hF b hb)).2.1,fun b hb=>(h5 b (hF b hb)).2.2.1,fun b hb=>hb⟩
   . rw [List.append_assoc] at hp hp2
     obtain ⟨q,hq,rfl⟩:=m9 hp
     obtain ⟨q2,hq2,rfl⟩:=m9 hp2
     have hb:b∈o8 E.N ρ2 q.1 q.2:=hb
     have hb2:b∈o8 E.N ρ2 q2.1 q2.2:=hb2
     have cross:∀ {u v:Nat×Item E.N} {a c:Nat},it'[a]?=some u->(l6 its ids++lkd)[c]?=some v->b∈o8 E.N ρ2 u.1 u.2->b∈o8 E.N ρ2 v.1 v.2->False:=fun {u v a c} hu hv h1 h2=>by
      grind
     by_cases e1:p<it'.length
     . rw [List.getElem?_append_left e1] at hq
       by_cases e2:p2<it'.length
       . rw [List.getElem?_append_left e2] at hq2
         obtain ⟨u,hu,_,hu2,_⟩:=newF hq
         obtain ⟨u2,hv,_,hv2,_⟩:=newF hq2
         rw [hu2] at hb
         rw [hv2] at hb2
         exact hs'.apart p p2 _ _ (l4 hu) (l4 hv) hne b hb hb2
       grind
     . rw [List.getElem?_append_right (by omega)] at hq
       by_cases e2:p2<it'.length
       . rw [List.getElem?_append_left e2] at hq2
         exact cross hq2 hq hb2 hb
       . rw [List.getElem?_append_right (by omega)] at hq2
         rw [(rest hq).2.1] at hb
         rw [(rest hq2).2.1] at hb2
         have g1:(within its ids++(l6 its ids++lkd))[(within its ids).length+(p-it'.length)]?=some q:=by rw [List.getElem?_append_right (by omega)]; simpa using hq
         have g2:(within its ids++(l6 its ids++lkd))[(within its ids).length+(p2-it'.length)]?=some q2:=by rw [List.getElem?_append_right (by omega)]; simpa using hq2
         exact hm2.sep.apart _ _ _ _ (l4 g1) (l4 g2) (by omega) b hb hb2
   . grind
   . rcases hz2 b h with h | h | h
     . exact hm.zle b h
     . exact .inr (Bold b h).2.2
     . exact .inr (.inr (by omega))
 . exact hk.elim
theorem a0l {nm:List Nat} {α:Type} {P:α->Nat->i6 E.N->List E.SV->Prop}:∀ (ks:List TK) (nx:Nat) (its:i6 E.N) (acc:List E.SV) (K:Nat->i6 E.N->List E.SV->α),(∀ nx its cs,P (K nx its cs) nx its cs)->a3x E nm ks nx its acc (b2k E nm ks nx its acc K) P
 | [],nx,its,acc,K,h=>h nx its acc
 | .v k::r,nx,its,acc,K,h=>fun x=>a0l r _ _ _ K h
 | .to j::r,nx,its,acc,K,h=>a0l r _ _ _ K h
 | .nilp::r,nx,its,acc,K,h=>a0l r _ _ _ K h
theorem a3k {nm:List Nat} {α:Type} {P:α->Nat->i6 E.N->Prop}:∀ (ps:List TP) (i nx:Nat) (its:i6 E.N) (K:Nat->i6 E.N->α),(∀ nx its,P (K nx its) nx its)->a7i E nm ps i nx its (b8r E nm ps i nx its K) P
 | [],i,nx,its,K,h=>h nx its
 | .own _ T ks::r,i,nx,its,K,h=>a0l ks nx its [] _ (fun nx1 its1 cs=>a3k r (i+1) nx1 _ K h)
 | .ob _ k::r,i,nx,its,K,h=>fun x=>a3k r (i+1) _ _ K h
theorem a74 {α:Type} {P:α->E.St->Prop}:∀ (vs:List LV) (new:E.St) (K:E.St->α),a7n vs=true->(∀ new',P (K new') new')->H8 E fx st vs (c5s E fx st vs new K) new P
 | [],new,K,_,h=>h new
 | .slot s k::r,new,K,ho,h=>fun x=>a74 r _ K ho h
 | .tree ss ps::r,new,K,ho,h=>a3k ps 0 _ _ _ (fun nx its=>a74 r _ K ho h)
 | .own _ _::_,_,_,ho,_=>by cases ho
 | .ob _ _::_,_,_,ho,_=>by cases ho
 | .cont _ _::_,_,_,ho,_=>by cases ho
 | .chain _ _ _ _::_,_,_,ho,_=>by cases ho
 | .rows _ _ _ _::_,_,_,ho,_=>by cases ho
 | .alt::_,_,_,ho,_=>by cases ho
 | .unr _::_,_,_,ho,_=>by cases ho
theorem a5a:∀ {ss:List (List LV)} {new:E.St},Rel E C [] lkd st ρ Z f w->b2r E st ss=some new->∃ ρ2,Mem E C ρ2 Z w (new.items++lkd) new.nx/\Tn ρ Z w ρ2 Z w/\∀ k,Rep E.N E.T ρ2 Z w (f k) (p5 [] new k)
 | [],_,_,h=>by cases h
 | vs::r,new,hr,h=>by
  unfold b2r at h
  cases hb:(a7n vs && b4d E [] st [] (inn st (s8 E [] st vs)) vs) with
  | false=>rw [hb,cond_false] at h; exact a5a hr h
  | true =>
   rw [hb,cond_true] at h
   simp only [Bool.and_eq_true] at hb
   split at h
   . rename_i n0 hn0
     simp only [Option.some.injEq] at h
     have hv:rbP E [] st (n8 [] st []++[]) (inn st (s8 E [] st vs)) vs (c5s E [] st vs ⟨[],[],[],st.nx⟩ id) (fun a=>a=n0):=by
      unfold rbP
      rw [show n8 ([]:m6 E.N) st []++[]=[] from rfl,hb.2,cond_true,hn0]
     obtain ⟨n1,ρ2,a,e1,e2,h3⟩:=a2z (K:=fun a n=>a=n) hr (hr.enter [] (s8 E [] st vs)) hv (a74 vs _ id hb.1 fun _=>rfl)
     subst e1; subst e2
     have hm:=Mem.upC hr.mem h3.mem
     subst h
     refine ⟨ρ2,by simp_all,h3.tn,fun k=>h3.slot k⟩
   . exact a5a hr h
theorem RepT.of_get {cs:List Value} {ss:List E.SV} (hl:cs.length=ss.length) (h:∀ (i:Nat) (u:Value) (s:E.SV),cs[i]?=some u->ss[i]?=some s->Rep E.N E.T ρ Z w u s):Rep E.N E.T ρ Z w (.tuple cs.toArray) (.tup ss):=by
 induction ss generalizing cs with
 | nil =>
  have:cs=[]:=List.eq_nil_of_length_eq_zero (by omega)
  subst this; exact .tup0
 | cons s ss ih =>
  cases cs with
  | nil=>simp at hl
  | cons c cs=>exact .tup1 (h 0 c s rfl rfl) (ih (by simp_all) fun i u s hu hs=>h (i+1) u s hu hs)
theorem RepT.get {cs:List Value} {ss:List E.SV} (h:Rep E.N E.T ρ Z w (.tuple cs.toArray) (.tup ss)):cs.length=ss.length/\∀ (i:Nat) (u:Value) (s:E.SV),cs[i]?=some u->ss[i]?=some s->Rep E.N E.T ρ Z w u s:=by
 induction ss generalizing cs with
 | nil =>
  generalize e:Value.tuple cs.toArray=u at h
  cases h with | tup0=>simp_all
 | cons s ss ih =>
  obtain ⟨v,r,rfl,h1,h2⟩:=Rep.tup_cons h
  grind
theorem a47 {st:E.St}:∀ (n i k:Nat) (s:E.SV),(R8 E st n i)[k]?=some s->s=p5 [] st (i+k)/\k<n
 | 0,i,k,s,h=>by simp [R8] at h
 | n+1,i,k,s,h=>by
  cases k with
  | zero=>simp [R8] at h; simp_all
  | succ k =>
   obtain ⟨a,b⟩:=a47 n (i+1) k s (by simpa [R8] using h)
   grind
theorem a3r {st:E.St}:∀ (n i:Nat),(R8 E st n i).length=n
 | 0,_=>rfl
 | n+1,i=>by simp [R8,a3r n (i+1)]
theorem a4i:∀ {vs:List Value} {args:List E.SV} {n:Nat},Rep E.N E.T ρ Z w (.tuple vs.toArray) (.tup args)->∀ k s,lk (number n args) (n+k)=some s->Rep E.N E.T ρ Z w (nth vs k) s
 | vs,[],n,_,k,s,e=>by cases e
 | vs,a::args,n,h,k,s,e=>by
  obtain ⟨v,r,rfl,h1,h2⟩:=Rep.tup_cons h
  have e:(bif Nat.beq n (n+k) then some a else lk (number (n+1) args) (n+k))=some s:=e
  cases k with
  | zero=>rw [Nat.add_zero,Nat.beq_refl,cond_true] at e; cases e; exact h1
  | succ k =>
   rw [O1 (by omega),cond_false] at e
   exact a4i (n:=n+1) h2 k s (by grind)
theorem a2t:∀ {vs:List Value} {args:List E.SV},Rep E.N E.T ρ Z w (.tuple vs.toArray) (.tup args)->vs.length=args.length
 | vs,[],h=>by
  generalize e:Value.tuple vs.toArray=u at h
  cases h with
  | tup0=>simp_all
 | vs,a::args,h=>by
  obtain ⟨v,r,rfl,h1,h2⟩:=Rep.tup_cons h
  simp [a2t h2]
theorem b8m:∀ {vs:List Value} {k:Nat} {u:Value},vs[k]?=some u->nth vs k=u
 | [],k,u,h=>by simp at h
 | v::vs,0,u,h=>by simp at h; exact h
 | v::vs,k+1,u,h=>b8m (vs:=vs) (by simpa using h)
theorem c9n {vs:List Value} {args:List E.SV} {i:Nat} {v':E.SV} (h:Rep E.N E.T ρ Z w (.tuple vs.toArray) (.tup args)) (hv:∀ u,vs[i]?=some u->Rep E.N E.T ρ Z w u v'):Rep E.N E.T ρ Z w (.tuple vs.toArray) (.tup (args.set i v')):=by
 obtain ⟨h1,h2⟩:=RepT.get h
 refine RepT.of_get (by simp_all) fun k u s hu hs=>?_
 grind
theorem b23:∀ {fz:List Nat} {args a':List E.SV} {its its':i6 E.N} {Z:Nat->Prop} {vs:List Value},Mem E C ρ Z w (its++lkd) nx->b37 its fz args=some (a',its')->Rep E.N E.T ρ Z w (.tuple vs.toArray) (.tup args)->∃ Z',Mem E C ρ Z' w (its'++lkd) nx/\Tn ρ Z w ρ Z' w/\Rep E.N E.T ρ Z' w (.tuple vs.toArray) (.tup a')
 | [],args,a',its,its',Z,vs,hm,h,ha=>by
  simp only [b37,Option.some.injEq,Prod.mk.injEq] at h
  obtain ⟨rfl,rfl⟩:=h
  exact ⟨Z,hm,Tn.refl _ _ _,ha⟩
 | i::r,args,a',its,its',Z,vs,hm,h,ha=>by
  unfold b37 at h
  split at h
  . rename_i v hv
    split at h
    . rename_i v' its1 h1
      obtain ⟨Z1,m1,t1,e1⟩:=a4p hm h1
      have ha1:Rep E.N E.T ρ Z1 w (.tuple vs.toArray) (.tup (args.set i v')):=c9n (t1.rep ha) fun u hu=>e1 u ((RepT.get ha).2 i u v hu hv)
      obtain ⟨Z2,m2,t2,a2⟩:=b23 m1 h ha1
      exact ⟨Z2,m2,t1.trans t2,a2⟩
    . cases h
  . cases h
theorem a8i {o:FC E.N} {args a':List E.SV} {its':i6 E.N} {m:Nat} {vs:List Value} (hg:E.G.is Z w) (hm:Mem E C ρ Z w (its++lkd) nx) (h:a98 o args its nx=some (a',its',m)) (ha:Rep E.N E.T ρ Z w (.tuple vs.toArray) (.tup args)) :
  ∃ ρ' Z',Mem E C ρ' Z' w (its'++lkd) m/\Tn ρ Z w ρ' Z' w/\Rep E.N E.T ρ' Z' w (.tuple vs.toArray) (.tup a'):=by
 unfold a98 at h
 split at h
 . rename_i a i hf
   obtain ⟨Z1,m1,t1,a1⟩:=b23 hm hf ha
   cases hb:o.ss.isEmpty with
   | true =>
    grind
   | false =>
    rw [hb,cond_false] at h
    split at h
    . rename_i new hn
      simp only [Option.some.injEq,Prod.mk.injEq] at h
      obtain ⟨rfl,rfl,rfl⟩:=h
      have h0:Rel E (C.at ρ Z1 w) [] lkd ⟨number 0 a,[],i,nx⟩ ρ Z1 (nth vs) w:=⟨fun k s e=>a4i (n:=0) a1 k s (by simpa using e),fun p hp=>(by cases hp),fun k j b s e=>(by cases e),m1.down,Tn.refl _ _ _,Y2.turn hg t1⟩
      obtain ⟨ρ2,m2,t2,r2⟩:=a5a h0 hn
      refine ⟨ρ2,Z1,Mem.upC m1 m2,t1.trans t2,RepT.of_get (by rw [a2t a1,a3r]) fun k u s hu hs=>?_⟩
      obtain ⟨e,_⟩:=a47 _ 0 k s hs
      rw [Nat.zero_add] at e
      have:=r2 k
      rw [b8m hu] at this
      simp_all
    . cases h
 . cases h
theorem c5m (hE:j7 E) {K:Nat} {o:FC E.N} {args:List E.SV} {s:S1 E.N} {vs:List Value} (hK:E.fnc K=some o) (h:b8w o args its nx=some s) (ho:q6 s.ob) (hm:Mem E C ρ Z w (its++lkd) nx) (hg:E.G.is Z w) (ha:Rep E.N E.T ρ Z w (.tuple vs.toArray) (.tup args)) :
  D4 E.P K vs w (fun v w'=>∃ ρ' Z',Mem E C ρ' Z' w' (s.items++lkd) s.nx/\Tn ρ Z w ρ' Z' w'/\Rep E.N E.T ρ' Z' w' v s.v/\q6 s.hy):=by
 unfold b8w at h
 split at h
 . rename_i a i m hA
   obtain ⟨ρ1,Z1,m1,t1,a1⟩:=a8i hg hm hA ha
   generalize reach i 60 (a.flatMap a63) []=ids at h
   unfold d1p at h
   cases hd:distinct ids with
   | false=>simp_all
   | true =>
    rw [hd,cond_true] at h
    split at h
    . rename_i a' i' h1 h2
      split at h
      . rename_i r hr
        split at h
        . rename_i v it h3 h4
          simp only [Option.some.injEq] at h
          subst h
          have hG:=hE.fnc K o a' i' r hK hr ho
          refine (c00 (k:=fun sv it' n=>sv=v/\it'=it++l6 i ids/\n=m+(r.n-(B6 i ids).length)/\q6 r.hy) hd h1 h2 hG (fun hy=>?_) m1 (Y2.turn hg t1) a1).mono fun v' w' ⟨ρ',Z',sv,it',n',q1,q2,q3,q4⟩=>?_
          . simp_all
          . obtain ⟨rfl,rfl,rfl,hy⟩:=q4
            exact ⟨ρ',Z',q1,t1.trans q2,q3,hy⟩
        . cases h
      . cases h
    . cases h
 . cases h
end
end Go.Rx
end
section
namespace Go.Rx
open Go Go.Wk Go.Wl
def F1 (E:Env) (inl:Inl E):Prop :=
 ∀ (K:Nat) (args:List E.SV) (its lkd:i6 E.N) (nx:Nat) (k:E.SV->i6 E.N->Nat->Prop),inl K args its lkd nx k->(E.inl K).isSome=true /\
  ∀ (C:Ctx) (ρ:n9) (Z:Nat->Prop) (w:World) (vs:List Value),Mem E C ρ Z w (its++lkd) nx->E.G.is Z w->Rep E.N E.T ρ Z w (.tuple vs.toArray) (.tup args) ->
   D4 E.P K vs w (fun v w'=>∃ ρ' Z' s its' nx',Mem E C ρ' Z' w' (its'++lkd) nx'/\Tn ρ Z w ρ' Z' w'/\Rep E.N E.T ρ' Z' w' v s/\k s its' nx')
section
variable {E:Env} {C:Ctx} {n:Nat} {ops:List Oper} {Q:Exit->Fr->World->Prop} {rest:List Oper} {f:Fr} {w w':World}
variable {ty T T':TypeId} {pos:String} {after:Array Edge} {x y z:Operand} {a b:Int} {ρ ρ':n9} {Z Z':Nat->Prop} {its its' lkd:i6 E.N} {nx:Nat} {s:S1 E.N}
variable {fx:m6 E.N} {st:E.St} {inl:Inl E}
theorem Mem.ext0 (hm:Mem E C ρ Z w its nx) (x:Ext [] w w'):Mem E C ρ Z w' its nx/\Tn ρ Z w ρ Z w':=by
 have:=hm.join (new:=[]) (ρ':=ρ) (Z':=Z) (nx':=nx) (fun _ _ h=>h) hm.fr (fun _ h=>h) (fun _ h=>.inl h) ⟨x,fun b hb=>by have:=hm.sep.zlt b hb; have:=x.size; omega,fun k t h=>by simp [o0] at h,fun j k s t h=>by simp [o0] at h⟩
 exact this
theorem Rep.bare {v:Value} {s:E.SV} (h:Rep E.N E.T (fun _=>none) (fun _=>False) w v s):Rep E.N E.T ρ Z w v s:=h.stab (Ext.refl [] w) (fun _ h=>by cases h) (fun _ h _=>h.elim) (fun _ _ h=>by cases h)
abbrev KR (E:Env) (C:Ctx) (m:Bool) (n:Nat) (ops:List Oper) (Q:Exit->Fr->World->Prop) (rest:List Oper) (fx:m6 E.N) (lkd:i6 E.N) (f:Fr) (d:Option Nat) (k:E.St->Prop):Prop :=
 ∀ st' ρ' Z' v w',Rel E C fx lkd st' ρ' Z' (J1 f d v) w'->k st'->WL E.P m n ops Q rest (J1 f d v) w'
theorem U5 {d:Option Nat} (h:free n fx st d=true):∀ d',d=some d'->Nat.blt d' n=true:=fun d' e=>by subst e; exact (D5 h).1
theorem b2o (hE:j7 E) {K:Nat} {Cf:List E.SV->Nat->Option (CR E.N)} {r:CR E.N} {args:List E.SV} {vs:List Value} (hm:Mem E C ρ Z w its nx) (hc:E.con K=some Cf) (hl:E.lend K=true) (hr:Cf (args.map (V3 its)) nx=some r) (hi:r.its.isEmpty=true) (hp:(args.map (V3 its)).all B3=true) (ho:q6 r.ob) (hg:E.G.is Z w)
  (hv:Rep E.N E.T ρ Z w (.tuple vs.toArray) (.tup args)):D4 E.P K vs w (fun v w'=>Ext [] w w'/\Rep E.N E.T (fun _=>none) (fun _=>False) w' v r.r/\q6 r.hy):=by
 have h1:=a4m (F:=[]) hm (fun _ h=>by cases h) (fun _ _ _ _ _ _ h=>by cases h) hv
 exact hE.lend K Cf _ _ r hc hl hr (List.isEmpty_iff.1 hi) ho (seen Z w []) w vs (fun b hb=>hb.1) (E.G.stab hg (Ext.refl [] w) (fun _ h=>by cases h) (fun b hz hb=>⟨hb,fun h=>by cases h⟩)) (E6 hp h1 _)
theorem b7m (hE:j7 E) {K:Nat} {args:List E.SV} {vs:List Value} {a:Q1 E.N} (h:Rel E C fx lkd st ρ Z f w) (hs:b54 lkd st K args=some a) (ho:q6 a.ob)
  (hv:Rep E.N E.T ρ Z w (.tuple vs.toArray) (.tup args)):(∀ ars w,(callFunc K ars).run E.P w=.ok (.enter K ars) w)/\D4 E.P K vs w (fun v w'=>Ext [] w w'/\Rep E.N E.T (fun _=>none) (fun _=>False) w' v a.v/\q6 a.hy):=by
 have roc:(match E.roc K with | some C=>C args (st.items++lkd) | none=>none)=some a->(∀ ars w,(callFunc K ars).run E.P w=.ok (.enter K ars) w)/\D4 E.P K vs w (fun v w'=>Ext [] w w'/\Rep E.N E.T (fun _=>none) (fun _=>False) w' v a.v/\q6 a.hy):=fun hs=>by
  split at hs
  . rename_i Cf hroc
    exact ⟨hE.callr K (by simp_all),hE.roc K Cf args _ a hroc hs ho ρ Z w vs h.glob (fun i x hi=>by
     obtain ⟨j,hj,_⟩:=p8 hi
     exact h.mem.holds hj) hv⟩
  . cases hs
 unfold b54 at hs
 split at hs
 . rename_i a0 hl0
   simp only [Option.some.injEq] at hs
   subst hs
   unfold c74 at hl0
   cases hl:E.lend K with
   | true =>
    rw [hl,cond_true] at hl0
    split at hl0
    . rename_i Cf hcon
      split at hl0
      . rename_i r hr
        have ⟨hb2,ho3⟩:=j3 hl0
        simp only [Option.some.injEq] at ho3; subst ho3
        simp only [Bool.and_eq_true] at hb2
        exact ⟨hE.call K (by simp_all),b2o hE h.mem hcon hl hr hb2.1 hb2.2 ho h.glob hv⟩
      . cases hl0
    . cases hl0
   | false=>simp_all
 grind
theorem c3w {k fid id:Nat} {xx x':E.N.O k} {L Lf:Loc} {F':List Nat} {w':World} (hm:Mem E C ρ Z w (st.items++lkd) st.nx) (hi:lk st.items id=some (.ob k fid xx)) (hL:ρ id=some L) (hLf:ρ fid=some Lf)
  (hob':((E.N.oj k).ob L.b).is Z w' x' F') (x:Ext Lf.bs w w') (hF':∀ b∈F',b∈Lf.bs ∨ w.heap.size<=b) :
  ∃ ρ',Mem E C ρ' Z w' (Z4 st.items id (.ob k st.nx x')++lkd) (st.nx+1)/\Tn ρ Z w ρ' Z w':=by
 obtain ⟨j,hj,hu,_⟩:=p8 hi
 have hjg:=l8 (l2:=lkd) hj
 have hF:(z6 E.N E.T ρ C.B0 id (.ob k fid xx)).F=Lf.bs:=by show o8 E.N ρ id (.ob k fid xx)=_; exact A7 hLf
 have lt':=((E.N.oj k).ob L.b).lt hob'
 have hs1:=Wl.Sep.upd hm.tn (j+1) (t:=z6 E.N E.T ρ C.B0 id (.ob k fid xx)) (t':=⟨F',C.B0,fun Z w=>((E.N.oj k).ob L.b).is Z w x' F'⟩) (by rw [List.getElem?_cons_succ]; exact l4 hjg) (by simp_all) hob' (fun Z1 Z2 B w1 w2 h1 x1 hB hz1=>((E.N.oj k).ob L.b).stab Z1 Z2 B w1 w2 h1 x1 hB hz1) (fun b hb=>⟨by simp_all,lt' b hb⟩) rfl
 have hjt:j<(o0 E.N E.T ρ C.B0 (st.items++lkd)).length:=by simpa [o0] using s6 hjg
 have hρ:=z7 (L:=⟨0,none,0,0,F'⟩) (hm.fr st.nx (Nat.le_refl _))
 have t2:=X8 (Z:=Z) (w:=w) (ρ:=ρ) (ρ':=C8 ρ st.nx ⟨0,none,0,0,F'⟩) (k:=0) hs1 (by simp) hρ
 have hs2:Sep C.B0 C.w0 Z w' ((o0 E.N E.T ρ C.B0 (st.items++lkd)).set j ⟨F',C.B0,fun Z w=>((E.N.oj k).ob L.b).is Z w x' F'⟩):=a2w (u:=tnI Z w) (by simp_all)
 have m1:Mem E C (C8 ρ st.nx ⟨0,none,0,0,F'⟩) Z w' ((st.items++lkd).set j (id,.ob k st.nx x')) (st.nx+1):=by
  refine ⟨Sep.conv hs2 (by simp [o0]) fun k' s s' hk hk'=>?_,fun i hi=>by unfold C8; rw [if_neg (by omega)]; exact hm.fr i (by omega),fun i L' e=>hρ _ _ (hm.ge i L' e),hm.zge,hm.zle⟩
  obtain ⟨p',hp',rfl⟩:=m9 hk'
  by_cases e:k'=j
  . subst e
    rw [List.getElem?_set_self hjt] at hk
    rw [List.getElem?_set_self (s6 hjg)] at hp'
    cases hk; cases hp'
    exact ⟨⟨L,_,hρ _ _ hL,l5,hob'⟩,p7,fun b hb=>by
     have hb:b∈o8 E.N (C8 ρ st.nx ⟨0,none,0,0,F'⟩) id (.ob k st.nx x'):=hb
     rw [A7 l5] at hb; exact hb,rfl⟩
  . rw [List.getElem?_set_ne (Ne.symm e)] at hk hp'
    obtain ⟨p,hp,rfl⟩:=m9 hk
    rw [hp] at hp'; cases hp'
    exact a26 hρ (hs2.at k' (t:=z6 E.N E.T ρ C.B0 p'.1 p'.2) (by grind))
 grind
theorem a8b (hE:j7 E) (hI:F1 E inl) {ch:List (Nat×Bool)} {d:Option Nat} {c:Call} {k:E.St->Prop} (h:Rel E C fx lkd st ρ Z f w) (hG:W8 f ch) (hf:free n fx st d=true) (hv:a5b inl fx lkd st ch d c k) (K:KR E C false n ops Q rest fx lkd f d k) :
  WL E.P false n ops Q (⟨d,.call c,ty,pos,after,none⟩::rest) f w:=by
 unfold a5b at hv
 split at hv
 . split at hv
   . rename_i id args o hcal hyl
     obtain ⟨z,xs,Ts,L,rfl,hz,hL,hargs⟩:=b4p (fun o=>h.ev hG o) hcal
     have hn:=U5 hf
     unfold d2g at hv
     cases hb:(d.isSome && (args.map (V3 (st.items++lkd))).all B3) with
     | false=>grind
     | true =>
      rw [hb,cond_true] at hv
      rw [Bool.and_eq_true] at hb
      obtain ⟨hd0,hb⟩:=hb
      split at hv
      . rename_i k' fid xx hi
        split at hv
        . rename_i hk
          obtain ⟨ok0,oC⟩:=o
          simp only at hk
          subst hk
          split at hv
          . rename_i r hr
            obtain ⟨ho,hv⟩:=a14 hv
            cases d with
            | none=>cases hd0
            | some d =>
             obtain ⟨j,hj,hu,_⟩:=p8 hi
             have hjg:=l8 (l2:=lkd) hj
             obtain ⟨L',Lf,hL',hLf,hob⟩:=h.mem.holds hjg
             have hL':ρ id=some L':=hL'
             rw [hL] at hL'; cases hL'
             have okj:=h.mem.sep.ok j _ (l4 hjg)
             have hF:(z6 E.N E.T ρ C.B0 id (.ob k' fid xx)).F=Lf.bs:=by show o8 E.N ρ id (.ob k' fid xx)=_; exact A7 hLf
             have hA:∀ id2 t l,lk (st.items++lkd) id2=some (.ac t l)->∀ b∈o8 E.N ρ id2 (.ac t l),b ∉ Lf.bs:=fun id2 t l hi2 b hb hb'=>by
              obtain ⟨j2,hj2,_⟩:=p8 hi2
              have hne:j2≠j:=fun e=>by simp_all
              exact h.mem.sep.apart j2 j _ _ (l4 hj2) (l4 hjg) hne b hb (by simp_all)
             have hlv:=E6 (ρ':=fun _=>none) hb (a4m (F:=Lf.bs) h.mem (fun b hb hz=>okj.notZ b (by simp_all) hz) hA hargs)
             have run:=hE.yl _ xx _ r hyl hr ho Z (seen Z w Lf.bs) w _ L.b Lf.bs h.mem.sep.zlt (fun b hb=>hb.1) (fun b hb=>⟨okj.notZ b (by simp_all),fun hs=>hs.2 hb⟩) hob (E.G.stab h.glob (Ext.refl [] w) (fun _ h=>by cases h) (fun b hz hb=>⟨hb,fun hm=>okj.notZ b (by simp_all) hz⟩)) hlv
             refine d0k hz run (hn d rfl) fun v w' ⟨F',hob',⟨x,hF'⟩,hrep,hy⟩=>?_
             obtain ⟨ρ1,m1,t2⟩:=c3w h.mem hi hL hLf hob' x hF'
             exact K _ _ _ _ _ (h.put hf t2 m1 (Rep.bare hrep)) (N6 hv hy)
          simp_all
        simp_all
      simp_all
   simp_all
 . rename_i K0 args hcal
   obtain ⟨z,xs,Ts,cap,rfl,hz,hargs⟩:=a0r (fun o=>h.ev hG o) hcal
   have hn:=U5 hf
   split at hv
   . rename_i Cf hcon
     have hK:=hE.call K0 (by simp_all)
     cases hl:E.lend K0 with
     | true =>
      rw [hl,cond_true] at hv
      unfold c6t at hv
      rw [hcon] at hv
      simp only at hv
      split at hv
      . rename_i r hr
        cases hb:(r.its.isEmpty && (args.map (V3 (st.items++lkd))).all B3) with
        | false=>grind
        | true =>
         rw [hb,cond_true] at hv
         simp only [Bool.and_eq_true] at hb
         obtain ⟨ho,hv⟩:=a14 hv
         refine N8 hz hK (b2o hE h.mem hcon hl hr hb.1 hb.2 ho h.glob hargs) hn fun v w' ⟨x,hr',hy⟩=>?_
         obtain ⟨m1,t1⟩:=h.mem.ext0 x
         exact K _ _ _ _ _ (h.put hf t1 m1 (Rep.bare hr')) (N6 hv hy)
      simp_all
     | false =>
      rw [hl,cond_false] at hv
      split at hv
      . rename_i args' its hfz
        obtain ⟨Z1,hm1,t1,he⟩:=b7y h.mem hfz
        unfold c7n at hv
        rw [hcon] at hv
        simp only at hv
        split at hv
        . rename_i r hr
          cases hpu:args'.all B3 with
          | false=>simp_all
          | true =>
          rw [hpu,cond_true] at hv
          obtain ⟨ho,hv⟩:=a14 hv
          have ok:=(hE.con K0 Cf args' st.nx r hcon hr hpu ho).run ρ Z1 w _ hm1.fr hm1.sep.zlt (Y2.turn h.glob t1) (he.tup hargs)
          refine N8 hz hK ok hn fun v w' ⟨ρ',Z',hρ,hfr,hzz,hz',hrep,hsep,hy⟩=>?_
          have ⟨m2,t2⟩:=hm1.join hρ hfr hzz hz' hsep
          rw [<- List.append_assoc] at m2
          exact K _ _ _ _ _ (h.put hf (t1.trans t2) m2 hrep) (N6 hv hy)
        simp_all
      simp_all
   . split at hv
     . rename_i o hobc
       have hK:=hE.call K0 (by simp_all)
       unfold c64 at hv
       split at hv
       . rename_i v0 args0
         split at hv
         . rename_i id off
           cases hb:(Nat.beq off 0 && (args0.map (V3 (st.items++lkd))).all B3) with
           | false=>grind
           | true =>
            rw [hb,cond_true] at hv
            simp only [Bool.and_eq_true] at hb
            have hoff:=Nat.eq_of_beq_eq_true hb.1
            subst hoff
            split at hv
            . rename_i k' fid xx hi
              split at hv
              . rename_i hk
                obtain ⟨ok0,oC⟩:=o
                simp only at hk
                subst hk
                split at hv
                . rename_i r hr
                  obtain ⟨ho,hv⟩:=a14 hv
                  obtain ⟨j,hj,hu,_⟩:=p8 hi
                  obtain ⟨L,Lf,hL,hLf,hob⟩:=h.mem.holds (l8 (l2:=lkd) hj)
                  have hL:ρ id=some L:=hL
                  have hjg:=l8 (l2:=lkd) hj
                  have okj:=h.mem.sep.ok j _ (l4 hjg)
                  have hF:(z6 E.N E.T ρ C.B0 id (.ob k' fid xx)).F=Lf.bs:=by show o8 E.N ρ id (.ob k' fid xx)=_; exact A7 hLf
                  obtain ⟨v1,vr,hvs,hv1,hvr⟩:=Rep.tup_cons hargs
                  have hv1':v1=.pointer (some ⟨L.b,0,none⟩):=by
                   cases hv1 with
                   | ref hL'=>simp_all
                  subst hv1'
                  have hA:∀ id2 t l,lk (st.items++lkd) id2=some (.ac t l)->∀ b∈o8 E.N ρ id2 (.ac t l),b ∉ Lf.bs:=fun id2 t l hi2 b hb hb'=>by
                   obtain ⟨j2,hj2,_⟩:=p8 hi2
                   have hne:j2≠j:=fun e=>by simp_all
                   exact h.mem.sep.apart j2 j _ _ (l4 hj2) (l4 hjg) hne b hb (by simp_all)
                  have hlv:=E6 (ρ':=fun _=>none) hb.2 (a4m (F:=Lf.bs) h.mem (fun b hb hz=>okj.notZ b (by simp_all) hz) hA hvr)
                  have run:=hE.obc K0 _ xx _ r hobc hr ho Z (seen Z w Lf.bs) w vr L.b Lf.bs h.mem.sep.zlt (fun b hb=>hb.1) (fun b hb=>⟨okj.notZ b (by simp_all),fun hs=>hs.2 hb⟩) hob (E.G.stab h.glob (Ext.refl [] w) (fun _ h=>by cases h) (fun b hz hb=>⟨hb,fun hm=>okj.notZ b (by simp_all) hz⟩)) hlv
                  rw [<- hvs] at run
                  refine N8 hz hK run hn fun v w' ⟨F',hob',⟨x,hF'⟩,hrep,hy⟩=>?_
                  obtain ⟨ρ1,m1,t2⟩:=c3w h.mem hi hL hLf hob' x hF'
                  exact K _ _ _ _ _ (h.put hf t2 m1 (Rep.bare hrep)) (N6 hv hy)
                simp_all
              simp_all
            simp_all
         simp_all
       simp_all
     . split at hv
       . rename_i o hwrc
         have hK:=hE.call K0 (by simp_all)
         unfold d1t at hv
         split at hv
         . rename_i v0 T id off
           cases hb:(Nat.beq off 0 && Nat.beq T o.T && B3 (V3 (st.items++lkd) v0)) with
           | false=>simp_all
           | true =>
            rw [hb,cond_true] at hv
            simp only [Bool.and_eq_true] at hb
            have hoff:=Nat.eq_of_beq_eq_true hb.1.1
            have hT:=Nat.eq_of_beq_eq_true hb.1.2
            subst hoff hT
            split at hv
            . rename_i S x hi
              cases hS:Nat.beq S o.S with
              | false=>simp_all
              | true =>
               rw [hS,cond_true] at hv
               have hS:=Nat.eq_of_beq_eq_true hS
               subst hS
               split at hv
               . rename_i r hr
                 obtain ⟨ho,hv⟩:=a14 hv
                 obtain ⟨j,hj,hu,_⟩:=p8 hi
                 have hjg:=l8 (l2:=lkd) hj
                 obtain ⟨L,cs,hL,hbs,hown,hrep⟩:=h.mem.holds hjg
                 have hL:ρ id=some L:=hL
                 obtain ⟨cv,cr,rfl,hcv,_,hcr⟩:=i7.cons_inv hrep
                 obtain rfl:=i7.nil_inv hcr
                 obtain ⟨rfl,hxI⟩:cv=.int .i64 x/\InI x:=by cases hcv with | int h=>simp_all
                 obtain ⟨v1,vr,hvs,hv1,hvr⟩:=Rep.tup_cons hargs
                 obtain ⟨v2,vr2,hvr2,hv2,hvr3⟩:=Rep.tup_cons hvr
                 have hnil:vr2=[]:=by
                  generalize e:Value.tuple vr2.toArray=u at hvr3
                  cases hvr3 with | tup0=>simpa using e
                 have hv2':v2=.iface o.T (.pointer (some ⟨L.b,0,none⟩)):=by
                  cases hv2 with
                  | ifc h=>cases h with | ref hL'=>simp_all
                 subst hnil hv2' hvr2
                 have okj:=h.mem.sep.ok j _ (l4 hjg)
                 have hF:(z6 E.N E.T ρ C.B0 id (.own o.S [.int .i64 x])).F=[L.b]:=by show o8 E.N ρ id (.own o.S [.int .i64 x])=_; rw [p6 hL,hbs]
                 have hnz:∀ b∈[L.b],¬ Z b:=fun b hb=>okj.notZ b (by simp_all)
                 have hA:∀ id2 t l,lk (st.items++lkd) id2=some (.ac t l)->∀ b∈o8 E.N ρ id2 (.ac t l),b ∉ [L.b]:=fun id2 t l hi2 b hb hb'=>by
                  obtain ⟨j2,hj2,_⟩:=p8 hi2
                  have hne:j2≠j:=fun e=>by simp_all
                  exact h.mem.sep.apart j2 j _ _ (l4 hj2) (l4 hjg) hne b hb (by simp_all)
                 have hlv:=E6 (ρ':=fun _=>none) (ss:=[V3 (st.items++lkd) v0]) (by simp [hb.2]) (a4m (cs:=[v1]) (ss:=[v0]) (F:=[L.b]) h.mem (fun b hb hz=>hnz b hb hz) hA (.tup1 (cs:=[]) hv1 .tup0))
                 obtain ⟨u1,ur,hu1,hl1,_⟩:=Rep.tup_cons hlv
                 obtain ⟨rfl,rfl⟩:v1=u1/\[]=ur:=by simp_all
                 have run:=hE.wrc K0 o _ x r hwrc hr ho (seen Z w [L.b]) w v1 L.b (fun b hb=>hb.1) (fun hs=>hs.2 (by simp)) (E.G.stab h.glob (Ext.refl [] w) (fun _ h=>by cases h) (fun b hz hb=>⟨hb,fun hm=>hnz b hm hz⟩)) hl1 hown hxI
                 rw [<- hvs] at run
                 refine N8 hz hK run hn fun v w' ⟨x',hown',hrx,hrep',hy⟩=>?_
                 have hs1:=Wl.Sep.upd h.mem.tn (j+1) (t:=z6 E.N E.T ρ C.B0 id (.own o.S [.int .i64 x])) (t':=a61 L.b o.S [.int .i64 r.x] C.B0) (w':=w') (by rw [List.getElem?_cons_succ]; exact l4 hjg) (by simp_all) hown' c7f (fun b hb=>⟨.inl (by simp_all),by have:=hown'.lt; simp_all⟩) rfl
                 have hjt:j<(o0 E.N E.T ρ C.B0 (st.items++lkd)).length:=by simpa [o0] using s6 hjg
                 have t1:=X8 (Z:=Z) (w:=w) (ρ:=ρ) (ρ':=ρ) (k:=0) hs1 (by simp) (fun _ _ h=>h)
                 have hs2:Sep C.B0 C.w0 Z w' ((o0 E.N E.T ρ C.B0 (st.items++lkd)).set j (a61 L.b o.S [.int .i64 r.x] C.B0)):=a2w (u:=tnI Z w) (by simp_all)
                 have m1:=h.mem.turn (i':=.own o.S [.int .i64 r.x]) hjg hs2 ⟨L,_,hL,hbs,hs2.at j (t:=a61 L.b o.S [.int .i64 r.x] C.B0) (by simp_all),i7.cons (.int fun _=>hrx) rfl i7.nil⟩ (fun b hb=>by rw [p6 hL,hbs] at hb; exact hb)
                 rw [List.set_append_left _ _ (s6 hj),<- hu] at m1
                 exact K _ _ _ _ _ (h.put hf t1 m1 (Rep.bare hrep')) (N6 hv hy)
               simp_all
            simp_all
         simp_all
       . split at hv
         . rename_i s hs
           obtain ⟨o,hfn,hs⟩:=Option.bind_eq_some_iff.1 hs
           have hK:=hE.callf K0 (by rw [hfn]; rfl)
           obtain ⟨ho,hv⟩:=a14 hv
           refine N8 hz hK (c5m hE hfn hs ho h.mem h.glob hargs) hn fun v w' ⟨ρ',Z',hm',t',hr,hy⟩=>?_
           exact K _ _ _ _ _ (h.put hf t' hm' hr) (N6 hv hy)
         . obtain ⟨hi,hrun⟩:=hI _ _ _ _ _ _ hv
           have hK:=hE.call K0 (by rw [hi]; simp)
           refine N8 hz hK (hrun C ρ Z w _ h.mem h.glob hargs) hn fun v w' ⟨ρ',Z',s,its',nx',hm',t',hr,hk⟩=>?_
           exact K _ _ _ _ _ (h.put hf t' hm' hr) hk
theorem a2g {q:Bool} (hE:j7 E) (hI:F1 E inl) {d:Option Nat} {op:Op} {k:E.St->Prop} (h:Rel E C fx lkd st ρ Z f w) (hf:free n fx st d=true) (hv:b5g q inl fx lkd st d op ty k) (K:KR E C q n ops Q rest fx lkd f d k) :
  WL E.P q n ops Q (⟨d,op,ty,pos,after,none⟩::rest) f w:=by
 unfold b5g at hv
 split at hv
 . rename_i a hs
   cases d with
   | none=>exact hv.elim
   | some d =>
    obtain ⟨ho,hv⟩:=a14 (show cj a.ob (im a.hy (k (put st (some d) a.v))) from hv)
    exact a7g h W8.nil hs ho (D5 hf).1 fun v hr hy=>K _ _ _ _ _ (h.put0 hf hr) (N6 hv hy)
 . cases q with
   | true=>exact hv.elim
   | false =>
    rw [cond_false] at hv
    split at hv
    . rename_i s hs
      cases hd:okD op d with
      | false=>simp_all
      | true =>
       rw [hd,cond_true] at hv
       obtain ⟨ho,hv⟩:=a14 hv
       refine b2m hE h.mem (fun o=>h.ev W8.nil o) hs ho ?_ fun v ρ' Z' w' m1 t1 hr hy=>K _ _ _ _ _ (h.put hf t1 m1 hr) (N6 hv hy)
       have hb:=U5 hf
       cases op with
       | store T a x =>
        cases d with
        | none=>rfl
        | some d=>cases hd
       | _ =>
        cases d with
        | none=>cases hd
        | some d=>exact ⟨d,rfl,hb d rfl⟩
    . split at hv
      . rename_i c hc
        cases op with
        | call c' =>
         simp only [a1h,Option.some.injEq] at hc; subst hc
         split at hv
         . rename_i a ha
           cases d with
           | none=>cases ha
           | some d =>
            have ha2:a8f fx lkd st [] c'=some a:=ha
            clear ha
            obtain ⟨ho,hv⟩:=a14 hv
            unfold a8f at ha2
            split at ha2
            . rename_i K0 args hcal
              obtain ⟨z,xs,Ts,cap,rfl,hz,hargs⟩:=a0r (fun o=>h.ev W8.nil o) hcal
              obtain ⟨hK,hrun⟩:=b7m hE h ha2 ho hargs
              refine N8 hz hK hrun (U5 hf) fun v w' ⟨x,hr',hy⟩=>?_
              obtain ⟨m1,t1⟩:=h.mem.ext0 x
              exact K _ _ _ _ _ (h.put hf t1 m1 (Rep.bare hr')) (N6 hv hy)
            . cases ha2
         . exact a8b hE hI h W8.nil hf hv K
        | _=>cases hc
      simp_all
end
end Go.Rx
end
section
namespace Go.Rx
open Go Go.Wk Go.Wl
section
variable {E:Env} {C:Ctx} {n:Nat} {ops:List Oper} {Q:Exit->Fr->World->Prop} {rest:List Oper} {f:Fr} {w w':World}
variable {ty T T':TypeId} {pos:String} {after:Array Edge} {x y z:Operand} {a b:Int} {ρ ρ':n9} {Z Z':Nat->Prop} {its its' lkd:i6 E.N} {nx:Nat} {s:S1 E.N}
variable {fx:m6 E.N} {st:E.St} {inl:Inl E}
theorem a6c {b:Bool}:(undef:Value)≠.bool b:=fun h=>by cases h
theorem a2n (h:Rel E C fx lkd st ρ Z f w):∀ (m j:Nat) (b:Bool),f j=.bool b->W8 f (chain st.gs m j b)
 | 0,_,_,_=>W8.nil
 | m+1,j,b,e=>fun k c hk=>by
  simp only [chain,c78,List.any_cons,Bool.or_eq_true,Bool.and_eq_true] at hk
  rcases hk with ⟨h1,h2⟩ | hk
  . simp_all
  . split at hk
    . rename_i j' b' v hg
      have hgs:=h.gs j j' b' v hg
      have e':f j'=.bool b':=by
       by_cases e2:f j'=.bool b'
       . exact e2
       . rw [hgs.2 e2] at e; exact absurd e a6c
      exact a2n h m j' b' e' k c hk
    . simp at hk
theorem a2v (h:Rel E C fx lkd st ρ Z f w):∀ (m j:Nat) (b:Bool) (p:Prop) (d:Decidable p),b1k fx st m j b=some ⟨p,d⟩->(p↔f j=.bool b)/\(¬ p->f j=.bool (!b) ∨ f j=undef)
 | 0,_,_,_,_,e=>by cases e
 | m+1,j,b,p,d,e=>by
  unfold b1k at e
  split at e
  . rename_i j' b' v hg
    have hgs:=h.gs j j' b' v hg
    split at e
    . rename_i p1 d1 q1 e1 hp1 hq1
      have ih:=a2v h m j' b' q1 e1 hq1
      cases b with
      | true =>
       rw [cond_true] at e; cases e
       by_cases hq:q1
       . have hr:=(hgs.1 (ih.1.1 hq)).boolv hp1
         simp_all
       . have hu:=hgs.2 (fun e=>hq (ih.1.2 e))
         rw [hu]
         exact ⟨⟨fun h=>absurd h.1 hq,fun h=>absurd h a6c⟩,fun _=>.inr rfl⟩
      | false =>
       rw [cond_false] at e; cases e
       by_cases hq:q1
       . have hr:=(hgs.1 (ih.1.1 hq)).boolv hp1
         simp_all
       . have hu:=hgs.2 (fun e=>hq (ih.1.2 e))
         rw [hu]
         exact ⟨⟨fun h=>absurd h.1 hq,fun h=>absurd h a6c⟩,fun _=>.inr rfl⟩
    . cases e
  . split at e
    . rename_i p1 d1 hp1
      have hr:=(h.slot j).boolv hp1
      grind
    . cases e
theorem Rel.guarded {d dj:Nat} {b:Bool} {v:Value} {s:E.SV} (h:Rel E C fx lkd st ρ Z f w) (hf:free n fx st (some d)=true) (hd:d≠dj) (t:Tn ρ Z w ρ Z' w') (hm:Mem E C ρ Z' w' (st.items++lkd) st.nx) (hv:(f dj=.bool b->Rep E.N E.T ρ Z' w' v s)/\(f dj≠.bool b->v=undef)) :
  Rel E C fx lkd ⟨(d,.un)::st.slots,(d,dj,b,s)::st.gs,st.items,st.nx⟩ ρ Z' (upd f d v) w':=by
 obtain ⟨_,h2,h3,h4⟩:=D5 hf
 refine ⟨fun k s' hk=>?_,fun p hp=>?_,fun k j c s' hk=>?_,hm,h.tn.trans t,h.g⟩
 . rw [D9] at hk
   by_cases e:d=k
   . rw [if_pos e] at hk; cases hk; exact .un
   . rw [if_neg e] at hk; rw [S8 e]; exact t.rep (h.sl k s' hk)
 . rw [S8 (a4d h2 p hp)]; exact t.rep (h.fx p hp)
 . rw [D9] at hk
   by_cases e:d=k
   . rw [if_pos e] at hk; cases hk; subst e
     rw [a1q,S8 hd]; exact hv
   . rw [if_neg e] at hk
     have e2:d≠j:=Ne.symm (b9d h4 hk)
     rw [S8 e,S8 e2]
     exact ⟨fun e=>t.rep ((h.gs k j c s' hk).1 e),(h.gs k j c s' hk).2⟩
theorem b97 {p:Prop} {l:List Prop} (hp:p) (h:q6 (imp p l)):q6 l:=by
 induction l with
 | nil=>trivial
 | cons q l ih=>exact ⟨h.1 hp,ih h.2⟩
theorem a6f {p:Prop} {l:List Prop} (h:p->q6 l):q6 (imp p l):=by
 induction l with
 | nil=>trivial
 | cons q l ih=>exact ⟨fun hp=>(h hp).1,ih fun hp=>(h hp).2⟩
theorem Rel.knows {dj:Nat} {b:Bool} (h:Rel E C fx lkd st ρ Z f w) (e:f dj=.bool b):Rel E C fx lkd (Rx.put st (some dj) (bif b then .tt else .ff)) ρ Z f w:=by
 refine ⟨fun k s' hk=>?_,h.fx,h.gs,h.mem,h.tn,h.g⟩
 have hk:lk ((dj,bif b then SV.tt else SV.ff)::st.slots) k=some s':=hk
 rw [D9] at hk
 by_cases e2:dj=k
 . rw [if_pos e2] at hk; cases hk; subst e2; rw [e]
   cases b
   . exact .ff
   . exact .tt
 . rw [if_neg e2] at hk; exact h.sl k s' hk
theorem d0l {β:Type} {a b:List (Nat×β)} {k:Nat} {x:β} (h:lk (a++b) k=some x):lk a k=some x ∨ lk b k=some x:=by
 induction a with
 | nil=>exact .inr h
 | cons p a ih =>
  have h:(bif Nat.beq p.1 k then some p.2 else lk (a++b) k)=some x:=h
  show (bif Nat.beq p.1 k then some p.2 else lk a k)=some x ∨ _
  grind
theorem d3k {β:Type} {a:List (Nat×β)} {k:Nat} {x:β} (h:lk a k=some x):(k,x)∈a:=by
 obtain ⟨i,hi,_⟩:=p8 h
 grind
theorem a5t {β:Type} {l:List (Nat×β)} {g:Nat->Bool} {k:Nat} {x:β} (h:lk (l.filter fun p=>g p.1) k=some x):g k=true/\lk l k=some x:=by
 induction l with
 | nil=>cases h
 | cons p l ih =>
  show _/\(bif Nat.beq p.1 k then some p.2 else lk l k)=some x
  rw [List.filter_cons] at h
  by_cases hg:g p.1=true
  . rw [if_pos hg] at h
    have h:(bif Nat.beq p.1 k then some p.2 else lk (l.filter fun p=>g p.1) k)=some x:=h
    cases hb:Nat.beq p.1 k with
    | true =>
     simp_all
    | false=>simp_all
  . rw [if_neg hg] at h
    obtain ⟨h1,h2⟩:=ih h
    cases hb:Nat.beq p.1 k with
    | true =>
     simp_all
    | false=>simp_all
theorem Rel.settle {dj:Nat} {b:Bool} (h:Rel E C fx lkd st ρ Z f w) (e:f dj=.bool b):Rel E C fx lkd (Rx.settle st dj b) ρ Z f w:=by
 refine ⟨fun k s' hk=>?_,h.fx,fun k j c s' hk=>?_,h.mem,h.tn,h.g⟩
 . rcases d0l hk with hk | hk
   . have hm:=d3k hk
     rw [List.mem_filterMap] at hm
     obtain ⟨p,_,hp⟩:=hm
     split at hp
     . rename_i j w' v hl
       cases hb:Nat.beq j dj with
       | false=>simp_all
       | true =>
        rw [hb,cond_true] at hp
        have hj:=Nat.eq_of_beq_eq_true hb
        subst hj
        simp only [Option.some.injEq,Prod.mk.injEq] at hp
        obtain ⟨rfl,rfl⟩:=hp
        have g:=h.gs p.1 j w' v hl
        by_cases hw:w'=b
        . simp_all
        . have:(w' == b)=false:=by simpa using hw
          rw [this,cond_false,g.2 (by grind)]
          exact .undef
     . cases hp
   . exact h.sl k s' hk
 . have hk:lk (st.gs.filter (fun p=>match lk st.gs p.1 with | some (j,_,_)=>!Nat.beq j dj | none=>false)) k=some (j,c,s'):=hk
   exact h.gs k j c s' (a5t (g:=fun k=>match lk st.gs k with | some (j,_,_)=>!Nat.beq j dj | none=>false) hk).2
theorem Q6 {dj:Nat} {b:Bool} {d:Option Nat} (h:free n fx st d=true):free n fx (settle st dj b) d=true:=by
 cases d with
 | none=>rfl
 | some d =>
  unfold free at h ⊢
  simp only [Bool.and_eq_true] at h ⊢
  obtain ⟨⟨⟨h1,h2⟩,h3⟩,h4⟩:=h
  refine ⟨⟨⟨h1,h2⟩,?_⟩,?_⟩
  . cases hl:lk (settle st dj b).gs d with
    | none=>rfl
    | some x =>
     have hl:lk (st.gs.filter (fun p=>match lk st.gs p.1 with | some (j,_,_)=>!Nat.beq j dj | none=>false)) d=some x:=hl
     have:=(a5t (g:=fun k=>match lk st.gs k with | some (j,_,_)=>!Nat.beq j dj | none=>false) hl).2
     simp_all
  . rw [List.all_eq_true] at h4 ⊢
    intro p hp
    exact h4 p (List.mem_filter.1 hp).1
theorem a29 {dj:Nat} {s:E.SV} {d:Option Nat} (h:free n fx st d=true):free n fx (put st (some dj) s) d=true:=by
 cases d with
 | none=>rfl
 | some d=>exact h
theorem a5r {q:Bool} {j dj:Nat} {b:Bool} {d:Option Nat} {op:Op} {k:E.St->Prop} (hj:o5 ops j=some dj) (hnj:Nat.blt dj n=true) (h:Rel E C fx lkd st ρ Z f w) (hf:free n fx st d=true) (hq:q=true->d.isSome=true) (e:f dj=.bool (!b) ∨ f dj=undef) (hk:k (put st d .undef)) (K:KR E C q n ops Q rest fx lkd f d k) :
  WL E.P q n ops Q (⟨d,op,ty,pos,after,some (j,b)⟩::rest) f w:=by
 have hr:=h.put0 (v:=undef) hf .undef
 cases d with
 | some d =>
  have hn:=(D5 hf).1
  rcases e with e | e
  . exact b0y hj hnj hn e (K _ _ _ _ _ hr hk)
  . exact a52 hj hnj hn e (K _ _ _ _ _ hr hk)
 | none =>
  cases q with
  | true=>simp_all
  | false =>
   rcases e with e | e
   . exact c90 hj hnj e (K _ _ _ _ _ hr hk)
   . exact c6y hj hnj e (K _ _ _ _ _ hr hk)
theorem b58 {e0 q:Bool} (hE:j7 E) (hI:F1 E inl) {j dj:Nat} {b:Bool} {d:Option Nat} {op:Op} {k:E.St->Prop} (hj:o5 ops j=some dj) (hnj:Nat.blt dj n=true) (h:Rel E C fx lkd st ρ Z f w) (hf:free n fx st d=true) (hq:q=true->d.isSome=true) (hv:b17 n e0 q inl fx lkd st dj b d op ty k) (K:KR E C q n ops Q rest fx lkd f d k) :
  WL E.P q n ops Q (⟨d,op,ty,pos,after,some (j,b)⟩::rest) f w:=by
 unfold b17 at hv
 split at hv
 . rename_i p a d' hs
   replace hs:b3n q fx lkd st dj b d op=some (p,a,d'):=by
    cases e0 with
    | true=>cases hs
    | false=>exact hs
   unfold b3n at hs
   split at hs
   . rename_i p1 dp a1 d1 hg ho1
     cases hb:Nat.beq d1 dj with
     | true=>simp_all
     | false =>
      rw [hb,cond_false] at hs; cases hs
      have hne:d'≠dj:=fun e=>by simp_all
      obtain ⟨ho,hv⟩:=a14 hv
      obtain ⟨g1,g2⟩:=a2v h 8 dj b p dp hg
      by_cases hp:p
      . have e:=g1.1 hp
        have ho:=b97 hp ho
        have hc:=a2n h 8 dj b e
        refine a5z hj hnj e ?_
        unfold gOp at ho1
        split at ho1
        . rename_i a2 hs2
          simp only [Option.some.injEq] at ho1; subst ho1
          exact a7g h hc hs2 ho (D5 hf).1 fun v hr hy=>K _ _ _ _ _ (h.guarded hf hne (Tn.refl _ _ _) h.mem ⟨fun _=>hr,fun e'=>absurd e e'⟩) (N6 hv (a6f fun _=>hy))
        . cases q with
          | true=>cases ho1
          | false =>
           rw [cond_false] at ho1
           split at ho1
           . rename_i c hc2
             cases op with
             | call c' =>
              simp only [a1h,Option.some.injEq] at hc2; subst hc2
              unfold a8f at ho1
              split at ho1
              . rename_i K0 args hcal
                obtain ⟨z,xs,Ts,cap,rfl,hz,hargs⟩:=a0r (fun o=>h.ev hc o) hcal
                obtain ⟨hK,hrun⟩:=b7m hE h ho1 ho hargs
                refine N8 hz hK hrun (U5 hf) fun v w' ⟨x,hr',hy⟩=>?_
                obtain ⟨m1,t1⟩:=h.mem.ext0 x
                exact K _ _ _ _ _ (h.guarded hf hne t1 m1 ⟨fun _=>Rep.bare hr',fun e'=>absurd e e'⟩) (N6 hv (a6f fun _=>hy))
              . cases ho1
             | _=>cases hc2
           . cases ho1
      . have e:=g2 hp
        have hr:=h.guarded (v:=undef) (s:=a.v) (b:=b) hf hne (Tn.refl _ _ _) h.mem ⟨fun e'=>absurd (g1.2 e') hp,fun _=>rfl⟩
        have hk:=N6 hv (a6f fun hp'=>absurd hp' hp)
        rcases e with e | e
        . exact b0y hj hnj (D5 hf).1 e (K _ _ _ _ _ hr hk)
        . exact a52 hj hnj (D5 hf).1 e (K _ _ _ _ _ hr hk)
   . cases hs
 . cases hb:((lk st.gs dj).isNone && !q) with
   | false=>simp_all
   | true =>
    rw [hb,cond_true] at hv
    split at hv
    . rename_i p dp hp
      have hr:=(h.slot dj).boolv hp
      by_cases hpp:p
      . have e:f dj=.bool true:=by rw [hr]; simp [hpp]
        have hk:=hv.1 hpp
        have h2:=(h.settle e).knows e
        cases b with
        | true=>rw [cond_true] at hk; exact a5z hj hnj e (a2g hE hI h2 (a29 (Q6 hf)) hk K)
        | false=>rw [cond_false] at hk; exact a5r hj hnj h2 (a29 (Q6 hf)) hq (.inl e) hk K
      . have e:f dj=.bool false:=by rw [hr]; simp [hpp]
        have hk:=hv.2 hpp
        have h2:=(h.settle e).knows e
        cases b with
        | true=>rw [cond_true] at hk; exact a5r hj hnj h2 (a29 (Q6 hf)) hq (.inl e) hk K
        | false=>rw [cond_false] at hk; exact a5z hj hnj e (a2g hE hI h2 (a29 (Q6 hf)) hk K)
    simp_all
theorem a5u {q:Bool} (hE:j7 E) (hI:F1 E inl) {k:E.St->Prop}:∀ (l:List Oper) (st:E.St) (ρ:n9) (Z:Nat->Prop) (f:Fr) (w:World),Rel E C fx lkd st ρ Z f w->X9 n q inl fx lkd ops l st k->(∀ st' ρ' Z' f' w',Rel E C fx lkd st' ρ' Z' f' w'->st'.gs=[]->k st'->Q .normal f' w')->WL E.P q n ops Q l f w
 | [],st,ρ,Z,f,w,h,hv,K=>a06 (K ⟨st.slots,[],st.items,st.nx⟩ ρ Z f w ⟨h.sl,h.fx,fun k j b s hk=>(by cases hk),h.mem,h.tn,h.g⟩ rfl hv)
 | o::rest,st,ρ,Z,f,w,h,hv,K=>by
  obtain ⟨dst,op,ty,pos,after,guard⟩:=o
  unfold X9 at hv
  rw [c4y] at hv
  cases hb:(free n fx st dst && (!q || dst.isSome)) with
  | false=>simp_all
  | true =>
   simp only [hb,cond_true] at hv
   simp only [Bool.and_eq_true,Bool.or_eq_true,Bool.not_eq_true'] at hb
   obtain ⟨hf,hq⟩:=hb
   have hq':q=true->dst.isSome=true:=fun e=>by
    simp_all
   have KK:KR E C q n ops Q rest fx lkd f dst (fun st=>X9 n q inl fx lkd ops rest st k):=fun st' ρ' Z' v w' hr hk=>a5u hE hI rest st' ρ' Z' _ w' hr hk K
   cases guard with
   | none=>exact a2g hE hI h hf hv KK
   | some g =>
    obtain ⟨j,b⟩:=g
    simp only at hv
    split at hv
    . exact hv.elim
    . rename_i dj hj
      cases hnj:Nat.blt dj n with
      | false=>simp_all
      | true =>
       rw [hnj,cond_true] at hv
       have hslot:∀ s,(bif (lk st.gs dj).isNone then p5 fx st dj else .un)=s->Rep E.N E.T ρ Z w (f dj) s:=fun s e=>by
        subst e
        cases (lk st.gs dj).isNone with
        | true=>exact h.slot dj
        | false=>exact .un
       split at hv
       . rename_i e
         have hr:=hslot _ e
         have e1:f dj=.bool true:=by generalize f dj=u at hr; cases hr; rfl
         cases b with
         | true=>rw [cond_true] at hv; exact a5z hj hnj e1 (a2g hE hI h hf hv KK)
         | false=>rw [cond_false] at hv; exact a5r hj hnj h hf hq' (.inl e1) hv KK
       . rename_i e
         have hr:=hslot _ e
         have e1:f dj=.bool false:=by generalize f dj=u at hr; cases hr; rfl
         cases b with
         | true=>rw [cond_true] at hv; exact a5r hj hnj h hf hq' (.inl e1) hv KK
         | false=>rw [cond_false] at hv; exact a5z hj hnj e1 (a2g hE hI h hf hv KK)
       . rename_i e
         have hr:=hslot _ e
         have e1:f dj=undef:=by generalize f dj=u at hr; cases hr; rfl
         exact a5r hj hnj h hf hq' (.inr e1) hv KK
       . exact b58 hE hI hj hnj h hf hq' hv KK
end
end Go.Rx
end
section
namespace Go.Rx
open Go Go.Wk Go.Wl
section
variable {E:Env} {C:Ctx} {n:Nat} {ops:List Oper} {Q:Exit->Fr->World->Prop} {rest:List Oper} {f:Fr} {w w':World}
variable {ty T T':TypeId} {pos:String} {after:Array Edge} {x y z:Operand} {ρ ρ':n9} {Z Z':Nat->Prop} {its its' lkd:i6 E.N} {nx:Nat}
variable {fx:m6 E.N} {st:E.St}
theorem c4p {ps:List Prop} {r:Prop} (h:q6 ps) (hr:r):cj ps r:=by
 induction ps with
 | nil=>exact hr
 | cons p ps ih=>exact ⟨h.1,ih h.2⟩
theorem b1i {ps:List Prop} {r:Prop} (h:q6 ps->r):im ps r:=by
 induction ps with
 | nil=>exact h trivial
 | cons p ps ih=>exact fun hp=>ih fun hs=>h ⟨hp,hs⟩
theorem c0g:∀ {ps:List Prop},cjl ps->q6 ps
 | [],_=>trivial
 | [_],h=>⟨h,trivial⟩
 | _::_::_,h=>⟨h.1,c0g h.2⟩
theorem c5o (hE:j7 E) {ch:List (Nat×Bool)} {op:Op} {d:Nat} {a:Q1 E.N} (h:Rel E C fx lkd st ρ Z f w) (hc:W8 f ch) (hs:gOp false fx lkd st ch op=some a) (ho:q6 a.ob) (hn:Nat.blt d n=true)
  (K:∀ v w',Ext [] w w'->Rep E.N E.T ρ Z w' v a.v->q6 a.hy->WL E.P false n ops Q rest (upd f d v) w'):WL E.P false n ops Q (⟨some d,op,ty,pos,after,none⟩::rest) f w:=by
 unfold gOp at hs
 split at hs
 . rename_i a2 hs2
   simp only [Option.some.injEq] at hs; subst hs
   exact a7g h hc hs2 ho hn fun v hr hy=>K v w (Ext.refl [] w) hr hy
 . rw [cond_false] at hs
   split at hs
   . rename_i c hc2
     cases op with
     | call c' =>
      simp only [a1h,Option.some.injEq] at hc2; subst hc2
      unfold a8f at hs
      split at hs
      . rename_i K0 args hcal
        obtain ⟨z,xs,Ts,cap,rfl,hz,hargs⟩:=a0r (fun o=>h.ev hc o) hcal
        obtain ⟨hK,hrun⟩:=b7m hE h hs ho hargs
        exact N8 hz hK hrun (fun d' e=>by simp_all) fun v w' ⟨x,hr',hy⟩=>K v w' x (Rep.bare hr') hy
      . cases hs
     | _=>cases hc2
   . cases hs
def e0j (E:Env):Inl E:=fun _ _ _ _ _ _=>False
theorem c8v:F1 E (e0j E):=fun _ _ _ _ _ _ h=>h.elim
theorem c6d {ch:List (Nat×Bool)} {d:Option Nat} {c:Call} {s:S1 E.N} {k:E.St->Prop} (hs:c71 fx lkd st ch c=some s) (ho:q6 s.ob) (hk:q6 s.hy->k (put ⟨st.slots,st.gs,s.items,s.nx⟩ d s.v)):a5b (e0j E) fx lkd st ch d c k:=by
 unfold c71 at hs
 unfold a5b
 split at hs
 . cases hs
 . rename_i K args hcal
   split at hs
   . rename_i Cf hcon
     cases hl:E.lend K with
     | true=>simp_all
     | false =>
      rw [hl,cond_false] at hs
      try rw [hcon]
      simp only [cond_false]
      split at hs
      . rename_i args' its hf
        try rw [hf]
        try simp only
        unfold d7p at hs
        unfold c7n
        rw [hcon] at hs ⊢
        simp only at hs ⊢
        split at hs
        . rename_i r hr
          have ⟨hb,hs2⟩:=j3 hs
          simp only [Option.some.injEq] at hs2; subst hs2
          try rw [hr]
          rw [hb]
          exact c4p ho (b1i hk)
        . cases hs
      . cases hs
   . rename_i hcon
     try rw [hcon]
     try simp only
     split at hs
     . rename_i o hob
       try rw [hob]
       try simp only
       unfold e0z at hs
       unfold c64
       split at hs
       . rename_i v args0
         split at hs
         . rename_i id off
           have ⟨hb,hs2⟩:=j3 hs
           simp only [hb,cond_true]
           split at hs2
           . rename_i k' fid x hi
             try rw [hi]
             try simp only
             split at hs2
             . rename_i hk'
               try rw [dif_pos hk']
               split at hs2
               . rename_i r hr
                 simp only [Option.some.injEq] at hs2; subst hs2
                 try rw [hr]
                 exact c4p ho (b1i hk)
               . cases hs2
             . cases hs2
           . cases hs2
         . cases hs
       . cases hs
     . rename_i hob
       try rw [hob]
       try simp only
       split at hs
       . cases hs
       . rename_i hw
         try rw [hw]
         try simp only
         rw [hs]
         exact c4p ho (b1i hk)
theorem c7z (hE:j7 E) {ch:List (Nat×Bool)} {d:Option Nat} {op:Op} {s:S1 E.N} (h:Rel E C fx lkd st ρ Z f w) (hG:W8 f ch) (hf:free n fx st d=true) (hs:b62 fx lkd st ch d op ty=some s) (ho:q6 s.ob)
  (K:∀ v ρ' Z' w',Rel E C fx lkd (put ⟨st.slots,st.gs,s.items,s.nx⟩ d s.v) ρ' Z' (J1 f d v) w'->q6 s.hy->WL E.P false n ops Q rest (J1 f d v) w') :
  WL E.P false n ops Q (⟨d,op,ty,pos,after,none⟩::rest) f w:=by
 unfold b62 at hs
 split at hs
 . rename_i s' hs'
   have ⟨hd,hs2⟩:=j3 hs
   simp only [Option.some.injEq] at hs2; subst hs2
   refine b2m hE h.mem (fun o=>h.ev hG o) hs' ho ?_ fun v ρ' Z' w' m1 t1 hr hy=>K _ _ _ _ (h.put hf t1 m1 hr) hy
   have hb:=U5 hf
   cases op with
   | store T a x =>
    cases d with
    | none=>rfl
    | some d=>cases hd
   | _ =>
    cases d with
    | none=>cases hd
    | some d=>exact ⟨d,rfl,hb d rfl⟩
 . split at hs
   . rename_i c hc
     cases op with
     | call c' =>
      simp only [a1h,Option.some.injEq] at hc; subst hc
      refine a8b hE c8v h hG hf (c6d (k:=fun st'=>st'=put ⟨st.slots,st.gs,s.items,s.nx⟩ d s.v/\q6 s.hy) hs ho fun hy=>⟨rfl,hy⟩) fun st' ρ' Z' v w' hr hk=>?_
      grind
     | _=>cases hc
   . cases hs
end
end Go.Rx
end
section
namespace Go.Rx
open Go Go.Wk Go.Wl
section
variable {N:Uni} {p:Nat->Bool}
theorem a3i:∀ {ents:List (Ent N)} {j0 k:Nat} {s:SV N},lk (T0 p j0 ents) k=some s->∃ j e,ents[j]?=some e/\p (j0+j)=true/\e.dst=some k/\s=e.now
 | [],_,_,_,h=>by cases h
 | e::r,j0,k,s,h=>by
  have go:lk (T0 p (j0+1) r) k=some s->∃ j e',(e::r)[j]?=some e'/\p (j0+j)=true/\e'.dst=some k/\s=e'.now:=fun h=>by
   obtain ⟨j,e',h1,h2,h3⟩:=a3i h
   exact ⟨j+1,e',by simp_all,by grind,h3⟩
  unfold T0 at h
  cases hp:p j0 with
  | false=>simp_all
  | true =>
   rw [hp,cond_true] at h
   split at h
   . rename_i d hd
     rw [D9] at h
     by_cases e1:d=k
     . rw [if_pos e1] at h; cases h; exact ⟨0,e,rfl,hp,by rw [hd,e1],rfl⟩
     simp_all
   . exact go h
theorem c3s:∀ {ents:List (Ent N)} {j0 k j':Nat} {b:Bool} {s:SV N},lk (dGs p j0 ents) k=some (j',b,s)->∃ j e jj,ents[j]?=some e/\p (j0+j)=true/\p jj=true/\e.dst=some k/\e.g=some (jj,j',b)/\s=e.sv
 | [],_,_,_,_,_,h=>by cases h
 | e::r,j0,k,j',b,s,h=>by
  have go:lk (dGs p (j0+1) r) k=some (j',b,s)->∃ j e' jj,(e::r)[j]?=some e'/\p (j0+j)=true/\p jj=true/\e'.dst=some k/\e'.g=some (jj,j',b)/\s=e'.sv:=fun h=>by
   obtain ⟨j,e',jj,h1,h2,h3⟩:=c3s h
   exact ⟨j+1,e',jj,by simp_all,by grind,h3⟩
  unfold dGs at h
  cases hp:p j0 with
  | false=>simp_all
  | true =>
   rw [hp,cond_true] at h
   split at h
   . rename_i d jj dj b' hd hg
     cases hpj:p jj with
     | false=>simp_all
     | true =>
      rw [hpj,cond_true] at h
      rw [D9] at h
      by_cases e1:d=k
      . rw [if_pos e1] at h; cases h; exact ⟨0,e,jj,rfl,hp,hpj,by rw [hd,e1],hg,rfl⟩
      simp_all
   . exact go h
theorem c6w {a b:List Prop} (h:q6 a) (k:q6 b):q6 (a++b):=by
 induction a with
 | nil=>exact k
 | cons p r ih=>exact ⟨h.1,ih h.2⟩
theorem b0m:∀ {ents:List (Ent N)} {j0:Nat},(∀ j e,ents[j]?=some e->p (j0+j)=true->q6 e.hy)->q6 (dHy p j0 ents)
 | [],_,_=>trivial
 | e::r,j0,h=>by
  have go:q6 (dHy p (j0+1) r):=b0m fun j e' h1 h2=>h (j+1) e' (by simp_all) (by grind)
  unfold dHy
  cases hp:p j0 with
  | false=>exact go
  | true=>exact c6w (h 0 e rfl hp) go
theorem a8v {β:Type} {q:Nat->Bool} {l:List (Nat×β)} {k:Nat} {s:β} (h:lk (l.filter (fun p=>q p.1)) k=some s):q k=true/\lk l k=some s:=by
 induction l with
 | nil=>cases h
 | cons p r ih =>
  rw [List.filter_cons] at h
  by_cases hq:q p.1=true
  . rw [if_pos hq] at h
    have h:lk ((p.1,p.2)::r.filter (fun p=>q p.1)) k=some s:=h
    show _/\lk ((p.1,p.2)::r) k=some s
    rw [D9] at h ⊢
    grind
  . rw [if_neg hq] at h
    have ⟨h1,h2⟩:=ih h
    refine ⟨h1,?_⟩
    show lk ((p.1,p.2)::r) k=some s
    rw [D9,if_neg]
    all_goals grind
end
section
variable {B0:List Nat} {w0 w w':World} {Z:Nat->Prop} {l l':List It}
theorem Sep.sub (hs:Sep B0 w0 Z w l) (h:l'.Sublist l):Sep B0 w0 Z w l':=by
 obtain ⟨h1,h2⟩:=Sep.pw hs
 exact Sep.of_pw hs.ext hs.zlt (fun t ht=>h1 t (h.subset ht)) (h2.sublist h)
end
section
variable {E:Env} {C:Ctx} {ρ ρ':n9} {Z Z':Nat->Prop} {w w':World} {its its':i6 E.N} {nx nx':Nat}
theorem Mem.sub (hm:Mem E C ρ Z w its nx) (h:its'.Sublist its) (hn:nx<=nx'):Mem E C ρ Z w its' nx':=⟨Sep.sub hm.sep (h.map _),fun i hi=>hm.fr i (by omega),hm.ge,hm.zge,hm.zle⟩
theorem a7w {X T:List Nat} (h:∀ t∈T,t∈X):l6 (l6 its X) T=l6 its X:=by
 unfold l6
 rw [List.filter_eq_self]
 grind
end
def a6i (E:Env) (ρ:n9) (Z:Nat->Prop) (w:World) (D:Nat->Bool) (V:Nat->Value) (j:Nat) (e:Ent E.N):Prop :=
 q6 e.hy/\match e.g with
  | none=>Rep E.N E.T ρ Z w (V j) e.sv
  | some (jj,_,b)=>D jj=true/\(V jj=.bool b->Rep E.N E.T ρ Z w (V j) e.sv)/\(V jj≠.bool b->V j=undef)
structure JI (E:Env) (C:Ctx) (fx:m6 E.N) (lkd:i6 E.N) (st0:E.St) (f0:Fr) (F:DA E.N) (D:Nat->Bool) (V:Nat->Value) (w:World) (ρ:n9) (Z:Nat->Prop) (k:Nat):Prop where
 eff:∀ r e,F.effs[r]?=some e->(D e=true↔r<k)
 mem:∃ m,F.mems[k]?=some m/\Mem E C ρ Z w (m.1++lkd) m.2
 tn:Tn C.ρ0 C.Z0 C.w1 ρ Z w
 sl:∀ k s,lk st0.slots k=some s->Rep E.N E.T ρ Z w (f0 k) s
 fx:∀ p∈fx,Rep E.N E.T ρ Z w (f0 p.1) p.2
 ent:∀ j e,F.ents[j]?=some e->D j=true->a6i E ρ Z w D V j e
 g:E.G.is C.Z0 C.w1
def JF (E:Env) (C:Ctx) (fx:m6 E.N) (lkd:i6 E.N) (st0:E.St) (f0:Fr) (F:DA E.N):JP:=fun D V w=>∃ ρ Z k,JI E C fx lkd st0 f0 F D V w ρ Z k
structure WA (E:Env) (l:List Oper) (H:K6) (i:Nat) (a:DA E.N):Prop where
 len:a.ents.length=i
 ent:∀ j e,a.ents[j]?=some e->o5 l j=e.dst/\∀ jj dj b,e.g=some (jj,dj,b)->o5 l jj=some dj
 eff:∀ e∈a.effs,e<i/\∃ T,lk H e=some T
 up:a.effs.Pairwise (· < ·)
 mlen:a.mems.length=a.effs.length+1
 chain:∀ (r e:Nat) (m m':i6 E.N×Nat),a.effs[r]?=some e->a.mems[r]?=some m->a.mems[r+1]?=some m'->∃ T new,lk H e=some T/\m'.1=new++l6 (E:=E) m.1 T
 nx:∀ m∈a.mems,m.2<=NX
structure Up {N:Uni} (a F:DA N) (i:Nat):Prop where
 ents:∃ x,F.ents=a.ents++x
 effs:∃ y,F.effs=a.effs++y/\∀ e∈y,i<=e
 mems:∃ z,F.mems=a.mems++z
theorem Up.ent {N:Uni} {a F:DA N} {i j:Nat} {e:Ent N} (h:Up a F i) (hj:a.ents[j]?=some e):F.ents[j]?=some e:=by
 obtain ⟨x,hx⟩:=h.ents
 grind
theorem Up.eff {N:Uni} {a F:DA N} {i j e:Nat} (h:Up a F i) (hj:a.effs[j]?=some e):F.effs[j]?=some e:=by
 obtain ⟨x,hx,_⟩:=h.effs
 grind
theorem Up.mem {N:Uni} {a F:DA N} {i j:Nat} {e:i6 N×Nat} (h:Up a F i) (hj:a.mems[j]?=some e):F.mems[j]?=some e:=by
 obtain ⟨x,hx⟩:=h.mems
 grind
section
variable {E:Env} {C C':Ctx} {n:Nat} {l:List Oper} {ms:List Nat} {H:K6} {f0:Fr} {st0:E.St} {fx:m6 E.N} {lkd lkd':i6 E.N} {F a:DA E.N} {D:Nat->Bool} {V:Nat->Value} {w w':World} {ρ ρ':n9} {Z Z':Nat->Prop} {i k:Nat} {g:Fr} {its:i6 E.N} {nx:Nat}
theorem c1a (hf:V4 fx l=true) {p:Nat×E.SV} (hp:p∈fx):P0 ms i p.1 l 0=true:=by
 have key:∀ (r:List Oper) (j:Nat),(∀ o∈r,∀ d,o.dst=some d->d≠p.1)->P0 ms i p.1 r j=true:=by
  intro r
  induction r with
  | nil=>intro j _; rfl
  | cons o r ih =>
   intro j h
   unfold P0
   rw [ih (j+1) (fun o ho=>h o (List.mem_cons_of_mem _ ho)),Bool.and_true]
   split
   . rename_i d hd
     rw [O1 (h o (List.mem_cons_self ..) d hd)]; rfl
   . rfl
 refine key l 0 fun o ho d hd e=>?_
 unfold V4 at hf
 rw [List.all_eq_true] at hf
 have:=hf o ho
 rw [hd] at this
 simp only [Option.isNone_iff_eq_none] at this
 exact a4d this p hp e
theorem JI.rel (hj:JI E C fx lkd st0 f0 F D V w ρ Z k) (hf:V4 fx l=true) (hw:WA E l H i a) (hu:∀ (j:Nat) (e:Ent E.N),a.ents[j]?=some e->F.ents[j]?=some e) (hd:∀ j,bit ms i j=true->D j=true)
  (hdone:∀ j t,D j=true->o5 l j=some t->g t=V j) (hkept:∀ t,P0 ms i t l 0=true->g t=f0 t) (hm:Mem E C' ρ Z w (its++lkd') nx) (ht:Tn C'.ρ0 C'.Z0 C'.w1 ρ Z w) (hg0:E.G.is C'.Z0 C'.w1):Rel E C' fx lkd' (dSt l ms st0 i a its nx) ρ Z g w:=by
 refine ⟨fun k s hk=>?_,fun p hp=>by rw [hkept _ (c1a hf hp)]; exact hj.fx p hp,fun k j' b s hk=>?_,hm,ht,hg0⟩
 . rcases b64 hk with hk | ⟨_,hk⟩
   . obtain ⟨j,e,h1,h2,h3,rfl⟩:=a3i hk
     rw [Nat.zero_add] at h2
     have hD:=hd j h2
     have hg:=hdone j k hD (by rw [(hw.ent j e h1).1]; exact h3)
     have ho:=(hj.ent j e (hu j e h1) hD).2
     unfold Ent.now
     split
     . simp_all
     . exact .un
   . have ⟨h1,h2⟩:=a8v (q:=fun t=>P0 ms i t l 0) hk
     rw [hkept k h1]; exact hj.sl k s h2
 . obtain ⟨j,e,jj,h1,h2,h3,h4,h5,rfl⟩:=c3s hk
   rw [Nat.zero_add] at h2
   have hD:=hd j h2
   have hg:=hdone j k hD (by rw [(hw.ent j e h1).1]; exact h4)
   have hg':=hdone jj j' (hd jj h3) ((hw.ent j e h1).2 _ _ _ h5)
   have ho:=(hj.ent j e (hu j e h1) hD).2
   simp_all
theorem JI.hys (hj:JI E C fx lkd st0 f0 F D V w ρ Z k) (hu:∀ (j:Nat) (e:Ent E.N),a.ents[j]?=some e->F.ents[j]?=some e) (hd:∀ j,bit ms i j=true->D j=true):q6 (dHy (bit ms i) 0 a.ents) :=
 b0m fun j e h1 h2=>(hj.ent j e (hu j e h1) (hd j (by simp_all))).1
theorem a6i.turn {e:Ent E.N} {j:Nat} {v:Value} (h:a6i E ρ Z w D V j e) (t:Tn ρ Z w ρ' Z' w') (hi:D i=false) (hj:D j=true):a6i E ρ' Z' w' (a03 D i) (O6 V i v) j e:=by
 have ne:∀ {x},D x=true->x≠i:=fun hx e=>by simp_all
 refine ⟨h.1,?_⟩
 have h2:=h.2
 split at h2
 . rename_i hg
   rw [a0k (ne hj)]; exact t.rep h2
 . rename_i jj dj b hg
   rw [a0k (ne hj),a0k (ne h2.1),J5 (ne h2.1)]
   exact ⟨h2.1,fun e=>t.rep (h2.2.1 e),h2.2.2⟩
end
end Go.Rx
end
section
namespace Go.Rx
open Go Go.Wk Go.Wl
section
variable {E:Env} {C C':Ctx} {n:Nat} {l:List Oper} {ms:List Nat} {H:K6} {f0:Fr} {st0:E.St} {fx:m6 E.N} {lkd lkd':i6 E.N} {F a:DA E.N} {D:Nat->Bool} {V:Nat->Value} {w w':World} {ρ ρ':n9} {Z Z':Nat->Prop} {i k m:Nat} {g:Fr} {its:i6 E.N} {nx:Nat}
theorem c4o {α:Type} {b:Bool} {o:Option α} {r:α} (h:(bif b then none else o)=some r):b=false/\o=some r:=by
 grind
theorem a97:∀ {effs:List Nat} {r:Nat},r<Q2 ms i effs->∃ e,effs[r]?=some e/\bit ms i e=true
 | [],_,h=>by simp [Q2] at h
 | e::s,r,h=>by
  unfold Q2 at h
  cases hb:bit ms i e with
  | false=>simp_all
  | true =>
   rw [hb,cond_true] at h
   cases r with
   | zero=>simp_all
   | succ r=>obtain ⟨e',h1,h2⟩:=a97 (effs:=s) (r:=r) (by omega); simp_all
theorem c4h {effs:List Nat} (h:effs.Pairwise (· < ·)) {r s e:Nat} (hr:effs[r]?=some e) (hs:effs[s]?=some e):r=s:=by
 rw [List.pairwise_iff_getElem] at h
 grind
theorem c4k (hj:JI E C fx lkd st0 f0 F D V w ρ Z k) (hF:WA E l H m F) (hu:Up a F i) (hdep:∀ j,bit ms i j=true->D j=true) (hsucc:∀ j,bit ms j i=true->D j=false) {m0 mk:i6 E.N×Nat} (hm0:a.mems[Q2 ms i a.effs]?=some m0) (hmk:F.mems[k]?=some mk) :
  (l6 m0.1 (shut ms H i (a.effs.take (Q2 ms i a.effs)))).Sublist mk.1:=by
 have hlo:Q2 ms i a.effs<=k:=by
  rcases Nat.lt_or_ge k (Q2 ms i a.effs) with h | h
  . obtain ⟨e,h1,h2⟩:=a97 h
    have:=(hj.eff k e (hu.eff h1)).1 (hdep e h2)
    omega
  . exact h
 have key:∀ t mr,F.mems[Q2 ms i a.effs+t]?=some mr->Q2 ms i a.effs+t<=k->(l6 m0.1 (shut ms H i (a.effs.take (Q2 ms i a.effs)))).Sublist mr.1:=by
  intro t
  induction t with
  | zero =>
   intro mr hr _
   have:=hu.mem hm0
   rw [Nat.add_zero,this] at hr
   cases hr
   exact List.filter_sublist
  | succ t ih =>
   intro mr hr hk
   have hl:=s6 hr
   obtain ⟨m1,hm1⟩:∃ m1,F.mems[Q2 ms i a.effs+t]?=some m1:=⟨_,List.getElem?_eq_getElem (by omega)⟩
   have hl2:Q2 ms i a.effs+t<F.effs.length:=by have:=hF.mlen; omega
   obtain ⟨e,he⟩:∃ e,F.effs[Q2 ms i a.effs+t]?=some e:=⟨_,List.getElem?_eq_getElem hl2⟩
   obtain ⟨T,new,hT,hnew⟩:=hF.chain _ e m1 mr he hm1 hr
   have hs:=ih m1 hm1 (by omega)
   have hDe:D e=true:=(hj.eff _ e he).2 (by omega)
   have hTX:∀ t∈T,t∈shut ms H i (a.effs.take (Q2 ms i a.effs)):=fun t ht=>by
    obtain ⟨x,hx,_⟩:=p8 hT
    unfold shut
    rw [List.mem_flatMap]
    refine ⟨(e,T),List.mem_of_getElem? hx,?_⟩
    have h1:bit ms e i=false:=by
     cases hb:bit ms e i with
     | false=>rfl
     | true=>simp_all
    have h2:(a.effs.take (Q2 ms i a.effs)).elem e=false:=by
     cases hb:(a.effs.take (Q2 ms i a.effs)).elem e with
     | false=>rfl
     | true =>
      exfalso
      have hb:=List.mem_of_elem_eq_true hb
      obtain ⟨r,hr1,hr2⟩:=List.getElem_of_mem hb
      simp only [List.length_take] at hr1
      rw [List.getElem_take] at hr2
      have hr3:a.effs[r]?=some e:=by rw [List.getElem?_eq_getElem (by omega),hr2]
      have:=c4h hF.up (hu.eff hr3) he
      omega
    simp_all
   rw [hnew,<- a7w hTX]
   exact List.Sublist.trans (List.Sublist.filter _ hs) (List.sublist_append_right _ _)
 have:=key (k-Q2 ms i a.effs) mk (by simp_all) (by omega)
 exact this
theorem JI.quiet (hj:JI E C fx lkd st0 f0 F D V w ρ Z k) (hF:WA E l H m F) (hH:lk H i=none) (hDi:D i=false) (x:Ext [] w w') {e:Ent E.N} (he:F.ents[i]?=some e) {v:Value} (ho:a6i E ρ Z w' (a03 D i) (O6 V i v) i e):JI E C fx lkd st0 f0 F (a03 D i) (O6 V i v) w' ρ Z k:=by
 obtain ⟨mm,hm,hmem⟩:=hj.mem
 obtain ⟨m1,t⟩:=hmem.ext0 x
 refine ⟨fun r e' hr=>?_,⟨mm,hm,m1⟩,hj.tn.trans t,fun k s h=>t.rep (hj.sl k s h),fun p hp=>t.rep (hj.fx p hp),fun j e' hj' hD=>?_,hj.g⟩
 . obtain ⟨_,T,hT⟩:=hF.eff e' (List.mem_of_getElem? hr)
   rw [J5 (fun e2=>by simp_all)]
   exact hj.eff r e' hr
 . by_cases e2:j=i
   . simp_all
   . rw [J5 e2] at hD
     exact (hj.ent j e' hj' hD).turn t hDi hD
theorem c4i {b:Option Bool} {q0:Option (Q1 E.N)} {q:Q1 E.N} (h:frc b q0=some q):∃ q1,q0=some q1/\q.hy=q1.hy/\(q6 q.ob->q6 q1.ob/\∀ {ρ:n9} {Z:Nat->Prop} {w:World} {v:Value},Rep E.N E.T ρ Z w v q1.v->Rep E.N E.T ρ Z w v q.v):=by
 unfold frc at h
 cases b with
 | none=>simp_all
 | some b =>
  simp only at h
  cases q0 with
  | none=>cases h
  | some q1 =>
   simp only at h
   split at h
   . rename_i p d hp
     simp only [Option.some.injEq] at h
     subst h
     refine ⟨q1,rfl,rfl,fun ho=>?_⟩
     have key:∀ {l:List Prop} {x:Prop},q6 (l++[x])->q6 l/\x:=fun {l x}=>by
      induction l with
      | nil=>exact fun h=>⟨trivial,h.1⟩
      | cons y l ih=>exact fun h=>⟨⟨h.1,(ih h.2).1⟩,(ih h.2).2⟩
     obtain ⟨h1,h2⟩:=key ho
     refine ⟨h1,fun r=>?_⟩
     generalize q1.v=u at hp r
     cases u with
     | tt =>
      cases hp
      simp_all
     | ff =>
      cases hp
      simp_all
     | bl p' d' =>
      cases hp
      cases r
      cases b with
      | true=>rw [decide_eq_true (show p from h2)]; exact .tt
      | false=>rw [decide_eq_false (show ¬ p from h2)]; exact .ff
     | _=>cases hp
   . cases h
theorem c3p (hE:j7 E) {o:Oper} {e:Ent E.N} {ob:List Prop} (hf:V4 fx l=true) (hq:a6j n fx lkd l ms H st0 i o a=some (ob,e)) (hH:lk H i=none)
  (hob:im (dHy (bit ms i) 0 a.ents) (q6 ob)) (hw:WA E l H i a) (hF:WA E l H m F) (hu:Up a F i) (he:F.ents[i]?=some e):c5r E.P n l ms (JF E C fx lkd st0 f0 F) f0 i o:=by
 intro D V g w hJ hDi hdep hsucc hdone hkept
 obtain ⟨ρ,Z,k,hj⟩:=hJ
 have hob:=N6 hob (hj.hys (fun j e h=>hu.ent h) hdep)
 unfold a6j at hq
 split at hq
 . cases hq
 rename_i m0 hm0
 have h2:=j3 hq
 clear hq
 obtain ⟨hfr,hq⟩:=h2
 obtain ⟨mk,hmk,hmem⟩:=hj.mem
 have hR:=hj.rel hf hw (fun j e h=>hu.ent h) hdep hdone hkept (C':=C) (hmem.sub ((c4k hj hF hu hdep hsucc hm0 hmk).append_right lkd) (hF.nx mk (List.mem_of_getElem? hmk))) hj.tn hj.g
 obtain ⟨dst,op,ty,pos,after,guard⟩:=o
 cases guard with
 | none =>
  simp only at hq hfr
  split at hq
  . rename_i q d hgop0
    simp only [Option.some.injEq,Prod.mk.injEq] at hq
    obtain ⟨rfl,rfl⟩:=hq
    obtain ⟨q1,hgop,hhy,hconv⟩:=c4i hgop0
    obtain ⟨hob,hconv⟩:=hconv hob
    exact c5o hE hR W8.nil hgop hob (D5 hfr).1 fun v w' x hr hy=>a06 ⟨rfl,v,rfl,ρ,Z,k,hj.quiet hF hH hDi x he ⟨by simp_all,by show Rep E.N E.T ρ Z w' (O6 V i v i) q.v; rw [O0]; simp_all⟩⟩
  . cases hq
 | some jb =>
  obtain ⟨j,b⟩:=jb
  simp only at hq hfr
  split at hq
  . rename_i dj hdj
    have h2:=j3 hq
    clear hq
    obtain ⟨hb,hq⟩:=h2
    simp only [Bool.and_eq_true] at hb
    obtain ⟨hbj,hnj⟩:=hb
    have hDj:=hdep j hbj
    have hji:j≠i:=fun e=>by simp_all
    have hgj:=hdone j dj hDj hdj
    split at hq
    . rename_i p q d hs
      simp only [Option.some.injEq,Prod.mk.injEq] at hq
      obtain ⟨rfl,rfl⟩:=hq
      unfold b3n at hs
      split at hs
      . rename_i p1 dp q1 d1 hg ho1
        have h2:=c4o hs
        clear hs
        have hs:=h2.2
        simp only [Option.some.injEq,Prod.mk.injEq] at hs
        obtain ⟨rfl,rfl,rfl⟩:=hs
        obtain ⟨g1,g2⟩:=a2v hR 8 dj b p1 dp hg
        by_cases hp:p1
        . have e1:=g1.1 hp
          refine a5z hdj hnj e1 (c5o hE hR (a2n hR 8 dj b e1) ho1 (b97 hp hob) (D5 hfr).1 fun v w' x hr hy=>a06 ⟨rfl,v,rfl,ρ,Z,k,hj.quiet hF hH hDi x he ⟨a6f fun _=>hy,?_⟩⟩)
          show a03 D i j=true/\(O6 V i v j=.bool b->Rep E.N E.T ρ Z w' (O6 V i v i) q1.v)/\(O6 V i v j≠.bool b->O6 V i v i=undef)
          rw [J5 hji,a0k hji,O0,<- hgj]
          simp_all
        . have e1:=g2 hp
          have ho:a6i E ρ Z w (a03 D i) (O6 V i undef) i ⟨some d1,some (j,dj,b),q1.v,imp p1 q1.hy⟩:=by
           refine ⟨a6f fun h=>absurd h hp,?_⟩
           show a03 D i j=true/\(O6 V i undef j=.bool b->Rep E.N E.T ρ Z w (O6 V i undef i) q1.v)/\(O6 V i undef j≠.bool b->O6 V i undef i=undef)
           rw [J5 hji,a0k hji,O0,<- hgj]
           exact ⟨hDj,fun h=>absurd (g1.2 h) hp,fun _=>rfl⟩
          have fin:=hj.quiet hF hH hDi (Ext.refl [] w) he ho
          rcases e1 with e1 | e1
          . exact b0y hdj hnj (D5 hfr).1 e1 (a06 ⟨rfl,undef,rfl,ρ,Z,k,fin⟩)
          . exact a52 hdj hnj (D5 hfr).1 e1 (a06 ⟨rfl,undef,rfl,ρ,Z,k,fin⟩)
      . cases hs
    . cases hq
  . cases hq
theorem b3j {s:E.SV} {b:Bool} {v:Value} (h:c02 s b=true) (r:Rep E.N E.T ρ Z w v s):v=.bool (!b):=by
 cases s with
 | tt =>
  cases b with
  | false=>cases r; rfl
  | true=>cases h
 | ff =>
  cases b with
  | true=>cases r; rfl
  | false=>cases h
 | _=>cases h
theorem c7s {o:Oper} {e:Ent E.N} (hq:b25 n l ms i o a=some e) (hH:lk H i=none) (hF:WA E l H m F) (hu:Up a F i) (he:F.ents[i]?=some e):c5r E.P n l ms (JF E C fx lkd st0 f0 F) f0 i o:=by
 intro D V g w hJ hDi hdep hsucc hdone hkept
 obtain ⟨ρ,Z,k,hj⟩:=hJ
 obtain ⟨dst,op,ty,pos,after,guard⟩:=o
 unfold b25 at hq
 split at hq
 . rename_i j b d hg hd
   simp only at hg hd
   subst hg hd
   split at hq
   . rename_i dj ej hdj hej
     have ⟨hb,hq2⟩:=j3 hq
     clear hq
     simp only [Bool.and_eq_true] at hb
     obtain ⟨⟨⟨hbj,hnj⟩,hnd⟩,hoff⟩:=hb
     simp only [Option.some.injEq] at hq2
     subst hq2
     have hDj:=hdep j hbj
     have hji:j≠i:=fun e=>by simp_all
     have hgj:=hdone j dj hDj hdj
     have hoj:=(hj.ent j ej (hu.ent hej) hDj).2
     have hv:g dj=.bool (!b) ∨ g dj=undef:=by
      rw [hgj]
      unfold e02 at hoff
      split at hoff
      . rename_i hsv
        split at hoj
        . rw [hsv] at hoj
          generalize V j=u at hoj
          cases hoj; simp_all
        simp_all
      . split at hoj
        . exact .inl (b3j hoff hoj)
        . rename_i jj dj' b' _
          by_cases e:V jj=.bool b'
          . exact .inl (b3j hoff (hoj.2.1 e))
          simp_all
     have ho:a6i E ρ Z w (a03 D i) (O6 V i undef) i (⟨some d,none,.undef,[]⟩:Ent E.N):=⟨trivial,by
      show Rep E.N E.T ρ Z w (O6 V i undef i) .undef
      rw [O0]; exact .undef⟩
     have fin:=hj.quiet hF hH hDi (Ext.refl [] w) he ho
     rcases hv with e1 | e1
     . exact b0y hdj hnj hnd e1 (a06 ⟨rfl,undef,rfl,ρ,Z,k,fin⟩)
     . exact a52 hdj hnj hnd e1 (a06 ⟨rfl,undef,rfl,ρ,Z,k,fin⟩)
   . cases hq
 . cases hq
end
end Go.Rx
end
section
namespace Go.Rx
open Go Go.Wk Go.Wl
section
variable {E:Env} {C C':Ctx} {n:Nat} {l:List Oper} {ms:List Nat} {H:K6} {f0:Fr} {st0:E.St} {fx:m6 E.N} {lkd lkd':i6 E.N} {F a:DA E.N} {D:Nat->Bool} {V:Nat->Value} {w w':World} {ρ ρ':n9} {Z Z':Nat->Prop} {i k m:Nat} {g:Fr} {its:i6 E.N} {nx:Nat}
theorem d4p (hE:j7 E) {o:Oper} {e:Ent E.N} {ob:List Prop} {T:List Nat} {mm:i6 E.N×Nat} (hf:V4 fx l=true) (hq:c47 n fx lkd l ms st0 i o a T=some (ob,e,mm))
  (hob:im (dHy (bit ms i) 0 a.ents) (q6 ob)) (hw:WA E l H i a) (hF:WA E l H m F) (hu:Up a F i) (he:F.ents[i]?=some e) (hei:F.effs[a.effs.length]?=some i) (hmm:F.mems[a.effs.length+1]?=some mm):c5r E.P n l ms (JF E C fx lkd st0 f0 F) f0 i o:=by
 intro D V g w hJ hDi hdep hsucc hdone hkept
 obtain ⟨ρ,Z,k,hj⟩:=hJ
 have hob:=N6 hob (hj.hys (fun j e h=>hu.ent h) hdep)
 obtain ⟨mk,hmk,hmem⟩:=hj.mem
 obtain ⟨dst,op,ty,pos,after,guard⟩:=o
 unfold c47 at hq
 split at hq
 . rename_i m0 hm0
   have h2:=j3 hq
   clear hq
   obtain ⟨hb,hq⟩:=h2
   simp only [Bool.and_eq_true] at hb
   obtain ⟨hfr,hall⟩:=hb
   simp only at hfr hq
   split at hq
   case h_2=>cases hq
   rename_i gg ch hdg
   have hk:k=a.effs.length:=by
    rcases Nat.lt_trichotomy k a.effs.length with c | c | c
    . exfalso
      obtain ⟨e',he'⟩:∃ e',a.effs[k]?=some e':=⟨_,List.getElem?_eq_getElem c⟩
      rw [List.all_eq_true] at hall
      have:=(hj.eff k e' (hu.eff he')).1 (hdep e' (hall e' (List.mem_of_getElem? he')))
      omega
    . exact c
    . exfalso
      have:=(hj.eff _ i hei).2 c
      simp_all
   subst hk
   have:=hu.mem hm0
   rw [this] at hmk; cases hmk
   split at hq
   . rename_i s hs
     have h2:=j3 hq
     clear hq
     obtain ⟨_,hq⟩:=h2
     simp only [Option.some.injEq,Prod.mk.injEq] at hq
     obtain ⟨rfl,rfl,rfl⟩:=hq
     have hR:=hj.rel hf hw (fun j e h=>hu.ent h) hdep hdone hkept (C':=C.at ρ Z w) (its:=within mk.1 T) (lkd':=l6 mk.1 T++lkd) (nx:=mk.2) (hmem.down.perm (by rw [<- List.append_assoc]; exact (W3 mk.1 T).append_right lkd)) (Tn.refl _ _ _) (Y2.turn hj.g hj.tn)
     have hgg:∃ hG:W8 g ch,q6 s.ob/\∀ {Q:Exit->Fr->World->Prop},WL E.P false n l Q [⟨dst,op,ty,pos,after,none⟩] g w->WL E.P false n l Q [⟨dst,op,ty,pos,after,guard⟩] g w:=by
      unfold dG at hdg
      cases guard with
      | none =>
       simp only [Option.some.injEq,Prod.mk.injEq] at hdg
       obtain ⟨rfl,rfl⟩:=hdg
       exact ⟨W8.nil,hob,fun h=>h⟩
      | some jb =>
       obtain ⟨j,b⟩:=jb
       simp only at hdg
       split at hdg
       . rename_i dj hdj
         have h3:=j3 hdg
         clear hdg
         obtain ⟨hb3,hdg⟩:=h3
         simp only [Bool.and_eq_true] at hb3
         obtain ⟨⟨_,hnj⟩,_⟩:=hb3
         split at hdg
         . rename_i p dp hgp
           simp only [Option.some.injEq,Prod.mk.injEq] at hdg
           obtain ⟨rfl,rfl⟩:=hdg
           have hob2:p/\q6 s.ob:=hob
           have e1:=(a2v hR 8 dj b p dp hgp).1.1 hob2.1
           exact ⟨a2n hR 8 dj b e1,hob2.2,fun h=>a5z hdj hnj e1 h⟩
         . cases hdg
       . cases hdg
     obtain ⟨hG,hob,hon⟩:=hgg
     refine hon (c7z hE hR hG hfr hs hob fun v ρ' Z' w' hr hy=>a06 ⟨rfl,v,rfl,ρ',Z',a.effs.length+1,?_⟩)
     have t:Tn ρ Z w ρ' Z' w':=hr.tn
     have hM:=Mem.upC hmem hr.mem
     refine ⟨fun r e' hr'=>?_,⟨_,hmm,?_⟩,hj.tn.trans t,fun k s h=>t.rep (hj.sl k s h),fun p hp=>t.rep (hj.fx p hp),fun j e' hj' hD=>?_,hj.g⟩
     . rcases Nat.lt_trichotomy r a.effs.length with c | c | c
       . have h1:=hj.eff r e' hr'
         have hne:e'≠i:=fun e2=>by simp_all
         rw [J5 hne,h1]; omega
       . subst c
         rw [hei] at hr'; cases hr'
         rw [a0e]; simp
       . have h1:=hj.eff r e' hr'
         have hne:e'≠i:=fun e2=>by subst e2; have:=c4h hF.up hr' hei; omega
         rw [J5 hne,h1]; omega
     . rw [List.append_assoc]
       cases dst with
       | none=>exact hM
       | some d=>exact hM
     . by_cases e2:j=i
       . subst e2; rw [he] at hj'; cases hj'
         refine ⟨hy,?_⟩
         show Rep E.N E.T ρ' Z' w' (O6 V j v j) _
         rw [O0]
         cases dst with
         | none=>exact .un
         | some d =>
          have:=hr.sl d s.v (by show lk ((d,s.v)::_) d=_; rw [D9,if_pos rfl])
          rw [show J1 g (some d) v d=v from a1q] at this
          exact this
       . rw [J5 e2] at hD
         exact (hj.ent j e' hj' hD).turn t hDi hD
   . cases hq
 . cases hq
theorem WA.quiet {o:Oper} {e:Ent E.N} {ob:List Prop} (hw:WA E l H i a) (ho:l[i]?=some o) (hq:a6j n fx lkd l ms H st0 i o a=some (ob,e)):WA E l H (i+1) ⟨a.ents++[e],a.effs,a.mems⟩:=by
 have hent:o.dst=e.dst/\∀ jj dj b,e.g=some (jj,dj,b)->o5 l jj=some dj:=by
  unfold a6j at hq
  split at hq
  . cases hq
  have h2:=j3 hq
  clear hq
  obtain ⟨_,hq⟩:=h2
  split at hq
  . grind
  . rename_i j b hg
    split at hq
    . rename_i dj hdj
      have h2:=j3 hq
      clear hq
      obtain ⟨_,hq⟩:=h2
      split at hq
      . rename_i p q d hs
        simp only [Option.some.injEq,Prod.mk.injEq] at hq
        obtain ⟨_,rfl⟩:=hq
        refine ⟨?_,fun jj dj' b' h=>by simp_all⟩
        unfold b3n at hs
        grind
      . cases hq
    . cases hq
 refine ⟨by simp [hw.len],fun j e' hj=>?_,fun e' h=>⟨by have:=(hw.eff e' h).1; omega,(hw.eff e' h).2⟩,hw.up,hw.mlen,hw.chain,hw.nx⟩
 have hl:=hw.len
 by_cases c:j<a.ents.length
 . have hj:(a.ents++[e])[j]?=some e':=hj
   rw [List.getElem?_append_left c] at hj; exact hw.ent j e' hj
 . have hj:(a.ents++[e])[j]?=some e':=hj
   rw [List.getElem?_append_right (by omega)] at hj
   have:j-a.ents.length=0:=by have:=s6 hj; simp at this; omega
   rw [this] at hj; cases hj
   have:j=i:=by omega
   subst this
   exact ⟨by rw [I4 ho]; exact hent.1,hent.2⟩
theorem WA.put {o:Oper} {e:Ent E.N} (hw:WA E l H i a) (ho:l[i]?=some o) (hent:o.dst=e.dst/\∀ jj dj b,e.g=some (jj,dj,b)->o5 l jj=some dj):WA E l H (i+1) ⟨a.ents++[e],a.effs,a.mems⟩:=by
 refine ⟨by simp [hw.len],fun j e' hj=>?_,fun e' h=>⟨by have:=(hw.eff e' h).1; omega,(hw.eff e' h).2⟩,hw.up,hw.mlen,hw.chain,hw.nx⟩
 have hl:=hw.len
 by_cases c:j<a.ents.length
 . have hj:(a.ents++[e])[j]?=some e':=hj
   rw [List.getElem?_append_left c] at hj; exact hw.ent j e' hj
 . have hj:(a.ents++[e])[j]?=some e':=hj
   rw [List.getElem?_append_right (by omega)] at hj
   have:j-a.ents.length=0:=by have:=s6 hj; simp at this; omega
   rw [this] at hj; cases hj
   have:j=i:=by omega
   subst this
   exact ⟨by rw [I4 ho]; exact hent.1,hent.2⟩
theorem WA.dead {o:Oper} {e:Ent E.N} (hw:WA E l H i a) (ho:l[i]?=some o) (hq:b25 n l ms i o a=some e):WA E l H (i+1) ⟨a.ents++[e],a.effs,a.mems⟩:=by
 refine hw.put ho ?_
 unfold b25 at hq
 grind
theorem WA.effs {o:Oper} {e:Ent E.N} {ob:List Prop} {T:List Nat} {mm:i6 E.N×Nat} (hw:WA E l H i a) (ho:l[i]?=some o) (hH:lk H i=some T) (hq:c47 n fx lkd l ms st0 i o a T=some (ob,e,mm)):WA E l H (i+1) ⟨a.ents++[e],a.effs++[i],a.mems++[mm]⟩:=by
 have hent:o.dst=e.dst/\e.g=none/\mm.2<=NX/\∃ m0 new,a.mems[a.effs.length]?=some m0/\mm.1=new++l6 (E:=E) m0.1 T:=by
  unfold c47 at hq
  split at hq
  . rename_i m0 hm0
    have h2:=j3 hq
    clear hq
    obtain ⟨_,hq⟩:=h2
    split at hq
    case h_2=>cases hq
    split at hq
    . rename_i s hs
      have h2:=j3 hq
      clear hq
      obtain ⟨hn,hq⟩:=h2
      simp only [Option.some.injEq,Prod.mk.injEq] at hq
      obtain ⟨rfl,rfl,rfl⟩:=hq
      simp_all
    . cases hq
  . cases hq
 obtain ⟨h1,h2,h3,m0,new,h4,h5⟩:=hent
 have hl:=hw.len
 have hml:=hw.mlen
 refine ⟨by simp [hw.len],fun j e' hj=>?_,fun e' h=>?_,?_,by simp [hml],fun r e' m m' he hm hm'=>?_,fun m h=>?_⟩
 . have hj:(a.ents++[e])[j]?=some e':=hj
   by_cases c:j<a.ents.length
   . rw [List.getElem?_append_left c] at hj; exact hw.ent j e' hj
   . rw [List.getElem?_append_right (by omega)] at hj
     have:j-a.ents.length=0:=by have:=s6 hj; simp at this; omega
     rw [this] at hj; cases hj
     have:j=i:=by omega
     subst this
     exact ⟨by rw [I4 ho]; exact h1,fun jj dj b h=>by simp_all⟩
 . have h:e'∈a.effs++[i]:=h
   rw [List.mem_append,List.mem_singleton] at h
   rcases h with h | rfl
   . exact ⟨by have:=(hw.eff e' h).1; omega,(hw.eff e' h).2⟩
   simp_all
 . show (a.effs++[i]).Pairwise (· < ·)
   rw [List.pairwise_append]
   refine ⟨hw.up,List.pairwise_singleton _ _,fun x hx y hy=>?_⟩
   rw [List.mem_singleton] at hy; subst hy
   exact (hw.eff x hx).1
 . have he:(a.effs++[i])[r]?=some e':=he
   have hm:(a.mems++[mm])[r]?=some m:=hm
   have hm':(a.mems++[mm])[r+1]?=some m':=hm'
   by_cases c:r<a.effs.length
   . rw [List.getElem?_append_left c] at he
     rw [List.getElem?_append_left (by omega)] at hm hm'
     exact hw.chain r e' m m' he hm hm'
   grind
 . have h:m∈a.mems++[mm]:=h
   rw [List.mem_append,List.mem_singleton] at h
   rcases h with h | rfl
   . exact hw.nx m h
   . exact h3
theorem a9m (hE:j7 E) (hf:V4 fx l=true) {K:DA E.N->Prop}:∀ (r:List Oper) (i:Nat) (a:DA E.N),(∀ x,r[x]?=l[i+x]?)->WA E l H i a->dGo n fx lkd l ms H st0 K i r a->∃ F,WA E l H (i+r.length) F/\Up a F i/\a1i E.P n l ms (JF E C fx lkd st0 f0 F) f0 i r/\K F
 | [],i,a,_,hw,h=>⟨a,hw,⟨⟨[],by simp⟩,⟨[],by simp,fun e h=>by cases h⟩,⟨[],by simp⟩⟩,.nil,h⟩
 | o::r,i,a,hr,hw,h=>by
  have ho:l[i]?=some o:=by have:=hr 0; simpa using this.symm
  have hr':∀ x,r[x]?=l[i+1+x]? := fun x=>by have:=hr (x+1); grind
  unfold dGo at h
  rw [d6o] at h
  split at h
  . rename_i ob a' hone
    have ⟨hob,hgo⟩:im (dHy (bit ms i) 0 a.ents) (q6 ob)/\dGo n fx lkd l ms H st0 K (i+1) r a':=by
     cases hb:ob.isEmpty with
     | true=>rw [hb,cond_true] at h; rw [List.isEmpty_iff.1 hb]; exact ⟨b1i fun _=>trivial,h⟩
     | false=>rw [hb,cond_false] at h; exact ⟨b1i fun hy=>c0g (N6 h.1 hy),h.2⟩
    unfold d7b at hone
    split at hone
    . rename_i hH
      split at hone
      . rename_i e hq
        simp only [Option.some.injEq,Prod.mk.injEq] at hone
        obtain ⟨rfl,rfl⟩:=hone
        obtain ⟨F,hF,hu,hs,hK⟩:=a9m hE hf r (i+1) _ hr' (hw.dead ho hq) hgo
        have he:F.ents[i]?=some e:=hu.ent (by show (a.ents++[e])[i]?=_; rw [List.getElem?_append_right (by have:=hw.len; omega),hw.len,Nat.sub_self]; rfl)
        have hu':Up a F i:=by
         obtain ⟨⟨x,hx⟩,⟨y,hy,hy'⟩,hz⟩:=hu
         exact ⟨⟨[e]++x,by rw [hx]; simp⟩,⟨y,hy,fun e h=>by grind⟩,hz⟩
        exact ⟨F,by grind,hu',.cons (c7s hq hH hF hu' he) hs,hK⟩
      . split at hone
        . rename_i ob1 e hq
          simp only [Option.some.injEq,Prod.mk.injEq] at hone
          obtain ⟨rfl,rfl⟩:=hone
          obtain ⟨F,hF,hu,hs,hK⟩:=a9m hE hf r (i+1) _ hr' (hw.quiet ho hq) hgo
          have he:F.ents[i]?=some e:=hu.ent (by show (a.ents++[e])[i]?=_; rw [List.getElem?_append_right (by have:=hw.len; omega),hw.len,Nat.sub_self]; rfl)
          have hu':Up a F i:=by
           obtain ⟨⟨x,hx⟩,⟨y,hy,hy'⟩,hz⟩:=hu
           exact ⟨⟨[e]++x,by rw [hx]; simp⟩,⟨y,hy,fun e h=>by grind⟩,hz⟩
          exact ⟨F,by grind,hu',.cons (c3p hE hf hq hH hob hw hF hu' he) hs,hK⟩
        . cases hone
    . rename_i T hH
      split at hone
      . rename_i ob1 e mm hq
        simp only [Option.some.injEq,Prod.mk.injEq] at hone
        obtain ⟨rfl,rfl⟩:=hone
        obtain ⟨F,hF,hu,hs,hK⟩:=a9m hE hf r (i+1) _ hr' (hw.effs ho hH hq) hgo
        have he:F.ents[i]?=some e:=hu.ent (by show (a.ents++[e])[i]?=_; rw [List.getElem?_append_right (by have:=hw.len; omega),hw.len,Nat.sub_self]; rfl)
        have hei:F.effs[a.effs.length]?=some i:=hu.eff (by simp_all)
        have hmm:F.mems[a.effs.length+1]?=some mm:=hu.mem (by show (a.mems++[mm])[a.effs.length+1]?=_; rw [<- hw.mlen,List.getElem?_append_right (Nat.le_refl _),Nat.sub_self]; rfl)
        have hu':Up a F i:=by
         obtain ⟨⟨x,hx⟩,⟨y,hy,hy'⟩,⟨z,hz⟩⟩:=hu
         refine ⟨⟨[e]++x,by rw [hx]; simp⟩,⟨[i]++y,by rw [hy]; simp,fun e h=>?_⟩,⟨[mm]++z,by rw [hz]; simp⟩⟩
         rw [List.mem_append,List.mem_singleton] at h
         rcases h with h | h
         . omega
         . grind
        exact ⟨F,by grind,hu',.cons (d4p hE hf hq hob hw hF hu' he hei hmm) hs,hK⟩
      . cases hone
  simp_all
theorem a1c {g g':Fr}:∀ {ks:List Nat} {k:Nat},k∈ks->a39 g' (ks.map fun k=>(k,g k)) k=g k
 | x::r,k,h=>by
  show upd (a39 g' (r.map fun k=>(k,g k))) x (g x) k=g k
  by_cases e:x=k
  . subst e; exact a1q
  . rw [S8 e]
    rcases List.mem_cons.1 h with h | h
    . omega
    . exact a1c h
theorem b1g {g:Fr}:∀ {ks:List Nat},c75 g (ks.map fun k=>(k,g k))
 | []=>trivial
 | _::_=>⟨rfl,b1g⟩
theorem c0n (hE:j7 E) {id:Nat} {f:Fr} {K:E.St->Prop} {Q:Exit->Fr->World->Prop} (h:Rel E C fx lkd st0 ρ Z f w) {H0:K6} (hv:b5j n fx lkd l st0 H0 K) (hQ:∀ st' ρ' Z' f' w',Rel E C fx lkd st' ρ' Z' f' w'->K st'->Q .normal f' w'):W E.P n (.region id l.toArray true) Q f w:=by
 unfold b5j at hv
 cases hb:(H3 l && a5h l [] && a8w (a9t l) n l && V4 fx l && Nat.ble st0.nx NX) with
 | false=>simp_all
 | true =>
  rw [hb,cond_true,c4y,a9z,c5e] at hv
  rw [Bool.and_eq_true,Bool.and_eq_true] at hb
  obtain ⟨⟨ha,hf⟩,hn⟩:=hb
  obtain ⟨F,hF,hu,hs,hK⟩:=a9m (C:=C) (f0:=f) hE hf l 0 _ (fun x=>by simp) ⟨rfl,fun j e h=>by simp at h,fun e h=>(by cases h),List.Pairwise.nil,rfl,fun r e m m' h=>by simp at h,fun m h=>by
   simp_all⟩ hv
  rw [Nat.zero_add] at hF
  refine b4q (JF E C fx lkd st0 f F) (a9t l) hE.mixed ha (a8p l) rfl (fun V=>⟨ρ,Z,0,fun r e _=>by simp,⟨_,hu.mem (j:=0) rfl,h.mem⟩,h.tn,h.sl,h.fx,fun j e _ hD=>(by cases hD),h.g⟩) hs fun D V g w' hD hJ hdone hkept=>?_
  obtain ⟨ρ',Z',k,hj⟩:=hJ
  obtain ⟨mk,hmk,hmem⟩:=hj.mem
  have hk:k=F.effs.length:=by
   rcases Nat.lt_or_ge k F.effs.length with c | c
   . exfalso
     obtain ⟨e,he⟩:∃ e,F.effs[k]?=some e:=⟨_,List.getElem?_eq_getElem c⟩
     have h1:=(hF.eff e (List.mem_of_getElem? he)).1
     have:=(hj.eff k e he).1 (hD e (by simp_all))
     omega
   . have:=s6 hmk
     have:=hF.mlen
     omega
  subst hk
  unfold d8l at hK
  rw [hmk] at hK
  simp only at hK
  have hlen:∀ {j:Nat} {e:Ent E.N},F.ents[j]?=some e->Nat.blt j l.length=true:=fun {j e} he=>by have:=s6 he; rw [hF.len] at this; simp_all
  have hK:=N6 hK (b0m fun j e h1 _=>(hj.ent j e h1 (hD j (hlen h1))).1)
  have hg:Rel E C fx lkd ⟨T0 (fun _=>true) 0 F.ents++st0.slots.filter (fun p=>!(a9t l).elem p.1),[],mk.1,mk.2⟩ ρ' Z' g w':=by
   refine ⟨fun k s hk=>?_,fun p hp=>?_,fun k j' b s hk=>(by cases hk),hmem,hj.tn,hj.g⟩
   . rcases b64 hk with hk | ⟨_,hk⟩
     . obtain ⟨j,e,h1,_,h3,rfl⟩:=a3i hk
       have hg:=hdone j k (hlen h1) (by rw [(hF.ent j e h1).1]; exact h3)
       have ho:=(hj.ent j e h1 (hD j (hlen h1))).2
       unfold Ent.now
       split
       . simp_all
       . exact .un
     . have ⟨h1,h2⟩:=a8v (q:=fun t=>!(a9t l).elem t) hk
       rw [hkept k (by simp_all)]; exact hj.sl k s h2
   . rw [hkept p.1 ?_]
     . exact hj.fx p hp
     . cases hx:(a9t l).elem p.1 with
       | false=>rfl
       | true =>
        exfalso
        have hx:=List.mem_of_elem_eq_true hx
        unfold a9t at hx
        rw [List.mem_filterMap] at hx
        obtain ⟨o,ho,hd⟩:=hx
        unfold V4 at hf
        rw [List.all_eq_true] at hf
        have:=hf o ho
        rw [hd] at this
        simp only [Option.isNone_iff_eq_none] at this
        exact a4d this p hp rfl
  generalize hst:(⟨T0 (fun _=>true) 0 F.ents++st0.slots.filter (fun p=>!(a9t l).elem p.1),[],mk.1,mk.2⟩:E.St)=stF at hg hK
  refine ⟨((stF.slots++fx).map (·.1)).map fun k=>(k,g k),b1g,fun g'=>hQ stF ρ' Z' _ w' ?_ hK⟩
  refine ⟨fun k s hk=>?_,fun p hp=>?_,fun k j' b s hk=>?_,hg.mem,hg.tn,hg.g⟩
  . obtain ⟨x,hx,_⟩:=p8 hk
    rw [a1c (List.mem_map.2 ⟨_,List.mem_append_left _ (List.mem_of_getElem? hx),rfl⟩)]
    exact hg.sl k s hk
  . rw [a1c (List.mem_map.2 ⟨p,List.mem_append_right _ hp,rfl⟩)]
    exact hg.fx p hp
  . rw [<- hst] at hk; cases hk
theorem V6 (hE:j7 E) {id:Nat} {f:Fr} {K:E.St->Prop} {Q:Exit->Fr->World->Prop} (h:Rel E C fx lkd st0 ρ Z f w) (hQ:∀ st' ρ' Z' f' w',Rel E C fx lkd st' ρ' Z' f' w'->K st'->Q .normal f' w'):∀ (fs:List Nat) (H0:K6),a0q n fx lkd l st0 K fs H0->W E.P n (.region id l.toArray true) Q f w
 | [],H0,hv=>c0n hE h (H0:=H0) hv hQ
 | i::r,H0,hv=>by
  unfold a0q at hv
  split at hv
  . rename_i p _
    by_cases hp:p
    . exact V6 hE h hQ r _ (hv.1 hp)
    . exact V6 hE h hQ r _ (hv.2 hp)
  . exact V6 hE h hQ r _ hv
end
end Go.Rx
end
