/- 21 texts, one behind the other. -/
import Derived.Test.YtckpdliipjekgaaB3
import Derived.Lib.FrozenHead
import Derived.Lib.UnsafeStr
import Derived.Shelf.Sort.Plain
import Derived.Ground.Names2Prog
import Derived.Shelf.Slices.Clone
import Derived.Shelf.Slices.In.SortNone
import Derived.Test.YtckpdliipjekgaaProg
import Derived.Test.YtckpdliipjekgaaChecked
import Derived.Test.YtckpdliipjekgaaB2
set_option linter.unusedVariables false
set_option linter.unusedSimpArgs false
set_option maxRecDepth 100000
section
namespace Go.Rx
open Go Go.Wk Go.Wl
section
variable {E:Env} {C:Ctx} {n:Nat} {ops:List Oper} {Q:Exit->Fr->World->Prop} {rest:List Oper} {f:Fr} {w w':World}
variable {ty T T':TypeId} {pos:String} {after:Array Edge} {x y z:Operand} {a b:Int} {ρ ρ':Env1} {Z Z':Nat->Prop} {its its' lkd:Items E.N} {nx:Nat} {s:S1 E.N}
variable {fx:Slots E.N} {st:E.St} {inl:Inl E}
theorem undef_ne {b:Bool}:(undef:Value)≠.bool b:=fun h=>by cases h
theorem chain_ok (h:Rel E C fx lkd st ρ Z f w):∀ (m j:Nat) (b:Bool),f j=.bool b->AllG f (chain st.gs m j b)
 | 0,_,_,_=>AllG.nil
 | m+1,j,b,e=>fun k c hk=>by
  simp only [chain,gmem,List.any_cons,Bool.or_eq_true,Bool.and_eq_true] at hk
  rcases hk with ⟨h1,h2⟩ | hk
  . have h1:=Nat.eq_of_beq_eq_true h1
    subst h1
    have:b=c:=by simpa using h2
    subst this; exact e
  . split at hk
    . rename_i j' b' v hg
      have hgs:=h.gs j j' b' v hg
      have e':f j'=.bool b':=by
       by_cases e2:f j'=.bool b'
       . exact e2
       . rw [hgs.2 e2] at e; exact absurd e undef_ne
      exact chain_ok h m j' b' e' k c hk
    . simp at hk
theorem gprop_ok (h:Rel E C fx lkd st ρ Z f w):∀ (m j:Nat) (b:Bool) (p:Prop) (d:Decidable p),gprop fx st m j b=some ⟨p,d⟩->(p↔f j=.bool b)/\(¬ p->f j=.bool (!b) ∨ f j=undef)
 | 0,_,_,_,_,e=>by cases e
 | m+1,j,b,p,d,e=>by
  unfold gprop at e
  split at e
  . rename_i j' b' v hg
    have hgs:=h.gs j j' b' v hg
    split at e
    . rename_i p1 d1 q1 e1 hp1 hq1
      have ih:=gprop_ok h m j' b' q1 e1 hq1
      cases b with
      | true =>
       rw [cond_true] at e; cases e
       by_cases hq:q1
       . have hr:=(hgs.1 (ih.1.1 hq)).boolv hp1
         rw [hr]
         by_cases hp:p1 <;> simp [hq,hp]
       . have hu:=hgs.2 (fun e=>hq (ih.1.2 e))
         rw [hu]
         exact ⟨⟨fun h=>absurd h.1 hq,fun h=>absurd h undef_ne⟩,fun _=>.inr rfl⟩
      | false =>
       rw [cond_false] at e; cases e
       by_cases hq:q1
       . have hr:=(hgs.1 (ih.1.1 hq)).boolv hp1
         rw [hr]
         by_cases hp:p1 <;> simp [hq,hp]
       . have hu:=hgs.2 (fun e=>hq (ih.1.2 e))
         rw [hu]
         exact ⟨⟨fun h=>absurd h.1 hq,fun h=>absurd h undef_ne⟩,fun _=>.inr rfl⟩
    . cases e
  . split at e
    . rename_i p1 d1 hp1
      have hr:=(h.slot j).boolv hp1
      cases b with
      | true=>rw [cond_true] at e; cases e; rw [hr]; by_cases hp:p <;> simp [hp]
      | false=>rw [cond_false] at e; cases e; rw [hr]; by_cases hp:p1 <;> simp [hp]
    . cases e
theorem Rel.guarded {d dj:Nat} {b:Bool} {v:Value} {s:E.SV} (h:Rel E C fx lkd st ρ Z f w) (hf:free n fx st (some d)=true) (hd:d≠dj) (t:Tn ρ Z w ρ Z' w') (hm:Mem E C ρ Z' w' (st.items++lkd) st.nx) (hv:(f dj=.bool b->Rep E.N E.T ρ Z' w' v s)/\(f dj≠.bool b->v=undef)) :
  Rel E C fx lkd ⟨(d,.un)::st.slots,(d,dj,b,s)::st.gs,st.items,st.nx⟩ ρ Z' (upd f d v) w':=by
 obtain ⟨_,h2,h3,h4⟩:=free_some hf
 refine ⟨fun k s' hk=>?_,fun p hp=>?_,fun k j c s' hk=>?_,hm,h.tn.trans t,h.g⟩
 . rw [lk_cons] at hk
   by_cases e:d=k
   . rw [if_pos e] at hk; cases hk; exact .un
   . rw [if_neg e] at hk; rw [upd_ne e]; exact t.rep (h.sl k s' hk)
 . rw [upd_ne (lk_none h2 p hp)]; exact t.rep (h.fx p hp)
 . rw [lk_cons] at hk
   by_cases e:d=k
   . rw [if_pos e] at hk; cases hk; subst e
     rw [upd_same,upd_ne hd]; exact hv
   . rw [if_neg e] at hk
     have e2:d≠j:=Ne.symm (gs_free h4 hk)
     rw [upd_ne e,upd_ne e2]
     exact ⟨fun e=>t.rep ((h.gs k j c s' hk).1 e),(h.gs k j c s' hk).2⟩
theorem imp_all {p:Prop} {l:List Prop} (hp:p) (h:allP (imp p l)):allP l:=by
 induction l with
 | nil=>trivial
 | cons q l ih=>exact ⟨h.1 hp,ih h.2⟩
theorem imp_of {p:Prop} {l:List Prop} (h:p->allP l):allP (imp p l):=by
 induction l with
 | nil=>trivial
 | cons q l ih=>exact ⟨fun hp=>(h hp).1,ih fun hp=>(h hp).2⟩
theorem Rel.knows {dj:Nat} {b:Bool} (h:Rel E C fx lkd st ρ Z f w) (e:f dj=.bool b):Rel E C fx lkd (Rx.put st (some dj) (bif b then .tt else .ff)) ρ Z f w:=by
 refine ⟨fun k s' hk=>?_,h.fx,h.gs,h.mem,h.tn,h.g⟩
 have hk:lk ((dj,bif b then SV.tt else SV.ff)::st.slots) k=some s':=hk
 rw [lk_cons] at hk
 by_cases e2:dj=k
 . rw [if_pos e2] at hk; cases hk; subst e2; rw [e]
   cases b
   . exact .ff
   . exact .tt
 . rw [if_neg e2] at hk; exact h.sl k s' hk
theorem lk_app2 {β:Type} {a b:List (Nat×β)} {k:Nat} {x:β} (h:lk (a++b) k=some x):lk a k=some x ∨ lk b k=some x:=by
 induction a with
 | nil=>exact .inr h
 | cons p a ih =>
  have h:(bif Nat.beq p.1 k then some p.2 else lk (a++b) k)=some x:=h
  show (bif Nat.beq p.1 k then some p.2 else lk a k)=some x ∨ _
  cases hb:Nat.beq p.1 k with
  | true=>rw [hb,cond_true] at h; left; rw [cond_true]; exact h
  | false=>rw [hb,cond_false] at h; rw [cond_false]; exact ih h
theorem lk_in2 {β:Type} {a:List (Nat×β)} {k:Nat} {x:β} (h:lk a k=some x):(k,x)∈a:=by
 obtain ⟨i,hi,_⟩:=lk_mem h
 exact List.mem_of_getElem? hi
theorem lk_filter2 {β:Type} {l:List (Nat×β)} {g:Nat->Bool} {k:Nat} {x:β} (h:lk (l.filter fun p=>g p.1) k=some x):g k=true/\lk l k=some x:=by
 induction l with
 | nil=>cases h
 | cons p l ih =>
  show _/\(bif Nat.beq p.1 k then some p.2 else lk l k)=some x
  rw [List.filter_cons] at h
  by_cases hg:g p.1=true
  . rw [if_pos hg] at h
    have h:(bif Nat.beq p.1 k then some p.2 else lk (l.filter fun p=>g p.1) k)=some x:=h
    cases hb:Nat.beq p.1 k with
    | true =>
     rw [hb,cond_true] at h
     rw [cond_true]
     have:=Nat.eq_of_beq_eq_true hb
     exact ⟨by rw [<- this]; exact hg,h⟩
    | false=>rw [hb,cond_false] at h; rw [cond_false]; exact ih h
  . rw [if_neg hg] at h
    obtain ⟨h1,h2⟩:=ih h
    cases hb:Nat.beq p.1 k with
    | true =>
     have:=Nat.eq_of_beq_eq_true hb
     rw [this] at hg; exact absurd h1 hg
    | false=>rw [cond_false]; exact ⟨h1,h2⟩
theorem Rel.settle {dj:Nat} {b:Bool} (h:Rel E C fx lkd st ρ Z f w) (e:f dj=.bool b):Rel E C fx lkd (Rx.settle st dj b) ρ Z f w:=by
 refine ⟨fun k s' hk=>?_,h.fx,fun k j c s' hk=>?_,h.mem,h.tn,h.g⟩
 . rcases lk_app2 hk with hk | hk
   . have hm:=lk_in2 hk
     rw [List.mem_filterMap] at hm
     obtain ⟨p,_,hp⟩:=hm
     split at hp
     . rename_i j w' v hl
       cases hb:Nat.beq j dj with
       | false=>rw [hb,cond_false] at hp; cases hp
       | true =>
        rw [hb,cond_true] at hp
        have hj:=Nat.eq_of_beq_eq_true hb
        subst hj
        simp only [Option.some.injEq,Prod.mk.injEq] at hp
        obtain ⟨rfl,rfl⟩:=hp
        have g:=h.gs p.1 j w' v hl
        by_cases hw:w'=b
        . subst hw
          rw [beq_self_eq_true,cond_true]; exact g.1 e
        . have:(w' == b)=false:=by simpa using hw
          rw [this,cond_false,g.2 (by rw [e]; intro x; cases x; exact hw rfl)]
          exact .undef
     . cases hp
   . exact h.sl k s' hk
 . have hk:lk (st.gs.filter (fun p=>match lk st.gs p.1 with | some (j,_,_)=>!Nat.beq j dj | none=>false)) k=some (j,c,s'):=hk
   exact h.gs k j c s' (lk_filter2 (g:=fun k=>match lk st.gs k with | some (j,_,_)=>!Nat.beq j dj | none=>false) hk).2
theorem free_settle {dj:Nat} {b:Bool} {d:Option Nat} (h:free n fx st d=true):free n fx (settle st dj b) d=true:=by
 cases d with
 | none=>rfl
 | some d =>
  unfold free at h ⊢
  simp only [Bool.and_eq_true] at h ⊢
  obtain ⟨⟨⟨h1,h2⟩,h3⟩,h4⟩:=h
  refine ⟨⟨⟨h1,h2⟩,?_⟩,?_⟩
  . cases hl:lk (settle st dj b).gs d with
    | none=>rfl
    | some x =>
     have hl:lk (st.gs.filter (fun p=>match lk st.gs p.1 with | some (j,_,_)=>!Nat.beq j dj | none=>false)) d=some x:=hl
     have:=(lk_filter2 (g:=fun k=>match lk st.gs k with | some (j,_,_)=>!Nat.beq j dj | none=>false) hl).2
     rw [this] at h3; cases h3
  . rw [List.all_eq_true] at h4 ⊢
    intro p hp
    exact h4 p (List.mem_filter.1 hp).1
theorem free_put {dj:Nat} {s:E.SV} {d:Option Nat} (h:free n fx st d=true):free n fx (put st (some dj) s) d=true:=by
 cases d with
 | none=>rfl
 | some d=>exact h
theorem off_ok {q:Bool} {j dj:Nat} {b:Bool} {d:Option Nat} {op:Op} {k:E.St->Prop} (hj:dstAt ops j=some dj) (hnj:Nat.blt dj n=true) (h:Rel E C fx lkd st ρ Z f w) (hf:free n fx st d=true) (hq:q=true->d.isSome=true) (e:f dj=.bool (!b) ∨ f dj=undef) (hk:k (put st d .undef)) (K:KR E C q n ops Q rest fx lkd f d k) :
  WL E.P q n ops Q (⟨d,op,ty,pos,after,some (j,b)⟩::rest) f w:=by
 have hr:=h.put0 (v:=undef) hf .undef
 cases d with
 | some d =>
  have hn:=(free_some hf).1
  rcases e with e | e
  . exact WL_off hj hnj hn e (K _ _ _ _ _ hr hk)
  . exact WL_off0 hj hnj hn e (K _ _ _ _ _ hr hk)
 | none =>
  cases q with
  | true=>exact absurd (hq rfl) (by simp)
  | false =>
   rcases e with e | e
   . exact WL_offN hj hnj e (K _ _ _ _ _ hr hk)
   . exact WL_offN0 hj hnj e (K _ _ _ _ _ hr hk)
theorem vcGuard_ok {e0 q:Bool} (hE:EnvOK E) (hI:InlOK E inl) {j dj:Nat} {b:Bool} {d:Option Nat} {op:Op} {k:E.St->Prop} (hj:dstAt ops j=some dj) (hnj:Nat.blt dj n=true) (h:Rel E C fx lkd st ρ Z f w) (hf:free n fx st d=true) (hq:q=true->d.isSome=true) (hv:vcGuard n e0 q inl fx lkd st dj b d op ty k) (K:KR E C q n ops Q rest fx lkd f d k) :
  WL E.P q n ops Q (⟨d,op,ty,pos,after,some (j,b)⟩::rest) f w:=by
 unfold vcGuard at hv
 split at hv
 . rename_i p a d' hs
   replace hs:gSel q fx lkd st dj b d op=some (p,a,d'):=by
    cases e0 with
    | true=>cases hs
    | false=>exact hs
   unfold gSel at hs
   split at hs
   . rename_i p1 dp a1 d1 hg ho1
     cases hb:Nat.beq d1 dj with
     | true=>rw [hb] at hs; cases hs
     | false =>
      rw [hb,cond_false] at hs; cases hs
      have hne:d'≠dj:=fun e=>by subst e; rw [Nat.beq_refl] at hb; cases hb
      obtain ⟨ho,hv⟩:=cj_ob hv
      obtain ⟨g1,g2⟩:=gprop_ok h 8 dj b p dp hg
      by_cases hp:p
      . have e:=g1.1 hp
        have ho:=imp_all hp ho
        have hc:=chain_ok h 8 dj b e
        refine WL_on hj hnj e ?_
        unfold gOp at ho1
        split at ho1
        . rename_i a2 hs2
          simp only [Option.some.injEq] at ho1; subst ho1
          exact stepG_ok h hc hs2 ho (free_some hf).1 fun v hr hy=>K _ _ _ _ _ (h.guarded hf hne (Tn.refl _ _ _) h.mem ⟨fun _=>hr,fun e'=>absurd e e'⟩) (im_hy hv (imp_of fun _=>hy))
        . cases q with
          | true=>cases ho1
          | false =>
           rw [cond_false] at ho1
           split at ho1
           . rename_i c hc2
             cases op with
             | call c' =>
              simp only [opCall,Option.some.injEq] at hc2; subst hc2
              unfold gCall at ho1
              split at ho1
              . rename_i K0 args hcal
                obtain ⟨z,xs,Ts,cap,rfl,hz,hargs⟩:=callee_ok (fun o=>h.ev hc o) hcal
                obtain ⟨hK,hrun⟩:=gC_run hE h ho1 ho hargs
                refine S_callA hz hK hrun (free_blt hf) fun v w' ⟨x,hr',hy⟩=>?_
                obtain ⟨m1,t1⟩:=h.mem.ext0 x
                exact K _ _ _ _ _ (h.guarded hf hne t1 m1 ⟨fun _=>Rep.bare hr',fun e'=>absurd e e'⟩) (im_hy hv (imp_of fun _=>hy))
              . cases ho1
             | _=>cases hc2
           . cases ho1
      . have e:=g2 hp
        have hr:=h.guarded (v:=undef) (s:=a.v) (b:=b) hf hne (Tn.refl _ _ _) h.mem ⟨fun e'=>absurd (g1.2 e') hp,fun _=>rfl⟩
        have hk:=im_hy hv (imp_of fun hp'=>absurd hp' hp)
        rcases e with e | e
        . exact WL_off hj hnj (free_some hf).1 e (K _ _ _ _ _ hr hk)
        . exact WL_off0 hj hnj (free_some hf).1 e (K _ _ _ _ _ hr hk)
   . cases hs
 . cases hb:((lk st.gs dj).isNone && !q) with
   | false=>rw [hb] at hv; exact hv.elim
   | true =>
    rw [hb,cond_true] at hv
    split at hv
    . rename_i p dp hp
      have hr:=(h.slot dj).boolv hp
      by_cases hpp:p
      . have e:f dj=.bool true:=by rw [hr]; simp [hpp]
        have hk:=hv.1 hpp
        have h2:=(h.settle e).knows e
        cases b with
        | true=>rw [cond_true] at hk; exact WL_on hj hnj e (vcOp_ok hE hI h2 (free_put (free_settle hf)) hk K)
        | false=>rw [cond_false] at hk; exact off_ok hj hnj h2 (free_put (free_settle hf)) hq (.inl e) hk K
      . have e:f dj=.bool false:=by rw [hr]; simp [hpp]
        have hk:=hv.2 hpp
        have h2:=(h.settle e).knows e
        cases b with
        | true=>rw [cond_true] at hk; exact off_ok hj hnj h2 (free_put (free_settle hf)) hq (.inl e) hk K
        | false=>rw [cond_false] at hk; exact WL_on hj hnj e (vcOp_ok hE hI h2 (free_put (free_settle hf)) hk K)
    . exact hv.elim
theorem vcOps_ok {q:Bool} (hE:EnvOK E) (hI:InlOK E inl) {k:E.St->Prop}:∀ (l:List Oper) (st:E.St) (ρ:Env1) (Z:Nat->Prop) (f:Fr) (w:World),Rel E C fx lkd st ρ Z f w->vcOps n q inl fx lkd ops l st k->(∀ st' ρ' Z' f' w',Rel E C fx lkd st' ρ' Z' f' w'->st'.gs=[]->k st'->Q .normal f' w')->WL E.P q n ops Q l f w
 | [],st,ρ,Z,f,w,h,hv,K=>WL_nil (K ⟨st.slots,[],st.items,st.nx⟩ ρ Z f w ⟨h.sl,h.fx,fun k j b s hk=>(by cases hk),h.mem,h.tn,h.g⟩ rfl hv)
 | o::rest,st,ρ,Z,f,w,h,hv,K=>by
  obtain ⟨dst,op,ty,pos,after,guard⟩:=o
  unfold vcOps at hv
  cases hb:(free n fx st dst && (!q || dst.isSome)) with
  | false=>simp only [hb] at hv; exact hv.elim
  | true =>
   simp only [hb,cond_true] at hv
   simp only [Bool.and_eq_true,Bool.or_eq_true,Bool.not_eq_true'] at hb
   obtain ⟨hf,hq⟩:=hb
   have hq':q=true->dst.isSome=true:=fun e=>by
    rcases hq with h | h
    . rw [e] at h; cases h
    . exact h
   have KK:KR E C q n ops Q rest fx lkd f dst (fun st=>vcOps n q inl fx lkd ops rest st k):=fun st' ρ' Z' v w' hr hk=>vcOps_ok hE hI rest st' ρ' Z' _ w' hr hk K
   cases guard with
   | none=>exact vcOp_ok hE hI h hf hv KK
   | some g =>
    obtain ⟨j,b⟩:=g
    simp only at hv
    split at hv
    . exact hv.elim
    . rename_i dj hj
      cases hnj:Nat.blt dj n with
      | false=>rw [hnj] at hv; exact hv.elim
      | true =>
       rw [hnj,cond_true] at hv
       have hslot:∀ s,(bif (lk st.gs dj).isNone then slotOf fx st dj else .un)=s->Rep E.N E.T ρ Z w (f dj) s:=fun s e=>by
        subst e
        cases (lk st.gs dj).isNone with
        | true=>exact h.slot dj
        | false=>exact .un
       split at hv
       . rename_i e
         have hr:=hslot _ e
         have e1:f dj=.bool true:=by generalize f dj=u at hr; cases hr; rfl
         cases b with
         | true=>rw [cond_true] at hv; exact WL_on hj hnj e1 (vcOp_ok hE hI h hf hv KK)
         | false=>rw [cond_false] at hv; exact off_ok hj hnj h hf hq' (.inl e1) hv KK
       . rename_i e
         have hr:=hslot _ e
         have e1:f dj=.bool false:=by generalize f dj=u at hr; cases hr; rfl
         cases b with
         | true=>rw [cond_true] at hv; exact off_ok hj hnj h hf hq' (.inl e1) hv KK
         | false=>rw [cond_false] at hv; exact WL_on hj hnj e1 (vcOp_ok hE hI h hf hv KK)
       . rename_i e
         have hr:=hslot _ e
         have e1:f dj=undef:=by generalize f dj=u at hr; cases hr; rfl
         exact off_ok hj hnj h hf hq' (.inr e1) hv KK
       . exact vcGuard_ok hE hI hj hnj h hf hq' hv KK
end
end Go.Rx
end
section
namespace Go.Rx
open Go Go.Wk Go.Wl
section
variable {E:Env} {C:Ctx} {n:Nat} {ops:List Oper} {Q:Exit->Fr->World->Prop} {rest:List Oper} {f:Fr} {w w':World}
variable {ty T T':TypeId} {pos:String} {after:Array Edge} {x y z:Operand} {ρ ρ':Env1} {Z Z':Nat->Prop} {its its' lkd:Items E.N} {nx:Nat}
variable {fx:Slots E.N} {st:E.St}
theorem cj_of {ps:List Prop} {r:Prop} (h:allP ps) (hr:r):cj ps r:=by
 induction ps with
 | nil=>exact hr
 | cons p ps ih=>exact ⟨h.1,ih h.2⟩
theorem im_of {ps:List Prop} {r:Prop} (h:allP ps->r):im ps r:=by
 induction ps with
 | nil=>exact h trivial
 | cons p ps ih=>exact fun hp=>ih fun hs=>h ⟨hp,hs⟩
theorem cjl_all:∀ {ps:List Prop},cjl ps->allP ps
 | [],_=>trivial
 | [_],h=>⟨h,trivial⟩
 | _::_::_,h=>⟨h.1,cjl_all h.2⟩
theorem gOp_ok (hE:EnvOK E) {ch:List (Nat×Bool)} {op:Op} {d:Nat} {a:Q1 E.N} (h:Rel E C fx lkd st ρ Z f w) (hc:AllG f ch) (hs:gOp false fx lkd st ch op=some a) (ho:allP a.ob) (hn:Nat.blt d n=true)
  (K:∀ v w',Ext [] w w'->Rep E.N E.T ρ Z w' v a.v->allP a.hy->WL E.P false n ops Q rest (upd f d v) w'):WL E.P false n ops Q (⟨some d,op,ty,pos,after,none⟩::rest) f w:=by
 unfold gOp at hs
 split at hs
 . rename_i a2 hs2
   simp only [Option.some.injEq] at hs; subst hs
   exact stepG_ok h hc hs2 ho hn fun v hr hy=>K v w (Ext.refl [] w) hr hy
 . rw [cond_false] at hs
   split at hs
   . rename_i c hc2
     cases op with
     | call c' =>
      simp only [opCall,Option.some.injEq] at hc2; subst hc2
      unfold gCall at hs
      split at hs
      . rename_i K0 args hcal
        obtain ⟨z,xs,Ts,cap,rfl,hz,hargs⟩:=callee_ok (fun o=>h.ev hc o) hcal
        obtain ⟨hK,hrun⟩:=gC_run hE h hs ho hargs
        exact S_callA hz hK hrun (fun d' e=>by cases e; exact hn) fun v w' ⟨x,hr',hy⟩=>K v w' x (Rep.bare hr') hy
      . cases hs
     | _=>cases hc2
   . cases hs
def inl0 (E:Env):Inl E:=fun _ _ _ _ _ _=>False
theorem inl0_ok:InlOK E (inl0 E):=fun _ _ _ _ _ _ h=>h.elim
theorem fCall_vc {ch:List (Nat×Bool)} {d:Option Nat} {c:Call} {s:S1 E.N} {k:E.St->Prop} (hs:fCall fx lkd st ch c=some s) (ho:allP s.ob) (hk:allP s.hy->k (put ⟨st.slots,st.gs,s.items,s.nx⟩ d s.v)):vcCall (inl0 E) fx lkd st ch d c k:=by
 unfold fCall at hs
 unfold vcCall
 split at hs
 . cases hs
 . rename_i K args hcal
   split at hs
   . rename_i Cf hcon
     cases hl:E.lend K with
     | true=>rw [hl] at hs; cases hs
     | false =>
      rw [hl,cond_false] at hs
      try rw [hcon]
      simp only [cond_false]
      split at hs
      . rename_i args' its hf
        try rw [hf]
        try simp only
        unfold fCon at hs
        unfold vcCon
        rw [hcon] at hs ⊢
        simp only at hs ⊢
        split at hs
        . rename_i r hr
          have ⟨hb,hs2⟩:=bif_some hs
          simp only [Option.some.injEq] at hs2; subst hs2
          try rw [hr]
          rw [hb]
          exact cj_of ho (im_of hk)
        . cases hs
      . cases hs
   . rename_i hcon
     try rw [hcon]
     try simp only
     split at hs
     . rename_i o hob
       try rw [hob]
       try simp only
       unfold fObc at hs
       unfold vcObc
       split at hs
       . rename_i v args0
         split at hs
         . rename_i id off
           have ⟨hb,hs2⟩:=bif_some hs
           simp only [hb,cond_true]
           split at hs2
           . rename_i k' fid x hi
             try rw [hi]
             try simp only
             split at hs2
             . rename_i hk'
               try rw [dif_pos hk']
               split at hs2
               . rename_i r hr
                 simp only [Option.some.injEq] at hs2; subst hs2
                 try rw [hr]
                 exact cj_of ho (im_of hk)
               . cases hs2
             . cases hs2
           . cases hs2
         . cases hs
       . cases hs
     . rename_i hob
       try rw [hob]
       try simp only
       split at hs
       . cases hs
       . rename_i hw
         try rw [hw]
         try simp only
         rw [hs]
         exact cj_of ho (im_of hk)
theorem fEff_ok (hE:EnvOK E) {ch:List (Nat×Bool)} {d:Option Nat} {op:Op} {s:S1 E.N} (h:Rel E C fx lkd st ρ Z f w) (hG:AllG f ch) (hf:free n fx st d=true) (hs:fEff fx lkd st ch d op ty=some s) (ho:allP s.ob)
  (K:∀ v ρ' Z' w',Rel E C fx lkd (put ⟨st.slots,st.gs,s.items,s.nx⟩ d s.v) ρ' Z' (putF f d v) w'->allP s.hy->WL E.P false n ops Q rest (putF f d v) w') :
  WL E.P false n ops Q (⟨d,op,ty,pos,after,none⟩::rest) f w:=by
 unfold fEff at hs
 split at hs
 . rename_i s' hs'
   have ⟨hd,hs2⟩:=bif_some hs
   simp only [Option.some.injEq] at hs2; subst hs2
   refine stepE_ok hE h.mem (fun o=>h.ev hG o) hs' ho ?_ fun v ρ' Z' w' m1 t1 hr hy=>K _ _ _ _ (h.put hf t1 m1 hr) hy
   have hb:=free_blt hf
   cases op with
   | store T a x =>
    cases d with
    | none=>rfl
    | some d=>cases hd
   | _ =>
    cases d with
    | none=>cases hd
    | some d=>exact ⟨d,rfl,hb d rfl⟩
 . split at hs
   . rename_i c hc
     cases op with
     | call c' =>
      simp only [opCall,Option.some.injEq] at hc; subst hc
      refine vcCall_ok hE inl0_ok h hG hf (fCall_vc (k:=fun st'=>st'=put ⟨st.slots,st.gs,s.items,s.nx⟩ d s.v/\allP s.hy) hs ho fun hy=>⟨rfl,hy⟩) fun st' ρ' Z' v w' hr hk=>?_
      obtain ⟨e,hy⟩:=hk
      subst e
      exact K v ρ' Z' w' hr hy
     | _=>cases hc
   . cases hs
end
end Go.Rx
end
section
namespace Go.Rx
open Go Go.Wk Go.Wl
section
variable {N:Uni} {p:Nat->Bool}
theorem dSlots_lk:∀ {ents:List (Ent N)} {j0 k:Nat} {s:SV N},lk (dSlots p j0 ents) k=some s->∃ j e,ents[j]?=some e/\p (j0+j)=true/\e.dst=some k/\s=e.now
 | [],_,_,_,h=>by cases h
 | e::r,j0,k,s,h=>by
  have go:lk (dSlots p (j0+1) r) k=some s->∃ j e',(e::r)[j]?=some e'/\p (j0+j)=true/\e'.dst=some k/\s=e'.now:=fun h=>by
   obtain ⟨j,e',h1,h2,h3⟩:=dSlots_lk h
   exact ⟨j+1,e',by simpa using h1,by rw [show j0+(j+1)=j0+1+j by omega]; exact h2,h3⟩
  unfold dSlots at h
  cases hp:p j0 with
  | false=>rw [hp,cond_false] at h; exact go h
  | true =>
   rw [hp,cond_true] at h
   split at h
   . rename_i d hd
     rw [lk_cons] at h
     by_cases e1:d=k
     . rw [if_pos e1] at h; cases h; exact ⟨0,e,rfl,hp,by rw [hd,e1],rfl⟩
     . rw [if_neg e1] at h; exact go h
   . exact go h
theorem dGs_lk:∀ {ents:List (Ent N)} {j0 k j':Nat} {b:Bool} {s:SV N},lk (dGs p j0 ents) k=some (j',b,s)->∃ j e jj,ents[j]?=some e/\p (j0+j)=true/\p jj=true/\e.dst=some k/\e.g=some (jj,j',b)/\s=e.sv
 | [],_,_,_,_,_,h=>by cases h
 | e::r,j0,k,j',b,s,h=>by
  have go:lk (dGs p (j0+1) r) k=some (j',b,s)->∃ j e' jj,(e::r)[j]?=some e'/\p (j0+j)=true/\p jj=true/\e'.dst=some k/\e'.g=some (jj,j',b)/\s=e'.sv:=fun h=>by
   obtain ⟨j,e',jj,h1,h2,h3⟩:=dGs_lk h
   exact ⟨j+1,e',jj,by simpa using h1,by rw [show j0+(j+1)=j0+1+j by omega]; exact h2,h3⟩
  unfold dGs at h
  cases hp:p j0 with
  | false=>rw [hp,cond_false] at h; exact go h
  | true =>
   rw [hp,cond_true] at h
   split at h
   . rename_i d jj dj b' hd hg
     cases hpj:p jj with
     | false=>rw [hpj,cond_false] at h; exact go h
     | true =>
      rw [hpj,cond_true] at h
      rw [lk_cons] at h
      by_cases e1:d=k
      . rw [if_pos e1] at h; cases h; exact ⟨0,e,jj,rfl,hp,hpj,by rw [hd,e1],hg,rfl⟩
      . rw [if_neg e1] at h; exact go h
   . exact go h
theorem allP_app {a b:List Prop} (h:allP a) (k:allP b):allP (a++b):=by
 induction a with
 | nil=>exact k
 | cons p r ih=>exact ⟨h.1,ih h.2⟩
theorem dHy_all:∀ {ents:List (Ent N)} {j0:Nat},(∀ j e,ents[j]?=some e->p (j0+j)=true->allP e.hy)->allP (dHy p j0 ents)
 | [],_,_=>trivial
 | e::r,j0,h=>by
  have go:allP (dHy p (j0+1) r):=dHy_all fun j e' h1 h2=>h (j+1) e' (by simpa using h1) (by rw [show j0+(j+1)=j0+1+j by omega]; exact h2)
  unfold dHy
  cases hp:p j0 with
  | false=>exact go
  | true=>exact allP_app (h 0 e rfl hp) go
theorem lk_filter {β:Type} {q:Nat->Bool} {l:List (Nat×β)} {k:Nat} {s:β} (h:lk (l.filter (fun p=>q p.1)) k=some s):q k=true/\lk l k=some s:=by
 induction l with
 | nil=>cases h
 | cons p r ih =>
  rw [List.filter_cons] at h
  by_cases hq:q p.1=true
  . rw [if_pos hq] at h
    have h:lk ((p.1,p.2)::r.filter (fun p=>q p.1)) k=some s:=h
    show _/\lk ((p.1,p.2)::r) k=some s
    rw [lk_cons] at h ⊢
    by_cases e:p.1=k
    . rw [if_pos e] at h ⊢; exact ⟨by rw [<- e]; exact hq,h⟩
    . rw [if_neg e] at h ⊢; exact ih h
  . rw [if_neg hq] at h
    have ⟨h1,h2⟩:=ih h
    refine ⟨h1,?_⟩
    show lk ((p.1,p.2)::r) k=some s
    rw [lk_cons,if_neg]
    . exact h2
    . intro e; rw [e] at hq; exact hq h1
end
section
variable {B0:List Nat} {w0 w w':World} {Z:Nat->Prop} {l l':List It}
theorem Sep.sub (hs:Sep B0 w0 Z w l) (h:l'.Sublist l):Sep B0 w0 Z w l':=by
 obtain ⟨h1,h2⟩:=Sep.pw hs
 exact Sep.of_pw hs.ext hs.zlt (fun t ht=>h1 t (h.subset ht)) (h2.sublist h)
end
section
variable {E:Env} {C:Ctx} {ρ ρ':Env1} {Z Z':Nat->Prop} {w w':World} {its its':Items E.N} {nx nx':Nat}
theorem Mem.sub (hm:Mem E C ρ Z w its nx) (h:its'.Sublist its) (hn:nx<=nx'):Mem E C ρ Z w its' nx':=⟨Sep.sub hm.sep (h.map _),fun i hi=>hm.fr i (by omega),hm.ge,hm.zge,hm.zle⟩
theorem without_again {X T:List Nat} (h:∀ t∈T,t∈X):without (without its X) T=without its X:=by
 unfold without
 rw [List.filter_eq_self]
 intro p hp
 rw [List.mem_filter] at hp
 have h1:=hp.2
 simp only [Bool.not_eq_true',List.elem_eq_mem,decide_eq_false_iff_not] at h1 ⊢
 exact fun ht=>h1 (h _ ht)
end
def EntOK (E:Env) (ρ:Env1) (Z:Nat->Prop) (w:World) (D:Nat->Bool) (V:Nat->Value) (j:Nat) (e:Ent E.N):Prop :=
 allP e.hy/\match e.g with
  | none=>Rep E.N E.T ρ Z w (V j) e.sv
  | some (jj,_,b)=>D jj=true/\(V jj=.bool b->Rep E.N E.T ρ Z w (V j) e.sv)/\(V jj≠.bool b->V j=undef)
structure JI (E:Env) (C:Ctx) (fx:Slots E.N) (lkd:Items E.N) (st0:E.St) (f0:Fr) (F:DA E.N) (D:Nat->Bool) (V:Nat->Value) (w:World) (ρ:Env1) (Z:Nat->Prop) (k:Nat):Prop where
 eff:∀ r e,F.effs[r]?=some e->(D e=true↔r<k)
 mem:∃ m,F.mems[k]?=some m/\Mem E C ρ Z w (m.1++lkd) m.2
 tn:Tn C.ρ0 C.Z0 C.w1 ρ Z w
 sl:∀ k s,lk st0.slots k=some s->Rep E.N E.T ρ Z w (f0 k) s
 fx:∀ p∈fx,Rep E.N E.T ρ Z w (f0 p.1) p.2
 ent:∀ j e,F.ents[j]?=some e->D j=true->EntOK E ρ Z w D V j e
 g:E.G.is C.Z0 C.w1
def JF (E:Env) (C:Ctx) (fx:Slots E.N) (lkd:Items E.N) (st0:E.St) (f0:Fr) (F:DA E.N):JP:=fun D V w=>∃ ρ Z k,JI E C fx lkd st0 f0 F D V w ρ Z k
structure WA (E:Env) (l:List Oper) (H:Hints) (i:Nat) (a:DA E.N):Prop where
 len:a.ents.length=i
 ent:∀ j e,a.ents[j]?=some e->dstAt l j=e.dst/\∀ jj dj b,e.g=some (jj,dj,b)->dstAt l jj=some dj
 eff:∀ e∈a.effs,e<i/\∃ T,lk H e=some T
 up:a.effs.Pairwise (· < ·)
 mlen:a.mems.length=a.effs.length+1
 chain:∀ (r e:Nat) (m m':Items E.N×Nat),a.effs[r]?=some e->a.mems[r]?=some m->a.mems[r+1]?=some m'->∃ T new,lk H e=some T/\m'.1=new++without (E:=E) m.1 T
 nx:∀ m∈a.mems,m.2<=NX
structure Up {N:Uni} (a F:DA N) (i:Nat):Prop where
 ents:∃ x,F.ents=a.ents++x
 effs:∃ y,F.effs=a.effs++y/\∀ e∈y,i<=e
 mems:∃ z,F.mems=a.mems++z
theorem Up.ent {N:Uni} {a F:DA N} {i j:Nat} {e:Ent N} (h:Up a F i) (hj:a.ents[j]?=some e):F.ents[j]?=some e:=by
 obtain ⟨x,hx⟩:=h.ents
 rw [hx,List.getElem?_append_left (lt_get hj)]; exact hj
theorem Up.eff {N:Uni} {a F:DA N} {i j e:Nat} (h:Up a F i) (hj:a.effs[j]?=some e):F.effs[j]?=some e:=by
 obtain ⟨x,hx,_⟩:=h.effs
 rw [hx,List.getElem?_append_left (lt_get hj)]; exact hj
theorem Up.mem {N:Uni} {a F:DA N} {i j:Nat} {e:Items N×Nat} (h:Up a F i) (hj:a.mems[j]?=some e):F.mems[j]?=some e:=by
 obtain ⟨x,hx⟩:=h.mems
 rw [hx,List.getElem?_append_left (lt_get hj)]; exact hj
section
variable {E:Env} {C C':Ctx} {n:Nat} {l:List Oper} {ms:List Nat} {H:Hints} {f0:Fr} {st0:E.St} {fx:Slots E.N} {lkd lkd':Items E.N} {F a:DA E.N} {D:Nat->Bool} {V:Nat->Value} {w w':World} {ρ ρ':Env1} {Z Z':Nat->Prop} {i k:Nat} {g:Fr} {its:Items E.N} {nx:Nat}
theorem kept_free (hf:dsFree fx l=true) {p:Nat×E.SV} (hp:p∈fx):keptOk ms i p.1 l 0=true:=by
 have key:∀ (r:List Oper) (j:Nat),(∀ o∈r,∀ d,o.dst=some d->d≠p.1)->keptOk ms i p.1 r j=true:=by
  intro r
  induction r with
  | nil=>intro j _; rfl
  | cons o r ih =>
   intro j h
   unfold keptOk
   rw [ih (j+1) (fun o ho=>h o (List.mem_cons_of_mem _ ho)),Bool.and_true]
   split
   . rename_i d hd
     rw [beq_ne (h o (List.mem_cons_self ..) d hd)]; rfl
   . rfl
 refine key l 0 fun o ho d hd e=>?_
 unfold dsFree at hf
 rw [List.all_eq_true] at hf
 have:=hf o ho
 rw [hd] at this
 simp only [Option.isNone_iff_eq_none] at this
 exact lk_none this p hp e
theorem JI.rel (hj:JI E C fx lkd st0 f0 F D V w ρ Z k) (hf:dsFree fx l=true) (hw:WA E l H i a) (hu:∀ (j:Nat) (e:Ent E.N),a.ents[j]?=some e->F.ents[j]?=some e) (hd:∀ j,bit ms i j=true->D j=true)
  (hdone:∀ j t,D j=true->dstAt l j=some t->g t=V j) (hkept:∀ t,keptOk ms i t l 0=true->g t=f0 t) (hm:Mem E C' ρ Z w (its++lkd') nx) (ht:Tn C'.ρ0 C'.Z0 C'.w1 ρ Z w) (hg0:E.G.is C'.Z0 C'.w1):Rel E C' fx lkd' (dSt l ms st0 i a its nx) ρ Z g w:=by
 refine ⟨fun k s hk=>?_,fun p hp=>by rw [hkept _ (kept_free hf hp)]; exact hj.fx p hp,fun k j' b s hk=>?_,hm,ht,hg0⟩
 . rcases lk_app hk with hk | ⟨_,hk⟩
   . obtain ⟨j,e,h1,h2,h3,rfl⟩:=dSlots_lk hk
     rw [Nat.zero_add] at h2
     have hD:=hd j h2
     have hg:=hdone j k hD (by rw [(hw.ent j e h1).1]; exact h3)
     have ho:=(hj.ent j e (hu j e h1) hD).2
     unfold Ent.now
     split
     . rename_i hn; rw [hn] at ho; rw [hg]; exact ho
     . exact .un
   . have ⟨h1,h2⟩:=lk_filter (q:=fun t=>keptOk ms i t l 0) hk
     rw [hkept k h1]; exact hj.sl k s h2
 . obtain ⟨j,e,jj,h1,h2,h3,h4,h5,rfl⟩:=dGs_lk hk
   rw [Nat.zero_add] at h2
   have hD:=hd j h2
   have hg:=hdone j k hD (by rw [(hw.ent j e h1).1]; exact h4)
   have hg':=hdone jj j' (hd jj h3) ((hw.ent j e h1).2 _ _ _ h5)
   have ho:=(hj.ent j e (hu j e h1) hD).2
   rw [h5] at ho
   rw [hg,hg']; exact ho.2
theorem JI.hys (hj:JI E C fx lkd st0 f0 F D V w ρ Z k) (hu:∀ (j:Nat) (e:Ent E.N),a.ents[j]?=some e->F.ents[j]?=some e) (hd:∀ j,bit ms i j=true->D j=true):allP (dHy (bit ms i) 0 a.ents) :=
 dHy_all fun j e h1 h2=>(hj.ent j e (hu j e h1) (hd j (by rw [Nat.zero_add] at h2; exact h2))).1
theorem EntOK.turn {e:Ent E.N} {j:Nat} {v:Value} (h:EntOK E ρ Z w D V j e) (t:Tn ρ Z w ρ' Z' w') (hi:D i=false) (hj:D j=true):EntOK E ρ' Z' w' (setD D i) (setV V i v) j e:=by
 have ne:∀ {x},D x=true->x≠i:=fun hx e=>by rw [e,hi] at hx; cases hx
 refine ⟨h.1,?_⟩
 have h2:=h.2
 split at h2
 . rename_i hg
   rw [setV_ne (ne hj)]; exact t.rep h2
 . rename_i jj dj b hg
   rw [setV_ne (ne hj),setV_ne (ne h2.1),setD_ne (ne h2.1)]
   exact ⟨h2.1,fun e=>t.rep (h2.2.1 e),h2.2.2⟩
end
end Go.Rx
end
section
namespace Go.Rx
open Go Go.Wk Go.Wl
section
variable {E:Env} {C C':Ctx} {n:Nat} {l:List Oper} {ms:List Nat} {H:Hints} {f0:Fr} {st0:E.St} {fx:Slots E.N} {lkd lkd':Items E.N} {F a:DA E.N} {D:Nat->Bool} {V:Nat->Value} {w w':World} {ρ ρ':Env1} {Z Z':Nat->Prop} {i k m:Nat} {g:Fr} {its:Items E.N} {nx:Nat}
theorem bif_none {α:Type} {b:Bool} {o:Option α} {r:α} (h:(bif b then none else o)=some r):b=false/\o=some r:=by
 cases b with
 | true=>cases h
 | false=>exact ⟨rfl,h⟩
theorem loOf_spec:∀ {effs:List Nat} {r:Nat},r<loOf ms i effs->∃ e,effs[r]?=some e/\bit ms i e=true
 | [],_,h=>by simp [loOf] at h
 | e::s,r,h=>by
  unfold loOf at h
  cases hb:bit ms i e with
  | false=>rw [hb] at h; simp at h
  | true =>
   rw [hb,cond_true] at h
   cases r with
   | zero=>exact ⟨e,rfl,hb⟩
   | succ r=>obtain ⟨e',h1,h2⟩:=loOf_spec (effs:=s) (r:=r) (by omega); exact ⟨e',by simpa using h1,h2⟩
theorem up_inj {effs:List Nat} (h:effs.Pairwise (· < ·)) {r s e:Nat} (hr:effs[r]?=some e) (hs:effs[s]?=some e):r=s:=by
 rw [List.pairwise_iff_getElem] at h
 have h1:=lt_get hr
 have h2:=lt_get hs
 rw [List.getElem?_eq_getElem h1] at hr
 rw [List.getElem?_eq_getElem h2] at hs
 simp only [Option.some.injEq] at hr hs
 rcases Nat.lt_trichotomy r s with c | c | c
 . have:=h r s h1 h2 c; omega
 . exact c
 . have:=h s r h2 h1 c; omega
theorem shut_sub (hj:JI E C fx lkd st0 f0 F D V w ρ Z k) (hF:WA E l H m F) (hu:Up a F i) (hdep:∀ j,bit ms i j=true->D j=true) (hsucc:∀ j,bit ms j i=true->D j=false) {m0 mk:Items E.N×Nat} (hm0:a.mems[loOf ms i a.effs]?=some m0) (hmk:F.mems[k]?=some mk) :
  (without m0.1 (shut ms H i (a.effs.take (loOf ms i a.effs)))).Sublist mk.1:=by
 have hlo:loOf ms i a.effs<=k:=by
  rcases Nat.lt_or_ge k (loOf ms i a.effs) with h | h
  . obtain ⟨e,h1,h2⟩:=loOf_spec h
    have:=(hj.eff k e (hu.eff h1)).1 (hdep e h2)
    omega
  . exact h
 have key:∀ t mr,F.mems[loOf ms i a.effs+t]?=some mr->loOf ms i a.effs+t<=k->(without m0.1 (shut ms H i (a.effs.take (loOf ms i a.effs)))).Sublist mr.1:=by
  intro t
  induction t with
  | zero =>
   intro mr hr _
   have:=hu.mem hm0
   rw [Nat.add_zero,this] at hr
   cases hr
   exact List.filter_sublist
  | succ t ih =>
   intro mr hr hk
   have hl:=lt_get hr
   obtain ⟨m1,hm1⟩:∃ m1,F.mems[loOf ms i a.effs+t]?=some m1:=⟨_,List.getElem?_eq_getElem (by omega)⟩
   have hl2:loOf ms i a.effs+t<F.effs.length:=by have:=hF.mlen; omega
   obtain ⟨e,he⟩:∃ e,F.effs[loOf ms i a.effs+t]?=some e:=⟨_,List.getElem?_eq_getElem hl2⟩
   obtain ⟨T,new,hT,hnew⟩:=hF.chain _ e m1 mr he hm1 hr
   have hs:=ih m1 hm1 (by omega)
   have hDe:D e=true:=(hj.eff _ e he).2 (by omega)
   have hTX:∀ t∈T,t∈shut ms H i (a.effs.take (loOf ms i a.effs)):=fun t ht=>by
    obtain ⟨x,hx,_⟩:=lk_mem hT
    unfold shut
    rw [List.mem_flatMap]
    refine ⟨(e,T),List.mem_of_getElem? hx,?_⟩
    have h1:bit ms e i=false:=by
     cases hb:bit ms e i with
     | false=>rfl
     | true=>rw [hsucc e hb] at hDe; cases hDe
    have h2:(a.effs.take (loOf ms i a.effs)).elem e=false:=by
     cases hb:(a.effs.take (loOf ms i a.effs)).elem e with
     | false=>rfl
     | true =>
      exfalso
      have hb:=List.mem_of_elem_eq_true hb
      obtain ⟨r,hr1,hr2⟩:=List.getElem_of_mem hb
      simp only [List.length_take] at hr1
      rw [List.getElem_take] at hr2
      have hr3:a.effs[r]?=some e:=by rw [List.getElem?_eq_getElem (by omega),hr2]
      have:=up_inj hF.up (hu.eff hr3) he
      omega
    rw [h1,h2]; exact ht
   rw [hnew,<- without_again hTX]
   exact List.Sublist.trans (List.Sublist.filter _ hs) (List.sublist_append_right _ _)
 have:=key (k-loOf ms i a.effs) mk (by rw [show loOf ms i a.effs+(k-loOf ms i a.effs)=k by omega]; exact hmk) (by omega)
 exact this
theorem JI.quiet (hj:JI E C fx lkd st0 f0 F D V w ρ Z k) (hF:WA E l H m F) (hH:lk H i=none) (hDi:D i=false) (x:Ext [] w w') {e:Ent E.N} (he:F.ents[i]?=some e) {v:Value} (ho:EntOK E ρ Z w' (setD D i) (setV V i v) i e):JI E C fx lkd st0 f0 F (setD D i) (setV V i v) w' ρ Z k:=by
 obtain ⟨mm,hm,hmem⟩:=hj.mem
 obtain ⟨m1,t⟩:=hmem.ext0 x
 refine ⟨fun r e' hr=>?_,⟨mm,hm,m1⟩,hj.tn.trans t,fun k s h=>t.rep (hj.sl k s h),fun p hp=>t.rep (hj.fx p hp),fun j e' hj' hD=>?_,hj.g⟩
 . obtain ⟨_,T,hT⟩:=hF.eff e' (List.mem_of_getElem? hr)
   rw [setD_ne (fun e2=>by rw [e2,hH] at hT; cases hT)]
   exact hj.eff r e' hr
 . by_cases e2:j=i
   . subst e2; rw [he] at hj'; cases hj'; exact ho
   . rw [setD_ne e2] at hD
     exact (hj.ent j e' hj' hD).turn t hDi hD
theorem quiet_ok (hE:EnvOK E) {o:Oper} {e:Ent E.N} {ob:List Prop} (hf:dsFree fx l=true) (hq:dQuiet n fx lkd l ms H st0 i o a=some (ob,e)) (hH:lk H i=none)
  (hob:im (dHy (bit ms i) 0 a.ents) (allP ob)) (hw:WA E l H i a) (hF:WA E l H m F) (hu:Up a F i) (he:F.ents[i]?=some e):OneJ E.P n l ms (JF E C fx lkd st0 f0 F) f0 i o:=by
 intro D V g w hJ hDi hdep hsucc hdone hkept
 obtain ⟨ρ,Z,k,hj⟩:=hJ
 have hob:=im_hy hob (hj.hys (fun j e h=>hu.ent h) hdep)
 unfold dQuiet at hq
 split at hq
 . cases hq
 rename_i m0 hm0
 have h2:=bif_some hq
 clear hq
 obtain ⟨hfr,hq⟩:=h2
 obtain ⟨mk,hmk,hmem⟩:=hj.mem
 have hR:=hj.rel hf hw (fun j e h=>hu.ent h) hdep hdone hkept (C':=C) (hmem.sub ((shut_sub hj hF hu hdep hsucc hm0 hmk).append_right lkd) (hF.nx mk (List.mem_of_getElem? hmk))) hj.tn hj.g
 obtain ⟨dst,op,ty,pos,after,guard⟩:=o
 cases guard with
 | none =>
  simp only at hq hfr
  split at hq
  . rename_i q d hgop
    simp only [Option.some.injEq,Prod.mk.injEq] at hq
    obtain ⟨rfl,rfl⟩:=hq
    exact gOp_ok hE hR AllG.nil hgop hob (free_some hfr).1 fun v w' x hr hy=>WL_nil ⟨rfl,v,rfl,ρ,Z,k,hj.quiet hF hH hDi x he ⟨hy,by show Rep E.N E.T ρ Z w' (setV V i v i) q.v; rw [setV_self]; exact hr⟩⟩
  . cases hq
 | some jb =>
  obtain ⟨j,b⟩:=jb
  simp only at hq hfr
  split at hq
  . rename_i dj hdj
    have h2:=bif_some hq
    clear hq
    obtain ⟨hb,hq⟩:=h2
    simp only [Bool.and_eq_true] at hb
    obtain ⟨hbj,hnj⟩:=hb
    have hDj:=hdep j hbj
    have hji:j≠i:=fun e=>by rw [e,hDi] at hDj; cases hDj
    have hgj:=hdone j dj hDj hdj
    split at hq
    . rename_i p q d hs
      simp only [Option.some.injEq,Prod.mk.injEq] at hq
      obtain ⟨rfl,rfl⟩:=hq
      unfold gSel at hs
      split at hs
      . rename_i p1 dp q1 d1 hg ho1
        have h2:=bif_none hs
        clear hs
        have hs:=h2.2
        simp only [Option.some.injEq,Prod.mk.injEq] at hs
        obtain ⟨rfl,rfl,rfl⟩:=hs
        obtain ⟨g1,g2⟩:=gprop_ok hR 8 dj b p1 dp hg
        by_cases hp:p1
        . have e1:=g1.1 hp
          refine WL_on hdj hnj e1 (gOp_ok hE hR (chain_ok hR 8 dj b e1) ho1 (imp_all hp hob) (free_some hfr).1 fun v w' x hr hy=>WL_nil ⟨rfl,v,rfl,ρ,Z,k,hj.quiet hF hH hDi x he ⟨imp_of fun _=>hy,?_⟩⟩)
          show setD D i j=true/\(setV V i v j=.bool b->Rep E.N E.T ρ Z w' (setV V i v i) q1.v)/\(setV V i v j≠.bool b->setV V i v i=undef)
          rw [setD_ne hji,setV_ne hji,setV_self,<- hgj]
          exact ⟨hDj,fun _=>hr,fun h=>absurd e1 h⟩
        . have e1:=g2 hp
          have ho:EntOK E ρ Z w (setD D i) (setV V i undef) i ⟨some d1,some (j,dj,b),q1.v,imp p1 q1.hy⟩:=by
           refine ⟨imp_of fun h=>absurd h hp,?_⟩
           show setD D i j=true/\(setV V i undef j=.bool b->Rep E.N E.T ρ Z w (setV V i undef i) q1.v)/\(setV V i undef j≠.bool b->setV V i undef i=undef)
           rw [setD_ne hji,setV_ne hji,setV_self,<- hgj]
           exact ⟨hDj,fun h=>absurd (g1.2 h) hp,fun _=>rfl⟩
          have fin:=hj.quiet hF hH hDi (Ext.refl [] w) he ho
          rcases e1 with e1 | e1
          . exact WL_off hdj hnj (free_some hfr).1 e1 (WL_nil ⟨rfl,undef,rfl,ρ,Z,k,fin⟩)
          . exact WL_off0 hdj hnj (free_some hfr).1 e1 (WL_nil ⟨rfl,undef,rfl,ρ,Z,k,fin⟩)
      . cases hs
    . cases hq
  . cases hq
theorem isOff_ok {s:E.SV} {b:Bool} {v:Value} (h:isOff s b=true) (r:Rep E.N E.T ρ Z w v s):v=.bool (!b):=by
 cases s with
 | tt =>
  cases b with
  | false=>cases r; rfl
  | true=>cases h
 | ff =>
  cases b with
  | true=>cases r; rfl
  | false=>cases h
 | _=>cases h
theorem dead_ok {o:Oper} {e:Ent E.N} (hq:dDead n l ms i o a=some e) (hH:lk H i=none) (hF:WA E l H m F) (hu:Up a F i) (he:F.ents[i]?=some e):OneJ E.P n l ms (JF E C fx lkd st0 f0 F) f0 i o:=by
 intro D V g w hJ hDi hdep hsucc hdone hkept
 obtain ⟨ρ,Z,k,hj⟩:=hJ
 obtain ⟨dst,op,ty,pos,after,guard⟩:=o
 unfold dDead at hq
 split at hq
 . rename_i j b d hg hd
   simp only at hg hd
   subst hg hd
   split at hq
   . rename_i dj ej hdj hej
     have ⟨hb,hq2⟩:=bif_some hq
     clear hq
     simp only [Bool.and_eq_true] at hb
     obtain ⟨⟨⟨hbj,hnj⟩,hnd⟩,hoff⟩:=hb
     simp only [Option.some.injEq] at hq2
     subst hq2
     have hDj:=hdep j hbj
     have hji:j≠i:=fun e=>by rw [e,hDi] at hDj; cases hDj
     have hgj:=hdone j dj hDj hdj
     have hoj:=(hj.ent j ej (hu.ent hej) hDj).2
     have hv:g dj=.bool (!b) ∨ g dj=undef:=by
      rw [hgj]
      unfold offE at hoff
      split at hoff
      . rename_i hsv
        split at hoj
        . rw [hsv] at hoj
          generalize V j=u at hoj
          cases hoj; exact .inr rfl
        . rename_i hg0; rw [hg0] at hoff; cases hoff
      . split at hoj
        . exact .inl (isOff_ok hoff hoj)
        . rename_i jj dj' b' _
          by_cases e:V jj=.bool b'
          . exact .inl (isOff_ok hoff (hoj.2.1 e))
          . exact .inr (hoj.2.2 e)
     have ho:EntOK E ρ Z w (setD D i) (setV V i undef) i (⟨some d,none,.undef,[]⟩:Ent E.N):=⟨trivial,by
      show Rep E.N E.T ρ Z w (setV V i undef i) .undef
      rw [setV_self]; exact .undef⟩
     have fin:=hj.quiet hF hH hDi (Ext.refl [] w) he ho
     rcases hv with e1 | e1
     . exact WL_off hdj hnj hnd e1 (WL_nil ⟨rfl,undef,rfl,ρ,Z,k,fin⟩)
     . exact WL_off0 hdj hnj hnd e1 (WL_nil ⟨rfl,undef,rfl,ρ,Z,k,fin⟩)
   . cases hq
 . cases hq
end
end Go.Rx
end
section
namespace Go.Rx
open Go Go.Wk Go.Wl
section
variable {E:Env} {C C':Ctx} {n:Nat} {l:List Oper} {ms:List Nat} {H:Hints} {f0:Fr} {st0:E.St} {fx:Slots E.N} {lkd lkd':Items E.N} {F a:DA E.N} {D:Nat->Bool} {V:Nat->Value} {w w':World} {ρ ρ':Env1} {Z Z':Nat->Prop} {i k m:Nat} {g:Fr} {its:Items E.N} {nx:Nat}
theorem eff_ok (hE:EnvOK E) {o:Oper} {e:Ent E.N} {ob:List Prop} {T:List Nat} {mm:Items E.N×Nat} (hf:dsFree fx l=true) (hq:dEff n fx lkd l ms st0 i o a T=some (ob,e,mm))
  (hob:im (dHy (bit ms i) 0 a.ents) (allP ob)) (hw:WA E l H i a) (hF:WA E l H m F) (hu:Up a F i) (he:F.ents[i]?=some e) (hei:F.effs[a.effs.length]?=some i) (hmm:F.mems[a.effs.length+1]?=some mm):OneJ E.P n l ms (JF E C fx lkd st0 f0 F) f0 i o:=by
 intro D V g w hJ hDi hdep hsucc hdone hkept
 obtain ⟨ρ,Z,k,hj⟩:=hJ
 have hob:=im_hy hob (hj.hys (fun j e h=>hu.ent h) hdep)
 obtain ⟨mk,hmk,hmem⟩:=hj.mem
 obtain ⟨dst,op,ty,pos,after,guard⟩:=o
 unfold dEff at hq
 split at hq
 . rename_i m0 hm0
   have h2:=bif_some hq
   clear hq
   obtain ⟨hb,hq⟩:=h2
   simp only [Bool.and_eq_true] at hb
   obtain ⟨hfr,hall⟩:=hb
   simp only at hfr hq
   split at hq
   case h_2=>cases hq
   rename_i gg ch hdg
   have hk:k=a.effs.length:=by
    rcases Nat.lt_trichotomy k a.effs.length with c | c | c
    . exfalso
      obtain ⟨e',he'⟩:∃ e',a.effs[k]?=some e':=⟨_,List.getElem?_eq_getElem c⟩
      rw [List.all_eq_true] at hall
      have:=(hj.eff k e' (hu.eff he')).1 (hdep e' (hall e' (List.mem_of_getElem? he')))
      omega
    . exact c
    . exfalso
      have:=(hj.eff _ i hei).2 c
      rw [hDi] at this; cases this
   subst hk
   have:=hu.mem hm0
   rw [this] at hmk; cases hmk
   split at hq
   . rename_i s hs
     have h2:=bif_some hq
     clear hq
     obtain ⟨_,hq⟩:=h2
     simp only [Option.some.injEq,Prod.mk.injEq] at hq
     obtain ⟨rfl,rfl,rfl⟩:=hq
     have hR:=hj.rel hf hw (fun j e h=>hu.ent h) hdep hdone hkept (C':=C.at ρ Z w) (its:=within mk.1 T) (lkd':=without mk.1 T++lkd) (nx:=mk.2) (hmem.down.perm (by rw [<- List.append_assoc]; exact (split_perm mk.1 T).append_right lkd)) (Tn.refl _ _ _) (Glob.turn hj.g hj.tn)
     have hgg:∃ hG:AllG g ch,allP s.ob/\∀ {Q:Exit->Fr->World->Prop},WL E.P false n l Q [⟨dst,op,ty,pos,after,none⟩] g w->WL E.P false n l Q [⟨dst,op,ty,pos,after,guard⟩] g w:=by
      unfold dG at hdg
      cases guard with
      | none =>
       simp only [Option.some.injEq,Prod.mk.injEq] at hdg
       obtain ⟨rfl,rfl⟩:=hdg
       exact ⟨AllG.nil,hob,fun h=>h⟩
      | some jb =>
       obtain ⟨j,b⟩:=jb
       simp only at hdg
       split at hdg
       . rename_i dj hdj
         have h3:=bif_some hdg
         clear hdg
         obtain ⟨hb3,hdg⟩:=h3
         simp only [Bool.and_eq_true] at hb3
         obtain ⟨⟨_,hnj⟩,_⟩:=hb3
         split at hdg
         . rename_i p dp hgp
           simp only [Option.some.injEq,Prod.mk.injEq] at hdg
           obtain ⟨rfl,rfl⟩:=hdg
           have hob2:p/\allP s.ob:=hob
           have e1:=(gprop_ok hR 8 dj b p dp hgp).1.1 hob2.1
           exact ⟨chain_ok hR 8 dj b e1,hob2.2,fun h=>WL_on hdj hnj e1 h⟩
         . cases hdg
       . cases hdg
     obtain ⟨hG,hob,hon⟩:=hgg
     refine hon (fEff_ok hE hR hG hfr hs hob fun v ρ' Z' w' hr hy=>WL_nil ⟨rfl,v,rfl,ρ',Z',a.effs.length+1,?_⟩)
     have t:Tn ρ Z w ρ' Z' w':=hr.tn
     have hM:=Mem.upC hmem hr.mem
     refine ⟨fun r e' hr'=>?_,⟨_,hmm,?_⟩,hj.tn.trans t,fun k s h=>t.rep (hj.sl k s h),fun p hp=>t.rep (hj.fx p hp),fun j e' hj' hD=>?_,hj.g⟩
     . rcases Nat.lt_trichotomy r a.effs.length with c | c | c
       . have h1:=hj.eff r e' hr'
         have hne:e'≠i:=fun e2=>by subst e2; have:=up_inj hF.up hr' hei; omega
         rw [setD_ne hne,h1]; omega
       . subst c
         rw [hei] at hr'; cases hr'
         rw [setD_self]; simp
       . have h1:=hj.eff r e' hr'
         have hne:e'≠i:=fun e2=>by subst e2; have:=up_inj hF.up hr' hei; omega
         rw [setD_ne hne,h1]; omega
     . rw [List.append_assoc]
       cases dst with
       | none=>exact hM
       | some d=>exact hM
     . by_cases e2:j=i
       . subst e2; rw [he] at hj'; cases hj'
         refine ⟨hy,?_⟩
         show Rep E.N E.T ρ' Z' w' (setV V j v j) _
         rw [setV_self]
         cases dst with
         | none=>exact .un
         | some d =>
          have:=hr.sl d s.v (by show lk ((d,s.v)::_) d=_; rw [lk_cons,if_pos rfl])
          rw [show putF g (some d) v d=v from upd_same] at this
          exact this
       . rw [setD_ne e2] at hD
         exact (hj.ent j e' hj' hD).turn t hDi hD
   . cases hq
 . cases hq
theorem WA.quiet {o:Oper} {e:Ent E.N} {ob:List Prop} (hw:WA E l H i a) (ho:l[i]?=some o) (hq:dQuiet n fx lkd l ms H st0 i o a=some (ob,e)):WA E l H (i+1) ⟨a.ents++[e],a.effs,a.mems⟩:=by
 have hent:o.dst=e.dst/\∀ jj dj b,e.g=some (jj,dj,b)->dstAt l jj=some dj:=by
  unfold dQuiet at hq
  split at hq
  . cases hq
  have h2:=bif_some hq
  clear hq
  obtain ⟨_,hq⟩:=h2
  split at hq
  . split at hq
    . rename_i q d hgop hd
      simp only [Option.some.injEq,Prod.mk.injEq] at hq
      obtain ⟨_,rfl⟩:=hq
      exact ⟨hd,fun jj dj b h=>by cases h⟩
    . cases hq
  . rename_i j b hg
    split at hq
    . rename_i dj hdj
      have h2:=bif_some hq
      clear hq
      obtain ⟨_,hq⟩:=h2
      split at hq
      . rename_i p q d hs
        simp only [Option.some.injEq,Prod.mk.injEq] at hq
        obtain ⟨_,rfl⟩:=hq
        refine ⟨?_,fun jj dj' b' h=>by cases h; exact hdj⟩
        unfold gSel at hs
        split at hs
        . rename_i hd
          have h2:=bif_none hs
          have hs:=h2.2
          simp only [Option.some.injEq,Prod.mk.injEq] at hs
          rw [hd,hs.2.2]
        . cases hs
      . cases hq
    . cases hq
 refine ⟨by simp [hw.len],fun j e' hj=>?_,fun e' h=>⟨by have:=(hw.eff e' h).1; omega,(hw.eff e' h).2⟩,hw.up,hw.mlen,hw.chain,hw.nx⟩
 have hl:=hw.len
 by_cases c:j<a.ents.length
 . have hj:(a.ents++[e])[j]?=some e':=hj
   rw [List.getElem?_append_left c] at hj; exact hw.ent j e' hj
 . have hj:(a.ents++[e])[j]?=some e':=hj
   rw [List.getElem?_append_right (by omega)] at hj
   have:j-a.ents.length=0:=by have:=lt_get hj; simp at this; omega
   rw [this] at hj; cases hj
   have:j=i:=by omega
   subst this
   exact ⟨by rw [dstAt_some ho]; exact hent.1,hent.2⟩
theorem WA.put {o:Oper} {e:Ent E.N} (hw:WA E l H i a) (ho:l[i]?=some o) (hent:o.dst=e.dst/\∀ jj dj b,e.g=some (jj,dj,b)->dstAt l jj=some dj):WA E l H (i+1) ⟨a.ents++[e],a.effs,a.mems⟩:=by
 refine ⟨by simp [hw.len],fun j e' hj=>?_,fun e' h=>⟨by have:=(hw.eff e' h).1; omega,(hw.eff e' h).2⟩,hw.up,hw.mlen,hw.chain,hw.nx⟩
 have hl:=hw.len
 by_cases c:j<a.ents.length
 . have hj:(a.ents++[e])[j]?=some e':=hj
   rw [List.getElem?_append_left c] at hj; exact hw.ent j e' hj
 . have hj:(a.ents++[e])[j]?=some e':=hj
   rw [List.getElem?_append_right (by omega)] at hj
   have:j-a.ents.length=0:=by have:=lt_get hj; simp at this; omega
   rw [this] at hj; cases hj
   have:j=i:=by omega
   subst this
   exact ⟨by rw [dstAt_some ho]; exact hent.1,hent.2⟩
theorem WA.dead {o:Oper} {e:Ent E.N} (hw:WA E l H i a) (ho:l[i]?=some o) (hq:dDead n l ms i o a=some e):WA E l H (i+1) ⟨a.ents++[e],a.effs,a.mems⟩:=by
 refine hw.put ho ?_
 unfold dDead at hq
 split at hq
 . rename_i j b d hg hd
   split at hq
   . have ⟨_,hq2⟩:=bif_some hq
     simp only [Option.some.injEq] at hq2
     subst hq2
     exact ⟨hd,fun jj dj b h=>by cases h⟩
   . cases hq
 . cases hq
theorem WA.effs {o:Oper} {e:Ent E.N} {ob:List Prop} {T:List Nat} {mm:Items E.N×Nat} (hw:WA E l H i a) (ho:l[i]?=some o) (hH:lk H i=some T) (hq:dEff n fx lkd l ms st0 i o a T=some (ob,e,mm)):WA E l H (i+1) ⟨a.ents++[e],a.effs++[i],a.mems++[mm]⟩:=by
 have hent:o.dst=e.dst/\e.g=none/\mm.2<=NX/\∃ m0 new,a.mems[a.effs.length]?=some m0/\mm.1=new++without (E:=E) m0.1 T:=by
  unfold dEff at hq
  split at hq
  . rename_i m0 hm0
    have h2:=bif_some hq
    clear hq
    obtain ⟨_,hq⟩:=h2
    split at hq
    case h_2=>cases hq
    split at hq
    . rename_i s hs
      have h2:=bif_some hq
      clear hq
      obtain ⟨hn,hq⟩:=h2
      simp only [Option.some.injEq,Prod.mk.injEq] at hq
      obtain ⟨rfl,rfl,rfl⟩:=hq
      exact ⟨rfl,rfl,Nat.le_of_ble_eq_true hn,m0,_,hm0,rfl⟩
    . cases hq
  . cases hq
 obtain ⟨h1,h2,h3,m0,new,h4,h5⟩:=hent
 have hl:=hw.len
 have hml:=hw.mlen
 refine ⟨by simp [hw.len],fun j e' hj=>?_,fun e' h=>?_,?_,by simp [hml],fun r e' m m' he hm hm'=>?_,fun m h=>?_⟩
 . have hj:(a.ents++[e])[j]?=some e':=hj
   by_cases c:j<a.ents.length
   . rw [List.getElem?_append_left c] at hj; exact hw.ent j e' hj
   . rw [List.getElem?_append_right (by omega)] at hj
     have:j-a.ents.length=0:=by have:=lt_get hj; simp at this; omega
     rw [this] at hj; cases hj
     have:j=i:=by omega
     subst this
     exact ⟨by rw [dstAt_some ho]; exact h1,fun jj dj b h=>by rw [h2] at h; cases h⟩
 . have h:e'∈a.effs++[i]:=h
   rw [List.mem_append,List.mem_singleton] at h
   rcases h with h | rfl
   . exact ⟨by have:=(hw.eff e' h).1; omega,(hw.eff e' h).2⟩
   . exact ⟨by omega,T,hH⟩
 . show (a.effs++[i]).Pairwise (· < ·)
   rw [List.pairwise_append]
   refine ⟨hw.up,List.pairwise_singleton _ _,fun x hx y hy=>?_⟩
   rw [List.mem_singleton] at hy; subst hy
   exact (hw.eff x hx).1
 . have he:(a.effs++[i])[r]?=some e':=he
   have hm:(a.mems++[mm])[r]?=some m:=hm
   have hm':(a.mems++[mm])[r+1]?=some m':=hm'
   by_cases c:r<a.effs.length
   . rw [List.getElem?_append_left c] at he
     rw [List.getElem?_append_left (by omega)] at hm hm'
     exact hw.chain r e' m m' he hm hm'
   . rw [List.getElem?_append_right (by omega)] at he
     have:r-a.effs.length=0:=by have:=lt_get he; simp at this; omega
     have hr:r=a.effs.length:=by omega
     subst hr
     rw [this] at he; cases he
     rw [List.getElem?_append_left (by omega)] at hm
     rw [List.getElem?_append_right (by omega)] at hm'
     have:a.effs.length+1-a.mems.length=0:=by omega
     rw [this] at hm'; cases hm'
     rw [h4] at hm; cases hm
     exact ⟨T,new,hH,h5⟩
 . have h:m∈a.mems++[mm]:=h
   rw [List.mem_append,List.mem_singleton] at h
   rcases h with h | rfl
   . exact hw.nx m h
   . exact h3
theorem dGo_ok (hE:EnvOK E) (hf:dsFree fx l=true) {K:DA E.N->Prop}:∀ (r:List Oper) (i:Nat) (a:DA E.N),(∀ x,r[x]?=l[i+x]?)->WA E l H i a->dGo n fx lkd l ms H st0 K i r a->∃ F,WA E l H (i+r.length) F/\Up a F i/\StepsJ E.P n l ms (JF E C fx lkd st0 f0 F) f0 i r/\K F
 | [],i,a,_,hw,h=>⟨a,hw,⟨⟨[],by simp⟩,⟨[],by simp,fun e h=>by cases h⟩,⟨[],by simp⟩⟩,.nil,h⟩
 | o::r,i,a,hr,hw,h=>by
  have ho:l[i]?=some o:=by have:=hr 0; simpa using this.symm
  have hr':∀ x,r[x]?=l[i+1+x]? := fun x=>by have:=hr (x+1); rw [show i+(x+1)=i+1+x by omega] at this; simpa using this
  unfold dGo at h
  split at h
  . rename_i ob a' hone
    have ⟨hob,hgo⟩:im (dHy (bit ms i) 0 a.ents) (allP ob)/\dGo n fx lkd l ms H st0 K (i+1) r a':=by
     cases hb:ob.isEmpty with
     | true=>rw [hb,cond_true] at h; rw [List.isEmpty_iff.1 hb]; exact ⟨im_of fun _=>trivial,h⟩
     | false=>rw [hb,cond_false] at h; exact ⟨im_of fun hy=>cjl_all (im_hy h.1 hy),h.2⟩
    unfold dOne at hone
    split at hone
    . rename_i hH
      split at hone
      . rename_i e hq
        simp only [Option.some.injEq,Prod.mk.injEq] at hone
        obtain ⟨rfl,rfl⟩:=hone
        obtain ⟨F,hF,hu,hs,hK⟩:=dGo_ok hE hf r (i+1) _ hr' (hw.dead ho hq) hgo
        have he:F.ents[i]?=some e:=hu.ent (by show (a.ents++[e])[i]?=_; rw [List.getElem?_append_right (by have:=hw.len; omega),hw.len,Nat.sub_self]; rfl)
        have hu':Up a F i:=by
         obtain ⟨⟨x,hx⟩,⟨y,hy,hy'⟩,hz⟩:=hu
         exact ⟨⟨[e]++x,by rw [hx]; simp⟩,⟨y,hy,fun e h=>by have:=hy' e h; omega⟩,hz⟩
        exact ⟨F,by rw [List.length_cons,show i+(r.length+1)=i+1+r.length by omega]; exact hF,hu',.cons (dead_ok hq hH hF hu' he) hs,hK⟩
      . split at hone
        . rename_i ob1 e hq
          simp only [Option.some.injEq,Prod.mk.injEq] at hone
          obtain ⟨rfl,rfl⟩:=hone
          obtain ⟨F,hF,hu,hs,hK⟩:=dGo_ok hE hf r (i+1) _ hr' (hw.quiet ho hq) hgo
          have he:F.ents[i]?=some e:=hu.ent (by show (a.ents++[e])[i]?=_; rw [List.getElem?_append_right (by have:=hw.len; omega),hw.len,Nat.sub_self]; rfl)
          have hu':Up a F i:=by
           obtain ⟨⟨x,hx⟩,⟨y,hy,hy'⟩,hz⟩:=hu
           exact ⟨⟨[e]++x,by rw [hx]; simp⟩,⟨y,hy,fun e h=>by have:=hy' e h; omega⟩,hz⟩
          exact ⟨F,by rw [List.length_cons,show i+(r.length+1)=i+1+r.length by omega]; exact hF,hu',.cons (quiet_ok hE hf hq hH hob hw hF hu' he) hs,hK⟩
        . cases hone
    . rename_i T hH
      split at hone
      . rename_i ob1 e mm hq
        simp only [Option.some.injEq,Prod.mk.injEq] at hone
        obtain ⟨rfl,rfl⟩:=hone
        obtain ⟨F,hF,hu,hs,hK⟩:=dGo_ok hE hf r (i+1) _ hr' (hw.effs ho hH hq) hgo
        have he:F.ents[i]?=some e:=hu.ent (by show (a.ents++[e])[i]?=_; rw [List.getElem?_append_right (by have:=hw.len; omega),hw.len,Nat.sub_self]; rfl)
        have hei:F.effs[a.effs.length]?=some i:=hu.eff (by show (a.effs++[i])[a.effs.length]?=_; rw [List.getElem?_append_right (Nat.le_refl _),Nat.sub_self]; rfl)
        have hmm:F.mems[a.effs.length+1]?=some mm:=hu.mem (by show (a.mems++[mm])[a.effs.length+1]?=_; rw [<- hw.mlen,List.getElem?_append_right (Nat.le_refl _),Nat.sub_self]; rfl)
        have hu':Up a F i:=by
         obtain ⟨⟨x,hx⟩,⟨y,hy,hy'⟩,⟨z,hz⟩⟩:=hu
         refine ⟨⟨[e]++x,by rw [hx]; simp⟩,⟨[i]++y,by rw [hy]; simp,fun e h=>?_⟩,⟨[mm]++z,by rw [hz]; simp⟩⟩
         rw [List.mem_append,List.mem_singleton] at h
         rcases h with h | h
         . omega
         . have:=hy' e h; omega
        exact ⟨F,by rw [List.length_cons,show i+(r.length+1)=i+1+r.length by omega]; exact hF,hu',.cons (eff_ok hE hf hq hob hw hF hu' he hei hmm) hs,hK⟩
      . cases hone
  . exact h.elim
theorem updAll_map {g g':Fr}:∀ {ks:List Nat} {k:Nat},k∈ks->updAll g' (ks.map fun k=>(k,g k)) k=g k
 | x::r,k,h=>by
  show upd (updAll g' (r.map fun k=>(k,g k))) x (g x) k=g k
  by_cases e:x=k
  . subst e; exact upd_same
  . rw [upd_ne e]
    rcases List.mem_cons.1 h with h | h
    . exact absurd h.symm e
    . exact updAll_map h
theorem live_map {g:Fr}:∀ {ks:List Nat},Live g (ks.map fun k=>(k,g k))
 | []=>trivial
 | _::_=>⟨rfl,live_map⟩
theorem vcDraw_ok (hE:EnvOK E) {id:Nat} {f:Fr} {K:E.St->Prop} {Q:Exit->Fr->World->Prop} (h:Rel E C fx lkd st0 ρ Z f w) (hv:vcDraw n fx lkd l st0 K) (hQ:∀ st' ρ' Z' f' w',Rel E C fx lkd st' ρ' Z' f' w'->K st'->Q .normal f' w'):W E.P n (.region id l.toArray true) Q f w:=by
 unfold vcDraw at hv
 cases hb:(afterOk l && dstsU l [] && dstIn (dsts l) n l && dsFree fx l && Nat.ble st0.nx NX) with
 | false=>rw [hb] at hv; exact hv.elim
 | true =>
  rw [hb,cond_true] at hv
  rw [Bool.and_eq_true,Bool.and_eq_true] at hb
  obtain ⟨⟨ha,hf⟩,hn⟩:=hb
  obtain ⟨F,hF,hu,hs,hK⟩:=dGo_ok (C:=C) (f0:=f) hE hf l 0 _ (fun x=>by simp) ⟨rfl,fun j e h=>by simp at h,fun e h=>(by cases h),List.Pairwise.nil,rfl,fun r e m m' h=>by simp at h,fun m h=>by
   have h:m∈[(st0.items,st0.nx)]:=h
   rw [List.mem_singleton] at h; subst h; exact Nat.le_of_ble_eq_true hn⟩ hv
  rw [Nat.zero_add] at hF
  refine W_region_J (JF E C fx lkd st0 f F) (dsts l) hE.mixed ha (masks l) rfl (fun V=>⟨ρ,Z,0,fun r e _=>by simp,⟨_,hu.mem (j:=0) rfl,h.mem⟩,h.tn,h.sl,h.fx,fun j e _ hD=>(by cases hD),h.g⟩) hs fun D V g w' hD hJ hdone hkept=>?_
  obtain ⟨ρ',Z',k,hj⟩:=hJ
  obtain ⟨mk,hmk,hmem⟩:=hj.mem
  have hk:k=F.effs.length:=by
   rcases Nat.lt_or_ge k F.effs.length with c | c
   . exfalso
     obtain ⟨e,he⟩:∃ e,F.effs[k]?=some e:=⟨_,List.getElem?_eq_getElem c⟩
     have h1:=(hF.eff e (List.mem_of_getElem? he)).1
     have:=(hj.eff k e he).1 (hD e (by simpa [Nat.blt_eq] using h1))
     omega
   . have:=lt_get hmk
     have:=hF.mlen
     omega
  subst hk
  unfold dFin at hK
  rw [hmk] at hK
  simp only at hK
  have hlen:∀ {j:Nat} {e:Ent E.N},F.ents[j]?=some e->Nat.blt j l.length=true:=fun {j e} he=>by have:=lt_get he; rw [hF.len] at this; simpa [Nat.blt_eq] using this
  have hK:=im_hy hK (dHy_all fun j e h1 _=>(hj.ent j e h1 (hD j (hlen h1))).1)
  have hg:Rel E C fx lkd ⟨dSlots (fun _=>true) 0 F.ents++st0.slots.filter (fun p=>!(dsts l).elem p.1),[],mk.1,mk.2⟩ ρ' Z' g w':=by
   refine ⟨fun k s hk=>?_,fun p hp=>?_,fun k j' b s hk=>(by cases hk),hmem,hj.tn,hj.g⟩
   . rcases lk_app hk with hk | ⟨_,hk⟩
     . obtain ⟨j,e,h1,_,h3,rfl⟩:=dSlots_lk hk
       have hg:=hdone j k (hlen h1) (by rw [(hF.ent j e h1).1]; exact h3)
       have ho:=(hj.ent j e h1 (hD j (hlen h1))).2
       unfold Ent.now
       split
       . rename_i hn; rw [hn] at ho; rw [hg]; exact ho
       . exact .un
     . have ⟨h1,h2⟩:=lk_filter (q:=fun t=>!(dsts l).elem t) hk
       rw [hkept k (by simpa using h1)]; exact hj.sl k s h2
   . rw [hkept p.1 ?_]
     . exact hj.fx p hp
     . cases hx:(dsts l).elem p.1 with
       | false=>rfl
       | true =>
        exfalso
        have hx:=List.mem_of_elem_eq_true hx
        unfold dsts at hx
        rw [List.mem_filterMap] at hx
        obtain ⟨o,ho,hd⟩:=hx
        unfold dsFree at hf
        rw [List.all_eq_true] at hf
        have:=hf o ho
        rw [hd] at this
        simp only [Option.isNone_iff_eq_none] at this
        exact lk_none this p hp rfl
  generalize hst:(⟨dSlots (fun _=>true) 0 F.ents++st0.slots.filter (fun p=>!(dsts l).elem p.1),[],mk.1,mk.2⟩:E.St)=stF at hg hK
  refine ⟨((stF.slots++fx).map (·.1)).map fun k=>(k,g k),live_map,fun g'=>hQ stF ρ' Z' _ w' ?_ hK⟩
  refine ⟨fun k s hk=>?_,fun p hp=>?_,fun k j' b s hk=>?_,hg.mem,hg.tn,hg.g⟩
  . obtain ⟨x,hx,_⟩:=lk_mem hk
    rw [updAll_map (List.mem_map.2 ⟨_,List.mem_append_left _ (List.mem_of_getElem? hx),rfl⟩)]
    exact hg.sl k s hk
  . rw [updAll_map (List.mem_map.2 ⟨p,List.mem_append_right _ hp,rfl⟩)]
    exact hg.fx p hp
  . rw [<- hst] at hk; cases hk
end
end Go.Rx
end
section
namespace Go.Rx
open Go Go.Wk Go.Wl
section
variable {E:Env} {C:Ctx} {f fb:Fr} {w wb:World} {ρb ρ:Env1} {Z Zb:Nat->Prop} {lkd:Items E.N} {fx:Slots E.N} {st st':E.St} {inl:Inl E} {an:Ann}
theorem rbS_ok {keep ids:List Nat} {Kα:Prop×Nat->Prop} {G:Prop×Nat->E.St->Prop} (h0:Rel E C fx lkd st ρb Zb fb wb) (h:Rel E (C.at ρb Zb wb) (keepS fx st keep++fx) (without st.items ids++lkd) st' ρ Z f w):∀ (ss:List (List LV)) (p:ShP E.N ss),
  rbS E fx st (keepS fx st keep++fx) st' ss p Kα->allS E fx st ss p G->∃ new ρ2 a,Kα a/\G a new/\Rel E (C.at ρb Zb wb) (keepS fx st keep++fx) (without st.items ids++lkd) new ρ2 Z f w
 | [],_,hv,_=>hv.elim
 | vs::r,p,hv,hK=>by
  unfold rbS at hv
  cases hb:fits E fx st (keepS fx st keep++fx) st' vs with
  | true=>rw [hb,cond_true] at hv; exact rbP_ok h0 h hv hK.1
  | false=>rw [hb,cond_false] at hv; exact rbS_ok h0 h r p.2 hv hK.2
theorem exS_ok {N:Uni}:∀ {ss:List (List LV)} {k:ShP N ss->Prop},exS N ss k->∃ p,k p
 | [],_,h=>⟨(),h⟩
 | vs::r,k,⟨I,m,h⟩=>by obtain ⟨p,h⟩:=exS_ok h; exact ⟨_,h⟩
def endK (K:Ks E) (e:Exit) (st:E.St):Prop:=match e with
 | .normal=>K.n st
 | .ret=>K.r st
 | .exit i=>(match lk K.e i with | some k=>k st | none=>False)
 | _=>False
def QK (E:Env) (C:Ctx) (fx:Slots E.N) (lkd:Items E.N) (K:Ks E):Exit->Fr->World->Prop:=fun e f w=>∃ st ρ Z,Rel E C fx lkd st ρ Z f w/\endK K e st
theorem lk_map {α β:Type} {l:List (Nat×α)} {g:α->β} {i:Nat}:lk (l.map fun p=>(p.1,g p.2)) i=(lk l i).map g:=by
 induction l with
 | nil=>rfl
 | cons p r ih =>
  show (bif Nat.beq p.1 i then some (g p.2) else lk (r.map fun p=>(p.1,g p.2)) i)=(bif Nat.beq p.1 i then some p.2 else lk r i).map g
  cases Nat.beq p.1 i with
  | true=>rfl
  | false=>exact ih
theorem Rel.g0 (h:Rel E C fx lkd st ρ Z f w):Rel E C fx lkd ⟨st.slots,[],st.items,st.nx⟩ ρ Z f w:=⟨h.sl,h.fx,fun k j b s e=>(by cases e),h.mem,h.tn,h.g⟩
theorem leaveQ {keep ids:List Nat} {K:Ks E} {n:E.St->Prop} {e:Exit} (h0:Rel E C fx lkd st ρb Zb fb wb) (hn:e≠.normal)
  (h:QK E (C.at ρb Zb wb) (keepS fx st keep++fx) (without st.items ids++lkd) (backK (keepS fx st keep) (without st.items ids) K n) e f w):QK E C fx lkd K e f w:=by
 obtain ⟨st',ρ',Z',hr,he⟩:=h
 have hl:=Rel.leave h0 hr
 cases e with
 | normal=>exact absurd rfl hn
 | ret=>exact ⟨_,_,_,hl,he⟩
 | exit i =>
  simp only [endK,backK] at he
  rw [lk_map] at he
  cases hk:lk K.e i with
  | none=>rw [hk] at he; exact he.elim
  | some k=>rw [hk] at he; exact ⟨_,_,_,hl,by simp only [endK,hk]; exact he⟩
 | _=>exact he.elim
theorem hasE_spec {e:Array Edge} {j:Nat} (h:hasE e j=true):∃ x∈e,x.on=j/\Region.binds .any x=true:=by
 unfold hasE at h
 obtain ⟨x,hx,hh⟩:=List.any_eq_true.1 h
 rw [Bool.and_eq_true] at hh
 exact ⟨x,by simpa using hx,Nat.eq_of_beq_eq_true hh.1,hh.2⟩
theorem boolT_spec {T:Nat} (h:boolT E T=true):(∀ w,(zeroValue T).run E.P w=.ok (.bool false) w)/\(∀ w,(sizeOf T).run E.P w=.ok 1 w)/\(∀ w,(isAgg T).run E.P w=.ok false w):=by
 unfold boolT at h
 rw [Bool.and_eq_true,Bool.and_eq_true] at h
 obtain ⟨⟨h1,h2⟩,h3⟩:=h
 refine ⟨?_,?_,?_⟩
 . cases hz:E.zeroV T with
   | none=>rw [hz] at h1; cases h1
   | some v =>
    rw [hz] at h1
    cases v with
    | bool b=>cases b with
     | true=>cases h1
     | false=>exact run_zero hz
    | _=>cases h1
 . cases hz:E.size T with
   | none=>rw [hz] at h2; cases h2
   | some s =>
    rw [hz] at h2
    have:=Nat.eq_of_beq_eq_true h2
    subst this
    exact run_size hz
 . cases hz:E.aggOf T with
   | none=>rw [hz] at h3; cases h3
   | some b =>
    rw [hz] at h3
    cases b with
    | true=>cases h3
    | false=>exact agg_run hz
theorem OpRun.mono {P:Program} {o:Oper} {g:Fr} {w:World} {R R':Value->World->Prop} (h:OpRun P o g w R) (k:∀ v w',R v w'->R' v w'):OpRun P o g w R':=by
 rcases h with h | h | ⟨K,a,h1,h2⟩
 . exact .inl fun w1 hs=>by obtain ⟨v,w2,w',a,b,c⟩:=h w1 hs; exact ⟨v,w2,w',a,b,k _ _ c⟩
 . exact .inr (.inl fun w1 hs=>by obtain ⟨w2,w',a,b,c⟩:=h w1 hs; exact ⟨w2,w',a,b,k _ _ c⟩)
 . exact .inr (.inr ⟨K,a,h1,h2.mono k⟩)
theorem coin_ok (hE:EnvOK E) {id n a b:Nat} {l:List Oper} {C:Ctx} {fx:Slots E.N} {lkd:Items E.N} {st:E.St} {ρ:Env1} {Z:Nat->Prop} {f:Fr} {w:World} {K:E.St->Prop} {Q:Exit->Fr->World->Prop} (h:Rel E C fx lkd ⟨st.slots,[],st.items,st.nx⟩ ρ Z f w) (hc:coinD E n fx l=some (a,b))
  (h1:K ⟨(b,.tt)::(a,.un)::st.slots,[],st.items,st.nx⟩) (h2:K ⟨(b,.ff)::(a,.un)::st.slots,[],st.items,st.nx⟩)
  (hQ:∀ st' ρ' Z' f' w',Rel E C fx lkd st' ρ' Z' f' w'->K st'->Q .normal f' w'):W E.P n (.region id l.toArray true) Q f w:=by
 unfold coinD at hc
 split at hc
 . rename_i a' T ty0 pos0 e0 T1 a1 ty1 pos1 e1 T2 a2 ty2 pos2 e2 b' T3 a3 ty3 pos3 e3
   cases hb:(afterOk [⟨some a',.alloc T,ty0,pos0,e0,none⟩,⟨none,.store T1 (.tmp a1) (.const (.bool true)),ty1,pos1,e1,none⟩,⟨none,.store T2 (.tmp a2) (.const (.bool false)),ty2,pos2,e2,none⟩,⟨some b',.load T3 (.tmp a3),ty3,pos3,e3,none⟩] && Nat.beq T T1 && Nat.beq T T2 && Nat.beq T T3 && Nat.beq a' a1 && Nat.beq a' a2 && Nat.beq a' a3 && !Nat.beq a' b' && (Nat.blt a' n && (lk fx a').isNone) && (Nat.blt b' n && (lk fx b').isNone) && hasE e1 0 && hasE e2 0 && hasE e3 0 && boolT E T) with
   | false=>rw [hb] at hc; cases hc
   | true =>
   rw [hb,cond_true] at hc
   cases hc
   simp only [Bool.and_eq_true] at hb
   obtain ⟨⟨⟨⟨⟨⟨⟨⟨⟨⟨⟨⟨⟨hao,b1⟩,b2⟩,b3⟩,b4⟩,b5⟩,b6⟩,b7⟩,ha1,ha2⟩,hb1,hb2⟩,he1⟩,he2⟩,he3⟩,hT⟩:=hb
   have b1:=Nat.eq_of_beq_eq_true b1; subst b1
   have b2:=Nat.eq_of_beq_eq_true b2; subst b2
   have b3:=Nat.eq_of_beq_eq_true b3; subst b3
   have b4:=Nat.eq_of_beq_eq_true b4; subst b4
   have b5:=Nat.eq_of_beq_eq_true b5; subst b5
   have b6:=Nat.eq_of_beq_eq_true b6; subst b6
   have hab:a≠b:=fun e=>by
    subst e
    simp at b7
   have hla:=blt_lt ha1
   have hlb:=blt_lt hb1
   obtain ⟨hz,hsz,hag⟩:=boolT_spec hT
   obtain ⟨x1,hx1,ho1,hbd1⟩:=hasE_spec he1
   obtain ⟨x2,hx2,ho2,hbd2⟩:=hasE_spec he2
   obtain ⟨x3,hx3,ho3,hbd3⟩:=hasE_spec he3
   have cell:∀ {L:Array Bool} {g:Fr} {w':World},Inv [⟨some a,.alloc T,ty0,pos0,e0,none⟩,⟨none,.store T (.tmp a) (.const (.bool true)),ty1,pos1,e1,none⟩,⟨none,.store T (.tmp a) (.const (.bool false)),ty2,pos2,e2,none⟩,⟨some b,.load T (.tmp a),ty3,pos3,e3,none⟩] (fun v=>Ext [] w v) (fun j v w'=>(j=0->∃ bl c,v=.pointer (some ⟨bl,0,none⟩)/\w.heap.size<=bl/\Own w' bl T [.bool c])/\(j=3->∃ c,v=.bool c)) f L g w'->L[0]?=some true->∃ bl c,g a=.pointer (some ⟨bl,0,none⟩)/\w.heap.size<=bl/\Own w' bl T [.bool c]:=fun hinv h0=>(hinv.done 0 a h0 rfl).1 rfl
   have keep:∀ {w1 w2:World} {bl:Nat} {c:Bool},Own w1 bl T [.bool c]->∀ {B:List Nat},Ext B w1 w2->(∀ x∈B,∃ c',Own w2 x T [.bool c'])->∀ j u,((j=0->∃ bl c,u=.pointer (some ⟨bl,0,none⟩)/\w.heap.size<=bl/\Own w1 bl T [.bool c])/\(j=3->∃ c,u=Value.bool c))->((j=0->∃ bl c,u=.pointer (some ⟨bl,0,none⟩)/\w.heap.size<=bl/\Own w2 bl T [.bool c])/\(j=3->∃ c,u=Value.bool c)):=by
    intro w1 w2 bl c _ B x hB j u hu
    refine ⟨fun hj=>?_,hu.2⟩
    obtain ⟨bl,c,e,hl,ho⟩:=hu.1 hj
    by_cases hm:bl∈B
    . obtain ⟨c',ho'⟩:=hB bl hm; exact ⟨bl,c',e,hl,ho'⟩
    . exact ⟨bl,c,e,hl,ho.ext x hm⟩
   have stor:∀ {ty:TypeId} {pos:String} {e:Array Edge} {g:Fr} {w':World} {bl:Nat} {c c2:Bool},g a=.pointer (some ⟨bl,0,none⟩)->Own w' bl T [.bool c]->OpRun E.P ⟨none,.store T (.tmp a) (.const (.bool c2)),ty,pos,e,none⟩ g w' (fun _ w2=>Ext [bl] w' w2/\Own w2 bl T [.bool c2]):=by
    intro ty pos e g w' bl c c2 hga ho
    refine .inr (.inl fun w1 hs=>?_)
    obtain ⟨k,rfl⟩:=hs
    obtain ⟨w2,hr,ho',he,hsz2,hk⟩:=storeCells_run (P:=E.P) [.bool c2] 0 0 [.bool c] w' ho (by simp) (fun v hv=>by simp at hv; subst hv; rfl)
    refine ⟨_,w2,?_,⟨k,rfl⟩,he,by simpa [splice] using ho'⟩
    have hrun:(storeVar T ⟨bl,0,none⟩ (.bool c2)).run E.P { w' with drawn:=k }=.ok () { w2 with drawn:=k }:=by
     unfold storeVar
     simp only [Sem.run_bind,hsz,Result.andThen_ok]
     rw [if_neg (by simp [Value.cells])]
     exact hk k
    have hga':ev g (.tmp a)=.pointer (some ⟨bl,0,none⟩):=hga
    have hco:ev g (.const (.bool c2))=.bool c2:=rfl
    simp only [execOp,hga',hco,Instr.storeAt,Instr.sureAddr,Sem.run_bind,Sem.run_pure,Result.andThen_ok,hrun]
   refine W_region_inv (I:=fun v=>Ext [] w v) (Φ:=fun j v w'=>(j=0->∃ bl c,v=.pointer (some ⟨bl,0,none⟩)/\w.heap.size<=bl/\Own w' bl T [.bool c])/\(j=3->∃ c,v=.bool c)) hE.mixed hao ?_ ?_ (Ext.refl _ _) ?_ ?_
   . intro j t hj
     match j,hj with
     | 0,hj=>cases hj; exact hla
     | 1,hj=>cases hj
     | 2,hj=>cases hj
     | 3,hj=>cases hj; exact hlb
     | _+4,hj=>cases hj
   . intro i j t hi hj
     match i,j,hi,hj with
     | 0,0,_,_=>rfl
     | 3,3,_,_=>rfl
     | 0,3,hi,hj=>cases hi; cases hj; exact absurd rfl hab
     | 3,0,hi,hj=>cases hi; cases hj; exact absurd rfl hab
     | 1,_,hi,_=>cases hi
     | 2,_,hi,_=>cases hi
     | _+4,_,hi,_=>cases hi
     | 0,1,_,hj=>cases hj
     | 0,2,_,hj=>cases hj
     | 0,_+4,_,hj=>cases hj
     | 3,1,_,hj=>cases hj
     | 3,2,_,hj=>cases hj
     | 3,_+4,_,hj=>cases hj
   . intro i o L g w' ho hinv hLi hdeps
     match i,ho with
     | 0,ho =>
      cases ho
      refine .inl fun w1 hs=>?_
      obtain ⟨k,rfl⟩:=hs
      have x:=Ext.push w' (.cells #[.bool false] T (0,0))
      have hown:Own { w' with heap:=w'.heap.push (.cells #[.bool false] T (0,0)) } w'.heap.size T [.bool false]:=Own.push w' T #[.bool false]
      refine ⟨.pointer (some ⟨w'.heap.size,0,none⟩),_,{ w' with heap:=w'.heap.push (.cells #[.bool false] T (0,0)) },?_,⟨k,rfl⟩,hinv.world.tr x,⟨fun _=>⟨_,_,rfl,hinv.world.size,hown⟩,fun h=>by cases h⟩,fun j u hu=>⟨fun hj=>?_,hu.2⟩⟩
      . simp [execOp,Instr.alloc,hz,newVar,newRow,newObj,Sem.run,go_sem,Value.cells]
        rfl
      . obtain ⟨bl,c,e,hl,ho⟩:=hu.1 hj
        exact ⟨bl,c,e,hl,ho.ext x (by simp)⟩
     | 1,ho =>
      cases ho
      have h0:=hdeps x1 hx1 hbd1
      rw [ho1] at h0
      obtain ⟨bl,c,hga,hl,how⟩:=cell hinv h0
      refine OpRun.mono (stor hga how) fun v w2 hh=>?_
      obtain ⟨x,o2⟩:=hh
      exact ⟨hinv.world.own x hl,⟨fun h=>(by cases h),fun h=>(by cases h)⟩,keep how x (fun y hy=>by rw [List.mem_singleton] at hy; rw [hy]; exact ⟨_,o2⟩)⟩
     | 2,ho =>
      cases ho
      have h0:=hdeps x2 hx2 hbd2
      rw [ho2] at h0
      obtain ⟨bl,c,hga,hl,how⟩:=cell hinv h0
      refine OpRun.mono (stor hga how) fun v w2 hh=>?_
      obtain ⟨x,o2⟩:=hh
      exact ⟨hinv.world.own x hl,⟨fun h=>(by cases h),fun h=>(by cases h)⟩,keep how x (fun y hy=>by rw [List.mem_singleton] at hy; rw [hy]; exact ⟨_,o2⟩)⟩
     | 3,ho =>
      cases ho
      have h0:=hdeps x3 hx3 hbd3
      rw [ho3] at h0
      obtain ⟨bl,c,hga,hl,how⟩:=cell hinv h0
      refine .inl fun w1 hs=>?_
      have hga':ev g (.tmp a)=.pointer (some ⟨bl,0,none⟩):=hga
      refine ⟨.bool c,w1,w',?_,hs,hinv.world,⟨fun h=>(by cases h),fun _=>⟨c,rfl⟩⟩,fun j u hu=>hu⟩
      simp only [execOp,hga',Sem.run_bind,Wk.run_load hag (how.all.sim hs)]
      rfl
     | _+4,ho=>cases ho
   . intro g w' hI hdone hkept
     obtain ⟨c,hc⟩:=(hdone 3 b rfl).2 rfl
     obtain ⟨hm,ht⟩:=h.mem.ext0 hI
     have r1:=h.put (n:=n) (d:=some a) (v:=g a) (s:=.un) (items:=st.items) (nx:=st.nx) (by show (Nat.blt a n && (lk fx a).isNone && true && true)=true; rw [ha1,ha2]; rfl) ht hm .un
     have r2:=Rel.put0 (n:=n) (d:=some b) (v:=g b) (s:=bif c then .tt else .ff) r1 (by show (Nat.blt b n && (lk fx b).isNone && true && true)=true; rw [hb1,hb2]; rfl) (by rw [hc]; cases c; exact .ff; exact .tt)
     have eg:putF (putF f (some a) (g a)) (some b) (g b)=g:=by
      funext k
      show upd (upd f a (g a)) b (g b) k=g k
      by_cases e1:k=b
      . rw [upd_eq,if_pos e1,e1]
      . rw [upd_eq,if_neg e1]
        by_cases e2:k=a
        . rw [upd_eq,if_pos e2,e2]
        . rw [upd_eq,if_neg e2,hkept k fun j hj=>?_]
          match j,hj with
          | 0,hj=>cases hj; exact e2 rfl
          | 3,hj=>cases hj; exact e1 rfl
          | 1,hj=>cases hj
          | 2,hj=>cases hj
          | _+4,hj=>cases hj
     rw [eg] at r2
     cases c with
     | true=>exact hQ _ _ _ _ _ r2 h1
     | false=>exact hQ _ _ _ _ _ r2 h2
 . cases hc
theorem vc_ok (hE:EnvOK E) (hI:InlOK E inl):∀ (c:Code) (C:Ctx) (fx:Slots E.N) (lkd:Items E.N) (st:E.St) (K:Ks E) (ρ:Env1) (Z:Nat->Prop) (f:Fr) (w:World),Rel E C fx lkd st ρ Z f w->vc inl an c fx lkd st K->W E.P an.n c (QK E C fx lkd K) f w:=by
 intro c
 induction c with
 | skip=>intro C fx lkd st K ρ Z f w h hv; exact W_skip ⟨st,ρ,Z,h,hv⟩
 | ret=>intro C fx lkd st K ρ Z f w h hv; exact W_ret ⟨st,ρ,Z,h,hv⟩
 | exit i=>intro C fx lkd st K ρ Z f w h hv; exact W_exit ⟨st,ρ,Z,h,hv⟩
 | region id l dr =>
  intro C fx lkd st K ρ Z f w h hv
  simp only [vc] at hv
  have e:l=l.toList.toArray:=by simp
  cases hb:(!dr || quietR l.toList) with
  | false =>
   rw [hb,cond_false] at hv
   have hdr:dr=true:=by
    cases dr with
    | true=>rfl
    | false=>rw [Bool.not_false,Bool.true_or] at hb; cases hb
   subst hdr
   split at hv
   . rename_i a b hc
     have:=coin_ok (id:=id) (Q:=QK E C fx lkd K) hE h.g0 hc hv.1 hv.2 (fun st' ρ' Z' f' w' hr hk=>⟨st',ρ',Z',hr,hk⟩)
     rw [<- e] at this; exact this
   . have:=vcDraw_ok (id:=id) (Q:=QK E C fx lkd K) hE h.g0 hv (fun st' ρ' Z' f' w' hr hk=>⟨st',ρ',Z',hr,hk⟩)
     rw [<- e] at this; exact this
  | true =>
   rw [hb,cond_true] at hv
   have key:WL E.P dr an.n l.toList (QK E C fx lkd K) l.toList f w:=vcOps_ok hE hI l.toList _ ρ Z f w h.g0 hv (fun st' ρ' Z' f' w' hr _ hk=>⟨st',ρ',Z',hr,hk⟩)
   cases dr with
   | false =>
    have:=W_region (id:=id) key
    rw [<- e] at this; exact this
   | true =>
    have hb2:drawOk l.toList=true:=by
     unfold quietR at hb
     simp only [Bool.not_true,Bool.false_or,Bool.and_eq_true] at hb
     exact hb.1
    have:=W_region_quiet (id:=id) hE.mixed hb2 key
    rw [<- e] at this; exact this
 | seq a b iha ihb =>
  intro C fx lkd st K ρ Z f w h hv
  simp only [vc] at hv
  split at hv
  . refine W_seq (W_mono (iha C fx lkd st _ ρ Z f w h hv) fun e f' w' q=>?_)
    obtain ⟨st',ρ',Z',hr,he⟩:=q
    cases e with
    | normal=>exact ihb C fx lkd st' K ρ' Z' f' w' hr he
    | ret=>exact ⟨st',ρ',Z',hr,he⟩
    | exit i=>exact ⟨st',ρ',Z',hr,he⟩
    | _=>exact he.elim
  . rename_i j hj
    split at hv
    . rename_i sl _
      refine W_seq (W_mono (iha C fx lkd st _ ρ Z f w h hv) fun e f' w' q=>?_)
      obtain ⟨st',ρ',Z',hr,he⟩:=q
      cases e with
      | normal =>
       have he:(match prop (slotOf fx st' sl) with
        | some ⟨p,_⟩=>(p->vc inl an b fx lkd ⟨(sl,.tt)::st'.slots,[],st'.items,st'.nx⟩ K)/\(¬ p->vc inl an b fx lkd ⟨(sl,.ff)::st'.slots,[],st'.items,st'.nx⟩ K)
        | none=>False):=he
       have hs:=hr.slot sl
       split at he
       . rename_i p d hp
         have hv:=hs.boolv hp
         have key:∀ s,Rep E.N E.T ρ' Z' w' (f' sl) s->Rel E C fx lkd ⟨(sl,s)::st'.slots,[],st'.items,st'.nx⟩ ρ' Z' f' w':=fun s hs'=>⟨fun k s2 hk=>by
          have hk:lk ((sl,s)::st'.slots) k=some s2:=hk
          rw [lk_cons] at hk
          by_cases e:sl=k
          . rw [if_pos e] at hk; cases hk; subst e; exact hs'
          . rw [if_neg e] at hk; exact hr.sl k s2 hk,hr.fx,fun k j b s e=>(by cases e),hr.mem,hr.tn,hr.g⟩
         by_cases hpp:p
         . exact ihb C fx lkd _ K ρ' Z' f' w' (key .tt (by rw [hv]; simp only [hpp,decide_true]; exact .tt)) (he.1 hpp)
         . exact ihb C fx lkd _ K ρ' Z' f' w' (key .ff (by rw [hv]; simp only [hpp,decide_false]; exact .ff)) (he.2 hpp)
       . exact he.elim
      | ret=>exact ⟨st',ρ',Z',hr,he⟩
      | exit i=>exact ⟨st',ρ',Z',hr,he⟩
      | _=>exact he.elim
    obtain ⟨J,hva,hvb⟩:=hv
    refine W_seq (W_mono (iha _ _ _ _ _ ρ Z f w (h.enter j.keep (idsOf E fx st j.vars)) hva) fun e f' w' q=>?_)
    cases e with
    | normal =>
     obtain ⟨st',ρ',Z',hr,he⟩:=q
     obtain ⟨new,ρ2,x,hx,hk,hr2⟩:=rbP_ok h hr he hvb
     exact ihb C fx lkd _ K ρ2 Z' f' w' (Rel.leave h hr2) (hk hx)
    | ret=>exact leaveQ h (by intro e; cases e) q
    | exit i=>exact leaveQ h (by intro e; cases e) q
    | _=>obtain ⟨_,_,_,_,he⟩:=q; exact he.elim
 | cond o a b iha ihb =>
  intro C fx lkd st K ρ Z f w h hv
  simp only [vc] at hv
  have hr:=h.ev AllG.nil o
  split at hv
  . rename_i e; rw [e] at hr
    exact W_cond_true (by generalize Wk.ev f o=u at hr; cases hr; rfl) (iha C fx lkd st K ρ Z f w h hv)
  . rename_i e; rw [e] at hr
    exact W_cond_false (by generalize Wk.ev f o=u at hr; cases hr; rfl) (ihb C fx lkd st K ρ Z f w h hv)
  . rename_i p d e; rw [e] at hr
    have e1:Wk.ev f o=.bool (@decide p d):=by generalize Wk.ev f o=u at hr; cases hr; rfl
    exact W_cond e1 (fun hp=>iha C fx lkd st K ρ Z f w h (hv.1 (of_decide_eq_true hp))) (fun hp=>ihb C fx lkd st K ρ Z f w h (hv.2 (of_decide_eq_false hp)))
  . exact hv.elim
 | block i c ih =>
  intro C fx lkd st K ρ Z f w h hv
  refine W_block (W_mono (ih C fx lkd st _ ρ Z f w h hv) fun e f' w' q=>?_)
  obtain ⟨st',ρ',Z',hr,he⟩:=q
  cases e with
  | normal=>exact ⟨st',ρ',Z',hr,he⟩
  | ret=>exact ⟨st',ρ',Z',hr,he⟩
  | exit j =>
   have he:(match (bif Nat.beq i j then some K.n else lk K.e j) with | some k=>k st' | none=>False):=he
   show (bif Nat.beq j i then QK E C fx lkd K .normal f' w' else QK E C fx lkd K (.exit j) f' w')
   have hc:Nat.beq i j=Nat.beq j i:=by
    by_cases e:i=j
    . rw [e]
    . rw [beq_ne e,beq_ne (Ne.symm e)]
   rw [hc] at he
   cases hb:Nat.beq j i with
   | true=>rw [hb] at he; exact ⟨st',ρ',Z',hr,he⟩
   | false=>rw [hb] at he; exact ⟨st',ρ',Z',hr,he⟩
  | _=>exact he.elim
 | loop c ih =>
  intro C fx lkd st K ρ Z f w h hv
  simp only [vc] at hv
  split at hv
  . exact hv.elim
  . rename_i a ha
    split at hv
    . rename_i n hk
      refine W_loopE (fun k f' w'=>∃ (st':E.St) (ρ':Env1) (Z':Nat->Prop),Rel E C fx lkd st' ρ' Z' f' w'/\vcU (fun st n'=>vc inl an c fx lkd st ⟨n',K.r,K.e⟩) k st') ⟨n,_,_,_,h.g0,hv⟩ ?_
      rintro k f' w' ⟨st',ρ',Z',hr,hu⟩
      cases k with
      | zero=>exact hu.elim
      | succ k =>
       refine W_mono (ih C fx lkd st' _ ρ' Z' f' w' hr hu) fun e f2 w2 q=>?_
       obtain ⟨st2,ρ2,Z2,hr2,he⟩:=q
       cases e with
       | normal=>exact ⟨k,Nat.lt_succ_self k,st2,ρ2,Z2,hr2,he⟩
       | ret=>exact ⟨st2,ρ2,Z2,hr2,he⟩
       | exit i=>exact ⟨st2,ρ2,Z2,hr2,he⟩
       | _=>exact he.elim
    . rename_i ss hk
      obtain ⟨P,h0,hb⟩:=exS_ok hv
      refine W_loopE (fun k f' w' => ∃ (new : E.St) (ρ2 : Env1) (Z2 : Nat -> Prop) (im : Prop × Nat), (im.1 -> vc inl an c (keepS fx st a.keep ++ fx) (without st.items (idsS E fx st ss) ++ lkd) new
            (backK (keepS fx st a.keep) (without st.items (idsS E fx st ss)) K (fun st'=>rbS E fx st (keepS fx st a.keep++fx) st' ss P (fun im'=>im'.1/\im'.2<im.2))))/\im.1/\im.2=k/\Rel E (C.at ρ Z w) (keepS fx st a.keep++fx) (without st.items (idsS E fx st ss)++lkd) new ρ2 Z2 f' w') ?_ ?_
      . obtain ⟨new,ρ2,im,h1,h2,h3⟩:=rbS_ok h (h.enter a.keep (idsS E fx st ss)) ss P h0 hb
        exact ⟨im.2,new,ρ2,Z,im,h2,h1,rfl,h3⟩
      . rintro k f' w' ⟨new,ρ2,Z2,im,hbody,hi,rfl,hr⟩
        refine W_mono (ih _ _ _ _ _ ρ2 Z2 f' w' hr (hbody hi)) fun e f2 w2 q=>?_
        cases e with
        | normal =>
         obtain ⟨st',ρ',Z',hr',he⟩:=q
         obtain ⟨new2,ρ3,im2,g1,g2,g3⟩:=rbS_ok h hr' ss P he hb
         exact ⟨im2.2,g1.2,new2,ρ3,Z',im2,g2,g1.1,rfl,g3⟩
        | ret=>exact leaveQ h (by intro e; cases e) q
        | exit i=>exact leaveQ h (by intro e; cases e) q
        | _=>obtain ⟨_,_,_,_,he⟩:=q; exact he.elim
    obtain ⟨I,m,h0,hb⟩:=hv
    refine W_loopE (fun k f' w' => ∃ (new : E.St) (ρ2 : Env1) (Z2 : Nat -> Prop) (im : Prop × Nat), (im.1 -> vc inl an c (keepS fx st a.keep ++ fx) (without st.items (idsOf E fx st a.vars) ++ lkd) new
          (backK (keepS fx st a.keep) (without st.items (idsOf E fx st a.vars)) K (fun st'=>rbP E fx st (keepS fx st a.keep++fx) st' a.vars (zipC a.vars I m) (fun im'=>im'.1/\im'.2<im.2))))/\im.1/\im.2=k/\Rel E (C.at ρ Z w) (keepS fx st a.keep++fx) (without st.items (idsOf E fx st a.vars)++lkd) new ρ2 Z2 f' w') ?_ ?_
    . obtain ⟨new,ρ2,im,h1,h2,h3⟩:=rbP_ok h (h.enter a.keep (idsOf E fx st a.vars)) h0 hb
      exact ⟨im.2,new,ρ2,Z,im,h2,h1,rfl,h3⟩
    . rintro k f' w' ⟨new,ρ2,Z2,im,hbody,hi,rfl,hr⟩
      refine W_mono (ih _ _ _ _ _ ρ2 Z2 f' w' hr (hbody hi)) fun e f2 w2 q=>?_
      cases e with
      | normal =>
       obtain ⟨st',ρ',Z',hr',he⟩:=q
       obtain ⟨new2,ρ3,im2,g1,g2,g3⟩:=rbP_ok h hr' he hb
       exact ⟨im2.2,g1.2,new2,ρ3,Z',im2,g2,g1.1,rfl,g3⟩
      | ret=>exact leaveQ h (by intro e; cases e) q
      | exit i=>exact leaveQ h (by intro e; cases e) q
      | _=>obtain ⟨_,_,_,_,he⟩:=q; exact he.elim
 | _=>intro C fx lkd st K ρ Z f w h hv; exact hv.elim
end
end Go.Rx
end
section
namespace Go.Rx
open Go Go.Wk Go.Wl
section
variable {E:Env} {C:Ctx} {w:World} {ρ:Env1} {Z:Nat->Prop} {its lkd:Items E.N} {nx:Nat} {inl:Inl E} {an:Ann} {fn:Func} {K:Nat} {args:List E.SV} {vs:List Value}
def Done (E:Env) (C:Ctx) (ρ:Env1) (Z:Nat->Prop) (w:World) (lkd:Items E.N) (k:E.SV->Items E.N->Nat->Prop) (v:Value) (w':World):Prop :=
 ∃ ρ' Z' s its' nx',Mem E C ρ' Z' w' (its'++lkd) nx'/\Tn ρ Z w ρ' Z' w'/\Rep E.N E.T ρ' Z' w' v s/\k s its' nx'
def getR (tmps:Array Value):ResultVar->Sem Value
 | .tmp t=>pure (tmps.getD t undef)
 | .cell a t=>do loadVar t (<- asAddr (tmps.getD a undef))
section
variable {P:Program} {tmps:Array Value} {v0 v1 v2:Value} {r0 r1 r2:ResultVar}
theorem results_0 (h:fn.results=#[]):(results fn tmps).run P w=.ok (.tuple #[]) w:=results_none h _ _ _
theorem results_1 (h:fn.results=#[r0]) (h0:(getR tmps r0).run P w=.ok v0 w):(results fn tmps).run P w=.ok v0 w:=by
 have e:results fn tmps=(do let vs <- fn.results.mapM (getR tmps); pure (if h:vs.size=1 then vs[0] else .tuple vs)):=rfl
 rw [e,h]
 simp only [List.mapM_toArray,List.mapM_cons,List.mapM_nil,Sem.run_bind,h0,Result.andThen_ok,Sem.run_pure,Sem.run_map]
 simp
theorem results_2 (h:fn.results=#[r0,r1]) (h0:(getR tmps r0).run P w=.ok v0 w) (h1:(getR tmps r1).run P w=.ok v1 w):(results fn tmps).run P w=.ok (.tuple #[v0,v1]) w:=by
 have e:results fn tmps=(do let vs <- fn.results.mapM (getR tmps); pure (if h:vs.size=1 then vs[0] else .tuple vs)):=rfl
 rw [e,h]
 simp only [List.mapM_toArray,List.mapM_cons,List.mapM_nil,Sem.run_bind,h0,h1,Result.andThen_ok,Sem.run_pure,Sem.run_map]
 simp
theorem results_3 (h:fn.results=#[r0,r1,r2]) (h0:(getR tmps r0).run P w=.ok v0 w) (h1:(getR tmps r1).run P w=.ok v1 w) (h2:(getR tmps r2).run P w=.ok v2 w):(results fn tmps).run P w=.ok (.tuple #[v0,v1,v2]) w:=by
 have e:results fn tmps=(do let vs <- fn.results.mapM (getR tmps); pure (if h:vs.size=1 then vs[0] else .tuple vs)):=rfl
 rw [e,h]
 simp only [List.mapM_toArray,List.mapM_cons,List.mapM_nil,Sem.run_bind,h0,h1,h2,Result.andThen_ok,Sem.run_pure,Sem.run_map]
 simp
theorem results_4 {r3:ResultVar} {v3:Value} (h:fn.results=#[r0,r1,r2,r3]) (h0:(getR tmps r0).run P w=.ok v0 w) (h1:(getR tmps r1).run P w=.ok v1 w) (h2:(getR tmps r2).run P w=.ok v2 w) (h3:(getR tmps r3).run P w=.ok v3 w):(results fn tmps).run P w=.ok (.tuple #[v0,v1,v2,v3]) w:=by
 have e:results fn tmps=(do let vs <- fn.results.mapM (getR tmps); pure (if h:vs.size=1 then vs[0] else .tuple vs)):=rfl
 rw [e,h]
 simp only [List.mapM_toArray,List.mapM_cons,List.mapM_nil,Sem.run_bind,h0,h1,h2,h3,Result.andThen_ok,Sem.run_pure,Sem.run_map]
 simp
end
def RunR (P:Program) (fn:Func) (n:Nat) (f:Fr) (w:World) (v:Value):Prop:=∀ a w1,Is a f n->Sim w w1->(results fn a.tmps).run P w1=.ok v w1
def RetV (P:Program) (fn:Func) (n:Nat) (R:Value->World->Prop):Exit->Fr->World->Prop
 | .ret,f,w=>∃ v,RunR P fn n f w v/\R v w
 | .normal,f,w=>∃ v,RunR P fn n f w v/\R v w
 | _,_,_=>False
theorem Call_V {P:Program} {c:Code} {n:Nat} {args:List Value} {R:Value->World->Prop} (hf:P.funcs[K]?=some fn) (hb:fn.body=some c) (hn:fn.ntmps=n) (hs:Nat.ble args.length n=true) (h:W P n c (RetV P fn n R) (nth args) w):CallR P K args w R :=
 Call_enter hf hb hn hs _ (fun e a w1 f w hf hv q=>by
  cases e with
  | ret=>obtain ⟨v,h1,h2⟩:=q; exact ⟨hf.defers,v,h1 a w1 hf hv,v,w,rfl,hv,h2⟩
  | normal=>obtain ⟨v,h1,h2⟩:=q; exact ⟨hf.defers,v,h1 a w1 hf hv,v,w,rfl,hv,h2⟩
  | _=>exact q.elim) h
theorem run_loadVar {P:Program} {T:TypeId} {b mm:Nat} {cs:List Value} (hA:∀ w,(isAgg T).run P w=.ok true w) (hz:∀ w,(sizeOf T).run P w=.ok mm w) (hl:cs.length=mm) (hc:Cells w b 0 cs):(loadVar T ⟨b,0,none⟩).run P w=.ok (.agg cs.toArray) w:=by
 have h:=loadCellsFrom_run (P:=P) hc cs.length 0 #[] (by omega)
 simp only [List.drop_zero,Array.empty_append] at h
 subst hl
 simp [loadVar,hA,hz,loadCells,h,go_sem]
theorem resS_ok {st:E.St} {f:Fr} {n:Nat} {fx:Slots E.N} {r:ResultVar} {s:E.SV} (h:Rel E C fx lkd st ρ Z f w) (e:resS st r=some s):∃ v,Rep E.N E.T ρ Z w v s/\∀ a w1,Is a f n->Sim w w1->(getR a.tmps r).run E.P w1=.ok v w1:=by
 cases r with
 | tmp t =>
  exact ⟨f t,h.sl t s e,fun a w1 hi hs=>by simp only [getR]; rw [hi.get]; rfl⟩
 | cell a0 T =>
  simp only [resS] at e
  split at e
  . rename_i id off hl
    split at e
    . rename_i Ty cells hi
      split at e
      . rename_i m hA hz
        have ⟨h1,h2⟩:=bif_some e
        simp only [Option.some.injEq] at h2; subst h2
        simp only [Bool.and_eq_true] at h1
        have e0:=Nat.eq_of_beq_eq_true h1.1
        have e1:=Nat.eq_of_beq_eq_true h1.2
        subst e0
        have hr:=h.sl a0 _ hl
        obtain ⟨j,hj,_⟩:=lk_mem hi
        obtain ⟨L,cs,hL,hbs,ho,hrep⟩:=h.mem.holds (its_get (l2:=lkd) hj)
        have hL:ρ id=some L:=hL
        have hp:f a0=.pointer (some ⟨L.b,0,none⟩):=by
         generalize f a0=u at hr
         cases hr with | ref hL'=>rw [hL] at hL'; cases hL'; rfl
        refine ⟨.agg cs.toArray,hrep,fun a w1 hi' hs=>?_⟩
        have hc:Cells w1 L.b 0 cs:=Cells.sim ho.all hs
        have:=run_loadVar (P:=E.P) (w:=w1) (mm:=m) (agg_run hA) (fun w=>run_size hz w) (by rw [hrep.len]; exact e1.symm) hc
        simp only [getR]
        rw [hi'.get,hp]
        rw [Sem.run_bind]
        simp only [asAddr,Sem.run_pure,Result.andThen_ok]
        exact this
      . cases e
    . cases e
  . cases e
theorem vcFun_ok (hE:EnvOK E) (hI:InlOK E inl) (hf:E.P.funcs[K]?=some fn) {k:E.SV->Items E.N->Nat->Prop} (hv:vcFun inl an fn args its lkd nx k) (hm:Mem E C ρ Z w (its++lkd) nx) (hg:E.G.is Z w) (ha:Rep E.N E.T ρ Z w (.tuple vs.toArray) (.tup args)):CallR E.P K vs w (Done E C ρ Z w lkd k):=by
 unfold vcFun at hv
 split at hv
 . rename_i c hc
   cases hb:Nat.ble args.length fn.ntmps with
   | false=>rw [hb] at hv; exact hv.elim
   | true =>
    rw [hb,cond_true] at hv
    have hle:Nat.ble vs.length fn.ntmps=true:=by rw [args_len ha]; exact hb
    have h0:Rel E (C.at ρ Z w) [] lkd ⟨number 0 args,[],its,nx⟩ ρ Z (nth vs) w:=⟨fun k s e=>args_sl (n:=0) ha k s (by simpa using e),fun p hp=>(by cases hp),fun k j b s e=>(by cases e),hm.down,Tn.refl _ _ _,hg⟩
    have hw:=vc_ok (an:=⟨fn.ntmps,an.loop,an.join⟩) hE hI c _ _ _ _ _ ρ Z (nth vs) w h0 hv
    refine Call_V hf hc rfl hle (W_mono hw fun e f' w' q=>?_)
    obtain ⟨st,ρ',Z',hr,he⟩:=q
    have fin:(match resV fn st with | some v=>k v st.items st.nx | none=>False)->∃ v,RunR E.P fn fn.ntmps f' w' v/\Done E C ρ Z w lkd k v w':=fun hk=>by
     split at hk
     . rename_i s hs
       have key:∃ v,Rep E.N E.T ρ' Z' w' v s/\RunR E.P fn fn.ntmps f' w' v:=by
        unfold resV at hs
        split at hs
        . rename_i e0
          cases hs
          exact ⟨_,.tup0,fun a w1 hi hs=>results_0 (by apply Array.ext'; simpa using e0)⟩
        . rename_i r e0
          obtain ⟨v,h1,h2⟩:=resS_ok (n:=fn.ntmps) hr hs
          exact ⟨v,h1,fun a w1 hi hs=>results_1 (by apply Array.ext'; simpa using e0) (h2 a w1 hi hs)⟩
        . rename_i r1 r2 e0
          split at hs
          . rename_i a b ha hb
            cases hs
            obtain ⟨v1,h1,g1⟩:=resS_ok (n:=fn.ntmps) hr ha
            obtain ⟨v2,h2,g2⟩:=resS_ok (n:=fn.ntmps) hr hb
            exact ⟨.tuple #[v1,v2],.tup1 (cs:=[v2]) h1 (.tup1 (cs:=[]) h2 .tup0),fun a w1 hi hs=>results_2 (by apply Array.ext'; simpa using e0) (g1 a w1 hi hs) (g2 a w1 hi hs)⟩
          . cases hs
        . rename_i r1 r2 r3 e0
          split at hs
          . rename_i a b c ha hb hc
            cases hs
            obtain ⟨v1,h1,g1⟩:=resS_ok (n:=fn.ntmps) hr ha
            obtain ⟨v2,h2,g2⟩:=resS_ok (n:=fn.ntmps) hr hb
            obtain ⟨v3,h3,g3⟩:=resS_ok (n:=fn.ntmps) hr hc
            exact ⟨.tuple #[v1,v2,v3],.tup1 (cs:=[v2,v3]) h1 (.tup1 (cs:=[v3]) h2 (.tup1 (cs:=[]) h3 .tup0)),fun a w1 hi hs=>results_3 (by apply Array.ext'; simpa using e0) (g1 a w1 hi hs) (g2 a w1 hi hs) (g3 a w1 hi hs)⟩
          . cases hs
        . rename_i r1 r2 r3 r4 e0
          split at hs
          . rename_i a b c d ha hb hc hd
            cases hs
            obtain ⟨v1,h1,g1⟩:=resS_ok (n:=fn.ntmps) hr ha
            obtain ⟨v2,h2,g2⟩:=resS_ok (n:=fn.ntmps) hr hb
            obtain ⟨v3,h3,g3⟩:=resS_ok (n:=fn.ntmps) hr hc
            obtain ⟨v4,h4,g4⟩:=resS_ok (n:=fn.ntmps) hr hd
            exact ⟨.tuple #[v1,v2,v3,v4],.tup1 (cs:=[v2,v3,v4]) h1 (.tup1 (cs:=[v3,v4]) h2 (.tup1 (cs:=[v4]) h3 (.tup1 (cs:=[]) h4 .tup0))),fun a w1 hi hs=>results_4 (by apply Array.ext'; simpa using e0) (g1 a w1 hi hs) (g2 a w1 hi hs) (g3 a w1 hi hs) (g4 a w1 hi hs)⟩
          . cases hs
        . cases hs
       obtain ⟨v,h1,h2⟩:=key
       exact ⟨v,h2,ρ',Z',s,st.items,st.nx,Mem.upC hm hr.mem,hr.tn,h1,hk⟩
     . exact hk.elim
    cases e with
    | normal=>exact fin he
    | ret=>exact fin he
    | exit i=>exact he.elim
    | _=>exact he.elim
 . exact hv.elim
def ctx0 (ρ:Env1) (Z:Nat->Prop) (w:World):Ctx:=⟨ρ,Z,w,[],w⟩
theorem mem0 {nx:Nat} (hfr:∀ i,nx<=i->ρ i=none) (hz:∀ b,Z b->b<w.heap.size):Mem E (ctx0 ρ Z w) ρ Z w [] nx :=
 ⟨Wl.Sep.nil hz,hfr,fun _ _ h=>h,fun _ h=>h,fun _ h=>.inl h⟩
theorem Done.pure {k:E.SV->Items E.N->Nat->Prop} {v:Value} {w':World} (h:Done E (ctx0 ρ Z w) ρ Z w [] k v w'):∃ ρ' Z' s its' nx',Ext [] w w'/\Mem E (ctx0 ρ Z w) ρ' Z' w' its' nx'/\Tn ρ Z w ρ' Z' w'/\Rep E.N E.T ρ' Z' w' v s/\k s its' nx':=by
 obtain ⟨ρ',Z',s,its',nx',hm,ht,hr,hk⟩:=h
 rw [List.append_nil] at hm
 exact ⟨ρ',Z',s,its',nx',hm.sep.ext,hm,ht,hr,hk⟩
end
end Go.Rx
end
section
namespace Go.Rx
open Go Go.Wk Go.Wl
section
variable {E:Env} {C:Ctx} {w:World} {ρ:Env1} {Z:Nat->Prop} {its:Items E.N} {nx:Nat} {inl:Inl E} {an:Ann} {fn:Func} {K:Nat} {args:List E.SV} {vs:List Value}
def itsOf (E:Env):(k:VK)->k.den E.N->List (Item E.N)
 | .acc t,x=>[.ac t x]
 | _,_=>[]
def rvOf (E:Env) (nx:Nat) (k:VK) (x:k.den E.N):E.SV:=(fl1 E nx k x).1
theorem fl1_its (k:VK) (x:k.den E.N):(fl1 E nx k x).2.1=number nx (itsOf E k x)/\(fl1 E nx k x).2.2=nx+(itsOf E k x).length:=by cases k <;> exact ⟨rfl,rfl⟩
def bare (E:Env):(k:VK)->k.den E.N->Prop
 | .int _,_=>True
 | .byte,_=>True
 | .bool,_=>True
 | .str,_=>True
 | .err,e=>e=.nil ∨ ∃ n,e=.no n
 | _,_=>False
theorem bare_rep {k:VK} {x:k.den E.N} {v:Value} (hb:bare E k x) (h:Rep E.N E.T ρ Z w v (rvOf E nx k x)):Rep E.N E.T (fun _=>none) (fun _=>False) w v (rvOf E nx k x):=by
 cases k with
 | int k=>cases h with | int h=>exact .int h
 | byte=>cases h; exact .byte
 | bool=>change Rep E.N E.T ρ Z w v (blB x) at h; cases h; exact .bl
 | str=>cases h with | str h=>exact .str h
 | err =>
  cases h with
  | err h =>
   rcases hb with rfl | ⟨n,rfl⟩
   . cases h; exact .err .nil
   . cases h with | no h=>exact .err (.no h)
 | _=>exact hb.elim
theorem resP1 {k:VK} {x:k.den E.N} {s:E.SV} {i:Nat} (h:resP E [k] (fun y=>y=x) s its i):rb1 E its k s=some x:=by
 unfold resP parts at h
 simp only [rbCells] at h
 cases hy:rb1 E its k s with
 | none=>rw [hy] at h; exact h.elim
 | some y=>rw [hy] at h; have h:y=x:=h; rw [h]
theorem resP2 {k1 k2:VK} {x1:k1.den E.N} {x2:k2.den E.N} {s:E.SV} {i:Nat} (h:resP E [k1,k2] (fun y z=>y=x1/\z=x2) s its i):∃ s1 s2,s=.tup [s1,s2]/\rb1 E its k1 s1=some x1/\rb1 E its k2 s2=some x2:=by
 have one:∀ u:E.SV,(match rbCells E its [k1,k2] [u] (fun y z=>y=x1/\z=x2) with | some p=>p | none=>False)->False:=fun u h=>by
  simp only [rbCells] at h
  cases hy:rb1 E its k1 u with
  | none=>rw [hy] at h; exact h
  | some y=>rw [hy] at h; exact h
 unfold resP at h
 cases s with
 | tup vs =>
  match vs,h with
  | [],h=>exact h.elim
  | [u],h=>exact (one u h).elim
  | [s1,s2],h =>
   simp only [parts,rbCells] at h
   cases hy:rb1 E its k1 s1 with
   | none=>rw [hy] at h; exact h.elim
   | some y =>
    rw [hy] at h
    cases hz:rb1 E its k2 s2 with
    | none=>simp only [hz] at h
    | some z=>simp only [hz] at h; exact ⟨s1,s2,rfl,by rw [hy,h.1],by rw [hz,h.2]⟩
  | s1::s2::s3::r,h =>
   simp only [parts,rbCells] at h
   cases hy:rb1 E its k1 s1 with
   | none=>rw [hy] at h; exact h.elim
   | some y =>
    rw [hy] at h
    cases hz:rb1 E its k2 s2 with
    | none=>simp only [hz] at h
    | some z=>simp only [hz] at h
 | _=>exact (one _ h).elim
theorem resP3 {k1 k2 k3:VK} {x1:k1.den E.N} {x2:k2.den E.N} {x3:k3.den E.N} {s:E.SV} {i:Nat} (h:resP E [k1,k2,k3] (fun y z u=>y=x1/\z=x2/\u=x3) s its i):∃ s1 s2 s3,s=.tup [s1,s2,s3]/\rb1 E its k1 s1=some x1/\rb1 E its k2 s2=some x2/\rb1 E its k3 s3=some x3:=by
 have one:∀ u:E.SV,(match rbCells E its [k1,k2,k3] [u] (fun y z u=>y=x1/\z=x2/\u=x3) with | some p=>p | none=>False)->False:=fun u h=>by
  simp only [rbCells] at h
  cases hy:rb1 E its k1 u with
  | none=>rw [hy] at h; exact h
  | some y=>rw [hy] at h; exact h
 unfold resP at h
 cases s with
 | tup vs =>
  match vs,h with
  | [],h=>exact h.elim
  | [u],h=>exact (one u h).elim
  | [s1,s2],h =>
   simp only [parts,rbCells] at h
   cases hy:rb1 E its k1 s1 with
   | none=>rw [hy] at h; exact h.elim
   | some y =>
    rw [hy] at h
    cases hz:rb1 E its k2 s2 with
    | none=>simp only [hz] at h
    | some z=>simp only [hz] at h
  | [s1,s2,s3],h =>
   simp only [parts,rbCells] at h
   cases hy:rb1 E its k1 s1 with
   | none=>rw [hy] at h; exact h.elim
   | some y =>
    rw [hy] at h
    cases hz:rb1 E its k2 s2 with
    | none=>simp only [hz] at h
    | some z =>
     simp only [hz] at h
     cases hu:rb1 E its k3 s3 with
     | none=>simp only [hu] at h
     | some u=>simp only [hu] at h; exact ⟨s1,s2,s3,rfl,by rw [hy,h.1],by rw [hz,h.2.1],by rw [hu,h.2.2]⟩
  | s1::s2::s3::s4::r,h =>
   simp only [parts,rbCells] at h
   cases hy:rb1 E its k1 s1 with
   | none=>rw [hy] at h; exact h.elim
   | some y =>
    rw [hy] at h
    cases hz:rb1 E its k2 s2 with
    | none=>simp only [hz] at h
    | some z =>
     simp only [hz] at h
     cases hu:rb1 E its k3 s3 with
     | none=>simp only [hu] at h
     | some u=>simp only [hu] at h
 | _=>exact (one _ h).elim
theorem lend1 (hE:EnvOK E) (hI:InlOK E inl) (hf:E.P.funcs[K]?=some fn) {k:VK} {x:k.den E.N} {ob:List Prop} (hb:bare E k x) (hv:vcFun inl an fn args [] [] 0 (resP E [k] (fun y=>y=x))) (n:Nat):LendOK E K args ⟨ob,[],rvOf E n k x,[]⟩:=fun D w vs hD hg ha =>
 (vcFun_ok (C:=ctx0 (fun _=>none) D w) hE hI hf hv (mem0 (nx:=0) (fun _ _=>rfl) hD) hg ha).mono fun v w' h=>by
  obtain ⟨ρ',Z',s,its',nx',hx,hm,ht,hr,hk⟩:=h.pure
  obtain ⟨ρ3,os',_,_,_,hr3,_⟩:=rb1_ok (lkd:=[]) (n2:=n) (ρ2:=fun _=>none) (os:=[]) (new:=[]) (by simpa using hm) hr (resP1 hk) (fun _ _=>rfl) .nil
  exact ⟨hx,bare_rep hb hr3,trivial⟩
theorem tup2_inv {v:Value} {s1 s2:E.SV} (h:Rep E.N E.T ρ Z w v (.tup [s1,s2])):∃ v1 v2,v=.tuple #[v1,v2]/\Rep E.N E.T ρ Z w v1 s1/\Rep E.N E.T ρ Z w v2 s2:=by
 obtain ⟨cs,rfl⟩:=Rep.tup_inv h
 obtain ⟨v1,r,rfl,h1,h⟩:=Rep.tup_cons h
 obtain ⟨v2,r,rfl,h2,h⟩:=Rep.tup_cons h
 have:r=[]:=by
  generalize e:Value.tuple r.toArray=u at h
  cases h with | tup0=>simpa using e
 subst this
 exact ⟨v1,v2,rfl,h1,h2⟩
theorem tup3_inv {v:Value} {s1 s2 s3:E.SV} (h:Rep E.N E.T ρ Z w v (.tup [s1,s2,s3])):∃ v1 v2 v3,v=.tuple #[v1,v2,v3]/\Rep E.N E.T ρ Z w v1 s1/\Rep E.N E.T ρ Z w v2 s2/\Rep E.N E.T ρ Z w v3 s3:=by
 obtain ⟨cs,rfl⟩:=Rep.tup_inv h
 obtain ⟨v1,r,rfl,h1,h⟩:=Rep.tup_cons h
 obtain ⟨v2,r,rfl,h2,h⟩:=Rep.tup_cons h
 obtain ⟨v3,r,rfl,h3,h⟩:=Rep.tup_cons h
 have:r=[]:=by
  generalize e:Value.tuple r.toArray=u at h
  cases h with | tup0=>simpa using e
 subst this
 exact ⟨v1,v2,v3,rfl,h1,h2,h3⟩
theorem tup2 {v1 v2:Value} {s1 s2:E.SV} (h1:Rep E.N E.T ρ Z w v1 s1) (h2:Rep E.N E.T ρ Z w v2 s2):Rep E.N E.T ρ Z w (.tuple #[v1,v2]) (.tup [s1,s2]):=.tup1 (cs:=[v2]) h1 (.tup1 (cs:=[]) h2 .tup0)
theorem tup3 {v1 v2 v3:Value} {s1 s2 s3:E.SV} (h1:Rep E.N E.T ρ Z w v1 s1) (h2:Rep E.N E.T ρ Z w v2 s2) (h3:Rep E.N E.T ρ Z w v3 s3):Rep E.N E.T ρ Z w (.tuple #[v1,v2,v3]) (.tup [s1,s2,s3]):=.tup1 (cs:=[v2,v3]) h1 (tup2 h2 h3)
theorem lend2 (hE:EnvOK E) (hI:InlOK E inl) (hf:E.P.funcs[K]?=some fn) {k1 k2:VK} {x1:k1.den E.N} {x2:k2.den E.N} {ob:List Prop} (hb1:bare E k1 x1) (hb2:bare E k2 x2) (hv:vcFun inl an fn args [] [] 0 (resP E [k1,k2] (fun y z=>y=x1/\z=x2))) (n:Nat):LendOK E K args ⟨ob,[],.tup [rvOf E n k1 x1,rvOf E n k2 x2],[]⟩:=fun D w vs hD hg ha =>
 (vcFun_ok (C:=ctx0 (fun _=>none) D w) hE hI hf hv (mem0 (nx:=0) (fun _ _=>rfl) hD) hg ha).mono fun v w' h=>by
  obtain ⟨ρ',Z',s,its',nx',hx,hm,ht,hr,hk⟩:=h.pure
  obtain ⟨s1,s2,rfl,e1,e2⟩:=resP2 hk
  obtain ⟨v1,v2,rfl,h1,h2⟩:=tup2_inv hr
  obtain ⟨_,_,_,_,_,r1,_⟩:=rb1_ok (lkd:=[]) (n2:=n) (ρ2:=fun _=>none) (os:=[]) (new:=[]) (by simpa using hm) h1 e1 (fun _ _=>rfl) .nil
  obtain ⟨_,_,_,_,_,r2,_⟩:=rb1_ok (lkd:=[]) (n2:=n) (ρ2:=fun _=>none) (os:=[]) (new:=[]) (by simpa using hm) h2 e2 (fun _ _=>rfl) .nil
  exact ⟨hx,tup2 (bare_rep hb1 r1) (bare_rep hb2 r2),trivial⟩
theorem fl1_non {k:VK} {x:k.den E.N} (h:itsOf E k x=[]) (n:Nat):fl1 E n k x=(rvOf E nx k x,[],n):=by
 cases k with
 | acc t=>cases h
 | _=>rfl
theorem acc_nd {k:VK} {s:E.SV} {l:List Nat} (h:l=accId k s++List.filterMap id ([]:List (Option Nat))):l.Nodup:=by rw [h]; unfold accId; split <;> simp
theorem con_end {os:List (Option Nat)} {new:Items E.N} {n2:Nat} {ρ' ρ2:Env1} {Z':Nat->Prop} {w':World} {its':Items E.N} {nx':Nat} (hm:Mem E (ctx0 (fun _=>none) Z w) ρ' Z' w' its' nx') (ht:Tgts E [] ρ' Z' w' its' ρ2 os new) (hnd:(os.filterMap id).Nodup) (hfr:∀ i,n2<=i->ρ2 i=none) :
  Sep [] w Z' w' (toIts E.N E.T ρ2 [] new):=by
 have:=Mem.rebuild (lkd:=[]) (by simpa using hm) (fun _ h=>by cases h) ht hnd hfr (fun _ _ h=>by cases h)
 simpa [ctx0] using this.sep
theorem con1 (hE:EnvOK E) (hI:InlOK E inl) (hf:E.P.funcs[K]?=some fn) {k:VK} {x:k.den E.N} {ob:List Prop} (hp:args.all pureS=true) (hv:vcFun inl an fn args [] [] 0 (resP E [k] (fun y=>y=x))):ConOK E.P E.N E.T E.G K args nx ⟨ob,[],rvOf E nx k x,itsOf E k x⟩ :=
 ⟨fun ρ Z w vs hfr hz hg ha=>(vcFun_ok (C:=ctx0 (fun _=>none) Z w) hE hI hf hv (mem0 (fun _ _=>rfl) hz) hg (pureT_rep hp ha _)).mono fun v w' h=>by
  obtain ⟨ρ',Z',s,its',nx',hx,hm,ht,hr,hk⟩:=h.pure
  obtain ⟨ρ3,os,t1,f1,s1,r1,o1⟩:=rb1_ok (lkd:=[]) (n2:=nx) (ρ2:=ρ) (os:=[]) (new:=[]) (by simpa using hm) hr (resP1 hk) hfr .nil
  rw [(fl1_its k x).1,List.append_nil] at t1
  rw [(fl1_its k x).2] at f1
  refine ⟨ρ3,Z',s1,f1,hm.zge,fun b hb=>?_,r1,con_end hm t1 (acc_nd o1) f1,trivial⟩
  rcases hm.zle b hb with h | h | h
  . exact .inl h
  . cases h
  . exact .inr h⟩
theorem rb_more {os:List (Option Nat)} {new:Items E.N} {n2:Nat} {ρ' ρ2:Env1} {Z':Nat->Prop} {w':World} {its':Items E.N} {nx':Nat} {C:Ctx} {k:VK} {x:k.den E.N} {v:Value} {s:E.SV} (hm:Mem E C ρ' Z' w' its' nx') (hu:Rep E.N E.T ρ' Z' w' v s) (h:rb1 E its' k s=some x) (hn:itsOf E k x=[]) (hfr:∀ i,n2<=i->ρ2 i=none) (ht:Tgts E C.B0 ρ' Z' w' its' ρ2 os new) (hnd:(os.filterMap id).Nodup) :
  ∃ ρ3 os',Tgts E C.B0 ρ' Z' w' its' ρ3 os' new/\(∀ i,n2<=i->ρ3 i=none)/\(∀ i L,ρ2 i=some L->ρ3 i=some L)/\Rep E.N E.T ρ3 Z' w' v (rvOf E nx k x)/\(os'.filterMap id).Nodup:=by
 obtain ⟨ρ3,os',t,f,s1,r,o⟩:=rb1_ok (lkd:=[]) (by simpa using hm) hu h hfr ht
 rw [fl1_non (nx:=nx) hn n2] at t f r
 refine ⟨ρ3,os',by simpa using t,f,s1,r,?_⟩
 rw [o]
 cases k with
 | acc t=>cases hn
 | _=>exact hnd
theorem con2 (hE:EnvOK E) (hI:InlOK E inl) (hf:E.P.funcs[K]?=some fn) {k1 k2:VK} {x1:k1.den E.N} {x2:k2.den E.N} {ob:List Prop} (h2:itsOf E k2 x2=[]) (hp:args.all pureS=true) (hv:vcFun inl an fn args [] [] 0 (resP E [k1,k2] (fun y z=>y=x1/\z=x2))) :
  ConOK E.P E.N E.T E.G K args nx ⟨ob,[],.tup [rvOf E nx k1 x1,rvOf E nx k2 x2],itsOf E k1 x1⟩ :=
 ⟨fun ρ Z w vs hfr hz hg ha=>(vcFun_ok (C:=ctx0 (fun _=>none) Z w) hE hI hf hv (mem0 (fun _ _=>rfl) hz) hg (pureT_rep hp ha _)).mono fun v w' h=>by
  obtain ⟨ρ',Z',s,its',nx',hx,hm,ht,hr,hk⟩:=h.pure
  obtain ⟨s1,s2,rfl,e1,e2⟩:=resP2 hk
  obtain ⟨v1,v2,rfl,g1,g2⟩:=tup2_inv hr
  obtain ⟨ρ3,os,t1,f1,b1,r1,o1⟩:=rb1_ok (lkd:=[]) (n2:=nx) (ρ2:=ρ) (os:=[]) (new:=[]) (by simpa using hm) g1 e1 hfr .nil
  rw [(fl1_its k1 x1).1,List.append_nil] at t1
  rw [(fl1_its k1 x1).2] at f1
  obtain ⟨ρ4,os2,t2,f2,b2,r2,nd2⟩:=rb_more (nx:=nx) hm g2 e2 h2 f1 t1 (acc_nd o1)
  refine ⟨ρ4,Z',sub_trans b1 b2,f2,hm.zge,fun b hb=>?_,tup2 (Rep.sub r1 b2) r2,con_end hm t2 nd2 f2,trivial⟩
  rcases hm.zle b hb with h | h | h
  . exact .inl h
  . cases h
  . exact .inr h⟩
theorem con3 (hE:EnvOK E) (hI:InlOK E inl) (hf:E.P.funcs[K]?=some fn) {k1 k2 k3:VK} {x1:k1.den E.N} {x2:k2.den E.N} {x3:k3.den E.N} {ob:List Prop} (h2:itsOf E k2 x2=[]) (h3:itsOf E k3 x3=[]) (hp:args.all pureS=true) (hv:vcFun inl an fn args [] [] 0 (resP E [k1,k2,k3] (fun y z u=>y=x1/\z=x2/\u=x3))) :
  ConOK E.P E.N E.T E.G K args nx ⟨ob,[],.tup [rvOf E nx k1 x1,rvOf E nx k2 x2,rvOf E nx k3 x3],itsOf E k1 x1⟩ :=
 ⟨fun ρ Z w vs hfr hz hg ha=>(vcFun_ok (C:=ctx0 (fun _=>none) Z w) hE hI hf hv (mem0 (fun _ _=>rfl) hz) hg (pureT_rep hp ha _)).mono fun v w' h=>by
  obtain ⟨ρ',Z',s,its',nx',hx,hm,ht,hr,hk⟩:=h.pure
  obtain ⟨s1,s2,s3,rfl,e1,e2,e3⟩:=resP3 hk
  obtain ⟨v1,v2,v3,rfl,g1,g2,g3⟩:=tup3_inv hr
  obtain ⟨ρ3,os,t1,f1,b1,r1,o1⟩:=rb1_ok (lkd:=[]) (n2:=nx) (ρ2:=ρ) (os:=[]) (new:=[]) (by simpa using hm) g1 e1 hfr .nil
  rw [(fl1_its k1 x1).1,List.append_nil] at t1
  rw [(fl1_its k1 x1).2] at f1
  obtain ⟨ρ4,os2,t2,f2,b2,r2,nd2⟩:=rb_more (nx:=nx) hm g2 e2 h2 f1 t1 (acc_nd o1)
  obtain ⟨ρ5,os3,t3,f3,b3,r3,nd3⟩:=rb_more (nx:=nx) hm g3 e3 h3 f2 t2 nd2
  refine ⟨ρ5,Z',sub_trans (sub_trans b1 b2) b3,f3,hm.zge,fun b hb=>?_,tup3 (Rep.sub (Rep.sub r1 b2) b3) (Rep.sub r2 b3) r3,con_end hm t3 nd3 f3,trivial⟩
  rcases hm.zle b hb with h | h | h
  . exact .inl h
  . cases h
  . exact .inr h⟩
end
end Go.Rx
end
section
namespace Go.Rx
open Go Go.Wk Go.Wl
section
variable {N:Uni} {T:ErrT} {ρ:Env1} {Z:Nat->Prop} {w:World} {cs cs':List Value} {ls ls':List (SV N)}
theorem RepL.split (n:Nat) (h:RepL N T ρ Z w cs ls):RepL N T ρ Z w (cs.take n) (ls.take n)/\RepL N T ρ Z w (cs.drop n) (ls.drop n):=by
 induction n generalizing cs ls with
 | zero=>exact ⟨by simpa using RepL.nil,by simpa using h⟩
 | succ n ih =>
  cases ls with
  | nil=>obtain rfl:=RepL.nil_inv h; exact ⟨by simpa using RepL.nil,by simpa using RepL.nil⟩
  | cons s r =>
   obtain ⟨v,rr,rfl,h1,hp,h2⟩:=RepL.cons_inv h
   obtain ⟨a,b⟩:=ih h2
   exact ⟨RepL.cons h1 hp a,b⟩
def pb {α:Type} (f:SV N->Option α):List (SV N)->Option α
 | [s]=>f s
 | _=>none
def asLN (N:Uni) (t:Nat):SV N->Option (List (N.U t))
 | .nils=>some []
 | .sl t' l=>if h:t'=t then some (castL h l) else none
 | _=>none
theorem asLN_rd {t:Nat} {v:Value} {s:SV N} {l:List (N.U t)} (h:Rep N T ρ Z w v s) (e:asLN N t s=some l):(dSlice (N.tb t).r).rd Z w [v] l:=by
 cases h with
 | nils=>simp [asLN] at e; subst e; exact dSlice_nil
 | sl h =>
  simp only [asLN] at e
  split at e
  . rename_i ht; subst ht; simp [castL] at e; subst e; exact h
  . cases e
 | _=>simp [asLN] at e
theorem pb_inv {α:Type} {f:SV N->Option α} {x:α} {r:Rd α} (hr:∀ (v:Value) (s:SV N),Rep N T ρ Z w v s->f s=some x->r.rd Z w [v] x) (h:RepL N T ρ Z w cs ls) (e:pb f ls=some x):r.rd Z w cs x:=by
 unfold pb at e
 split at e
 . obtain ⟨v,rfl,h1,_⟩:=RepL.one_inv h; exact hr v _ h1 e
 . cases e
theorem pb_int {x:Int} (h:RepL N T ρ Z w cs ls) (e:pb asI64 ls=some x):dInt.rd Z w cs x:=pb_inv (fun v s h e=>by have ⟨a,b⟩:=asI64_rd h e; rw [a]; exact ⟨rfl,b⟩) h e
theorem pb_str {x:Str} (h:RepL N T ρ Z w cs ls) (e:pb asS ls=some x):dStr.rd Z w cs x:=pb_inv (r:=dStr) (fun v s h e=>by have ⟨a,b⟩:=asS_rd h e; rw [a]; exact ⟨rfl,b⟩) h e
theorem pb_sl {t:Nat} {x:List (N.U t)} (h:RepL N T ρ Z w cs ls) (e:pb (asLN N t) ls=some x):(dSlice (N.tb t).r).rd Z w cs x:=pb_inv (r:=dSlice (N.tb t).r) (fun v s h e=>asLN_rd h e) h e
theorem sv_sl {t:Nat} {x:List (N.U t)} (h:(dSlice (N.tb t).r).rd Z w cs x):RepL N T ρ Z w cs [.sl t x]:=by
 have hl:=Rd.len _ h
 have hp:=Rd.plain _ h
 match cs,hl with
 | [v],_ =>
  simp only [List.all_cons,List.all_nil,Bool.and_true] at hp
  exact RepL.one (.sl h) hp
end
end Go.Rx
end
section
namespace Go.Rx
open Go Go.Wk Go.Wl
def addF {α:Type} (K:Nat) (x:α) (f:Nat->Option α):Nat->Option α:=fun k=>bif Nat.beq k K then some x else f k
def Env.addL (E:Env) (K:Nat) (C:List E.SV->Option (Q1 E.N)):Env:=⟨E.P,E.N,E.T,E.ty,E.zob,addF K (fun a _=>(C a).map fun q=>⟨q.ob,q.hy,q.v,[]⟩) E.con,fun k=>bif Nat.beq k K then true else E.lend k,E.obc,E.inl,E.G,E.wrc,E.rws,E.fnc,E.roc⟩
def Env.addC (E:Env) (K:Nat) (C:List E.SV->Nat->Option (CR E.N)):Env:=⟨E.P,E.N,E.T,E.ty,E.zob,addF K C E.con,fun k=>bif Nat.beq k K then false else E.lend k,E.obc,E.inl,E.G,E.wrc,E.rws,E.fnc,E.roc⟩
def Env.addI (E:Env) (K:Nat) (fn:Func):Env:=⟨E.P,E.N,E.T,E.ty,E.zob,E.con,E.lend,E.obc,addF K fn E.inl,E.G,E.wrc,E.rws,E.fnc,E.roc⟩
def Env.addX (E:Env) (K:Nat) (o:FC E.N):Env:=⟨E.P,E.N,E.T,E.ty,E.zob,E.con,E.lend,E.obc,E.inl,E.G,E.wrc,E.rws,addF K o E.fnc,E.roc⟩
def Env.addR (E:Env) (K:Nat) (C:List E.SV->Items E.N->Option (Q1 E.N)):Env:=⟨E.P,E.N,E.T,E.ty,E.zob,E.con,E.lend,E.obc,E.inl,E.G,E.wrc,E.rws,E.fnc,addF K C E.roc⟩
section
variable {E:Env} {K:Nat}
abbrev CallOK (P:Program) (K:Nat):Prop:=∀ xs w,(callFunc K xs).run P w=.ok (.enter K xs) w
theorem addF_inv {α:Type} {x y:α} {f:Nat->Option α} {k:Nat} (h:addF K x f k=some y):(k=K/\y=x) ∨ f k=some y:=by
 unfold addF at h
 cases hb:Nat.beq k K with
 | true=>rw [hb,cond_true] at h; cases h; exact .inl ⟨Nat.eq_of_beq_eq_true hb,rfl⟩
 | false=>rw [hb,cond_false] at h; exact .inr h
theorem addF_some {α:Type} {x:α} {f:Nat->Option α} {k:Nat} (h:(addF K x f k).isSome=true):k=K ∨ (f k).isSome=true:=by
 obtain ⟨y,hy⟩:=Option.isSome_iff_exists.1 h
 rcases addF_inv hy with ⟨e,_⟩ | e
 . exact .inl e
 . exact .inr (by rw [e]; rfl)
theorem LendOK.con {args:List E.SV} {c:CR E.N} {nx:Nat} (h:LendOK E K args c) (hi:c.its=[]) (hp:args.all pureS=true):ConOK E.P E.N E.T E.G K args nx c :=
 ⟨fun ρ Z w vs hfr hz hg ha=>(h Z w vs hz hg (pureT_rep hp ha _)).mono fun v w' ⟨x,r,hy⟩=>⟨ρ,Z,fun _ _ h=>h,by rw [hi]; exact hfr,fun _ h=>h,fun _ h=>.inl h,Rep.bare r,by
  rw [hi]
  exact ⟨x,fun b hb=>by have:=hz b hb; have:=x.size; omega,fun k t h=>by simp [toIts,number] at h,fun j k s t h=>by simp [toIts,number] at h⟩,hy⟩⟩
theorem EnvOK.addL (h:EnvOK E) {C:List E.SV->Option (Q1 E.N)} (hc:CallOK E.P K) (ok:∀ args q,C args=some q->allP q.ob->LendOK E K args ⟨q.ob,q.hy,q.v,[]⟩):EnvOK (E.addL K C):=by
 refine ⟨h.mixed,h.zob,fun k hk=>?_,h.inl,fun k f args nx c hf hr hp ho=>?_,fun k f args nx c hf hl hr hi ho=>?_,h.obc,h.wrc,h.callf,h.fnc,h.callr,h.roc⟩
 . by_cases e:k=K
   . subst e; exact hc
   . refine h.call k ?_
     simp only [Bool.or_eq_true] at hk ⊢
     rcases hk with ((hk | hk) | hk) | hk
     . rcases addF_some hk with e' | e'
       . exact absurd e' e
       . exact .inl (.inl (.inl e'))
     . exact .inl (.inl (.inr hk))
     . exact .inl (.inr hk)
     . exact .inr hk
 . rcases addF_inv hf with ⟨e1,e2⟩ | hf
   . rw [e2] at hr
     obtain ⟨q,hq,e3⟩:=Option.map_eq_some_iff.1 hr
     subst e3
     rw [e1]
     exact (ok args q hq ho).con rfl hp
   . exact h.con k f args nx c hf hr hp ho
 . rcases addF_inv hf with ⟨e1,e2⟩ | hf'
   . rw [e2] at hr
     obtain ⟨q,hq,e3⟩:=Option.map_eq_some_iff.1 hr
     subst e3
     rw [e1]
     exact ok args q hq ho
   . by_cases e:k=K
     . have hf:addF K (fun a _=>(C a).map fun q=>(⟨q.ob,q.hy,q.v,[]⟩:CR E.N)) E.con k=some f:=hf
       unfold addF at hf
       rw [e,Nat.beq_refl,cond_true] at hf
       have e2:=Option.some.inj hf
       rw [<- e2] at hr
       obtain ⟨q,hq,e3⟩:=Option.map_eq_some_iff.1 hr
       subst e3
       rw [e]
       exact ok args q hq ho
     . refine h.lend k f args nx c hf' ?_ hr hi ho
       have hl:(bif Nat.beq k K then true else E.lend k)=true:=hl
       rw [beq_ne e,cond_false] at hl; exact hl
theorem EnvOK.addC (h:EnvOK E) {C:List E.SV->Nat->Option (CR E.N)} (hc:CallOK E.P K) (ok:∀ args nx c,C args nx=some c->args.all pureS=true->allP c.ob->ConOK E.P E.N E.T E.G K args nx c):EnvOK (E.addC K C):=by
 refine ⟨h.mixed,h.zob,fun k hk=>?_,h.inl,fun k f args nx c hf hr hp ho=>?_,fun k f args nx c hf hl hr hi ho=>?_,h.obc,h.wrc,h.callf,h.fnc,h.callr,h.roc⟩
 . by_cases e:k=K
   . subst e; exact hc
   . refine h.call k ?_
     simp only [Bool.or_eq_true] at hk ⊢
     rcases hk with ((hk | hk) | hk) | hk
     . rcases addF_some hk with e' | e'
       . exact absurd e' e
       . exact .inl (.inl (.inl e'))
     . exact .inl (.inl (.inr hk))
     . exact .inl (.inr hk)
     . exact .inr hk
 . rcases addF_inv hf with ⟨e1,e2⟩ | hf
   . rw [e2] at hr
     rw [e1]; exact ok args nx c hr hp ho
   . exact h.con k f args nx c hf hr hp ho
 . have hl:(bif Nat.beq k K then false else E.lend k)=true:=hl
   have e:k≠K:=fun e=>by subst e; rw [Nat.beq_refl,cond_true] at hl; cases hl
   rw [beq_ne e,cond_false] at hl
   rcases addF_inv hf with ⟨e',_⟩ | hf'
   . exact absurd e' e
   . exact h.lend k f args nx c hf' hl hr hi ho
theorem EnvOK.addI (h:EnvOK E) {fn:Func} (hc:CallOK E.P K) (hf:E.P.funcs[K]?=some fn):EnvOK (E.addI K fn):=by
 refine ⟨h.mixed,h.zob,fun k hk=>?_,fun k g hg=>?_,h.con,h.lend,h.obc,h.wrc,h.callf,h.fnc,h.callr,h.roc⟩
 . by_cases e:k=K
   . subst e; exact hc
   . refine h.call k ?_
     simp only [Bool.or_eq_true] at hk ⊢
     rcases hk with ((hk | hk) | hk) | hk
     . exact .inl (.inl (.inl hk))
     . exact .inl (.inl (.inr hk))
     . rcases addF_some hk with e' | e'
       . exact absurd e' e
       . exact .inl (.inr e')
     . exact .inr hk
 . rcases addF_inv hg with ⟨rfl,rfl⟩ | hg
   . exact hf
   . exact h.inl k g hg
theorem EnvOK.addX (h:EnvOK E) {o:FC E.N} (hc:CallOK E.P K) (ok:∀ args its r,o.C args its=some r->allP r.ob->GenOK E.P E.N E.T E.G K args its (2 * its.length) (fun k=>allP r.hy->k r.v r.its r.n)):EnvOK (E.addX K o):=by
 refine ⟨h.mixed,h.zob,h.call,h.inl,h.con,h.lend,h.obc,h.wrc,fun k hk=>?_,fun k o' args its r ho hr hob=>?_,h.callr,h.roc⟩
 . rcases addF_some hk with e | e
   . subst e; exact hc
   . exact h.callf k e
 . rcases addF_inv ho with ⟨e1,e2⟩ | ho
   . cases e2
     rw [e1]; exact ok args its r hr hob
   . exact h.fnc k o' args its r ho hr hob
theorem EnvOK.addR (h:EnvOK E) {C:List E.SV->Items E.N->Option (Q1 E.N)} (hc:CallOK E.P K) (ok:∀ args its q,C args its=some q->allP q.ob->RocOK E.P E.N E.T K args its q):EnvOK (E.addR K C):=by
 refine ⟨h.mixed,h.zob,h.call,h.inl,h.con,h.lend,h.obc,h.wrc,h.callf,h.fnc,fun k hk=>?_,fun k C' args its q ho hr hob=>?_⟩
 . rcases addF_some hk with e | e
   . subst e; exact hc
   . exact h.callr k e
 . rcases addF_inv ho with ⟨e1,e2⟩ | ho
   . cases e2
     rw [e1]; exact ok args its q hr hob
   . exact h.roc k C' args its q ho hr hob
end
end Go.Rx
end
section
namespace Go.Rx
open Go Go.Wk Go.Wl
def Err.num:Err->Option Int
 | .nil=>none
 | .no n=>some n
 | .fault _ n=>some n
 | .w _ _ e=>e.num
 | .p _ _ n=>some n
def Err.is (e:Err) (n:Int):Prop:=e.num=some n
instance (e:Err) (n:Int):Decidable (e.is n):=by unfold Err.is; infer_instance
def Err.nr (e:Err):Int:=match e with
 | .nil=>0
 | e=>match e.num with | some n=>if 1<=n/\n<=16 then n else -1 | none=>-1
def Err.at_:Err->Int
 | .fault a _=>a
 | .w _ _ e=>e.at_
 | _=>0
section
open Go.Lib
variable {P:Program} (w:World)
end
end Go.Rx
end
section
namespace Go.Rx
open Go Go.Wk Go.Wl
def Vals (N:Uni):List VK->Type
 | []=>Unit
 | k::r=>k.den N×Vals N r
section
variable {E:Env} {C:Ctx} {w w':World} {ρ ρ':Env1} {Z Z':Nat->Prop} {its lkd:Items E.N} {nx:Nat} {inl:Inl E}
def tell (E:Env):(ks:List VK)->Vals E.N ks->List E.SV
 | [],_=>[]
 | k::r,X=>rvOf E 0 k X.1::tell E r X.2
theorem cjl_app:∀ {ps qs:List Prop},cjl (ps++qs)->cjl ps/\cjl qs
 | [],_,h=>⟨trivial,h⟩
 | [p],[],h=>⟨h,trivial⟩
 | [p],q::r,h=>⟨h.1,h.2⟩
 | p::q::r,qs,h=>by
  have:=cjl_app (ps:=q::r) h.2
  exact ⟨⟨h.1,this.1⟩,this.2⟩
theorem LendOK.conv {K:Nat} {args args':List E.SV} {c:CR E.N} (h:LendOK E K args' c) (ha:∀ (D:Nat->Prop) (w:World) (vs:List Value),Rep E.N E.T (fun _=>none) D w (.tuple vs.toArray) (.tup args)->Rep E.N E.T (fun _=>none) D w (.tuple vs.toArray) (.tup args')):LendOK E K args c :=
 fun D w vs hD hg hr=>h D w vs hD hg (ha D w vs hr)
def boolOf {N:Uni}:SV N->Option Bool
 | .tt=>some true
 | .ff=>some false
 | .bl p d=>some (@decide p d)
 | _=>none
theorem boolOf_rep {s:E.SV} {b:Bool} {v:Value} (h:boolOf s=some b) (r:Rep E.N E.T ρ Z w v s):Rep E.N E.T ρ Z w v (blB b):=by
 have hb:∀ y:Bool,Value.bool y=.bool (@decide (y=true) inferInstance):=fun y=>by cases y <;> rfl
 cases r with
 | tt=>cases h; rw [hb true]; exact .bl
 | ff=>cases h; rw [hb false]; exact .bl
 | @bl p d=>cases h; rw [hb (@decide p d)]; exact .bl
 | _=>cases h
end
end Go.Rx
end
section
namespace Go.Proofs
open Go.Shelf
def Try.lays189_ren:Go.Shelf.Ren:=⟨fun | 189=>61 | 125=>63 | 257=>62 | 128=>73 | 129=>74 | 294=>64 | 295=>65 | 296=>66 | 297=>67 | 298=>68 | 299=>69 | 216=>70 | 300=>71 | 301=>72 | 328=>75 | 329=>76 | 330=>77 | 331=>78 | 332=>79 | 215=>80 | 343=>81 | n=>n,fun | 28=>22 | 3=>3 | 46=>101 | 0=>0 | 51=>82 | 53=>131 | 4=>4 | 183=>122 | 182=>121 | 131=>127 | 5=>5 | 9=>9 | 218=>132 | 222=>136 | 228=>139 | 229=>140 | n=>n,fun | n=>n⟩
theorem Try.lays189:Go.Proofs.Lays.n189 Try.prog Try.lays189_ren:={
 mixed:=by kernel_rfl
 f125:=Try.func63.trans (congrArg some (by kernel_rfl))
 f128:=Try.func73.trans (congrArg some (by kernel_rfl))
 f129:=Try.func74.trans (congrArg some (by kernel_rfl))
 f189:=Try.func61.trans (congrArg some (by kernel_rfl))
 f215:=Try.func80.trans (congrArg some (by kernel_rfl))
 f216:=Try.func70.trans (congrArg some (by kernel_rfl))
 f257:=Try.func62.trans (congrArg some (by kernel_rfl))
 f294:=Try.func64.trans (congrArg some (by kernel_rfl))
 f295:=Try.func65.trans (congrArg some (by kernel_rfl))
 f296:=Try.func66.trans (congrArg some (by kernel_rfl))
 f297:=Try.func67.trans (congrArg some (by kernel_rfl))
 f298:=Try.func68.trans (congrArg some (by kernel_rfl))
 f299:=Try.func69.trans (congrArg some (by kernel_rfl))
 f300:=Try.func71.trans (congrArg some (by kernel_rfl))
 f301:=Try.func72.trans (congrArg some (by kernel_rfl))
 f328:=Try.func75.trans (congrArg some (by kernel_rfl))
 f329:=Try.func76.trans (congrArg some (by kernel_rfl))
 f330:=Try.func77.trans (congrArg some (by kernel_rfl))
 f331:=Try.func78.trans (congrArg some (by kernel_rfl))
 f332:=Try.func79.trans (congrArg some (by kernel_rfl))
 f343:=Try.func81.trans (congrArg some (by kernel_rfl))
 t0:=Try.underlying0
 a0:=Try.isAgg0
 z0:=Try.sizeOf0
 v0:=Try.zeroValue0
 t3:=Try.underlying3
 a3:=Try.isAgg3
 z3:=Try.sizeOf3
 v3:=Try.zeroValue3
 t4:=Try.underlying4
 a4:=Try.isAgg4
 z4:=Try.sizeOf4
 v4:=Try.zeroValue4
 t5:=Try.underlying5
 a5:=Try.isAgg5
 z5:=Try.sizeOf5
 v5:=Try.zeroValue5
 t9:=Try.underlying9
 a9:=Try.isAgg9
 z9:=Try.sizeOf9
 v9:=Try.zeroValue9
 t28:=Try.underlying22
 a28:=Try.isAgg22
 z28:=Try.sizeOf22
 v28:=Try.zeroValue22
 t46:=Try.underlying101
 a46:=Try.isAgg101
 z46:=Try.sizeOf101
 v46:=Try.zeroValue101
 t51:=Try.underlying82
 a51:=Try.isAgg82
 z51:=Try.sizeOf82
 v51:=Try.zeroValue82
 t53:=Try.underlying131
 a53:=Try.isAgg131
 z53:=Try.sizeOf131
 v53:=Try.zeroValue131
 t131:=Try.underlying127
 a131:=Try.isAgg127
 z131:=Try.sizeOf127
 v131:=Try.zeroValue127
 t182:=Try.underlying121
 a182:=Try.isAgg121
 z182:=Try.sizeOf121
 v182:=Try.zeroValue121
 t183:=Try.underlying122
 a183:=Try.isAgg122
 z183:=Try.sizeOf122
 v183:=Try.zeroValue122
 t218:=Try.underlying132
 a218:=Try.isAgg132
 z218:=Try.sizeOf132
 v218:=Try.zeroValue132
 t222:=Try.underlying136
 a222:=Try.isAgg136
 z222:=Try.sizeOf136
 v222:=Try.zeroValue136
 t228:=Try.underlying139
 a228:=Try.isAgg139
 z228:=Try.sizeOf139
 v228:=Try.zeroValue139
 t229:=Try.underlying140
 a229:=Try.isAgg140
 z229:=Try.sizeOf140
 v229:=Try.zeroValue140 }
open Go.Sort Go.RowKit in
theorem Try.slices_Sort_int (blk off cap:Nat) (zs:List Int) (w:World) (hH:Holds (Value.int .i64) w blk off zs.toArray) (hblk:blk<w.heap.size) (hsz:zs.length<4611686018427387904) :
  Calls Try.prog 61 #[.slice (some ⟨blk,off,none⟩) zs.length cap] w fun e w' =>
   e=.returned (.tuple #[])/\∃ n os,w'=grow (putRow (Value.int .i64) (Sort.ahead w n) blk off (zs.mergeSort fun x y=>decide (x<=y)).toArray) os:=Any.slices_Sort_int Try.lays189 blk off cap zs w hH hblk hsz
def Try.laysNm216_ren:Go.Shelf.Ren:=⟨fun | 16=>33 | n=>n,fun | 24=>29 | 9=>9 | 4=>4 | n=>n,fun | n=>n⟩
theorem Try.laysNm216:Go.Proofs.Lays2.n16 Try.prog Try.laysNm216_ren:={
 mixed:=by kernel_rfl
 f16:=Try.func33.trans (congrArg some (by kernel_rfl))
 t4:=Try.underlying4
 a4:=Try.isAgg4
 z4:=Try.sizeOf4
 v4:=Try.zeroValue4
 t9:=Try.underlying9
 a9:=Try.isAgg9
 z9:=Try.sizeOf9
 v9:=Try.zeroValue9
 t24:=Try.underlying29
 a24:=Try.isAgg29
 z24:=Try.sizeOf29
 v24:=Try.zeroValue29
 i9:=by kernel_rfl }
open Go.RowKit Go.Lib in
theorem Try.slices_Clone_string (b off n c:Nat) (zs:List ByteArray) (w:World) (hz:n<=zs.length) (hbig:n * 16<=140737488355328) (hc:∀ j,j<zs.length->w.cell? ⟨b,off+j,none⟩=some (.string (zs.getD j ByteArray.empty))) :
  Calls Try.prog 33 #[.slice (some ⟨b,off,none⟩) n c] w fun e w'=>∃ v',e=.returned v'/\w'.ownsRow w.heap.size 9 1 v' n ((zs.take n).map (Value.string))/\v'≠.slice none 0 0/\Below w.heap.size w w':=Any.slices_Clone_string Try.laysNm216 b off n c zs w hz hbig hc
open Go.RowKit Go.Lib in
theorem Try.slices_Clone_string_nil (n c:Nat) (w:World) :
  Calls Try.prog 33 #[.slice none n c] w fun e w'=>e=.returned (.slice none 0 0)/\w'=w:=Any.slices_Clone_string_nil Try.laysNm216 n c w
open Go.RowKit Go.Lib in
theorem Try.slices_Clone_string_zero (a:Addr) (c:Nat) (w:World) :
  Calls Try.prog 33 #[.slice (some a) 0 c] w fun e w'=>∃ v',e=.returned v'/\w'.ownsRow w.heap.size 9 1 v' 0 []/\v'≠.slice none 0 0/\Below w.heap.size w w':=Any.slices_Clone_string_zero Try.laysNm216 a c w
open Go.RowKit Go.Sort in
theorem Try.slices_Sort_int_none (p:Option Addr) (cap:Nat) (w:World) :
  Calls Try.prog 61 #[.slice p 0 cap] w fun e w'=>e=.returned (.tuple #[])/\w'=w:=Any.slices_Sort_int_none Try.lays189 p cap w
end Go.Proofs
end
section
namespace Go.Proofs.Ytckpdliipjekgaa
open Go Go.Wk Go.Wl Classical
theorem zero78:Value.agg Try.zeroCells75=av (List.replicate 256 0):=by kernel_rfl
structure Dk where
 lasts:List Str
 fresh:List (Int×Str)
 left:Int
 off:Bool
 deriving Inhabited
structure Dk.Ok (x:Dk):Prop where
 pos:1<=x.lasts.length
 max:x.lasts.length<=8192
 len:∀ s∈x.lasts,s.length=256
 flen:∀ p∈x.fresh,p.2.length=256/\0<=p.1/\p.1<x.lasts.length
 left:InI x.left
 keys:(x.fresh.map (·.1)).Nodup
def Dk.wrong (x:Dk) (at_:Int):Int:=if at_<0 ∨ (x.lasts.length:Int)<=at_ then 3 else 0
def Dk.act (x:Dk) (w:Int):Int×Dk :=
 if w=1 then (1,x) else if w=2 then (2,x) else if w=3 then (3,x) else if x.left=0 then (9,{ x with off:=true }) else if x.off=true then (9,x) else if 0<x.left then (0,{ x with left:=x.left-1 }) else (0,x)
def DkIs (d:Nat) (w:World) (x:Dk) (F:List Nat):Prop :=
 ∃ A cap bm bs,F=d::bm::bs/\Own w d 78 [.slice A x.lasts.length cap,.map (some bm),.int .i64 x.left,.bool x.off]/\MapAt kInt w bm (emap (fun s=>av s) x.fresh)/\Ac (dArr 256) (fun _=>False) w (.slice A x.lasts.length cap) x.lasts bs/\F.Nodup
theorem DkIs.lt {d:Nat} {w:World} {x:Dk} {F:List Nat} (h:DkIs d w x F):∀ b∈F,b<w.heap.size:=by
 obtain ⟨A,cap,bm,bs,rfl,h1,h2,h3,_⟩:=h
 intro b hb
 rcases List.mem_cons.1 hb with rfl | hb
 . exact h1.lt
 rcases List.mem_cons.1 hb with rfl | hb
 . exact MapAt.lt h2
 . exact h3.lt b hb
def obDk (d:Nat):Ob Dk where
 is:=fun _ w x F=>DkIs d w x F
 stab:=fun {x F} Z Z' B w w' ⟨A,cap,bm,bs,e1,h1,h2,h3,h4⟩ e hB _=>by
  have lt:=DkIs.lt ⟨A,cap,bm,bs,e1,h1,h2,h3,h4⟩
  have nin:∀ b∈F,b ∉ B:=fun b hb hm=>by have:=hB b hm (.inl hb); have:=lt b hb; omega
  exact ⟨A,cap,bm,bs,e1,h1.ext e (nin d (by simp [e1])),h2.ext e (nin bm (by simp [e1])),Ac.stab h3 e (fun b hb h=>hB b hb (.inl (by rcases h with h | h; simp [e1,h]; exact h.elim))) (fun _ h=>h),h4⟩
 lt:=fun h=>DkIs.lt h
section
variable {d:Nat} {w w0:World} {x:Dk} {F:List Nat} {Z:Nat->Prop}
theorem DkIs.sep (h:DkIs d w x F) (zlt:∀ b,Z b->b<w.heap.size) (hZ:∀ b∈F,¬ Z b):∃ A cap bm bs,F=d::bm::bs /\
  Sep F w Z w [iOwn d 78 [.slice A x.lasts.length cap,.map (some bm),.int .i64 x.left,.bool x.off] [d],iMap kInt bm (emap (fun s=>av s) x.fresh) [bm],iAc (dArr 256) (.slice A x.lasts.length cap) x.lasts bs bs]:=by
 obtain ⟨A,cap,bm,bs,rfl,h1,h2,h3,h4⟩:=h
 simp only [List.nodup_cons,List.mem_cons,not_or] at h4
 refine ⟨A,cap,bm,bs,rfl,?_⟩
 refine (Sep.give (Sep.give (Sep.give (Sep.nil zlt) (t:=iAc (dArr 256) (.slice A x.lasts.length cap) x.lasts bs bs) h3 sAc h3.lt (fun b hb=>hZ b (by simp [hb])) rfl (fun b hb=>by simp [hb]) (fun k s hk=>by simp at hk)) (t:=iMap kInt bm (emap (fun s=>av s) x.fresh) [bm]) h2 sMap (fun b hb=>by simp at hb; subst hb; exact MapAt.lt h2) (fun b hb=>hZ b (by simp at hb; simp [hb])) rfl (fun b hb=>by simp at hb; simp [hb]) ?_) (t:=iOwn d 78 _ [d]) h1 sOwn (fun b hb=>by simp at hb; subst hb; exact h1.lt) (fun b hb=>hZ b (by simp at hb; simp [hb])) rfl (fun b hb=>by simp at hb; simp [hb]) ?_)
 . intro k s hk b hb hb'
   simp at hb; subst hb
   match k,hk with
   | 0,hk=>simp at hk; subst hk; exact h4.2.1 hb'
   | k+1,hk=>simp at hk
 . intro k s hk b hb hb'
   simp at hb; subst hb
   match k,hk with
   | 0,hk=>simp at hk; subst hk; simp at hb'; exact h4.1.1 hb'
   | 1,hk=>simp at hk; subst hk; exact h4.1.2 hb'
   | k+2,hk=>simp at hk
theorem DkIs.close {A:Option Addr} {n cap bm:Nat} {bs O:List Nat} {l:Int} {o:Bool} {fr:List (Int×Str)} {la:List Str} {r:List It} {O1 O2:List Nat} (hs:Sep F w0 Z w (iOwn d 78 [.slice A n cap,.map (some bm),.int .i64 l,.bool o] O1::iMap kInt bm (emap (fun s=>av s) fr) O2::iAc (dArr 256) (.slice A n cap) la bs O::r)) (hbs:bs.length<=1) :
  DkIs d w ⟨la,fr,l,o⟩ (d::bm::bs)/\Turn w0 w F (d::bm::bs):=by
 have h1:=hs.at 0 rfl
 have h2:=hs.at 1 rfl
 have h3:=hs.at 2 rfl
 have hn:=Ac.len h3
 subst hn
 refine ⟨⟨A,cap,bm,bs,rfl,h1,h2,h3,?_⟩,hs.ext,fun b hb=>?_⟩
 . have a1:=hs.ap 0 1 rfl rfl rfl d (by simp)
   have a2:=hs.ap 0 2 rfl rfl rfl d (by simp)
   have a3:=hs.ap 1 2 rfl rfl rfl bm (by simp)
   simp only [List.mem_cons,List.not_mem_nil,or_false] at a1
   simp only [List.nodup_cons,List.mem_cons,not_or]
   refine ⟨⟨a1,a2⟩,a3,?_⟩
   match bs,hbs with
   | [],_=>simp
   | [b],_=>simp
 . rcases List.mem_cons.1 hb with rfl | hb
   . exact ((hs.org 0 rfl) b (by simp)).imp (fun h=>(hs.ok 0 _ rfl).org0 b h) id
   rcases List.mem_cons.1 hb with rfl | hb
   . exact ((hs.org 1 rfl) b (by simp)).imp (fun h=>(hs.ok 1 _ rfl).org0 b h) id
   . exact ((hs.org 2 rfl) b hb).imp (fun h=>(hs.ok 2 _ rfl).org0 b h) id
theorem Ac.bs1 {α:Type} {r:Rd α} {v:Value} {l:List α} {bs:List Nat} (h:Ac r Z w v l bs):bs.length<=1:=by
 rcases h with ⟨_,_,rfl⟩ | ⟨b,_,_,_,_,rfl,_⟩ <;> simp
theorem DkIs.fix (h:DkIs d w x F):∃ A cap bm,Sep [] w (fun b=>b∈F) w [iOwnF d 78 [.slice A x.lasts.length cap,.map (some bm),.int .i64 x.left,.bool x.off],iMapF kInt bm (emap (fun s=>av s) x.fresh),iAcF (dArr 256) (.slice A x.lasts.length cap) x.lasts]:=by
 have lt:=h.lt
 obtain ⟨A,cap,bm,bs,rfl,h1,h2,h3,h4⟩:=h
 refine ⟨A,cap,bm,?_⟩
 have s0:Sep [] w (fun b=>b∈d::bm::bs) w []:=Sep.nil lt
 exact ((s0.fact (t:=iAcF (dArr 256) (.slice A x.lasts.length cap) x.lasts) ⟨bs,fun b hb=>by simp [hb],h3⟩ sAcF rfl rfl).fact (t:=iMapF kInt bm (emap (fun s=>av s) x.fresh)) ⟨by simp,h2⟩ sMapF rfl rfl).fact (t:=iOwnF d 78 _) ⟨by simp,h1⟩ sOwnF rfl rfl
end
theorem Sep.openDk {B0:List Nat} {d:Nat} {w w0:World} {x:Dk} {F O:List Nat} {Z:Nat->Prop} {l:List It} (hs:Sep B0 w0 Z w (iOb (obDk d) x F O::l)):∃ A cap bm bs,
  Sep B0 w0 Z w (iOwn d 78 [.slice A x.lasts.length cap,.map (some bm),.int .i64 x.left,.bool x.off] O::iMap kInt bm (emap (fun s=>av s) x.fresh) O::iAc (dArr 256) (.slice A x.lasts.length cap) x.lasts bs O::l):=by
 obtain ⟨A,cap,bm,bs,e,h1,h2,h3,h4⟩:=hs.at 0 rfl
 have e':F=d::bm::bs:=e
 subst e'
 simp only [List.nodup_cons,List.mem_cons,not_or] at h4
 refine ⟨A,cap,bm,bs,Sep.split (ts:=[_,_,_]) hs ?_ ?_⟩
 . intro u hu
   simp only [List.mem_cons,List.not_mem_nil,or_false] at hu
   rcases hu with rfl | rfl | rfl
   . exact ⟨h1,sOwn,fun b hb=>by simp at hb; simp [hb],rfl⟩
   . exact ⟨h2,sMap,fun b hb=>by simp at hb; simp [hb],rfl⟩
   . exact ⟨h3,sAc,fun b hb=>by simp [hb],rfl⟩
 . refine List.Pairwise.cons (fun u hu y hy=>?_) (List.Pairwise.cons (fun u hu y hy=>?_) (List.Pairwise.cons (fun u hu=>by cases hu) List.Pairwise.nil))
   . have hy':y=d:=by simpa using hy
     subst hy'
     simp only [List.mem_cons,List.not_mem_nil,or_false] at hu
     rcases hu with rfl | rfl
     . intro hm; exact h4.1.1 (by simpa using hm)
     . exact h4.1.2
   . have hy':y=bm:=by simpa using hy
     subst hy'
     simp only [List.mem_cons,List.not_mem_nil,or_false] at hu
     subst hu
     exact h4.2.1
theorem DkIs.fixZ {d:Nat} {w:World} {x:Dk} {F:List Nat} {Z:Nat->Prop} (h:DkIs d w x F) (zlt:∀ b,Z b->b<w.heap.size) (hZ:∀ b∈F,Z b):∃ A cap bm,Sep [] w Z w [iOwnF d 78 [.slice A x.lasts.length cap,.map (some bm),.int .i64 x.left,.bool x.off],iMapF kInt bm (emap (fun s=>av s) x.fresh),iAcF (dArr 256) (.slice A x.lasts.length cap) x.lasts]:=by
 obtain ⟨A,cap,bm,bs,rfl,h1,h2,h3,h4⟩:=h
 refine ⟨A,cap,bm,?_⟩
 exact (((Sep.nil (B0:=[]) zlt).fact (t:=iAcF (dArr 256) (.slice A x.lasts.length cap) x.lasts) ⟨bs,fun b hb=>hZ b (by simp [hb]),h3⟩ sAcF rfl rfl).fact (t:=iMapF kInt bm (emap (fun s=>av s) x.fresh)) ⟨hZ bm (by simp),h2⟩ sMapF rfl rfl).fact (t:=iOwnF d 78 _) ⟨hZ d (by simp),h1⟩ sOwnF rfl rfl
theorem zc78:(Value.agg Try.zeroCells75).cells=((List.replicate 256 (0:UInt8)).map bv).toArray:=by kernel_rfl
theorem zs78:(Value.agg Try.zeroCells75).cells.size=256:=by kernel_rfl
theorem sub_len:∀ {l m:List Int},l.Nodup->(∀ x∈l,x∈m)->l.length<=m.length
 | [],m,_,_=>by simp
 | a::l,m,h,hs=>by
  simp only [List.nodup_cons] at h
  have ha:a∈m:=hs a (by simp)
  have:=sub_len (m:=m.erase a) h.2 (fun x hx=>(List.mem_erase_of_ne (fun e=>h.1 (by rw [<- e]; exact hx))).2 (hs x (by simp [hx])))
  rw [List.length_erase_of_mem ha] at this
  have:0<m.length:=List.length_pos_of_mem ha
  simp only [List.length_cons]; omega
theorem bd_len {l:List Int} {n:Nat} (h:l.Nodup) (hb:∀ x∈l,0<=x/\x<n):l.length<=n:=by
 have:=sub_len (m:=(List.range n).map Int.ofNat) h (fun x hx=>by
  have:=hb x hx
  exact List.mem_map.2 ⟨x.toNat,by simp; omega,by simp; omega⟩)
 simpa using this
theorem srt_uniq:∀ {a b:List Int},a.Pairwise (· < ·)->b.Pairwise (· < ·)->(∀ x,x∈a↔x∈b)->a=b
 | [],b,_,_,h=>by
  cases b with
  | nil=>rfl
  | cons y b=>have:=(h y).2 (by simp); cases this
 | x::a,[],_,_,h=>by have:=(h x).1 (by simp); cases this
 | x::a,y::b,ha,hb,h=>by
  simp only [List.pairwise_cons] at ha hb
  have e:x=y:=by
   have h1:=(h x).1 (by simp)
   have h2:=(h y).2 (by simp)
   rcases List.mem_cons.1 h1 with e | h1
   . exact e
   rcases List.mem_cons.1 h2 with e | h2
   . exact e.symm
   have:=ha.1 y h2; have:=hb.1 x h1; omega
  subst e
  rw [srt_uniq ha.2 hb.2 (fun z=>by
   constructor
   . intro hz
     rcases List.mem_cons.1 ((h z).1 (by simp [hz])) with e | h'
     . subst e; have:=ha.1 z hz; omega
     . exact h'
   . intro hz
     rcases List.mem_cons.1 ((h z).2 (by simp [hz])) with e | h'
     . subst e; have:=hb.1 z hz; omega
     . exact h')]
theorem srt_ext {a b:List Int} (ha:a.Nodup) (hb:b.Nodup) (h:∀ x,x∈a↔x∈b):srt a=srt b :=
 srt_uniq (srt_lt ha) (srt_lt hb) fun x=>by rw [srt_mem,srt_mem]; exact h x
theorem ix_mem {α:Type} [Inhabited α] {l:List α} {i:Int} (h0:0<=i) (h1:i<l.length):ix l i∈l:=by
 rw [ix_get (by omega)]; exact List.getElem_mem _
def Dk.dirty (x:Dk):List Int:=srt (x.fresh.map (·.1))
def Dk.write (x:Dk) (at_:Int) (b:Str):Int×Dk :=
 let r:=x.act (if b.length≠256 then 2 else x.wrong at_)
 if r.1=0 then (0,{ r.2 with fresh:=aput r.2.fresh at_ b }) else r
def Dk.read (x:Dk) (at_:Int):Str×Int :=
 if x.wrong at_=3 then ([],3) else if x.off=true then ([],9) else ((aget x.fresh at_).getD (ix x.lasts at_),0)
def flushStep (p:List Str×List (Int×Str)) (k:Int):List Str×List (Int×Str):=(p.1.set k.toNat ((aget p.2 k).getD (List.replicate 256 0)),adel p.2 k)
def Dk.flush (x:Dk):Int×Dk :=
 let r:=x.act 0
 if r.1=0 then (0,{ r.2 with lasts:=(r.2.dirty.foldl flushStep (r.2.lasts,r.2.fresh)).1,fresh:=(r.2.dirty.foldl flushStep (r.2.lasts,r.2.fresh)).2 }) else r
def Dk.torn (x:Dk) (t cut:Int):List Str :=
 match aget x.fresh t with
 | some s=>x.lasts.set t.toNat (s.take (max 0 (min cut 256)).toNat++(ix x.lasts t).drop (max 0 (min cut 256)).toNat)
 | none=>x.lasts
def keepStep (fr:List (Int×Str)) (l:List Str) (k:Int):List Str :=
 match aget fr k with
 | some s=>l.set k.toNat s
 | none=>l
def Dk.crash (x:Dk) (t cut:Int) (kept:List Int):Dk:=⟨kept.foldl (keepStep x.fresh) (x.torn t cut),[],-1,false⟩
def Dk.limit (x:Dk) (n:Int):Dk:={ x with left:=max n (-1) }
theorem aget_flen {x:Dk} (ok:x.Ok) {k:Int} {s:Str} (h:aget x.fresh k=some s):s.length=256/\0<=k/\k<x.lasts.length:=by
 have hm:(k,s)∈x.fresh:=by
  have:∀ L:List (Int×Str),aget L k=some s->(k,s)∈L:=by
   intro L
   induction L with
   | nil=>intro h; cases h
   | cons p r ih =>
    intro h; simp only [aget] at h
    by_cases hk:k=p.1
    . rw [if_pos hk] at h; simp only [Option.some.injEq] at h
      exact List.mem_cons.2 (.inl (by rw [hk,<- h]))
    . rw [if_neg hk] at h; exact List.mem_cons_of_mem _ (ih h)
  exact this _ h
 exact ok.flen _ hm
theorem getD_len {x:Dk} (ok:x.Ok) (k:Int):((aget x.fresh k).getD (List.replicate 256 0)).length=256:=by
 cases h:aget x.fresh k with
 | none=>exact List.length_replicate
 | some s=>exact (aget_flen ok h).1
theorem last_len {x:Dk} (ok:x.Ok) {k:Int} (h0:0<=k) (h1:k<x.lasts.length):(ix x.lasts k).length=256:=ok.len _ (ix_mem h0 h1)
theorem fresh_len {x:Dk} (ok:x.Ok):x.fresh.length<=8192:=by
 have:=bd_len ok.keys (n:=x.lasts.length) (fun k hk=>by
  obtain ⟨p,hp,rfl⟩:=List.mem_map.1 hk
  exact (ok.flen p hp).2)
 have:=ok.max
 simp only [List.length_map] at *; omega
theorem read_fine {x:Dk} {a:Int} {p:Bool} (h1:¬ x.wrong a=3) (h2:x.off=false) (h3:(aget x.fresh a).isSome=p):x.read a=(bif p then (aget x.fresh a).getD (List.replicate 256 0) else ix x.lasts a,0):=by
 rw [Dk.read,if_neg h1,if_neg (by simp [h2])]
 subst h3
 cases h:aget x.fresh a <;> rfl
theorem act_Ok {x:Dk} (ok:x.Ok) (wr:Int):(x.act wr).2.Ok:=by
 have ⟨a,b,c,d,e,f⟩:=ok
 simp only [Dk.act]
 split; exact ok
 split; exact ok
 split; exact ok
 split; exact ⟨a,b,c,d,e,f⟩
 split; exact ok
 split
 . exact ⟨a,b,c,d,⟨by have:=e.1; simp only; omega,by have:=e.2; simp only; omega⟩,f⟩
 . exact ok
theorem act_lasts {x:Dk} (wr:Int):(x.act wr).2.lasts=x.lasts/\(x.act wr).2.fresh=x.fresh:=by
 simp only [Dk.act]
 split; exact ⟨rfl,rfl⟩
 split; exact ⟨rfl,rfl⟩
 split; exact ⟨rfl,rfl⟩
 split; exact ⟨rfl,rfl⟩
 split; exact ⟨rfl,rfl⟩
 split <;> exact ⟨rfl,rfl⟩
theorem write_err {x:Dk} {a:Int} {b:Str} {wr:Int} (hw:wr=if b.length≠256 then 2 else x.wrong a) (h:(x.act wr).1≠0):x.write a b=x.act wr:=by
 subst hw; simp only [Dk.write]; rw [if_neg h]
theorem write_fine {x:Dk} {a:Int} {b:Str} {wr:Int} (hw:wr=if b.length≠256 then 2 else x.wrong a) (h:(x.act wr).1=0):x.write a b=(0,{ (x.act wr).2 with fresh:=aput (x.act wr).2.fresh a b }):=by
 subst hw; simp only [Dk.write]; rw [if_pos h]
theorem act_zero {x:Dk} {wr:Int} (h:(x.act wr).1=0):wr≠1/\wr≠2/\wr≠3:=by
 refine ⟨?_,?_,?_⟩ <;> rintro rfl <;> simp [Dk.act] at h
theorem ok_put {x:Dk} (ok:x.Ok) {a:Int} {b:Str} (h0:0<=a) (h1:a<x.lasts.length) (hb:b.length=256):Dk.Ok { x with fresh:=aput x.fresh a b }:=by
 have ⟨p,m,l,fl,e,f⟩:=ok
 refine ⟨p,m,l,fun q hq=>?_,e,aput_nodup f⟩
 have:∀ L:List (Int×Str),(∀ p∈L,p.2.length=256/\0<=p.1/\p.1<x.lasts.length)->∀ p∈aput L a b,p.2.length=256/\0<=p.1/\p.1<x.lasts.length:=by
  intro L
  induction L with
  | nil=>intro _ p hp; simp [aput] at hp; subst hp; exact ⟨hb,h0,h1⟩
  | cons p r ih =>
   intro hL q hq
   simp only [aput] at hq
   split at hq
   . rcases List.mem_cons.1 hq with rfl | hq
     . exact ⟨hb,h0,h1⟩
     . exact hL q (by simp [hq])
   . rcases List.mem_cons.1 hq with rfl | hq
     . exact hL _ (by simp)
     . exact ih (fun p hp=>hL p (by simp [hp])) q hq
 exact this _ fl q hq
theorem write_Ok {x:Dk} (ok:x.Ok) (a:Int) (b:Str):(x.write a b).2.Ok:=by
 by_cases h:(x.act (if b.length≠256 then 2 else x.wrong a)).1=0
 . rw [write_fine rfl h]
   have hz:=act_zero h
   have hb:b.length=256:=by
    apply Classical.byContradiction; intro hb; rw [if_pos hb] at hz; exact hz.2.1 rfl
   rw [if_neg (by simp [hb])] at hz
   have hw:0<=a/\a<x.lasts.length:=by
    have:=hz.2.2; simp only [Dk.wrong] at this; split at this <;> omega
   have e:=act_lasts (x:=x) (if b.length≠256 then 2 else x.wrong a)
   exact ok_put (act_Ok ok _) hw.1 (by rw [e.1]; exact hw.2) hb
 . rw [write_err rfl h]; exact act_Ok ok _
theorem keys_step {L dm:List (Int×Str)} {k:Int} {v:Str} (h:(dm.map (·.1)).Nodup) (hk:k ∉ dm.map (·.1)):((dm++[(k,v)]).map (·.1)).Nodup:=by
 rw [List.map_append,List.nodup_append]
 refine ⟨h,by simp,fun a ha b hb=>?_⟩
 simp at hb; subst hb
 intro e; subst e; exact hk ha
theorem keys_sub {L dm:List (Int×Str)} {k:Int} {v:Str} (h:∀ p∈dm.map (·.1),p∈L.map (·.1)) (hm:(k,v)∈L):∀ p∈(dm++[(k,v)]).map (·.1),p∈L.map (·.1):=by
 intro p hp
 rw [List.map_append,List.mem_append] at hp
 rcases hp with hp | hp
 . exact h p hp
 . have hp:p=k:=by simpa using hp
   rw [hp]; exact List.mem_map.2 ⟨(k,v),hm,rfl⟩
theorem keys_len {L dm:List (Int×Str)} (h:(dm.map (·.1)).Nodup) (hs:∀ p∈dm.map (·.1),p∈L.map (·.1)):dm.length<=L.length:=by
 have:=sub_len h hs; simpa using this
theorem dirty_eq {x:Dk} (ok:x.Ok) {dm:List (Int×Str)} (h:(dm.map (·.1)).Nodup) (hs:∀ p∈dm.map (·.1),p∈x.fresh.map (·.1)) (ho:∀ k,k∈x.fresh.map (·.1)->k∈dm.map (·.1)):srt (dm.map (·.1))=x.dirty :=
 srt_ext h ok.keys fun k=>⟨hs k,ho k⟩
theorem dirty_len {x:Dk} (ok:x.Ok):x.dirty.length<=8192:=by
 unfold Dk.dirty; rw [srt_len]; have:=fresh_len ok; simpa using this
theorem dirty_mem {x:Dk} {k:Int}:k∈x.dirty↔(aget x.fresh k).isSome=true:=by
 unfold Dk.dirty; rw [srt_mem,aget_mem]
theorem fr_InI {x:Dk} (ok:x.Ok) {k:Int} {v:Str} (h:(k,v)∈x.fresh):InI k:=by
 have:=ok.flen _ h; have:=ok.max; simp only [InI]; omega
theorem isSome_flen {x:Dk} (ok:x.Ok) {k:Int} (h:(aget x.fresh k).isSome=true):0<=k/\k<x.lasts.length:=by
 obtain ⟨s,hs⟩:=Option.isSome_iff_exists.1 h
 exact (aget_flen ok hs).2
theorem torn_some {x:Dk} {t cut:Int} (h:(aget x.fresh t).isSome=true):List.set x.lasts t.toNat (List.take (max 0 (min cut 256)).toNat ((aget x.fresh t).getD (List.replicate 256 (0:UInt8)))++List.drop (max 0 (min cut 256)).toNat (ix x.lasts t))=x.torn t cut:=by
 obtain ⟨s,hs⟩:=Option.isSome_iff_exists.1 h
 simp only [Dk.torn,hs,Option.getD_some]
theorem torn_none {x:Dk} {t cut:Int} (h:(aget x.fresh t).isSome=false):x.lasts=x.torn t cut:=by
 have hs:aget x.fresh t=none:=by cases e:aget x.fresh t with | none=>rfl | some s=>rw [e] at h; cases h
 simp only [Dk.torn,hs]
theorem take_next {α:Type} [Inhabited α] {l:List α} {i:Int} (h0:0<=i) (h1:i<l.length):l.take (i+1).toNat=l.take i.toNat++[ix l i]:=by
 have e:(i+1).toNat=i.toNat+1:=by omega
 have hi:i.toNat<l.length:=by omega
 rw [e,List.take_succ_eq_append_getElem hi,ix_get hi]
theorem keep_some {fr:List (Int×Str)} {kept:List Int} {i:Int} {l l0:List Str} (h:l=(kept.take i.toNat).foldl (keepStep fr) l0) (h0:0<=i) (h1:i<kept.length) (hs:(aget fr (ix kept i)).isSome=true) :
  List.set l (ix kept i).toNat ((aget fr (ix kept i)).getD (List.replicate 256 (0:UInt8)))=(kept.take (i+1).toNat).foldl (keepStep fr) l0:=by
 obtain ⟨s,hs⟩:=Option.isSome_iff_exists.1 hs
 rw [take_next h0 h1,List.foldl_append,<- h]
 simp only [List.foldl_cons,List.foldl_nil,keepStep,hs,Option.getD_some]
theorem keep_none {fr:List (Int×Str)} {kept:List Int} {i:Int} {l l0:List Str} (h:l=(kept.take i.toNat).foldl (keepStep fr) l0) (h0:0<=i) (h1:i<kept.length) (hs:(aget fr (ix kept i)).isSome=false) :
  l=(kept.take (i+1).toNat).foldl (keepStep fr) l0:=by
 have hs:aget fr (ix kept i)=none:=by cases e:aget fr (ix kept i) with | none=>rfl | some s=>rw [e] at hs; cases hs
 rw [take_next h0 h1,List.foldl_append,<- h]
 simp only [List.foldl_cons,List.foldl_nil,keepStep,hs]
def Dk.new (n:Int):Dk:=⟨List.replicate n.toNat (List.replicate 256 0),[],-1,false⟩
theorem new_Ok {n:Int} (h0:1<=n) (h1:n<=8192):(Dk.new n).Ok:=by
 have e:(Dk.new n).lasts.length=n.toNat:=List.length_replicate
 refine ⟨by rw [e]; omega,by rw [e]; omega,fun s hs=>?_,fun p hp=>(by cases hp),⟨by show (-9223372036854775808:Int)<=-1; omega,by show (-1:Int)<=9223372036854775807; omega⟩,List.nodup_nil⟩
 have:=List.eq_of_mem_replicate hs
 rw [this]; exact List.length_replicate
theorem flush_step {L:List Int} {i:Int} {la:List Str} {fr:List (Int×Str)} {p0:List Str×List (Int×Str)} (h:(la,fr)=(L.take i.toNat).foldl flushStep p0) (h0:0<=i) (h1:i<L.length) :
  (List.set la (ix L i).toNat ((aget fr (ix L i)).getD (List.replicate 256 (0:UInt8))),adel fr (ix L i))=(L.take (i+1).toNat).foldl flushStep p0:=by
 rw [take_next h0 h1,List.foldl_append,<- h]; rfl
theorem flens_del {fr:List (Int×Str)} {k:Int} (h:∀ j s,aget fr j=some s->s.length=256):∀ j s,aget (adel fr k) j=some s->s.length=256:=by
 intro j s hs
 rw [aget_del] at hs
 split at hs
 . cases hs
 . exact h j s hs
theorem flens_getD {fr:List (Int×Str)} (h:∀ j s,aget fr j=some s->s.length=256) (k:Int):((aget fr k).getD (List.replicate 256 (0:UInt8))).length=256:=by
 cases e:aget fr k with
 | none=>exact List.length_replicate
 | some s=>exact h k s e
theorem flush_err {x:Dk} (h:(x.act 0).1≠0):x.flush=x.act 0:=by simp only [Dk.flush]; rw [if_neg h]
theorem flush_fine {x:Dk} (h:(x.act 0).1=0) {la:List Str} {fr:List (Int×Str)} (e:(la,fr)=(x.act 0).2.dirty.foldl flushStep ((x.act 0).2.lasts,(x.act 0).2.fresh)):x.flush=(0,⟨la,fr,(x.act 0).2.left,(x.act 0).2.off⟩):=by
 simp only [Dk.flush]; rw [if_pos h,<- e]
theorem dirty_in {x:Dk} (ok:x.Ok) {i:Int} (h0:0<=i) (h1:i<x.dirty.length):0<=ix x.dirty i/\ix x.dirty i<x.lasts.length:=isSome_flen ok (dirty_mem.1 (ix_mem h0 h1))
end Go.Proofs.Ytckpdliipjekgaa
end
section
namespace Go.Rx
open Go Go.Wk Go.Wl
section
variable {E:Env} {C:Ctx} {ρ:Env1} {Z:Nat->Prop} {w:World} {its lkd:Items E.N} {nx:Nat} {inl:Inl E}
def bslots (E:Env) (its:Items E.N):Slots E.N:=its.filterMap fun p=>match p.2 with | .own _ _=>some (200+p.1,.ref p.1 0) | .ob _ _ _=>some (200+p.1,.ref p.1 0) | _=>none
def st0 (E:Env) (its:Items E.N) (nx:Nat):E.St:=⟨bslots E its,[],its,nx⟩
def ansS (n:Nat) (s:E.SV):Option (List E.SV):=match n with
 | 1=>some [s]
 | _=>(match s with | .tup vs=>bif Nat.beq vs.length n then some vs else none | _=>none)
def endG (E:Env) (its0:Items E.N) (nx0 n:Nat) (ss:List (List LV)) (P:ShP E.N ss):E.SV->Items E.N->Nat->Prop:=fun s its nx=>match ansS n s with
 | some vs=>rbS E [] (st0 E its0 nx0) [] ⟨number 0 vs++bslots E its0,[],its,nx⟩ ss P (fun im=>im.1)
 | none=>False
def ansOf (E:Env) (n:Nat) (st:E.St):E.SV:=match n with
 | 1=>slotOf [] st 0
 | n=>.tup (slotsTo E st n 0)
theorem lk_number {vs:List E.SV} {r:Slots E.N}:∀ (i k:Nat) (s:E.SV),lk (number i vs++r) k=some s->(∃ j,k=i+j/\vs[j]?=some s) ∨ ((∀ j,j<vs.length->k≠i+j)/\lk r k=some s):=by
 induction vs with
 | nil=>intro i k s h; exact .inr ⟨fun j hj=>by simp at hj,h⟩
 | cons v vs ih =>
  intro i k s h
  have h:(bif Nat.beq i k then some v else lk (number (i+1) vs++r) k)=some s:=h
  cases hb:Nat.beq i k with
  | true =>
   rw [hb,cond_true] at h
   cases h
   have:=Nat.eq_of_beq_eq_true hb
   exact .inl ⟨0,by omega,rfl⟩
  | false =>
   rw [hb,cond_false] at h
   have hne:i≠k:=fun e=>by subst e; rw [Nat.beq_refl] at hb; cases hb
   rcases ih (i+1) k s h with ⟨j,e,hj⟩ | ⟨h1,h2⟩
   . exact .inl ⟨j+1,by omega,by simpa using hj⟩
   . refine .inr ⟨fun j hj=>?_,h2⟩
     cases j with
     | zero=>omega
     | succ j=>have:=h1 j (by simpa using hj); omega
theorem gen_ok (hE:EnvOK E) (hI:InlOK E inl) {K n:Nat} {fn:Func} {an:Ann} (hf:E.P.funcs[K]?=some fn) (hn:Nat.ble n 200=true) {args:List E.SV} {ss:List (List LV)} {P:ShP E.N ss} {S:PT E.N}
  (hv:vcFun inl an fn args its [] nx (endG E its nx n ss P)) (hS:∀ k,S k->allS E [] (st0 E its nx) ss P (fun im new=>im.1->k (ansOf E n new) new.items new.nx)):GenOK E.P E.N E.T E.G K args its nx S:=by
 intro k hk ρ Z w vs B hfr hsep hg ha
 have hn:=Nat.le_of_ble_eq_true hn
 let C:Ctx:=⟨ρ,Z,w,B,w⟩
 have hm:Mem E C ρ Z w (its++[]) nx:=⟨by rw [List.append_nil]; exact hsep,hfr,fun _ _ h=>h,fun _ h=>h,fun _ h=>.inl h⟩
 refine (vcFun_ok hE hI hf hv hm hg ha).mono fun v w' ⟨ρ',Z',s,its',nx',hm',ht,hr,hp⟩=>?_
 unfold endG at hp
 split at hp
 . rename_i vs' hvs
   let fb:Fr:=fun k=>match ρ (k-200) with | some L=>.pointer (some ⟨L.b,0,none⟩) | none=>Go.undef
   have hb:∀ k s,lk (bslots E its) k=some s->∃ i L,k=200+i/\s=.ref i 0/\ρ i=some L:=fun k s h=>by
    obtain ⟨j,hj,_⟩:=lk_mem h
    obtain ⟨p,hp,e⟩:=List.mem_filterMap.1 (List.mem_of_getElem? hj)
    obtain ⟨j2,hj2⟩:=List.getElem?_of_mem hp
    have hh:=hm.holds (its_get (l2:=[]) hj2)
    obtain ⟨L,hL⟩:=(holds_some hh).1
    obtain ⟨i,it⟩:=p
    cases it with
    | own T c=>cases e; exact ⟨i,L,rfl,rfl,hL⟩
    | ob k f x=>cases e; exact ⟨i,L,rfl,rfl,hL⟩
    | _=>cases e
   have hfb:∀ i L,ρ i=some L->fb (200+i)=.pointer (some ⟨L.b,0,none⟩):=fun i L h=>by
    show (match ρ (200+i-200) with | some L=>Value.pointer (some ⟨L.b,0,none⟩) | none=>Go.undef)=_
    rw [Nat.add_sub_cancel_left,h]
   have h0:Rel E C [] [] (st0 E its nx) ρ Z fb w:=⟨fun k s h=>by
    obtain ⟨i,L,rfl,rfl,hL⟩:=hb k s h
    rw [hfb i L hL]; exact .ref hL,fun p hp=>(by cases hp),fun k j b s e=>(by cases e),hm,Tn.refl _ _ _,hg⟩
   -- the answers
   have hans:∃ us:List Value,us.length=vs'.length/\vs'.length<=200/\(∀ (i:Nat) (u:Value) (s:E.SV),us[i]?=some u->vs'[i]?=some s->Rep E.N E.T ρ' Z' w' u s) /\
     ∀ (f:Fr) (new:E.St) (ρ2:Env1),(∀ i u,us[i]?=some u->f i=u)->(∀ i,i<vs'.length->Rep E.N E.T ρ2 Z' w' (f i) (slotOf [] new i))->Rep E.N E.T ρ2 Z' w' v (ansOf E n new):=by
    by_cases e:n=1
    . subst e
      simp only [ansS,Option.some.injEq] at hvs
      subst hvs
      refine ⟨[v],rfl,(by simp),fun i u s hu hs=>?_,fun f new ρ2 h1 h2=>?_⟩
      . cases i with
        | zero=>simp at hu hs; subst hu; subst hs; exact hr
        | succ i=>simp at hu
      . have:=h2 0 (by simp)
        rw [h1 0 v rfl] at this; exact this
    . have h':∃ vs,s=.tup vs/\vs'=vs/\vs.length=n:=by
        unfold ansS at hvs
        split at hvs
        . exact absurd rfl e
        . split at hvs
          . rename_i vs
            have ⟨h1,h2⟩:=bif_some hvs
            cases h2
            exact ⟨_,rfl,rfl,Nat.eq_of_beq_eq_true h1⟩
          . cases hvs
      obtain ⟨vs2,rfl,rfl,hl⟩:=h'
      obtain ⟨cs,rfl⟩:=Rep.tup_inv hr
      obtain ⟨g1,g2⟩:=RepT.get hr
      refine ⟨cs,g1,by omega,g2,fun f new ρ2 h1 h2=>?_⟩
      have:ansOf E n new=.tup (slotsTo E new n 0):=by
       unfold ansOf
       split
       . exact absurd rfl e
       . rfl
      rw [this]
      refine RepT.of_get (by rw [g1,hl,slotsTo_len]) fun i u s hu hs=>?_
      obtain ⟨a,b⟩:=slotsTo_get n 0 i s hs
      have:=h2 i (by omega)
      rw [h1 i u hu] at this
      rw [a,Nat.zero_add]; exact this
   obtain ⟨us,u1,u200,u2,u3⟩:=hans
   let f':Fr:=fun k=>match us[k]? with | some u=>u | none=>fb k
   have hf1:∀ i u,us[i]?=some u->f' i=u:=fun i u h=>by show (match us[i]? with | some u=>u | none=>fb i)=u; rw [h]
   have hf2:∀ i,us.length<=i->f' i=fb i:=fun i h=>by show (match us[i]? with | some u=>u | none=>fb i)=_; rw [List.getElem?_eq_none h]
   let st1:E.St:=⟨number 0 vs'++bslots E its,[],its',nx'⟩
   have hwo:without its (its.map (·.1))=[]:=by
    unfold without
    rw [List.filter_eq_nil_iff]
    intro p hp
    have:(its.map (·.1)).elem p.1=true:=List.elem_eq_true_of_mem (List.mem_map.2 ⟨p,hp,rfl⟩)
    rw [this]; simp
   have h1:Rel E (C.at ρ Z w) (keepS [] (st0 E its nx) []++[]) (without (st0 E its nx).items (its.map (·.1))++[]) st1 ρ' Z' f' w':=by
    refine ⟨fun k s h=>?_,fun p hp=>(by cases hp),fun k j b s e=>(by cases e),?_,ht,hg⟩
    . rcases lk_number 0 k s h with ⟨j,rfl,hj⟩ | ⟨h1,h2⟩
      . rw [Nat.zero_add]
        have hjl:=lt_get hj
        obtain ⟨u,hu⟩:∃ u,us[j]?=some u:=⟨_,List.getElem?_eq_getElem (by omega)⟩
        rw [hf1 j u hu]
        exact u2 j u s hu hj
      . obtain ⟨i,L,rfl,rfl,hL⟩:=hb k s h2
        rw [hf2 _ (by omega),hfb i L hL]
        exact .ref (ht.rho _ _ hL)
    . show Mem E _ ρ' Z' w' (its'++(without its (its.map (·.1))++[])) nx'
      rw [hwo]; exact hm'
   obtain ⟨new,ρ2,a,ha1,hG,hrel⟩:=rbS_ok (keep:=[]) (ids:=its.map (·.1)) h0 h1 ss P hp (hS k hk)
   have hmn:Mem E (C.at ρ Z w) ρ2 Z' w' (new.items++(without its (its.map (·.1))++[])) new.nx:=hrel.mem
   rw [hwo,List.append_nil,List.append_nil] at hmn
   refine ⟨ρ2,Z',ansOf E n new,new.items,new.nx,hmn.sep,hmn.fr,hmn.ge,hmn.zge,hmn.zle,u3 f' new ρ2 hf1 (fun i hi=>?_),hG ha1⟩
   have:=hrel.slot i
   exact this
 . exact hp.elim
end
end Go.Rx
end
section
namespace Go.Rx
open Go Go.Wk Go.Wl
section
variable {N:Uni} {T:ErrT} {ρ:Env1} {Z:Nat->Prop} {w:World} {P:Program} {G:Glob} {K nx:Nat} {c:CR N}
theorem ConOK.weak {a b:List (SV N)} (h:ConOK P N T G K b nx c) (hw:∀ ρ Z w v,Rep N T ρ Z w v (.tup a)->Rep N T ρ Z w v (.tup b)):ConOK P N T G K a nx c :=
 ⟨fun ρ Z w vs h1 h2 h3 h4=>h.run ρ Z w vs h1 h2 h3 (hw ρ Z w _ h4)⟩
end
end Go.Rx
end
section
namespace Go.Rx
open Go Go.Wk Go.Wl
def vTc (N:Uni):List TK->Type
 | []=>Unit
 | .v k::r=>k.den N×vTc N r
 | .to _::r=>vTc N r
 | .nilp::r=>vTc N r
def vTp (N:Uni):List TP->Type
 | []=>Unit
 | .own _ _ ks::r=>vTc N ks×vTp N r
 | .ob _ k::r=>N.O k×vTp N r
def vC (N:Uni):List LV->Type
 | []=>Unit
 | .slot _ k::r=>k.den N×vC N r
 | .tree _ ps::r=>vTp N ps×vC N r
 | _::_=>Unit
def appTc {N:Uni} {α:Type}:(ks:List TK)->tcD N α ks->vTc N ks->α
 | [],f,_=>f
 | .v _::r,f,X=>appTc r (f X.1) X.2
 | .to _::r,f,X=>appTc r f X
 | .nilp::r,f,X=>appTc r f X
def appTp {N:Uni} {α:Type}:(ps:List TP)->tpD N α ps->vTp N ps->α
 | [],f,_=>f
 | .own _ _ ks::r,f,X=>appTp r (appTc ks f X.1) X.2
 | .ob _ _::r,f,X=>appTp r (f X.1) X.2
def appC {N:Uni} {α:Type} (d:α):(vs:List LV)->Cur N α vs->vC N vs->α
 | [],f,_=>f
 | .slot _ _::r,f,X=>appC d r (f X.1) X.2
 | .tree _ ps::r,f,X=>appC d r (appTp ps f X.1) X.2
 | _::_,_,_=>d
def eqTc {N:Uni} {γ:Type}:(ks:List TK)->vTc N ks->List Prop->(List Prop->γ)->tcD N γ ks
 | [],_,ps,K=>K ps
 | .v _::r,X,ps,K=>fun y=>eqTc r X.2 (ps++[y=X.1]) K
 | .to _::r,X,ps,K=>eqTc r X ps K
 | .nilp::r,X,ps,K=>eqTc r X ps K
def eqTp {N:Uni} {γ:Type}:(ps:List TP)->vTp N ps->List Prop->(List Prop->γ)->tpD N γ ps
 | [],_,qs,K=>K qs
 | .own _ _ ks::r,X,qs,K=>eqTc ks X.1 qs (fun qs=>eqTp r X.2 qs K)
 | .ob _ _::r,X,qs,K=>fun y=>eqTp r X.2 (qs++[y=X.1]) K
def eqC {N:Uni}:(vs:List LV)->vC N vs->List Prop->Cur N Prop vs
 | [],_,ps=>cjl ps
 | .slot _ _::r,X,ps=>fun y=>eqC r X.2 (ps++[y=X.1])
 | .tree _ qs::r,X,ps=>eqTp qs X.1 ps (fun ps=>eqC r X.2 ps)
 | v::r,_,ps=>constC (cjl ps) (v::r)
def putTc (E:Env) (nm:List Nat):(ks:List TK)->Nat->Items E.N->List E.SV->vTc E.N ks->Nat×Items E.N×List E.SV
 | [],nx,its,acc,_=>(nx,its,acc)
 | .v k::r,nx,its,acc,X=>putTc E nm r (fl1 E nx k X.1).2.2 ((fl1 E nx k X.1).2.1++its) (acc++[(fl1 E nx k X.1).1]) X.2
 | .to j::r,nx,its,acc,X=>putTc E nm r nx its (acc++[.ref (nm.getD j 0) 0]) X
 | .nilp::r,nx,its,acc,X=>putTc E nm r nx its (acc++[.con (.pointer none)]) X
def putTp (E:Env) (nm:List Nat):(ps:List TP)->Nat->Nat->Items E.N->vTp E.N ps->Nat×Items E.N
 | [],_,nx,its,_=>(nx,its)
 | .own _ T ks::r,i,nx,its,X=>putTp E nm r (i+1) (putTc E nm ks nx its [] X.1).1 ((nm.getD i 0,.own T (putTc E nm ks nx its [] X.1).2.2)::(putTc E nm ks nx its [] X.1).2.1) X.2
 | .ob _ k::r,i,nx,its,X=>putTp E nm r (i+1) (nx+1) ((nm.getD i 0,.ob k nx X.1)::its) X.2
def putC (E:Env) (fx:Slots E.N) (st:E.St):(vs:List LV)->vC E.N vs->E.St->E.St
 | [],_,new=>new
 | .slot s k::r,X,new=>putC E fx st r X.2 ⟨(s,(fl1 E new.nx k X.1).1)::new.slots,[],(fl1 E new.nx k X.1).2.1++new.items,(fl1 E new.nx k X.1).2.2⟩
 | .tree ss ps::r,X,new=>putC E fx st r X.2 ⟨(ss.map fun p=>(p.1,.ref ((tnm new.nx 0 (refT fx st ps)).getD p.2 0) 0))++new.slots,[],(putTp E (tnm new.nx 0 (refT fx st ps)) ps 0 (new.nx+ps.length) new.items X.1).2,(putTp E (tnm new.nx 0 (refT fx st ps)) ps 0 (new.nx+ps.length) new.items X.1).1⟩
 | _::_,_,new=>new
section
variable {E:Env} {fx:Slots E.N} {st:E.St}
theorem allTc_of {nm:List Nat} {α:Type} {G:α->Nat->Items E.N->List E.SV->Prop}:∀ (ks:List TK) (f:tcD E.N α ks) (nx:Nat) (its:Items E.N) (acc:List E.SV),(∀ Y,G (appTc ks f Y) (putTc E nm ks nx its acc Y).1 (putTc E nm ks nx its acc Y).2.1 (putTc E nm ks nx its acc Y).2.2)->allTc E nm ks nx its acc f G
 | [],f,nx,its,acc,h=>h ()
 | .v k::r,f,nx,its,acc,h=>fun x=>allTc_of r (f x) _ _ _ fun Y=>h (x,Y)
 | .to j::r,f,nx,its,acc,h=>allTc_of r f _ _ _ h
 | .nilp::r,f,nx,its,acc,h=>allTc_of r f _ _ _ h
theorem allTp_of {nm:List Nat} {α:Type} {G:α->Nat->Items E.N->Prop}:∀ (ps:List TP) (f:tpD E.N α ps) (i nx:Nat) (its:Items E.N),(∀ Y,G (appTp ps f Y) (putTp E nm ps i nx its Y).1 (putTp E nm ps i nx its Y).2)->allTp E nm ps i nx its f G
 | [],f,i,nx,its,h=>h ()
 | .own _ T ks::r,f,i,nx,its,h=>allTc_of ks f nx its [] fun Y=>allTp_of r _ _ _ _ fun Z=>h (Y,Z)
 | .ob _ k::r,f,i,nx,its,h=>fun x=>allTp_of r (f x) _ _ _ fun Z=>h (x,Z)
theorem allC_of {α:Type} {d:α} {G:α->E.St->Prop}:∀ (vs:List LV) (f:Cur E.N α vs) (new:E.St),okSh vs=true->(∀ Y,G (appC d vs f Y) (putC E fx st vs Y new))->allC E fx st vs f new G
 | [],f,new,_,h=>h ()
 | .slot s k::r,f,new,ho,h=>fun x=>allC_of r (f x) _ ho fun Y=>h (x,Y)
 | .tree ss ps::r,f,new,ho,h=>allTp_of ps f 0 _ _ fun Y=>allC_of r _ _ ho fun Z=>h (Y,Z)
 | .own _ _::_,_,_,ho,_=>by cases ho
 | .ob _ _::_,_,_,ho,_=>by cases ho
 | .cont _ _::_,_,_,ho,_=>by cases ho
 | .chain _ _ _ _::_,_,_,ho,_=>by cases ho
 | .rows _ _ _ _::_,_,_,ho,_=>by cases ho
 | .alt::_,_,_,ho,_=>by cases ho
 | .unr _::_,_,_,ho,_=>by cases ho
end
section
variable {N:Uni}
theorem zipTc_app {α β γ:Type} {g:α->β->γ}:∀ (ks:List TK) (a:tcD N α ks) (b:tcD N β ks) (Y:vTc N ks),appTc ks (zipTc g ks a b) Y=g (appTc ks a Y) (appTc ks b Y)
 | [],_,_,_=>rfl
 | .v k::r,a,b,Y=>zipTc_app r (a Y.1) (b Y.1) Y.2
 | .to _::r,a,b,Y=>zipTc_app r a b Y
 | .nilp::r,a,b,Y=>zipTc_app r a b Y
theorem zipTp_app {α β γ:Type} {g:α->β->γ}:∀ (ps:List TP) (a:tpD N α ps) (b:tpD N β ps) (Y:vTp N ps),appTp ps (zipTp g ps a b) Y=g (appTp ps a Y) (appTp ps b Y)
 | [],_,_,_=>rfl
 | .own _ _ ks::r,a,b,Y =>
  have e:=zipTc_app (g:=zipTp g r) ks (show tcD N (tpD N α r) ks from a) (show tcD N (tpD N β r) ks from b) Y.1
  (congrArg (fun z=>appTp r z Y.2) e).trans (zipTp_app r _ _ Y.2)
 | .ob _ _::r,a,b,Y=>zipTp_app r (a Y.1) (b Y.1) Y.2
theorem zipC_app {α β:Type} {d:α} {e:β}:∀ (vs:List LV) (a:Cur N α vs) (b:Cur N β vs) (Y:vC N vs),okSh vs=true->appC (d,e) vs (zipC vs a b) Y=(appC d vs a Y,appC e vs b Y)
 | [],_,_,_,_=>rfl
 | .slot s k::r,a,b,Y,ho=>zipC_app r (a Y.1) (b Y.1) Y.2 ho
 | .tree ss ps::r,a,b,Y,ho =>
  have h:=zipTp_app (g:=zipC r) ps (show tpD N (Cur N α r) ps from a) (show tpD N (Cur N β r) ps from b) Y.1
  (congrArg (fun z=>appC (d,e) r z Y.2) h).trans (zipC_app r _ _ Y.2 ho)
 | .own _ _::_,_,_,_,ho=>by cases ho
 | .ob _ _::_,_,_,_,ho=>by cases ho
 | .cont _ _::_,_,_,_,ho=>by cases ho
 | .chain _ _ _ _::_,_,_,_,ho=>by cases ho
 | .rows _ _ _ _::_,_,_,_,ho=>by cases ho
 | .alt::_,_,_,_,ho=>by cases ho
 | .unr _::_,_,_,_,ho=>by cases ho
theorem cjl_mem:∀ {l:List Prop},cjl l->∀ p∈l,p
 | [],_,p,hp=>by cases hp
 | [q],h,p,hp=>by rw [List.mem_singleton.1 hp]; exact h
 | q::r::l,h,p,hp=>by
  rcases List.mem_cons.1 hp with e | hp
  . rw [e]; exact h.1
  . exact cjl_mem h.2 p hp
theorem eqTc_app {γ:Type}:∀ (ks:List TK) (X Y:vTc N ks) (ps:List Prop) (K:List Prop->γ),∃ l:List Prop,appTc ks (eqTc ks X ps K) Y=K (ps++l)/\((∀ p∈l,p)->Y=X)
 | [],_,_,ps,K=>⟨[],by rw [List.append_nil]; rfl,fun _=>rfl⟩
 | .v k::r,X,Y,ps,K=>by
  obtain ⟨l,h1,h2⟩:=eqTc_app r X.2 Y.2 (ps++[Y.1=X.1]) K
  exact ⟨(Y.1=X.1)::l,by rw [List.append_cons]; exact h1,fun h=>Prod.ext (h _ (List.mem_cons_self ..)) (h2 fun p hp=>h p (List.mem_cons_of_mem _ hp))⟩
 | .to _::r,X,Y,ps,K=>eqTc_app r X Y ps K
 | .nilp::r,X,Y,ps,K=>eqTc_app r X Y ps K
theorem eqTp_app {γ:Type}:∀ (qs:List TP) (X Y:vTp N qs) (ps:List Prop) (K:List Prop->γ),∃ l:List Prop,appTp qs (eqTp qs X ps K) Y=K (ps++l)/\((∀ p∈l,p)->Y=X)
 | [],_,_,ps,K=>⟨[],by rw [List.append_nil]; rfl,fun _=>rfl⟩
 | .own _ _ ks::r,X,Y,ps,K=>by
  obtain ⟨l1,h1,h2⟩:=eqTc_app ks X.1 Y.1 ps (fun ps=>eqTp r X.2 ps K)
  obtain ⟨l2,h3,h4⟩:=eqTp_app r X.2 Y.2 (ps++l1) K
  refine ⟨l1++l2,?_,fun h=>Prod.ext (h2 fun p hp=>h p (List.mem_append_left _ hp)) (h4 fun p hp=>h p (List.mem_append_right _ hp))⟩
  show appTp r (appTc ks (eqTc ks X.1 ps (fun ps=>eqTp r X.2 ps K)) Y.1) Y.2=_
  rw [h1,<- List.append_assoc]; exact h3
 | .ob _ _::r,X,Y,ps,K=>by
  obtain ⟨l,h1,h2⟩:=eqTp_app r X.2 Y.2 (ps++[Y.1=X.1]) K
  exact ⟨(Y.1=X.1)::l,by rw [List.append_cons]; exact h1,fun h=>Prod.ext (h _ (List.mem_cons_self ..)) (h2 fun p hp=>h p (List.mem_cons_of_mem _ hp))⟩
theorem eqC_app:∀ (vs:List LV) (X Y:vC N vs) (ps:List Prop),okSh vs=true->∃ l:List Prop,appC False vs (eqC vs X ps) Y=cjl (ps++l)/\((∀ p∈l,p)->Y=X)
 | [],_,_,ps,_=>⟨[],by rw [List.append_nil]; rfl,fun _=>rfl⟩
 | .slot s k::r,X,Y,ps,ho=>by
  obtain ⟨l,h1,h2⟩:=eqC_app r X.2 Y.2 (ps++[Y.1=X.1]) ho
  exact ⟨(Y.1=X.1)::l,by rw [List.append_cons]; exact h1,fun h=>Prod.ext (h _ (List.mem_cons_self ..)) (h2 fun p hp=>h p (List.mem_cons_of_mem _ hp))⟩
 | .tree ss qs::r,X,Y,ps,ho=>by
  obtain ⟨l1,h1,h2⟩:=eqTp_app qs X.1 Y.1 ps (fun ps=>eqC r X.2 ps)
  obtain ⟨l2,h3,h4⟩:=eqC_app r X.2 Y.2 (ps++l1) ho
  refine ⟨l1++l2,?_,fun h=>Prod.ext (h2 fun p hp=>h p (List.mem_append_left _ hp)) (h4 fun p hp=>h p (List.mem_append_right _ hp))⟩
  show appC False r (appTp qs (eqTp qs X.1 ps (fun ps=>eqC r X.2 ps)) Y.1) Y.2=_
  rw [h1,<- List.append_assoc]; exact h3
 | .own _ _::_,_,_,_,ho=>by cases ho
 | .ob _ _::_,_,_,_,ho=>by cases ho
 | .cont _ _::_,_,_,_,ho=>by cases ho
 | .chain _ _ _ _::_,_,_,_,ho=>by cases ho
 | .rows _ _ _ _::_,_,_,_,ho=>by cases ho
 | .alt::_,_,_,_,ho=>by cases ho
 | .unr _::_,_,_,_,ho=>by cases ho
end
section
variable {E:Env} {fx:Slots E.N} {st:E.St}
theorem allC_eq {vs:List LV} {X:vC E.N vs} {ps:List Prop} {m:Cur E.N Nat vs} {new:E.St} {K:E.St->Prop} (ho:okSh vs=true) (h:cjl ps->K (putC E fx st vs X new)):allC E fx st vs (zipC vs (eqC vs X ps) m) new (fun im new'=>im.1->K new') :=
 allC_of (d:=(False,0)) vs _ new ho fun Y=>by
  rw [zipC_app _ _ _ _ ho]
  intro hc
  obtain ⟨l,e,hl⟩:=eqC_app vs X Y ps ho
  have hc:appC False vs (eqC vs X ps) Y:=hc
  rw [e] at hc
  obtain ⟨h1,h2⟩:=cjl_app hc
  have:=hl (cjl_mem h2)
  subst this
  exact h h1
def RS (N:Uni):List (List LV)->Type
 | []=>Unit
 | vs::r=>(List Prop×vC N vs)×RS N r
def shP {N:Uni}:(ss:List (List LV))->RS N ss->ShP N ss
 | [],_=>()
 | vs::r,R=>((eqC vs R.1.2 R.1.1,constC 0 vs),shP r R.2)
def stC (E:Env) (its:Items E.N) (nx:Nat) (vs:List LV) (X:vC E.N vs):E.St:=putC E [] (st0 E its nx) vs X ⟨[],[],[],nx⟩
def outS (E:Env) (its:Items E.N) (nx n:Nat):(ss:List (List LV))->RS E.N ss->PT E.N
 | [],_,_=>True
 | [vs],R,k=>cjl R.1.1->k (ansOf E n (stC E its nx vs R.1.2)) (stC E its nx vs R.1.2).items (stC E its nx vs R.1.2).nx
 | vs::v2::r,R,k=>(cjl R.1.1->k (ansOf E n (stC E its nx vs R.1.2)) (stC E its nx vs R.1.2).items (stC E its nx vs R.1.2).nx)/\outS E its nx n (v2::r) R.2 k
theorem outS_cons {its:Items E.N} {nx n:Nat} {vs:List LV}:∀ {r:List (List LV)} {R:RS E.N (vs::r)} {k:E.SV->Items E.N->Nat->Prop},outS E its nx n (vs::r) R k->(cjl R.1.1->k (ansOf E n (stC E its nx vs R.1.2)) (stC E its nx vs R.1.2).items (stC E its nx vs R.1.2).nx)/\outS E its nx n r R.2 k
 | [],_,_,h=>⟨h,trivial⟩
 | _::_,_,_,h=>h
theorem allS_out {its:Items E.N} {nx n:Nat} {k:E.SV->Items E.N->Nat->Prop}:∀ (ss:List (List LV)) (R:RS E.N ss),ss.all okSh=true->outS E its nx n ss R k->allS E [] (st0 E its nx) ss (shP ss R) (fun im new=>im.1->k (ansOf E n new) new.items new.nx)
 | [],_,_,_=>trivial
 | vs::r,R,ho,h=>by
  simp only [List.all_cons,Bool.and_eq_true] at ho
  obtain ⟨h1,h2⟩:=outS_cons h
  exact ⟨allC_eq ho.1 fun hp=>h1 hp,allS_out r R.2 ho.2 h2⟩
def frOf (E:Env) (obs:List Prop) (its:Items E.N) (nx n:Nat) (vs:List LV) (X:vC E.N vs):FR E.N:=⟨obs,[],ansOf E n (stC E its nx vs X),(stC E its nx vs X).items,(stC E its nx vs X).nx⟩
variable {inl:Inl E}
theorem fc_ok (hE:EnvOK E) (hI:InlOK E inl) {K n:Nat} {fn:Func} {an:Ann} (hf:E.P.funcs[K]?=some fn) (hn:Nat.ble n 200=true) {args:List E.SV} {its:Items E.N} {nx:Nat} {vs:List LV} {X:vC E.N vs} {obs:List Prop} (ho:okSh vs=true)
  (hv:vcFun inl an fn args its [] nx (endG E its nx n [vs] (shP [vs] (([],X),())))):GenOK E.P E.N E.T E.G K args its nx (fun k=>allP (frOf E obs its nx n vs X).hy->k (frOf E obs its nx n vs X).v (frOf E obs its nx n vs X).its (frOf E obs its nx n vs X).n) :=
 gen_ok hE hI hf hn hv fun k hk=>allS_out [vs] (([],X),()) (by simp [ho]) fun _=>hk trivial
theorem gs_ok (hE:EnvOK E) (hI:InlOK E inl) {K n:Nat} {fn:Func} {an:Ann} (hf:E.P.funcs[K]?=some fn) (hn:Nat.ble n 200=true) {args:List E.SV} {its:Items E.N} {nx:Nat} {ss:List (List LV)} {R:RS E.N ss} {obs:List Prop} (ho:ss.all okSh=true)
  (hv:allP obs->vcFun inl an fn args its [] nx (endG E its nx n ss (shP ss R))):GenOK E.P E.N E.T E.G K args its nx (fun k=>cj obs (outS E its nx n ss R k)) :=
 fun k hk=>by
  obtain ⟨h1,h2⟩:=cj_ob hk
  exact gen_ok hE hI hf hn (hv h1) (S:=fun k=>outS E its nx n ss R k) (fun k hk=>allS_out ss R ho hk) k h2
structure GD (N:Uni) where
 fz:List Nat
 ss:List (List LV)
 C:GC N
def inlH (E:Env) (M:Nat->Option (GD E.N)) (inl:Inl E):Inl E:=fun K args its lkd nx k=>match M K with
 | none=>inl K args its lkd nx k
 | some o=>(match fcArgs (E:=E) ⟨o.fz,o.ss,fun _ _=>none⟩ args its nx with
  | none=>inl K args its lkd nx k
  | some (a,i,m)=>bif (E.inl K).isSome && distinct (reach i 60 (a.flatMap ids1) []) then
   (match renL1 (posO (namesOf i (reach i 60 (a.flatMap ids1) [])) 0) a,selI i (posO (namesOf i (reach i 60 (a.flatMap ids1) [])) 0) 0 (reach i 60 (a.flatMap ids1) []) with
   | some a',some i'=>(match o.C a' i' with
    | some S=>S (fun s it n=>match ren2 (back1 (namesOf i (reach i 60 (a.flatMap ids1) [])) m) s,renIs (back1 (namesOf i (reach i 60 (a.flatMap ids1) [])) m) it with
     | some s',some it'=>k s' (it'++without i (reach i 60 (a.flatMap ids1) [])) (m+(n-(namesOf i (reach i 60 (a.flatMap ids1) [])).length))
     | _,_=>False)
    | none=>inl K args its lkd nx k)
   | _,_=>False) else False)
theorem inlH_ok {M:Nat->Option (GD E.N)} (hM:∀ K o args its S,M K=some o->o.C args its=some S->GenOK E.P E.N E.T E.G K args its (2 * its.length) S) (hI:InlOK E inl):InlOK E (inlH E M inl):=by
 intro K args its lkd nx k hv
 unfold inlH at hv
 split at hv
 . exact hI K args its lkd nx k hv
 . rename_i o hC
   split at hv
   . exact hI K args its lkd nx k hv
   . rename_i a i m hA
     cases hb:((E.inl K).isSome && distinct (reach i 60 (a.flatMap ids1) [])) with
     | false=>rw [hb,cond_false] at hv; exact hv.elim
     | true =>
      rw [hb,cond_true] at hv
      simp only [Bool.and_eq_true] at hb
      obtain ⟨hin,hd⟩:=hb
      refine ⟨hin,fun C ρ Z w vs hm hg ha0=>?_⟩
      obtain ⟨ρ1,Z1,m1,t1,a1⟩:=fcArgs_ok hg hm hA ha0
      split at hv
      . rename_i a' i' ha hi
        split at hv
        . rename_i S hS
          exact (gen_run hd ha hi (hM K o a' i' S hC hS) hv m1 (Glob.turn hg t1) a1).mono fun v w' ⟨ρ',Z',s,its',nx',q1,q2,q3,q4⟩=>⟨ρ',Z',s,its',nx',q1,t1.trans q2,q3,q4⟩
        . exact (hI K args its lkd nx k hv).2 C ρ Z w vs hm hg ha0
      . exact hv.elim
def inlHN (E:Env) (H:Nat->Option (GD E.N)) (an:Nat->Ann):Nat->Inl E
 | 0=>inlH E H (fun _ _ _ _ _ _=>False)
 | n+1=>inlH E H (fun K args its lkd nx k=>match E.inl K with | some fn=>vcFun (inlHN E H an n) (an K) fn args its lkd nx k | none=>False)
theorem inlHN_ok (hE:EnvOK E) {H:Nat->Option (GD E.N)} (hH:∀ K o args its S,H K=some o->o.C args its=some S->GenOK E.P E.N E.T E.G K args its (2 * its.length) S) (an:Nat->Ann):∀ m,InlOK E (inlHN E H an m)
 | 0=>inlH_ok hH fun _ _ _ _ _ _ h=>h.elim
 | m+1=>inlH_ok hH fun K args its lkd nx k h=>by
  have h:(match E.inl K with | some fn=>vcFun (inlHN E H an m) (an K) fn args its lkd nx k | none=>False):=h
  split at h
  . rename_i fn hf
    exact ⟨by rw [hf]; rfl,fun C ρ Z w vs hm hg ha=>vcFun_ok hE (inlHN_ok hE hH an m) (hE.inl K fn hf) h hm hg ha⟩
  . exact h.elim
def noH {N:Uni}:Nat->Option (GD N):=fun _=>none
theorem noH_ok {P:Program} {N:Uni} {T:ErrT} {G:Glob}:∀ K o args its S,(noH:Nat->Option (GD N)) K=some o->o.C args its=some S->GenOK P N T G K args its (2 * its.length) S:=fun _ _ _ _ _ h=>by cases h
theorem addH_ok {P:Program} {N:Uni} {T:ErrT} {G:Glob} {M:Nat->Option (GD N)} {K:Nat} {o:GD N} (h:∀ args its S,o.C args its=some S->GenOK P N T G K args its (2 * its.length) S) (hM:∀ K o args its S,M K=some o->o.C args its=some S->GenOK P N T G K args its (2 * its.length) S):∀ K' o' args its S,addF K o M K'=some o'->o'.C args its=some S->GenOK P N T G K' args its (2 * its.length) S:=fun K' o' args its S e hr=>by
 rcases addF_inv e with ⟨e1,e2⟩ | e
 . subst e1; subst e2; exact h args its S hr
 . exact hM K' o' args its S e hr
theorem gen_quiet {P:Program} {N:Uni} {T:ErrT} {G:Glob} {K nx nx':Nat} {args:List (SV N)} {its new:Items N} {s:SV N}
  (h:∀ (ρ:Env1) (Z:Nat->Prop) (w:World) (vs:List Value),(∀ i,nx<=i->ρ i=none)->(∀ b,Z b->b<w.heap.size)->G.is Z w->Rep N T ρ Z w (.tuple vs.toArray) (.tup args)->(∀ p∈its,Go.Rx.holds N T ρ p.1 Z w p.2/\∀ b∈foot N ρ p.1 p.2,¬ Z b) ->
   CallR P K vs w (fun v w'=>∃ (ρ':Env1) (Z':Nat->Prop),(∀ i L,ρ i=some L->ρ' i=some L)/\(∀ i,nx'<=i->ρ' i=none)/\(∀ b,Z b->Z' b)/\(∀ b,Z' b->Z b ∨ w.heap.size<=b)/\Sep [] w Z' w' (toIts N T ρ' [] new)/\Rep N T ρ' Z' w' v s)) :
  GenOK P N T G K args its nx (fun k=>True->k s (new++its) nx'):=by
 intro k hk ρ Z w vs B hfr hsep hg ha
 refine (h ρ Z w vs hfr hsep.zlt hg ha fun p hp=>?_).mono fun v w' ⟨ρ',Z',h1,h2,h3,h4,h5,h6⟩=>?_
 . obtain ⟨j,hj⟩:=List.getElem?_of_mem hp
   have hj':(toIts N T ρ B its)[j]?=some (toIt N T ρ B p.1 p.2):=by simp [toIts,hj]
   have ok:=hsep.ok j _ hj'
   exact ⟨ok.holds,fun b hb=>ok.notZ b hb⟩
 . let E0:Env:=⟨P,N,T,fun _=>none,fun _=>none,fun _=>none,fun _=>false,fun _=>none,fun _=>none,G,fun _=>none,fun _=>false,fun _=>none,fun _=>none⟩
   have hm:Mem E0 ⟨ρ,Z,w,B,w⟩ ρ Z w its nx:=⟨hsep,hfr,fun _ _ h=>h,fun _ h=>h,fun _ h=>.inl h⟩
   have ⟨m,t⟩:=hm.join (E:=E0) h1 h2 h3 h4 h5
   exact ⟨ρ',Z',s,new++its,nx',m.sep,m.fr,h1,h3,fun b hb=>(h4 b hb).imp id .inr,h6,hk trivial⟩
theorem gen_turn {P:Program} {N:Uni} {T:ErrT} {G:Glob} {K k:Nat} {rest:List (SV N)} {x x':N.O k} {s:SV N} (hp:rest.all pureS=true)
  (h:∀ (Z:Nat->Prop) (w:World) (vs:List Value) (b:Nat) (F:List Nat),(∀ b,Z b->b<w.heap.size)->(∀ b∈F,¬ Z b)->((N.oj k).ob b).is Z w x F->G.is Z w->Rep N T (fun _=>none) Z w (.tuple vs.toArray) (.tup rest) ->
   CallR P K (.pointer (some ⟨b,0,none⟩)::vs) w (fun v w'=>∃ F',((N.oj k).ob b).is Z w' x' F'/\Turn w w' F F'/\Rep N T (fun _=>none) (fun _=>False) w' v s)) :
  GenOK P N T G K (.ref 0 0::rest) [(0,.ob k 1 x)] 2 (fun k'=>True->k' s [(0,.ob k 2 x')] 3):=by
 intro kk hk ρ Z w vs B hfr hsep hg ha
 let E0:Env:=⟨P,N,T,fun _=>none,fun _=>none,fun _=>none,fun _=>false,fun _=>none,fun _=>none,G,fun _=>none,fun _=>false,fun _=>none,fun _=>none⟩
 have ok:=hsep.ok 0 (toIt N T ρ B 0 (.ob k 1 x)) rfl
 obtain ⟨L,Lf,hL,hLf,hob⟩:=ok.holds
 have hF:(toIt N T ρ B 0 (.ob k 1 x)).F=Lf.bs:=by show foot N ρ 0 (.ob k 1 x)=_; exact foot_ob hLf
 obtain ⟨v1,vr,hvs,hv1,hvr⟩:=Rep.tup_cons ha
 have hv1':v1=.pointer (some ⟨L.b,0,none⟩):=by
  cases hv1 with | ref hL'=>rw [hL] at hL'; cases hL'; rfl
 subst hv1'
 rw [hvs]
 have hnz:∀ b∈Lf.bs,¬ Z b:=fun b hb=>ok.notZ b (by rw [hF]; exact hb)
 refine (h Z w vr L.b Lf.bs hsep.zlt hnz hob hg (pureT_rep (E:=E0) hp hvr _)).mono fun v w' ⟨F',hob',⟨x1,hF'⟩,hrep⟩=>?_
 have lt':=((N.oj k).ob L.b).lt hob'
 have hρ:=rset_sub (L:=⟨0,none,0,0,F'⟩) (hfr 2 (Nat.le_refl _))
 have hs1:=Wl.Sep.upd hsep 0 (t:=toIt N T ρ B 0 (.ob k 1 x)) (t':=toIt N T (rset ρ 2 ⟨0,none,0,0,F'⟩) B 0 (.ob k 2 x')) rfl (by rw [hF]; exact x1) ⟨L,_,hρ _ _ hL,rset_self,hob'⟩ toIt_stab (fun b hb=>by
  have hb:b∈foot N (rset ρ 2 ⟨0,none,0,0,F'⟩) 0 (.ob k 2 x'):=hb
  rw [foot_ob rset_self] at hb
  exact ⟨by rw [hF]; exact hF' b hb,lt' b hb⟩) rfl
 exact ⟨rset ρ 2 ⟨0,none,0,0,F'⟩,Z,s,[(0,.ob k 2 x')],3,hs1,fun i hi=>by unfold rset; rw [if_neg (by omega)]; exact hfr i (by omega),hρ,fun _ h=>h,fun _ h=>.inl h,Rep.bare (E:=E0) hrep,hk trivial⟩
end
end Go.Rx
end
section
namespace Go.Wa
open Go Go.Wk Go.Wl Go.Rx
def leN:Str->Int
 | []=>0
 | c::r=>c.toNat+256 * leN r
def getS (b:Str):Int:=IntKind.i64.wrap (leN b)
theorem leN_nn:∀ (b:Str),0<=leN b
 | []=>Int.le_refl _
 | c::r=>by have:=leN_nn r; unfold leN; omega
theorem leN_lt:∀ (b:Str),leN b<256 ^ b.length
 | []=>by show (0:Int)<1; decide
 | c::r=>by
  have h:=leN_lt r
  have hc:c.toNat<256:=c.toNat_lt
  have e:(256:Int) ^ (c::r).length=256 ^ r.length * 256:=by rw [List.length_cons,Int.pow_succ]
  unfold leN
  rw [e]; omega
theorem wrap_at (n:Int):IntKind.i64.wrap n=(n+9223372036854775808) % 18446744073709551616-9223372036854775808:=IntKind.wrap_i64 n
theorem drop_ix {α:Type} [Inhabited α] {l:List α} {i:Int} (h0:0<=i) (h1:i<l.length):l.drop i.toNat=ix l i::l.drop (i+1).toNat:=by
 have hl:i.toNat<l.length:=by omega
 rw [List.drop_eq_getElem_cons hl,ix_get hl]
 congr 2
 omega
theorem bv_int (z:Int):((BitVec.ofInt 64 z).toNat:Int)=z % 18446744073709551616:=by
 rw [BitVec.toNat_ofInt]
 omega
theorem get_step (x:Int) (c:UInt8):IntKind.i64.wrap ((BitVec.ofInt IntKind.i64.bits (IntKind.i64.wrap (x * 2 ^ min (Int.toNat 8) IntKind.i64.bits)) ||| BitVec.ofInt IntKind.i64.bits (c.toNat:Int)).toNat:Int)=IntKind.i64.wrap (c.toNat+256 * x):=by
 have hc:c.toNat<256:=c.toNat_lt
 have e8:(2:Int) ^ min (Int.toNat 8) IntKind.i64.bits=256:=by decide
 rw [e8]
 show IntKind.i64.wrap ((BitVec.ofInt 64 (IntKind.i64.wrap (x * 256)) ||| BitVec.ofInt 64 (c.toNat:Int)).toNat:Int)=_
 rw [BitVec.toNat_or]
 have h1:=bv_int (IntKind.i64.wrap (x * 256))
 have h2:=bv_int (c.toNat:Int)
 generalize (BitVec.ofInt 64 (IntKind.i64.wrap (x * 256))).toNat=a at h1 ⊢
 generalize (BitVec.ofInt 64 (c.toNat:Int)).toNat=d at h2 ⊢
 rw [wrap_at] at h1
 have hd:d=c.toNat:=by omega
 have ha:a % 256=0:=by omega
 have hq:a=2 ^ 8 * (a / 256):=by omega
 have hor:(a ||| d:Nat)=a+d:=by
  rw [hq,hd]
  exact (Nat.two_pow_add_eq_or_of_lt (by omega) _).symm
 rw [hor,wrap_at,wrap_at]
 omega
theorem getS_next {b:Str} {i:Int} (h0:0<=i) (h1:i<b.length):IntKind.i64.wrap ((ix b i).toNat+256 * getS (b.drop (i+1).toNat))=getS (b.drop i.toNat):=by
 rw [drop_ix h0 h1]
 unfold getS
 rw [show leN (ix b i::b.drop (i+1).toNat)=(ix b i).toNat+256 * leN (b.drop (i+1).toNat) from rfl]
 generalize leN (b.drop (i+1).toNat)=L
 rw [wrap_at,wrap_at,wrap_at]
 omega
def leB (x:Int):Nat->Str
 | 0=>[]
 | k+1=>UInt8.ofInt x::leB (x.fdiv 256) k
end Go.Wa
end
section
namespace Go.Proofs.Ytckpdliipjekgaa
open Go Go.Wk Go.Wl Go.Rx Go.Wa
structure Act where
 Kind:Int
 S:Str
 More:List Str
 N:Int
 Cut:Int
 Kept:List Int
 deriving Inhabited,DecidableEq
def dAct:Rd Act where
 sz:=6
 rd:=fun D w cs x=>∃ c0 c1 c2 c3 c4 c5,cs=c0++(c1++(c2++(c3++(c4++(c5)))))/\dInt.rd D w c0 x.Kind/\dStr.rd D w c1 x.S/\(dSlice dStr).rd D w c2 x.More/\dInt.rd D w c3 x.N/\dInt.rd D w c4 x.Cut/\(dSlice dInt).rd D w c5 x.Kept
 len:=fun ⟨c0,c1,c2,c3,c4,c5,e,h0,h1,h2,h3,h4,h5⟩=>by rw [e]; simp only [List.length_append,Rd.len _ h0,Rd.len _ h1,Rd.len _ h2,Rd.len _ h3,Rd.len _ h4,Rd.len _ h5]; rfl
 mono:=fun ⟨c0,c1,c2,c3,c4,c5,e,h0,h1,h2,h3,h4,h5⟩ a b c=>⟨c0,c1,c2,c3,c4,c5,e,Rd.mono _ h0 a b c,Rd.mono _ h1 a b c,Rd.mono _ h2 a b c,Rd.mono _ h3 a b c,Rd.mono _ h4 a b c,Rd.mono _ h5 a b c⟩
 plain:=fun ⟨c0,c1,c2,c3,c4,c5,e,h0,h1,h2,h3,h4,h5⟩=>by rw [e]; simp only [List.all_append,Rd.plain _ h0,Rd.plain _ h1,Rd.plain _ h2,Rd.plain _ h3,Rd.plain _ h4,Rd.plain _ h5]; rfl
def dNone:Rd Unit where
 sz:=0
 rd:=fun _ _ _ _=>False
 len:=fun h=>h.elim
 mono:=fun h _ _ _=>h
 plain:=fun h=>h.elim
def obNone (_:Nat):Ob Unit where
 is:=fun _ _ _ _=>False
 stab:=fun Z Z' B w w' h _ _ _=>h
 lt:=fun h=>h.elim
def U:Uni where
 tb:=fun | 3=>⟨Int,dInt,inferInstance⟩ | 5=>⟨UInt8,dByte,inferInstance⟩ | 9=>⟨Str,dStr,inferInstance⟩ | 22=>⟨List Int,(dSlice dInt),inferInstance⟩ | 29=>⟨List Str,(dSlice dStr),inferInstance⟩ | 46=>⟨Act,dAct,inferInstance⟩ | _=>⟨Unit,dNone,⟨()⟩⟩
 oj:=fun | 0=>⟨Dk,obDk⟩ | _=>⟨Unit,obNone⟩
def eT:ErrT:=⟨58,0,0,fun t=>bif Nat.beq t 115 then some 2 else none,fun t=>bif Nat.beq t 94 then some 96 else none⟩
theorem wp_inv {t S:Nat} (h:eT.wp t=some S):t=94/\S=96:=by
 have h:(bif Nat.beq t 94 then some 96 else none)=some S:=h
 cases hb:Nat.beq t 94 with
 | true=>rw [hb,cond_true] at h; cases h; exact ⟨Nat.eq_of_beq_eq_true hb,rfl⟩
 | false=>rw [hb,cond_false] at h; cases h
theorem wr_inv {t k:Nat} (h:eT.wr t=some k):(t=115/\k=2):=by
 have h:(bif Nat.beq t 115 then some 2 else none)=some k:=h
 cases hb0:Nat.beq t 115 with
 | true=>rw [hb0,cond_true] at h; cases h; exact ⟨Nat.eq_of_beq_eq_true hb0,rfl⟩
 | false =>
  rw [hb0,cond_false] at h
  cases h
def y3:TyI U eT 3 where
 sv:=fun (x:Int)=>.int .i64 x
 bk:=asI64
 sv_ok:=sv_int
 bk_ok:=bk_int
 hy:=fun (x:Int)=>[in64 x]
 hy_ok:=fun {_ _ _ x} h p hp=>by
  have h:dInt.rd _ _ _ x:=h
  simp only [List.mem_singleton] at hp; subst hp; exact h.2
def y5:TyI U eT 5 where
 sv:=fun (x:UInt8)=>.byte x
 bk:=asY
 sv_ok:=sv_byte
 bk_ok:=bk_byte
 by8:=some ⟨rfl⟩
def y9:TyI U eT 9 where
 sv:=fun (x:Str)=>.str x
 bk:=asS
 sv_ok:=sv_str
 bk_ok:=bk_str
def y22:TyI U eT 22 where
 sv:=fun (x:List Int)=>.sl 3 x
 bk:=fun s=>pb (asLN U 3) (leaves s)
 sv_ok:=sv_sl (N:=U) (t:=3)
 bk_ok:=pb_sl (N:=U) (t:=3)
def y29:TyI U eT 29 where
 sv:=fun (x:List Str)=>.sl 9 x
 bk:=fun s=>pb (asLN U 9) (leaves s)
 sv_ok:=sv_sl (N:=U) (t:=9)
 bk_ok:=pb_sl (N:=U) (t:=9)
def y46k (ls:List (SV U)):Option Act :=
 (pb asI64 (ls.take 1)).bind fun x0 =>
 (pb asS ((ls.drop 1).take 1)).bind fun x1 =>
 (pb (asLN U 9) (((ls.drop 1).drop 1).take 1)).bind fun x2 =>
 (pb asI64 ((((ls.drop 1).drop 1).drop 1).take 1)).bind fun x3 =>
 (pb asI64 (((((ls.drop 1).drop 1).drop 1).drop 1).take 1)).bind fun x4 =>
 (pb (asLN U 3) ((((((ls.drop 1).drop 1).drop 1).drop 1).drop 1))).bind fun x5 =>
 some ⟨x0,x1,x2,x3,x4,x5⟩
theorem y46r {ρ:Env1} {Z:Nat->Prop} {w:World} {cs:List Value} {ls:List (SV U)} {x:Act} (h:RepL U eT ρ Z w cs ls) (e:y46k ls=some x):dAct.rd Z w cs x:=by
 unfold y46k at e
 obtain ⟨x0,e0,e⟩:=Option.bind_eq_some_iff.1 e
 obtain ⟨x1,e1,e⟩:=Option.bind_eq_some_iff.1 e
 obtain ⟨x2,e2,e⟩:=Option.bind_eq_some_iff.1 e
 obtain ⟨x3,e3,e⟩:=Option.bind_eq_some_iff.1 e
 obtain ⟨x4,e4,e⟩:=Option.bind_eq_some_iff.1 e
 obtain ⟨x5,e5,e⟩:=Option.bind_eq_some_iff.1 e
 cases e
 have g1:=RepL.split 1 h
 have g2:=RepL.split 1 g1.2
 have g3:=RepL.split 1 g2.2
 have g4:=RepL.split 1 g3.2
 have g5:=RepL.split 1 g4.2
 exact ⟨(cs.take 1),((cs.drop 1).take 1),(((cs.drop 1).drop 1).take 1),((((cs.drop 1).drop 1).drop 1).take 1),(((((cs.drop 1).drop 1).drop 1).drop 1).take 1),(((((cs.drop 1).drop 1).drop 1).drop 1).drop 1),by simp only [List.take_append_drop],pb_int g1.1 e0,pb_str g2.1 e1,pb_sl (N:=U) (t:=9) g3.1 e2,pb_int g4.1 e3,pb_int g5.1 e4,pb_sl (N:=U) (t:=3) g5.2 e5⟩
def y46:TyI U eT 46 where
 sv:=fun (x:Act)=>.agg ([.int .i64 x.Kind]++([.str x.S]++([.sl 9 x.More]++([.int .i64 x.N]++([.int .i64 x.Cut]++([.sl 3 x.Kept]))))))
 bk:=fun s=>y46k (leaves s)
 sv_ok:=fun {ρ Z w cs x} h=>by
  obtain ⟨c0,c1,c2,c3,c4,c5,e,h0,h1,h2,h3,h4,h5⟩:=(show dAct.rd Z w cs x from h)
  subst e
  exact RepL.app (sv_int h0) (RepL.app (sv_str h1) (RepL.app (sv_sl (N:=U) (t:=9) h2) (RepL.app (sv_int h3) (RepL.app (sv_int h4) (sv_sl (N:=U) (t:=3) h5)))))
 bk_ok:=y46r
 hy:=fun (x:Act)=>[in64 x.Kind]++[in64 x.N]++[in64 x.Cut]
 hy_ok:=fun {Z w cs x} h p hp=>by
  obtain ⟨c0,c1,c2,c3,c4,c5,e,h0,h1,h2,h3,h4,h5⟩:=(show dAct.rd Z w cs x from h)
  rcases List.mem_append.1 hp with hp | hp
  . rcases List.mem_append.1 hp with hp | hp
    . · simp only [List.mem_singleton] at hp; subst hp; exact h0.2
    . simp only [List.mem_singleton] at hp; subst hp; exact h3.2
  . simp only [List.mem_singleton] at hp; subst hp; exact h4.2
def tyU:∀ t,Option (TyI U eT t)
 | 3=>some y3
 | 5=>some y5
 | 9=>some y9
 | 22=>some y22
 | 29=>some y29
 | 46=>some y46
 | _=>none
end Go.Proofs.Ytckpdliipjekgaa
end
