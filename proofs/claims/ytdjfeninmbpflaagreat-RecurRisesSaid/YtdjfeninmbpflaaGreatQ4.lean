/- 19 texts, one behind the other. -/
import Derived.Test.YtdjfeninmbpflaaGreatQ3
import Derived.Lib.FrozenHead
import Derived.Lib.UnsafeStr
import GoSem.Claim
import Derived.Test.YtdjfeninmbpflaaGreatChecked
set_option linter.unusedVariables false
set_option linter.unusedSimpArgs false
set_option maxRecDepth 100000
section
namespace Go.Rx
open Go Go.Wk Go.Wl
section
variable {E:Env} {C C':Ctx} {n:Nat} {l:List Oper} {ms:List Nat} {H:Hints} {f0:Fr} {st0:E.St} {fx:Slots E.N} {lkd lkd':Items E.N} {F a:DA E.N} {D:Nat->Bool} {V:Nat->Value} {w w':World} {ρ ρ':Env1} {Z Z':Nat->Prop} {i k m:Nat} {g:Fr} {its:Items E.N} {nx:Nat}
theorem eff_ok (hE:EnvOK E) {o:Oper} {e:Ent E.N} {ob:List Prop} {T:List Nat} {mm:Items E.N×Nat} (hf:dsFree fx l=true) (hq:dEff n fx lkd l ms st0 i o a T=some (ob,e,mm))
  (hob:im (dHy (bit ms i) 0 a.ents) (allP ob)) (hw:WA E l H i a) (hF:WA E l H m F) (hu:Up a F i) (he:F.ents[i]?=some e) (hei:F.effs[a.effs.length]?=some i) (hmm:F.mems[a.effs.length+1]?=some mm):OneJ E.P n l ms (JF E C fx lkd st0 f0 F) f0 i o:=by
 intro D V g w hJ hDi hdep hsucc hdone hkept
 obtain ⟨ρ,Z,k,hj⟩:=hJ
 have hob:=im_hy hob (hj.hys (fun j e h=>hu.ent h) hdep)
 obtain ⟨mk,hmk,hmem⟩:=hj.mem
 obtain ⟨dst,op,ty,pos,after,guard⟩:=o
 unfold dEff at hq
 split at hq
 . rename_i m0 hm0
   have h2:=bif_some hq
   clear hq
   obtain ⟨hb,hq⟩:=h2
   simp only [Bool.and_eq_true] at hb
   obtain ⟨hfr,hall⟩:=hb
   simp only at hfr hq
   split at hq
   case h_2=>cases hq
   rename_i gg ch hdg
   have hk:k=a.effs.length:=by
    rcases Nat.lt_trichotomy k a.effs.length with c | c | c
    . exfalso
      obtain ⟨e',he'⟩:∃ e',a.effs[k]?=some e':=⟨_,List.getElem?_eq_getElem c⟩
      rw [List.all_eq_true] at hall
      have:=(hj.eff k e' (hu.eff he')).1 (hdep e' (hall e' (List.mem_of_getElem? he')))
      omega
    . exact c
    . exfalso
      have:=(hj.eff _ i hei).2 c
      rw [hDi] at this; cases this
   subst hk
   have:=hu.mem hm0
   rw [this] at hmk; cases hmk
   split at hq
   . rename_i s hs
     have h2:=bif_some hq
     clear hq
     obtain ⟨_,hq⟩:=h2
     simp only [Option.some.injEq,Prod.mk.injEq] at hq
     obtain ⟨rfl,rfl,rfl⟩:=hq
     have hR:=hj.rel hf hw (fun j e h=>hu.ent h) hdep hdone hkept (C':=C.at ρ Z w) (its:=within mk.1 T) (lkd':=without mk.1 T++lkd) (nx:=mk.2) (hmem.down.perm (by rw [<- List.append_assoc]; exact (split_perm mk.1 T).append_right lkd)) (Tn.refl _ _ _) (Glob.turn hj.g hj.tn)
     have hgg:∃ hG:AllG g ch,allP s.ob/\∀ {Q:Exit->Fr->World->Prop},WL E.P false n l Q [⟨dst,op,ty,pos,after,none⟩] g w->WL E.P false n l Q [⟨dst,op,ty,pos,after,guard⟩] g w:=by
      unfold dG at hdg
      cases guard with
      | none =>
       simp only [Option.some.injEq,Prod.mk.injEq] at hdg
       obtain ⟨rfl,rfl⟩:=hdg
       exact ⟨AllG.nil,hob,fun h=>h⟩
      | some jb =>
       obtain ⟨j,b⟩:=jb
       simp only at hdg
       split at hdg
       . rename_i dj hdj
         have h3:=bif_some hdg
         clear hdg
         obtain ⟨hb3,hdg⟩:=h3
         simp only [Bool.and_eq_true] at hb3
         obtain ⟨⟨_,hnj⟩,_⟩:=hb3
         split at hdg
         . rename_i p dp hgp
           simp only [Option.some.injEq,Prod.mk.injEq] at hdg
           obtain ⟨rfl,rfl⟩:=hdg
           have hob2:p/\allP s.ob:=hob
           have e1:=(gprop_ok hR 8 dj b p dp hgp).1.1 hob2.1
           exact ⟨chain_ok hR 8 dj b e1,hob2.2,fun h=>WL_on hdj hnj e1 h⟩
         . cases hdg
       . cases hdg
     obtain ⟨hG,hob,hon⟩:=hgg
     refine hon (fEff_ok hE hR hG hfr hs hob fun v ρ' Z' w' hr hy=>WL_nil ⟨rfl,v,rfl,ρ',Z',a.effs.length+1,?_⟩)
     have t:Tn ρ Z w ρ' Z' w':=hr.tn
     have hM:=Mem.upC hmem hr.mem
     refine ⟨fun r e' hr'=>?_,⟨_,hmm,?_⟩,hj.tn.trans t,fun k s h=>t.rep (hj.sl k s h),fun p hp=>t.rep (hj.fx p hp),fun j e' hj' hD=>?_,hj.g⟩
     . rcases Nat.lt_trichotomy r a.effs.length with c | c | c
       . have h1:=hj.eff r e' hr'
         have hne:e'≠i:=fun e2=>by subst e2; have:=up_inj hF.up hr' hei; omega
         rw [setD_ne hne,h1]; omega
       . subst c
         rw [hei] at hr'; cases hr'
         rw [setD_self]; simp
       . have h1:=hj.eff r e' hr'
         have hne:e'≠i:=fun e2=>by subst e2; have:=up_inj hF.up hr' hei; omega
         rw [setD_ne hne,h1]; omega
     . rw [List.append_assoc]
       cases dst with
       | none=>exact hM
       | some d=>exact hM
     . by_cases e2:j=i
       . subst e2; rw [he] at hj'; cases hj'
         refine ⟨hy,?_⟩
         show Rep E.N E.T ρ' Z' w' (setV V j v j) _
         rw [setV_self]
         cases dst with
         | none=>exact .un
         | some d =>
          have:=hr.sl d s.v (by show lk ((d,s.v)::_) d=_; rw [lk_cons,if_pos rfl])
          rw [show putF g (some d) v d=v from upd_same] at this
          exact this
       . rw [setD_ne e2] at hD
         exact (hj.ent j e' hj' hD).turn t hDi hD
   . cases hq
 . cases hq
theorem WA.quiet {o:Oper} {e:Ent E.N} {ob:List Prop} (hw:WA E l H i a) (ho:l[i]?=some o) (hq:dQuiet n fx lkd l ms H st0 i o a=some (ob,e)):WA E l H (i+1) ⟨a.ents++[e],a.effs,a.mems⟩:=by
 have hent:o.dst=e.dst/\∀ jj dj b,e.g=some (jj,dj,b)->dstAt l jj=some dj:=by
  unfold dQuiet at hq
  split at hq
  . cases hq
  have h2:=bif_some hq
  clear hq
  obtain ⟨_,hq⟩:=h2
  split at hq
  . split at hq
    . rename_i q d hgop hd
      simp only [Option.some.injEq,Prod.mk.injEq] at hq
      obtain ⟨_,rfl⟩:=hq
      exact ⟨hd,fun jj dj b h=>by cases h⟩
    . cases hq
  . rename_i j b hg
    split at hq
    . rename_i dj hdj
      have h2:=bif_some hq
      clear hq
      obtain ⟨_,hq⟩:=h2
      split at hq
      . rename_i p q d hs
        simp only [Option.some.injEq,Prod.mk.injEq] at hq
        obtain ⟨_,rfl⟩:=hq
        refine ⟨?_,fun jj dj' b' h=>by cases h; exact hdj⟩
        unfold gSel at hs
        split at hs
        . rename_i hd
          have h2:=bif_none hs
          have hs:=h2.2
          simp only [Option.some.injEq,Prod.mk.injEq] at hs
          rw [hd,hs.2.2]
        . cases hs
      . cases hq
    . cases hq
 refine ⟨by simp [hw.len],fun j e' hj=>?_,fun e' h=>⟨by have:=(hw.eff e' h).1; omega,(hw.eff e' h).2⟩,hw.up,hw.mlen,hw.chain,hw.nx⟩
 have hl:=hw.len
 by_cases c:j<a.ents.length
 . have hj:(a.ents++[e])[j]?=some e':=hj
   rw [List.getElem?_append_left c] at hj; exact hw.ent j e' hj
 . have hj:(a.ents++[e])[j]?=some e':=hj
   rw [List.getElem?_append_right (by omega)] at hj
   have:j-a.ents.length=0:=by have:=lt_get hj; simp at this; omega
   rw [this] at hj; cases hj
   have:j=i:=by omega
   subst this
   exact ⟨by rw [dstAt_some ho]; exact hent.1,hent.2⟩
theorem WA.put {o:Oper} {e:Ent E.N} (hw:WA E l H i a) (ho:l[i]?=some o) (hent:o.dst=e.dst/\∀ jj dj b,e.g=some (jj,dj,b)->dstAt l jj=some dj):WA E l H (i+1) ⟨a.ents++[e],a.effs,a.mems⟩:=by
 refine ⟨by simp [hw.len],fun j e' hj=>?_,fun e' h=>⟨by have:=(hw.eff e' h).1; omega,(hw.eff e' h).2⟩,hw.up,hw.mlen,hw.chain,hw.nx⟩
 have hl:=hw.len
 by_cases c:j<a.ents.length
 . have hj:(a.ents++[e])[j]?=some e':=hj
   rw [List.getElem?_append_left c] at hj; exact hw.ent j e' hj
 . have hj:(a.ents++[e])[j]?=some e':=hj
   rw [List.getElem?_append_right (by omega)] at hj
   have:j-a.ents.length=0:=by have:=lt_get hj; simp at this; omega
   rw [this] at hj; cases hj
   have:j=i:=by omega
   subst this
   exact ⟨by rw [dstAt_some ho]; exact hent.1,hent.2⟩
theorem WA.dead {o:Oper} {e:Ent E.N} (hw:WA E l H i a) (ho:l[i]?=some o) (hq:dDead n l ms i o a=some e):WA E l H (i+1) ⟨a.ents++[e],a.effs,a.mems⟩:=by
 refine hw.put ho ?_
 unfold dDead at hq
 split at hq
 . rename_i j b d hg hd
   split at hq
   . have ⟨_,hq2⟩:=bif_some hq
     simp only [Option.some.injEq] at hq2
     subst hq2
     exact ⟨hd,fun jj dj b h=>by cases h⟩
   . cases hq
 . cases hq
theorem WA.effs {o:Oper} {e:Ent E.N} {ob:List Prop} {T:List Nat} {mm:Items E.N×Nat} (hw:WA E l H i a) (ho:l[i]?=some o) (hH:lk H i=some T) (hq:dEff n fx lkd l ms st0 i o a T=some (ob,e,mm)):WA E l H (i+1) ⟨a.ents++[e],a.effs++[i],a.mems++[mm]⟩:=by
 have hent:o.dst=e.dst/\e.g=none/\mm.2<=NX/\∃ m0 new,a.mems[a.effs.length]?=some m0/\mm.1=new++without (E:=E) m0.1 T:=by
  unfold dEff at hq
  split at hq
  . rename_i m0 hm0
    have h2:=bif_some hq
    clear hq
    obtain ⟨_,hq⟩:=h2
    split at hq
    case h_2=>cases hq
    split at hq
    . rename_i s hs
      have h2:=bif_some hq
      clear hq
      obtain ⟨hn,hq⟩:=h2
      simp only [Option.some.injEq,Prod.mk.injEq] at hq
      obtain ⟨rfl,rfl,rfl⟩:=hq
      exact ⟨rfl,rfl,Nat.le_of_ble_eq_true hn,m0,_,hm0,rfl⟩
    . cases hq
  . cases hq
 obtain ⟨h1,h2,h3,m0,new,h4,h5⟩:=hent
 have hl:=hw.len
 have hml:=hw.mlen
 refine ⟨by simp [hw.len],fun j e' hj=>?_,fun e' h=>?_,?_,by simp [hml],fun r e' m m' he hm hm'=>?_,fun m h=>?_⟩
 . have hj:(a.ents++[e])[j]?=some e':=hj
   by_cases c:j<a.ents.length
   . rw [List.getElem?_append_left c] at hj; exact hw.ent j e' hj
   . rw [List.getElem?_append_right (by omega)] at hj
     have:j-a.ents.length=0:=by have:=lt_get hj; simp at this; omega
     rw [this] at hj; cases hj
     have:j=i:=by omega
     subst this
     exact ⟨by rw [dstAt_some ho]; exact h1,fun jj dj b h=>by rw [h2] at h; cases h⟩
 . have h:e'∈a.effs++[i]:=h
   rw [List.mem_append,List.mem_singleton] at h
   rcases h with h | rfl
   . exact ⟨by have:=(hw.eff e' h).1; omega,(hw.eff e' h).2⟩
   . exact ⟨by omega,T,hH⟩
 . show (a.effs++[i]).Pairwise (· < ·)
   rw [List.pairwise_append]
   refine ⟨hw.up,List.pairwise_singleton _ _,fun x hx y hy=>?_⟩
   rw [List.mem_singleton] at hy; subst hy
   exact (hw.eff x hx).1
 . have he:(a.effs++[i])[r]?=some e':=he
   have hm:(a.mems++[mm])[r]?=some m:=hm
   have hm':(a.mems++[mm])[r+1]?=some m':=hm'
   by_cases c:r<a.effs.length
   . rw [List.getElem?_append_left c] at he
     rw [List.getElem?_append_left (by omega)] at hm hm'
     exact hw.chain r e' m m' he hm hm'
   . rw [List.getElem?_append_right (by omega)] at he
     have:r-a.effs.length=0:=by have:=lt_get he; simp at this; omega
     have hr:r=a.effs.length:=by omega
     subst hr
     rw [this] at he; cases he
     rw [List.getElem?_append_left (by omega)] at hm
     rw [List.getElem?_append_right (by omega)] at hm'
     have:a.effs.length+1-a.mems.length=0:=by omega
     rw [this] at hm'; cases hm'
     rw [h4] at hm; cases hm
     exact ⟨T,new,hH,h5⟩
 . have h:m∈a.mems++[mm]:=h
   rw [List.mem_append,List.mem_singleton] at h
   rcases h with h | rfl
   . exact hw.nx m h
   . exact h3
theorem dGo_ok (hE:EnvOK E) (hf:dsFree fx l=true) {K:DA E.N->Prop}:∀ (r:List Oper) (i:Nat) (a:DA E.N),(∀ x,r[x]?=l[i+x]?)->WA E l H i a->dGo n fx lkd l ms H st0 K i r a->∃ F,WA E l H (i+r.length) F/\Up a F i/\StepsJ E.P n l ms (JF E C fx lkd st0 f0 F) f0 i r/\K F
 | [],i,a,_,hw,h=>⟨a,hw,⟨⟨[],by simp⟩,⟨[],by simp,fun e h=>by cases h⟩,⟨[],by simp⟩⟩,.nil,h⟩
 | o::r,i,a,hr,hw,h=>by
  have ho:l[i]?=some o:=by have:=hr 0; simpa using this.symm
  have hr':∀ x,r[x]?=l[i+1+x]? := fun x=>by have:=hr (x+1); rw [show i+(x+1)=i+1+x by omega] at this; simpa using this
  unfold dGo at h
  rw [fDA_eq] at h
  split at h
  . rename_i ob a' hone
    have ⟨hob,hgo⟩:im (dHy (bit ms i) 0 a.ents) (allP ob)/\dGo n fx lkd l ms H st0 K (i+1) r a':=by
     cases hb:ob.isEmpty with
     | true=>rw [hb,cond_true] at h; rw [List.isEmpty_iff.1 hb]; exact ⟨im_of fun _=>trivial,h⟩
     | false=>rw [hb,cond_false] at h; exact ⟨im_of fun hy=>cjl_all (im_hy h.1 hy),h.2⟩
    unfold dOne at hone
    split at hone
    . rename_i hH
      split at hone
      . rename_i e hq
        simp only [Option.some.injEq,Prod.mk.injEq] at hone
        obtain ⟨rfl,rfl⟩:=hone
        obtain ⟨F,hF,hu,hs,hK⟩:=dGo_ok hE hf r (i+1) _ hr' (hw.dead ho hq) hgo
        have he:F.ents[i]?=some e:=hu.ent (by show (a.ents++[e])[i]?=_; rw [List.getElem?_append_right (by have:=hw.len; omega),hw.len,Nat.sub_self]; rfl)
        have hu':Up a F i:=by
         obtain ⟨⟨x,hx⟩,⟨y,hy,hy'⟩,hz⟩:=hu
         exact ⟨⟨[e]++x,by rw [hx]; simp⟩,⟨y,hy,fun e h=>by have:=hy' e h; omega⟩,hz⟩
        exact ⟨F,by rw [List.length_cons,show i+(r.length+1)=i+1+r.length by omega]; exact hF,hu',.cons (dead_ok hq hH hF hu' he) hs,hK⟩
      . split at hone
        . rename_i ob1 e hq
          simp only [Option.some.injEq,Prod.mk.injEq] at hone
          obtain ⟨rfl,rfl⟩:=hone
          obtain ⟨F,hF,hu,hs,hK⟩:=dGo_ok hE hf r (i+1) _ hr' (hw.quiet ho hq) hgo
          have he:F.ents[i]?=some e:=hu.ent (by show (a.ents++[e])[i]?=_; rw [List.getElem?_append_right (by have:=hw.len; omega),hw.len,Nat.sub_self]; rfl)
          have hu':Up a F i:=by
           obtain ⟨⟨x,hx⟩,⟨y,hy,hy'⟩,hz⟩:=hu
           exact ⟨⟨[e]++x,by rw [hx]; simp⟩,⟨y,hy,fun e h=>by have:=hy' e h; omega⟩,hz⟩
          exact ⟨F,by rw [List.length_cons,show i+(r.length+1)=i+1+r.length by omega]; exact hF,hu',.cons (quiet_ok hE hf hq hH hob hw hF hu' he) hs,hK⟩
        . cases hone
    . rename_i T hH
      split at hone
      . rename_i ob1 e mm hq
        simp only [Option.some.injEq,Prod.mk.injEq] at hone
        obtain ⟨rfl,rfl⟩:=hone
        obtain ⟨F,hF,hu,hs,hK⟩:=dGo_ok hE hf r (i+1) _ hr' (hw.effs ho hH hq) hgo
        have he:F.ents[i]?=some e:=hu.ent (by show (a.ents++[e])[i]?=_; rw [List.getElem?_append_right (by have:=hw.len; omega),hw.len,Nat.sub_self]; rfl)
        have hei:F.effs[a.effs.length]?=some i:=hu.eff (by show (a.effs++[i])[a.effs.length]?=_; rw [List.getElem?_append_right (Nat.le_refl _),Nat.sub_self]; rfl)
        have hmm:F.mems[a.effs.length+1]?=some mm:=hu.mem (by show (a.mems++[mm])[a.effs.length+1]?=_; rw [<- hw.mlen,List.getElem?_append_right (Nat.le_refl _),Nat.sub_self]; rfl)
        have hu':Up a F i:=by
         obtain ⟨⟨x,hx⟩,⟨y,hy,hy'⟩,⟨z,hz⟩⟩:=hu
         refine ⟨⟨[e]++x,by rw [hx]; simp⟩,⟨[i]++y,by rw [hy]; simp,fun e h=>?_⟩,⟨[mm]++z,by rw [hz]; simp⟩⟩
         rw [List.mem_append,List.mem_singleton] at h
         rcases h with h | h
         . omega
         . have:=hy' e h; omega
        exact ⟨F,by rw [List.length_cons,show i+(r.length+1)=i+1+r.length by omega]; exact hF,hu',.cons (eff_ok hE hf hq hob hw hF hu' he hei hmm) hs,hK⟩
      . cases hone
  . exact h.elim
theorem updAll_map {g g':Fr}:∀ {ks:List Nat} {k:Nat},k∈ks->updAll g' (ks.map fun k=>(k,g k)) k=g k
 | x::r,k,h=>by
  show upd (updAll g' (r.map fun k=>(k,g k))) x (g x) k=g k
  by_cases e:x=k
  . subst e; exact upd_same
  . rw [upd_ne e]
    rcases List.mem_cons.1 h with h | h
    . exact absurd h.symm e
    . exact updAll_map h
theorem live_map {g:Fr}:∀ {ks:List Nat},Live g (ks.map fun k=>(k,g k))
 | []=>trivial
 | _::_=>⟨rfl,live_map⟩
theorem vcDraw_ok (hE:EnvOK E) {id:Nat} {f:Fr} {K:E.St->Prop} {Q:Exit->Fr->World->Prop} (h:Rel E C fx lkd st0 ρ Z f w) {H0:Hints} (hv:vcDraw n fx lkd l st0 H0 K) (hQ:∀ st' ρ' Z' f' w',Rel E C fx lkd st' ρ' Z' f' w'->K st'->Q .normal f' w'):W E.P n (.region id l.toArray true) Q f w:=by
 unfold vcDraw at hv
 cases hb:(afterOk l && dstsU l [] && dstIn (dsts l) n l && dsFree fx l && Nat.ble st0.nx NX) with
 | false=>rw [hb] at hv; exact hv.elim
 | true =>
  rw [hb,cond_true,fSt_eq,fNs_eq,fHs_eq] at hv
  rw [Bool.and_eq_true,Bool.and_eq_true] at hb
  obtain ⟨⟨ha,hf⟩,hn⟩:=hb
  obtain ⟨F,hF,hu,hs,hK⟩:=dGo_ok (C:=C) (f0:=f) hE hf l 0 _ (fun x=>by simp) ⟨rfl,fun j e h=>by simp at h,fun e h=>(by cases h),List.Pairwise.nil,rfl,fun r e m m' h=>by simp at h,fun m h=>by
   have h:m∈[(st0.items,st0.nx)]:=h
   rw [List.mem_singleton] at h; subst h; exact Nat.le_of_ble_eq_true hn⟩ hv
  rw [Nat.zero_add] at hF
  refine W_region_J (JF E C fx lkd st0 f F) (dsts l) hE.mixed ha (masks l) rfl (fun V=>⟨ρ,Z,0,fun r e _=>by simp,⟨_,hu.mem (j:=0) rfl,h.mem⟩,h.tn,h.sl,h.fx,fun j e _ hD=>(by cases hD),h.g⟩) hs fun D V g w' hD hJ hdone hkept=>?_
  obtain ⟨ρ',Z',k,hj⟩:=hJ
  obtain ⟨mk,hmk,hmem⟩:=hj.mem
  have hk:k=F.effs.length:=by
   rcases Nat.lt_or_ge k F.effs.length with c | c
   . exfalso
     obtain ⟨e,he⟩:∃ e,F.effs[k]?=some e:=⟨_,List.getElem?_eq_getElem c⟩
     have h1:=(hF.eff e (List.mem_of_getElem? he)).1
     have:=(hj.eff k e he).1 (hD e (by simpa [Nat.blt_eq] using h1))
     omega
   . have:=lt_get hmk
     have:=hF.mlen
     omega
  subst hk
  unfold dFin at hK
  rw [hmk] at hK
  simp only at hK
  have hlen:∀ {j:Nat} {e:Ent E.N},F.ents[j]?=some e->Nat.blt j l.length=true:=fun {j e} he=>by have:=lt_get he; rw [hF.len] at this; simpa [Nat.blt_eq] using this
  have hK:=im_hy hK (dHy_all fun j e h1 _=>(hj.ent j e h1 (hD j (hlen h1))).1)
  have hg:Rel E C fx lkd ⟨dSlots (fun _=>true) 0 F.ents++st0.slots.filter (fun p=>!(dsts l).elem p.1),[],mk.1,mk.2⟩ ρ' Z' g w':=by
   refine ⟨fun k s hk=>?_,fun p hp=>?_,fun k j' b s hk=>(by cases hk),hmem,hj.tn,hj.g⟩
   . rcases lk_app hk with hk | ⟨_,hk⟩
     . obtain ⟨j,e,h1,_,h3,rfl⟩:=dSlots_lk hk
       have hg:=hdone j k (hlen h1) (by rw [(hF.ent j e h1).1]; exact h3)
       have ho:=(hj.ent j e h1 (hD j (hlen h1))).2
       unfold Ent.now
       split
       . rename_i hn; rw [hn] at ho; rw [hg]; exact ho
       . exact .un
     . have ⟨h1,h2⟩:=lk_filter (q:=fun t=>!(dsts l).elem t) hk
       rw [hkept k (by simpa using h1)]; exact hj.sl k s h2
   . rw [hkept p.1 ?_]
     . exact hj.fx p hp
     . cases hx:(dsts l).elem p.1 with
       | false=>rfl
       | true =>
        exfalso
        have hx:=List.mem_of_elem_eq_true hx
        unfold dsts at hx
        rw [List.mem_filterMap] at hx
        obtain ⟨o,ho,hd⟩:=hx
        unfold dsFree at hf
        rw [List.all_eq_true] at hf
        have:=hf o ho
        rw [hd] at this
        simp only [Option.isNone_iff_eq_none] at this
        exact lk_none this p hp rfl
  generalize hst:(⟨dSlots (fun _=>true) 0 F.ents++st0.slots.filter (fun p=>!(dsts l).elem p.1),[],mk.1,mk.2⟩:E.St)=stF at hg hK
  refine ⟨((stF.slots++fx).map (·.1)).map fun k=>(k,g k),live_map,fun g'=>hQ stF ρ' Z' _ w' ?_ hK⟩
  refine ⟨fun k s hk=>?_,fun p hp=>?_,fun k j' b s hk=>?_,hg.mem,hg.tn,hg.g⟩
  . obtain ⟨x,hx,_⟩:=lk_mem hk
    rw [updAll_map (List.mem_map.2 ⟨_,List.mem_append_left _ (List.mem_of_getElem? hx),rfl⟩)]
    exact hg.sl k s hk
  . rw [updAll_map (List.mem_map.2 ⟨p,List.mem_append_right _ hp,rfl⟩)]
    exact hg.fx p hp
  . rw [<- hst] at hk; cases hk
theorem vcForce_ok (hE:EnvOK E) {id:Nat} {f:Fr} {K:E.St->Prop} {Q:Exit->Fr->World->Prop} (h:Rel E C fx lkd st0 ρ Z f w) (hQ:∀ st' ρ' Z' f' w',Rel E C fx lkd st' ρ' Z' f' w'->K st'->Q .normal f' w'):∀ (fs:List Nat) (H0:Hints),vcForce n fx lkd l st0 K fs H0->W E.P n (.region id l.toArray true) Q f w
 | [],H0,hv=>vcDraw_ok hE h (H0:=H0) hv hQ
 | i::r,H0,hv=>by
  unfold vcForce at hv
  split at hv
  . rename_i p _
    by_cases hp:p
    . exact vcForce_ok hE h hQ r _ (hv.1 hp)
    . exact vcForce_ok hE h hQ r _ (hv.2 hp)
  . exact vcForce_ok hE h hQ r _ hv
end
end Go.Rx
end
section
namespace Go.Rx
open Go Go.Wk Go.Wl
section
variable {E:Env} {C:Ctx} {f fb:Fr} {w wb:World} {ρb ρ:Env1} {Z Zb:Nat->Prop} {lkd:Items E.N} {fx:Slots E.N} {st st':E.St} {inl:Inl E} {an:Ann}
theorem rbS_ok {keep ids:List Nat} {Kα:Prop×Nat->Prop} {G:Prop×Nat->E.St->Prop} (h0:Rel E C fx lkd st ρb Zb fb wb) (h:Rel E (C.at ρb Zb wb) (keepS fx st keep++fx) (without st.items ids++lkd) st' ρ Z f w):∀ (ss:List (List LV)) (p:ShP E.N ss),
  rbS E fx st (keepS fx st keep++fx) st' ss p Kα->allS E fx st ss p G->∃ new ρ2 a,Kα a/\G a new/\Rel E (C.at ρb Zb wb) (keepS fx st keep++fx) (without st.items ids++lkd) new ρ2 Z f w
 | [],_,hv,_=>hv.elim
 | vs::r,p,hv,hK=>by
  unfold rbS at hv
  cases hb:fits E fx st (keepS fx st keep++fx) st' vs with
  | true=>rw [hb,cond_true] at hv; exact rbP_ok h0 h hv hK.1
  | false=>rw [hb,cond_false] at hv; exact rbS_ok h0 h r p.2 hv hK.2
theorem exS_ok {N:Uni}:∀ {ss:List (List LV)} {k:ShP N ss->Prop},exS N ss k->∃ p,k p
 | [],_,h=>⟨(),h⟩
 | vs::r,k,⟨I,m,h⟩=>by obtain ⟨p,h⟩:=exS_ok h; exact ⟨_,h⟩
def endK (K:Ks E) (e:Exit) (st:E.St):Prop:=match e with
 | .normal=>K.n st
 | .ret=>K.r st
 | .exit i=>(match lk K.e i with | some k=>k st | none=>False)
 | _=>False
def QK (E:Env) (C:Ctx) (fx:Slots E.N) (lkd:Items E.N) (K:Ks E):Exit->Fr->World->Prop:=fun e f w=>∃ st ρ Z,Rel E C fx lkd st ρ Z f w/\endK K e st
theorem lk_map {α β:Type} {l:List (Nat×α)} {g:α->β} {i:Nat}:lk (l.map fun p=>(p.1,g p.2)) i=(lk l i).map g:=by
 induction l with
 | nil=>rfl
 | cons p r ih =>
  show (bif Nat.beq p.1 i then some (g p.2) else lk (r.map fun p=>(p.1,g p.2)) i)=(bif Nat.beq p.1 i then some p.2 else lk r i).map g
  cases Nat.beq p.1 i with
  | true=>rfl
  | false=>exact ih
theorem Rel.g0 (h:Rel E C fx lkd st ρ Z f w):Rel E C fx lkd ⟨st.slots,[],st.items,st.nx⟩ ρ Z f w:=⟨h.sl,h.fx,fun k j b s e=>(by cases e),h.mem,h.tn,h.g⟩
theorem leaveQ {keep ids:List Nat} {K:Ks E} {n:E.St->Prop} {e:Exit} (h0:Rel E C fx lkd st ρb Zb fb wb) (hn:e≠.normal)
  (h:QK E (C.at ρb Zb wb) (keepS fx st keep++fx) (without st.items ids++lkd) (backK (keepS fx st keep) (without st.items ids) K n) e f w):QK E C fx lkd K e f w:=by
 obtain ⟨st',ρ',Z',hr,he⟩:=h
 have hl:=Rel.leave h0 hr
 cases e with
 | normal=>exact absurd rfl hn
 | ret=>exact ⟨_,_,_,hl,he⟩
 | exit i =>
  simp only [endK,backK] at he
  rw [lk_map] at he
  cases hk:lk K.e i with
  | none=>rw [hk] at he; exact he.elim
  | some k=>rw [hk] at he; exact ⟨_,_,_,hl,by simp only [endK,hk]; exact he⟩
 | _=>exact he.elim
theorem hasE_spec {e:Array Edge} {j:Nat} (h:hasE e j=true):∃ x∈e,x.on=j/\Region.binds .any x=true:=by
 unfold hasE at h
 obtain ⟨x,hx,hh⟩:=List.any_eq_true.1 h
 rw [Bool.and_eq_true] at hh
 exact ⟨x,by simpa using hx,Nat.eq_of_beq_eq_true hh.1,hh.2⟩
theorem boolT_spec {T:Nat} (h:boolT E T=true):(∀ w,(zeroValue T).run E.P w=.ok (.bool false) w)/\(∀ w,(sizeOf T).run E.P w=.ok 1 w)/\(∀ w,(isAgg T).run E.P w=.ok false w):=by
 unfold boolT at h
 rw [Bool.and_eq_true,Bool.and_eq_true] at h
 obtain ⟨⟨h1,h2⟩,h3⟩:=h
 refine ⟨?_,?_,?_⟩
 . cases hz:E.zeroV T with
   | none=>rw [hz] at h1; cases h1
   | some v =>
    rw [hz] at h1
    cases v with
    | bool b=>cases b with
     | true=>cases h1
     | false=>exact run_zero hz
    | _=>cases h1
 . cases hz:E.size T with
   | none=>rw [hz] at h2; cases h2
   | some s =>
    rw [hz] at h2
    have:=Nat.eq_of_beq_eq_true h2
    subst this
    exact run_size hz
 . cases hz:E.aggOf T with
   | none=>rw [hz] at h3; cases h3
   | some b =>
    rw [hz] at h3
    cases b with
    | true=>cases h3
    | false=>exact agg_run hz
theorem OpRun.mono {P:Program} {o:Oper} {g:Fr} {w:World} {R R':Value->World->Prop} (h:OpRun P o g w R) (k:∀ v w',R v w'->R' v w'):OpRun P o g w R':=by
 rcases h with h | h | ⟨K,a,h1,h2⟩
 . exact .inl fun w1 hs=>by obtain ⟨v,w2,w',a,b,c⟩:=h w1 hs; exact ⟨v,w2,w',a,b,k _ _ c⟩
 . exact .inr (.inl fun w1 hs=>by obtain ⟨w2,w',a,b,c⟩:=h w1 hs; exact ⟨w2,w',a,b,k _ _ c⟩)
 . exact .inr (.inr ⟨K,a,h1,h2.mono k⟩)
theorem coin_ok (hE:EnvOK E) {id n a b:Nat} {l:List Oper} {C:Ctx} {fx:Slots E.N} {lkd:Items E.N} {st:E.St} {ρ:Env1} {Z:Nat->Prop} {f:Fr} {w:World} {K:E.St->Prop} {Q:Exit->Fr->World->Prop} (h:Rel E C fx lkd ⟨st.slots,[],st.items,st.nx⟩ ρ Z f w) (hc:coinD E n fx l=some (a,b))
  (h1:K ⟨(b,.tt)::(a,.un)::st.slots,[],st.items,st.nx⟩) (h2:K ⟨(b,.ff)::(a,.un)::st.slots,[],st.items,st.nx⟩)
  (hQ:∀ st' ρ' Z' f' w',Rel E C fx lkd st' ρ' Z' f' w'->K st'->Q .normal f' w'):W E.P n (.region id l.toArray true) Q f w:=by
 unfold coinD at hc
 split at hc
 . rename_i a' T ty0 pos0 e0 T1 a1 ty1 pos1 e1 T2 a2 ty2 pos2 e2 b' T3 a3 ty3 pos3 e3
   cases hb:(afterOk [⟨some a',.alloc T,ty0,pos0,e0,none⟩,⟨none,.store T1 (.tmp a1) (.const (.bool true)),ty1,pos1,e1,none⟩,⟨none,.store T2 (.tmp a2) (.const (.bool false)),ty2,pos2,e2,none⟩,⟨some b',.load T3 (.tmp a3),ty3,pos3,e3,none⟩] && Nat.beq T T1 && Nat.beq T T2 && Nat.beq T T3 && Nat.beq a' a1 && Nat.beq a' a2 && Nat.beq a' a3 && !Nat.beq a' b' && (Nat.blt a' n && (lk fx a').isNone) && (Nat.blt b' n && (lk fx b').isNone) && hasE e1 0 && hasE e2 0 && hasE e3 0 && boolT E T) with
   | false=>rw [hb] at hc; cases hc
   | true =>
   rw [hb,cond_true] at hc
   cases hc
   simp only [Bool.and_eq_true] at hb
   obtain ⟨⟨⟨⟨⟨⟨⟨⟨⟨⟨⟨⟨⟨hao,b1⟩,b2⟩,b3⟩,b4⟩,b5⟩,b6⟩,b7⟩,ha1,ha2⟩,hb1,hb2⟩,he1⟩,he2⟩,he3⟩,hT⟩:=hb
   have b1:=Nat.eq_of_beq_eq_true b1; subst b1
   have b2:=Nat.eq_of_beq_eq_true b2; subst b2
   have b3:=Nat.eq_of_beq_eq_true b3; subst b3
   have b4:=Nat.eq_of_beq_eq_true b4; subst b4
   have b5:=Nat.eq_of_beq_eq_true b5; subst b5
   have b6:=Nat.eq_of_beq_eq_true b6; subst b6
   have hab:a≠b:=fun e=>by
    subst e
    simp at b7
   have hla:=blt_lt ha1
   have hlb:=blt_lt hb1
   obtain ⟨hz,hsz,hag⟩:=boolT_spec hT
   obtain ⟨x1,hx1,ho1,hbd1⟩:=hasE_spec he1
   obtain ⟨x2,hx2,ho2,hbd2⟩:=hasE_spec he2
   obtain ⟨x3,hx3,ho3,hbd3⟩:=hasE_spec he3
   have cell:∀ {L:Array Bool} {g:Fr} {w':World},Inv [⟨some a,.alloc T,ty0,pos0,e0,none⟩,⟨none,.store T (.tmp a) (.const (.bool true)),ty1,pos1,e1,none⟩,⟨none,.store T (.tmp a) (.const (.bool false)),ty2,pos2,e2,none⟩,⟨some b,.load T (.tmp a),ty3,pos3,e3,none⟩] (fun v=>Ext [] w v) (fun j v w'=>(j=0->∃ bl c,v=.pointer (some ⟨bl,0,none⟩)/\w.heap.size<=bl/\Own w' bl T [.bool c])/\(j=3->∃ c,v=.bool c)) f L g w'->L[0]?=some true->∃ bl c,g a=.pointer (some ⟨bl,0,none⟩)/\w.heap.size<=bl/\Own w' bl T [.bool c]:=fun hinv h0=>(hinv.done 0 a h0 rfl).1 rfl
   have keep:∀ {w1 w2:World} {bl:Nat} {c:Bool},Own w1 bl T [.bool c]->∀ {B:List Nat},Ext B w1 w2->(∀ x∈B,∃ c',Own w2 x T [.bool c'])->∀ j u,((j=0->∃ bl c,u=.pointer (some ⟨bl,0,none⟩)/\w.heap.size<=bl/\Own w1 bl T [.bool c])/\(j=3->∃ c,u=Value.bool c))->((j=0->∃ bl c,u=.pointer (some ⟨bl,0,none⟩)/\w.heap.size<=bl/\Own w2 bl T [.bool c])/\(j=3->∃ c,u=Value.bool c)):=by
    intro w1 w2 bl c _ B x hB j u hu
    refine ⟨fun hj=>?_,hu.2⟩
    obtain ⟨bl,c,e,hl,ho⟩:=hu.1 hj
    by_cases hm:bl∈B
    . obtain ⟨c',ho'⟩:=hB bl hm; exact ⟨bl,c',e,hl,ho'⟩
    . exact ⟨bl,c,e,hl,ho.ext x hm⟩
   have stor:∀ {ty:TypeId} {pos:String} {e:Array Edge} {g:Fr} {w':World} {bl:Nat} {c c2:Bool},g a=.pointer (some ⟨bl,0,none⟩)->Own w' bl T [.bool c]->OpRun E.P ⟨none,.store T (.tmp a) (.const (.bool c2)),ty,pos,e,none⟩ g w' (fun _ w2=>Ext [bl] w' w2/\Own w2 bl T [.bool c2]):=by
    intro ty pos e g w' bl c c2 hga ho
    refine .inr (.inl fun w1 hs=>?_)
    obtain ⟨k,rfl⟩:=hs
    obtain ⟨w2,hr,ho',he,hsz2,hk⟩:=storeCells_run (P:=E.P) [.bool c2] 0 0 [.bool c] w' ho (by simp) (fun v hv=>by simp at hv; subst hv; rfl)
    refine ⟨_,w2,?_,⟨k,rfl⟩,he,by simpa [splice] using ho'⟩
    have hrun:(storeVar T ⟨bl,0,none⟩ (.bool c2)).run E.P { w' with drawn:=k }=.ok () { w2 with drawn:=k }:=by
     unfold storeVar
     simp only [Sem.run_bind,hsz,Result.andThen_ok]
     rw [if_neg (by simp [Value.cells])]
     exact hk k
    have hga':ev g (.tmp a)=.pointer (some ⟨bl,0,none⟩):=hga
    have hco:ev g (.const (.bool c2))=.bool c2:=rfl
    simp only [execOp,hga',hco,Instr.storeAt,Instr.sureAddr,Sem.run_bind,Sem.run_pure,Result.andThen_ok,hrun]
   refine W_region_inv (I:=fun v=>Ext [] w v) (Φ:=fun j v w'=>(j=0->∃ bl c,v=.pointer (some ⟨bl,0,none⟩)/\w.heap.size<=bl/\Own w' bl T [.bool c])/\(j=3->∃ c,v=.bool c)) hE.mixed hao ?_ ?_ (Ext.refl _ _) ?_ ?_
   . intro j t hj
     match j,hj with
     | 0,hj=>cases hj; exact hla
     | 1,hj=>cases hj
     | 2,hj=>cases hj
     | 3,hj=>cases hj; exact hlb
     | _+4,hj=>cases hj
   . intro i j t hi hj
     match i,j,hi,hj with
     | 0,0,_,_=>rfl
     | 3,3,_,_=>rfl
     | 0,3,hi,hj=>cases hi; cases hj; exact absurd rfl hab
     | 3,0,hi,hj=>cases hi; cases hj; exact absurd rfl hab
     | 1,_,hi,_=>cases hi
     | 2,_,hi,_=>cases hi
     | _+4,_,hi,_=>cases hi
     | 0,1,_,hj=>cases hj
     | 0,2,_,hj=>cases hj
     | 0,_+4,_,hj=>cases hj
     | 3,1,_,hj=>cases hj
     | 3,2,_,hj=>cases hj
     | 3,_+4,_,hj=>cases hj
   . intro i o L g w' ho hinv hLi hdeps
     match i,ho with
     | 0,ho =>
      cases ho
      refine .inl fun w1 hs=>?_
      obtain ⟨k,rfl⟩:=hs
      have x:=Ext.push w' (.cells #[.bool false] T (0,0))
      have hown:Own { w' with heap:=w'.heap.push (.cells #[.bool false] T (0,0)) } w'.heap.size T [.bool false]:=Own.push w' T #[.bool false]
      refine ⟨.pointer (some ⟨w'.heap.size,0,none⟩),_,{ w' with heap:=w'.heap.push (.cells #[.bool false] T (0,0)) },?_,⟨k,rfl⟩,hinv.world.tr x,⟨fun _=>⟨_,_,rfl,hinv.world.size,hown⟩,fun h=>by cases h⟩,fun j u hu=>⟨fun hj=>?_,hu.2⟩⟩
      . simp [execOp,Instr.alloc,hz,newVar,newRow,newObj,Sem.run,go_sem,Value.cells]
        rfl
      . obtain ⟨bl,c,e,hl,ho⟩:=hu.1 hj
        exact ⟨bl,c,e,hl,ho.ext x (by simp)⟩
     | 1,ho =>
      cases ho
      have h0:=hdeps x1 hx1 hbd1
      rw [ho1] at h0
      obtain ⟨bl,c,hga,hl,how⟩:=cell hinv h0
      refine OpRun.mono (stor hga how) fun v w2 hh=>?_
      obtain ⟨x,o2⟩:=hh
      exact ⟨hinv.world.own x hl,⟨fun h=>(by cases h),fun h=>(by cases h)⟩,keep how x (fun y hy=>by rw [List.mem_singleton] at hy; rw [hy]; exact ⟨_,o2⟩)⟩
     | 2,ho =>
      cases ho
      have h0:=hdeps x2 hx2 hbd2
      rw [ho2] at h0
      obtain ⟨bl,c,hga,hl,how⟩:=cell hinv h0
      refine OpRun.mono (stor hga how) fun v w2 hh=>?_
      obtain ⟨x,o2⟩:=hh
      exact ⟨hinv.world.own x hl,⟨fun h=>(by cases h),fun h=>(by cases h)⟩,keep how x (fun y hy=>by rw [List.mem_singleton] at hy; rw [hy]; exact ⟨_,o2⟩)⟩
     | 3,ho =>
      cases ho
      have h0:=hdeps x3 hx3 hbd3
      rw [ho3] at h0
      obtain ⟨bl,c,hga,hl,how⟩:=cell hinv h0
      refine .inl fun w1 hs=>?_
      have hga':ev g (.tmp a)=.pointer (some ⟨bl,0,none⟩):=hga
      refine ⟨.bool c,w1,w',?_,hs,hinv.world,⟨fun h=>(by cases h),fun _=>⟨c,rfl⟩⟩,fun j u hu=>hu⟩
      simp only [execOp,hga',Sem.run_bind,Wk.run_load hag (how.all.sim hs)]
      rfl
     | _+4,ho=>cases ho
   . intro g w' hI hdone hkept
     obtain ⟨c,hc⟩:=(hdone 3 b rfl).2 rfl
     obtain ⟨hm,ht⟩:=h.mem.ext0 hI
     have r1:=h.put (n:=n) (d:=some a) (v:=g a) (s:=.un) (items:=st.items) (nx:=st.nx) (by show (Nat.blt a n && (lk fx a).isNone && true && true)=true; rw [ha1,ha2]; rfl) ht hm .un
     have r2:=Rel.put0 (n:=n) (d:=some b) (v:=g b) (s:=bif c then .tt else .ff) r1 (by show (Nat.blt b n && (lk fx b).isNone && true && true)=true; rw [hb1,hb2]; rfl) (by rw [hc]; cases c; exact .ff; exact .tt)
     have eg:putF (putF f (some a) (g a)) (some b) (g b)=g:=by
      funext k
      show upd (upd f a (g a)) b (g b) k=g k
      by_cases e1:k=b
      . rw [upd_eq,if_pos e1,e1]
      . rw [upd_eq,if_neg e1]
        by_cases e2:k=a
        . rw [upd_eq,if_pos e2,e2]
        . rw [upd_eq,if_neg e2,hkept k fun j hj=>?_]
          match j,hj with
          | 0,hj=>cases hj; exact e2 rfl
          | 3,hj=>cases hj; exact e1 rfl
          | 1,hj=>cases hj
          | 2,hj=>cases hj
          | _+4,hj=>cases hj
     rw [eg] at r2
     cases c with
     | true=>exact hQ _ _ _ _ _ r2 h1
     | false=>exact hQ _ _ _ _ _ r2 h2
 . cases hc
theorem evalB_ok {s:E.SV} {v:Value} (r:Rep E.N E.T ρ Z w v s):Rep E.N E.T ρ Z w v (evalB s):=by
 cases s with
 | bl p d =>
  cases r
  show Rep E.N E.T ρ Z w _ (bif @decide p d then .tt else .ff)
  cases @decide p d with
  | true=>exact .tt
  | false=>exact .ff
 | _=>exact r
theorem evalS_ok:∀ (ks:List Nat) {st:E.St},Rel E C fx lkd st ρ Z f w->Rel E C fx lkd (evalS ks st) ρ Z f w
 | [],_,h=>h
 | s::r,st,h=>by
  unfold evalS
  refine evalS_ok r ?_
  split
  . rename_i v hv
    refine ⟨fun k s' hk=>?_,h.fx,h.gs,h.mem,h.tn,h.g⟩
    rw [lk_cons] at hk
    by_cases e:s=k
    . subst e; rw [if_pos rfl] at hk; cases hk; exact evalB_ok (h.sl _ _ hv)
    . rw [if_neg e] at hk; exact h.sl k s' hk
  . exact h
theorem behind_ok {id:Nat} {K:Ks E} {st:E.St} (h:Rel E C fx lkd st ρ Z f w) (hk:behind an id K.n st):QK E C fx lkd K .normal f w:=by
 unfold behind at hk
 generalize an.join (2000000+id)=o at hk
 cases o with
 | some a=>exact ⟨_,ρ,Z,evalS_ok _ h,hk⟩
 | none=>exact ⟨st,ρ,Z,h,hk⟩
theorem cutS_ok {ks:List Nat} {st:E.St} {k:E.St->Prop} (h:Rel E C fx lkd st ρ Z f w) (hk:cutS ks fx st k):∃ st',Rel E C fx lkd st' ρ Z f w/\k st':=by
 unfold cutS at hk
 cases hb:ks.isEmpty with
 | true=>rw [hb] at hk; exact ⟨st,h,hk⟩
 | false =>
  rw [hb,cond_false,fKeep_eq] at hk
  refine ⟨⟨keepS fx st ks,[],st.items,st.nx⟩,⟨fun k s hs=>?_,h.fx,fun k j b s e=>(by cases e),h.mem,h.tn,h.g⟩,hk⟩
  have hs:lk (keepS fx st ks) k=some s:=hs
  clear hk hb
  induction ks with
  | nil=>cases hs
  | cons a r ih =>
   have hs:lk ((a,slotOf fx st a)::keepS fx st r) k=some s:=hs
   rw [lk_cons] at hs
   by_cases e:a=k
   . rw [if_pos e] at hs; cases hs; subst e; exact h.slot a
   . rw [if_neg e] at hs; exact ih hs hs
theorem vc_ok (hE:EnvOK E) (hI:InlOK E inl):∀ (c:Code) (C:Ctx) (fx:Slots E.N) (lkd:Items E.N) (st:E.St) (K:Ks E) (ρ:Env1) (Z:Nat->Prop) (f:Fr) (w:World),Rel E C fx lkd st ρ Z f w->vc inl an c fx lkd st K->W E.P an.n c (QK E C fx lkd K) f w:=by
 intro c
 induction c with
 | skip=>intro C fx lkd st K ρ Z f w h hv; exact W_skip ⟨st,ρ,Z,h,hv⟩
 | ret=>intro C fx lkd st K ρ Z f w h hv; exact W_ret ⟨st,ρ,Z,h,hv⟩
 | exit i=>intro C fx lkd st K ρ Z f w h hv; exact W_exit ⟨st,ρ,Z,h,hv⟩
 | region id l dr =>
  intro C fx lkd st K ρ Z f w h hv
  simp only [vc] at hv
  have e:l=l.toList.toArray:=by simp
  cases hb:(!dr || quietR l.toList) with
  | false =>
   rw [hb,cond_false] at hv
   have hdr:dr=true:=by
    cases dr with
    | true=>rfl
    | false=>rw [Bool.not_false,Bool.true_or] at hb; cases hb
   subst hdr
   split at hv
   . rename_i a b hc
     have:=coin_ok (id:=id) (Q:=QK E C fx lkd K) hE h.g0 hc hv.1 hv.2 (fun st' ρ' Z' f' w' hr hk=>behind_ok hr hk)
     rw [<- e] at this; exact this
   . have:=vcForce_ok (id:=id) (Q:=QK E C fx lkd K) hE h.g0 (fun st' ρ' Z' f' w' hr hk=>behind_ok hr hk) _ _ hv
     rw [<- e] at this; exact this
  | true =>
   rw [hb,cond_true] at hv
   have key:WL E.P dr an.n l.toList (QK E C fx lkd K) l.toList f w:=vcOps_ok hE hI l.toList _ ρ Z f w h.g0 hv (fun st' ρ' Z' f' w' hr _ hk=>behind_ok hr hk)
   cases dr with
   | false =>
    have:=W_region (id:=id) key
    rw [<- e] at this; exact this
   | true =>
    have hb2:drawOk l.toList=true:=by
     unfold quietR at hb
     simp only [Bool.not_true,Bool.false_or,Bool.and_eq_true] at hb
     exact hb.1
    have:=W_region_quiet (id:=id) hE.mixed hb2 key
    rw [<- e] at this; exact this
 | seq a b iha ihb =>
  intro C fx lkd st K ρ Z f w h hv
  simp only [vc] at hv
  split at hv
  . refine W_seq (W_mono (iha C fx lkd st _ ρ Z f w h hv) fun e f' w' q=>?_)
    obtain ⟨st',ρ',Z',hr,he⟩:=q
    cases e with
    | normal=>exact ihb C fx lkd st' K ρ' Z' f' w' hr he
    | ret=>exact ⟨st',ρ',Z',hr,he⟩
    | exit i=>exact ⟨st',ρ',Z',hr,he⟩
    | _=>exact he.elim
  . rename_i j hj
    split at hv
    . rename_i sl _
      refine W_seq (W_mono (iha C fx lkd st _ ρ Z f w h hv) fun e f' w' q=>?_)
      obtain ⟨st',ρ',Z',hr,he⟩:=q
      cases e with
      | normal =>
       have he:(match prop (slotOf fx st' sl) with
        | some ⟨p,_⟩=>(p->vc inl an b fx lkd ⟨(sl,.tt)::st'.slots,[],st'.items,st'.nx⟩ K)/\(¬ p->vc inl an b fx lkd ⟨(sl,.ff)::st'.slots,[],st'.items,st'.nx⟩ K)
        | none=>False):=he
       have hs:=hr.slot sl
       split at he
       . rename_i p d hp
         have hv:=hs.boolv hp
         have key:∀ s,Rep E.N E.T ρ' Z' w' (f' sl) s->Rel E C fx lkd ⟨(sl,s)::st'.slots,[],st'.items,st'.nx⟩ ρ' Z' f' w':=fun s hs'=>⟨fun k s2 hk=>by
          have hk:lk ((sl,s)::st'.slots) k=some s2:=hk
          rw [lk_cons] at hk
          by_cases e:sl=k
          . rw [if_pos e] at hk; cases hk; subst e; exact hs'
          . rw [if_neg e] at hk; exact hr.sl k s2 hk,hr.fx,fun k j b s e=>(by cases e),hr.mem,hr.tn,hr.g⟩
         by_cases hpp:p
         . exact ihb C fx lkd _ K ρ' Z' f' w' (key .tt (by rw [hv]; simp only [hpp,decide_true]; exact .tt)) (he.1 hpp)
         . exact ihb C fx lkd _ K ρ' Z' f' w' (key .ff (by rw [hv]; simp only [hpp,decide_false]; exact .ff)) (he.2 hpp)
       . exact he.elim
      | ret=>exact ⟨st',ρ',Z',hr,he⟩
      | exit i=>exact ⟨st',ρ',Z',hr,he⟩
      | _=>exact he.elim
    obtain ⟨J,hva,hvb⟩:=hv
    refine W_seq (W_mono (iha _ _ _ _ _ ρ Z f w (h.enter j.keep (idsOf E fx st j.vars)) hva) fun e f' w' q=>?_)
    cases e with
    | normal =>
     obtain ⟨st',ρ',Z',hr,he⟩:=q
     obtain ⟨new,ρ2,x,hx,hk,hr2⟩:=rbP_ok h hr he hvb
     exact ihb C fx lkd _ K ρ2 Z' f' w' (Rel.leave h hr2) (hk hx)
    | ret=>exact leaveQ h (by intro e; cases e) q
    | exit i=>exact leaveQ h (by intro e; cases e) q
    | _=>obtain ⟨_,_,_,_,he⟩:=q; exact he.elim
 | cond o a b iha ihb =>
  intro C fx lkd st K ρ Z f w h hv
  simp only [vc] at hv
  have hr:=h.ev AllG.nil o
  split at hv
  . rename_i e; rw [e] at hr
    exact W_cond_true (by generalize Wk.ev f o=u at hr; cases hr; rfl) (iha C fx lkd st K ρ Z f w h hv)
  . rename_i e; rw [e] at hr
    exact W_cond_false (by generalize Wk.ev f o=u at hr; cases hr; rfl) (ihb C fx lkd st K ρ Z f w h hv)
  . rename_i p d e; rw [e] at hr
    have e1:Wk.ev f o=.bool (@decide p d):=by generalize Wk.ev f o=u at hr; cases hr; rfl
    exact W_cond e1 (fun hp=>iha C fx lkd st K ρ Z f w h (hv.1 (of_decide_eq_true hp))) (fun hp=>ihb C fx lkd st K ρ Z f w h (hv.2 (of_decide_eq_false hp)))
  . exact hv.elim
 | block i c ih =>
  intro C fx lkd st K ρ Z f w h hv
  refine W_block (W_mono (ih C fx lkd st _ ρ Z f w h hv) fun e f' w' q=>?_)
  obtain ⟨st',ρ',Z',hr,he⟩:=q
  cases e with
  | normal=>exact ⟨st',ρ',Z',hr,he⟩
  | ret=>exact ⟨st',ρ',Z',hr,he⟩
  | exit j =>
   have he:(match (bif Nat.beq i j then some K.n else lk K.e j) with | some k=>k st' | none=>False):=he
   show (bif Nat.beq j i then QK E C fx lkd K .normal f' w' else QK E C fx lkd K (.exit j) f' w')
   have hc:Nat.beq i j=Nat.beq j i:=by
    by_cases e:i=j
    . rw [e]
    . rw [beq_ne e,beq_ne (Ne.symm e)]
   rw [hc] at he
   cases hb:Nat.beq j i with
   | true=>rw [hb] at he; exact ⟨st',ρ',Z',hr,he⟩
   | false=>rw [hb] at he; exact ⟨st',ρ',Z',hr,he⟩
  | _=>exact he.elim
 | loop c ih =>
  intro C fx lkd st K ρ Z f w h hv
  simp only [vc] at hv
  split at hv
  . exact hv.elim
  . rename_i a ha
    split at hv
    . rename_i n hk
      refine W_loopE (fun k f' w'=>∃ (st':E.St) (ρ':Env1) (Z':Nat->Prop),Rel E C fx lkd st' ρ' Z' f' w'/\vcU (fun st n'=>cutS a.keep fx st fun st=>vc inl an c fx lkd st ⟨n',K.r,K.e⟩) k st') ⟨n,_,_,_,h.g0,hv⟩ ?_
      rintro k f' w' ⟨st',ρ',Z',hr,hu⟩
      cases k with
      | zero=>exact hu.elim
      | succ k =>
       obtain ⟨st1,hr,hu⟩:=cutS_ok (k:=fun st=>vc inl an c fx lkd st ⟨vcU (fun st n'=>cutS a.keep fx st fun st=>vc inl an c fx lkd st ⟨n',K.r,K.e⟩) k,K.r,K.e⟩) hr hu
       refine W_mono (ih C fx lkd st1 _ ρ' Z' f' w' hr hu) fun e f2 w2 q=>?_
       obtain ⟨st2,ρ2,Z2,hr2,he⟩:=q
       cases e with
       | normal=>exact ⟨k,Nat.lt_succ_self k,st2,ρ2,Z2,hr2,he⟩
       | ret=>exact ⟨st2,ρ2,Z2,hr2,he⟩
       | exit i=>exact ⟨st2,ρ2,Z2,hr2,he⟩
       | _=>exact he.elim
    . rename_i ss hk
      obtain ⟨P,h0,hb⟩:=exS_ok hv
      refine W_loopE (fun k f' w' => ∃ (new : E.St) (ρ2 : Env1) (Z2 : Nat -> Prop) (im : Prop × Nat), (im.1 -> vc inl an c (keepS fx st a.keep ++ fx) (without st.items (idsS E fx st ss) ++ lkd) new
            (backK (keepS fx st a.keep) (without st.items (idsS E fx st ss)) K (fun st'=>rbS E fx st (keepS fx st a.keep++fx) st' ss P (fun im'=>im'.1/\im'.2<im.2))))/\im.1/\im.2=k/\Rel E (C.at ρ Z w) (keepS fx st a.keep++fx) (without st.items (idsS E fx st ss)++lkd) new ρ2 Z2 f' w') ?_ ?_
      . obtain ⟨new,ρ2,im,h1,h2,h3⟩:=rbS_ok h (h.enter a.keep (idsS E fx st ss)) ss P h0 hb
        exact ⟨im.2,new,ρ2,Z,im,h2,h1,rfl,h3⟩
      . rintro k f' w' ⟨new,ρ2,Z2,im,hbody,hi,rfl,hr⟩
        refine W_mono (ih _ _ _ _ _ ρ2 Z2 f' w' hr (hbody hi)) fun e f2 w2 q=>?_
        cases e with
        | normal =>
         obtain ⟨st',ρ',Z',hr',he⟩:=q
         obtain ⟨new2,ρ3,im2,g1,g2,g3⟩:=rbS_ok h hr' ss P he hb
         exact ⟨im2.2,g1.2,new2,ρ3,Z',im2,g2,g1.1,rfl,g3⟩
        | ret=>exact leaveQ h (by intro e; cases e) q
        | exit i=>exact leaveQ h (by intro e; cases e) q
        | _=>obtain ⟨_,_,_,_,he⟩:=q; exact he.elim
    obtain ⟨I,m,h0,hb⟩:=hv
    refine W_loopE (fun k f' w' => ∃ (new : E.St) (ρ2 : Env1) (Z2 : Nat -> Prop) (im : Prop × Nat), (im.1 -> vc inl an c (keepS fx st a.keep ++ fx) (without st.items (idsOf E fx st a.vars) ++ lkd) new
          (backK (keepS fx st a.keep) (without st.items (idsOf E fx st a.vars)) K (fun st'=>rbP E fx st (keepS fx st a.keep++fx) st' a.vars (zipC a.vars I m) (fun im'=>im'.1/\im'.2<im.2))))/\im.1/\im.2=k/\Rel E (C.at ρ Z w) (keepS fx st a.keep++fx) (without st.items (idsOf E fx st a.vars)++lkd) new ρ2 Z2 f' w') ?_ ?_
    . obtain ⟨new,ρ2,im,h1,h2,h3⟩:=rbP_ok h (h.enter a.keep (idsOf E fx st a.vars)) h0 hb
      exact ⟨im.2,new,ρ2,Z,im,h2,h1,rfl,h3⟩
    . rintro k f' w' ⟨new,ρ2,Z2,im,hbody,hi,rfl,hr⟩
      refine W_mono (ih _ _ _ _ _ ρ2 Z2 f' w' hr (hbody hi)) fun e f2 w2 q=>?_
      cases e with
      | normal =>
       obtain ⟨st',ρ',Z',hr',he⟩:=q
       obtain ⟨new2,ρ3,im2,g1,g2,g3⟩:=rbP_ok h hr' he hb
       exact ⟨im2.2,g1.2,new2,ρ3,Z',im2,g2,g1.1,rfl,g3⟩
      | ret=>exact leaveQ h (by intro e; cases e) q
      | exit i=>exact leaveQ h (by intro e; cases e) q
      | _=>obtain ⟨_,_,_,_,he⟩:=q; exact he.elim
 | _=>intro C fx lkd st K ρ Z f w h hv; exact hv.elim
end
end Go.Rx
end
section
namespace Go.Rx
open Go Go.Wk Go.Wl
section
variable {E:Env} {C:Ctx} {w:World} {ρ:Env1} {Z:Nat->Prop} {its lkd:Items E.N} {nx:Nat} {inl:Inl E} {an:Ann} {fn:Func} {K:Nat} {args:List E.SV} {vs:List Value}
def Done (E:Env) (C:Ctx) (ρ:Env1) (Z:Nat->Prop) (w:World) (lkd:Items E.N) (k:E.SV->Items E.N->Nat->Prop) (v:Value) (w':World):Prop :=
 ∃ ρ' Z' s its' nx',Mem E C ρ' Z' w' (its'++lkd) nx'/\Tn ρ Z w ρ' Z' w'/\Rep E.N E.T ρ' Z' w' v s/\k s its' nx'
def getR (tmps:Array Value):ResultVar->Sem Value
 | .tmp t=>pure (tmps.getD t undef)
 | .cell a t=>do loadVar t (<- asAddr (tmps.getD a undef))
section
variable {P:Program} {tmps:Array Value} {v0 v1 v2:Value} {r0 r1 r2:ResultVar}
theorem results_0 (h:fn.results=#[]):(results fn tmps).run P w=.ok (.tuple #[]) w:=results_none h _ _ _
theorem results_1 (h:fn.results=#[r0]) (h0:(getR tmps r0).run P w=.ok v0 w):(results fn tmps).run P w=.ok v0 w:=by
 have e:results fn tmps=(do let vs <- fn.results.mapM (getR tmps); pure (if h:vs.size=1 then vs[0] else .tuple vs)):=rfl
 rw [e,h]
 simp only [List.mapM_toArray,List.mapM_cons,List.mapM_nil,Sem.run_bind,h0,Result.andThen_ok,Sem.run_pure,Sem.run_map]
 simp
theorem results_2 (h:fn.results=#[r0,r1]) (h0:(getR tmps r0).run P w=.ok v0 w) (h1:(getR tmps r1).run P w=.ok v1 w):(results fn tmps).run P w=.ok (.tuple #[v0,v1]) w:=by
 have e:results fn tmps=(do let vs <- fn.results.mapM (getR tmps); pure (if h:vs.size=1 then vs[0] else .tuple vs)):=rfl
 rw [e,h]
 simp only [List.mapM_toArray,List.mapM_cons,List.mapM_nil,Sem.run_bind,h0,h1,Result.andThen_ok,Sem.run_pure,Sem.run_map]
 simp
theorem results_3 (h:fn.results=#[r0,r1,r2]) (h0:(getR tmps r0).run P w=.ok v0 w) (h1:(getR tmps r1).run P w=.ok v1 w) (h2:(getR tmps r2).run P w=.ok v2 w):(results fn tmps).run P w=.ok (.tuple #[v0,v1,v2]) w:=by
 have e:results fn tmps=(do let vs <- fn.results.mapM (getR tmps); pure (if h:vs.size=1 then vs[0] else .tuple vs)):=rfl
 rw [e,h]
 simp only [List.mapM_toArray,List.mapM_cons,List.mapM_nil,Sem.run_bind,h0,h1,h2,Result.andThen_ok,Sem.run_pure,Sem.run_map]
 simp
theorem results_4 {r3:ResultVar} {v3:Value} (h:fn.results=#[r0,r1,r2,r3]) (h0:(getR tmps r0).run P w=.ok v0 w) (h1:(getR tmps r1).run P w=.ok v1 w) (h2:(getR tmps r2).run P w=.ok v2 w) (h3:(getR tmps r3).run P w=.ok v3 w):(results fn tmps).run P w=.ok (.tuple #[v0,v1,v2,v3]) w:=by
 have e:results fn tmps=(do let vs <- fn.results.mapM (getR tmps); pure (if h:vs.size=1 then vs[0] else .tuple vs)):=rfl
 rw [e,h]
 simp only [List.mapM_toArray,List.mapM_cons,List.mapM_nil,Sem.run_bind,h0,h1,h2,h3,Result.andThen_ok,Sem.run_pure,Sem.run_map]
 simp
end
def RunR (P:Program) (fn:Func) (n:Nat) (f:Fr) (w:World) (v:Value):Prop:=∀ a w1,Is a f n->Sim w w1->(results fn a.tmps).run P w1=.ok v w1
def RetV (P:Program) (fn:Func) (n:Nat) (R:Value->World->Prop):Exit->Fr->World->Prop
 | .ret,f,w=>∃ v,RunR P fn n f w v/\R v w
 | .normal,f,w=>∃ v,RunR P fn n f w v/\R v w
 | _,_,_=>False
theorem Call_V {P:Program} {c:Code} {n:Nat} {args:List Value} {R:Value->World->Prop} (hf:P.funcs[K]?=some fn) (hb:fn.body=some c) (hn:fn.ntmps=n) (hs:Nat.ble args.length n=true) (h:W P n c (RetV P fn n R) (nth args) w):CallR P K args w R :=
 Call_enter hf hb hn hs _ (fun e a w1 f w hf hd hv q=>by
  cases e with
  | ret=>obtain ⟨v,h1,h2⟩:=q; exact ⟨hd,v,h1 a w1 hf hv,v,w,rfl,hv,h2⟩
  | normal=>obtain ⟨v,h1,h2⟩:=q; exact ⟨hd,v,h1 a w1 hf hv,v,w,rfl,hv,h2⟩
  | _=>exact q.elim) h
theorem run_loadVar {P:Program} {T:TypeId} {b mm:Nat} {cs:List Value} (hA:∀ w,(isAgg T).run P w=.ok true w) (hz:∀ w,(sizeOf T).run P w=.ok mm w) (hl:cs.length=mm) (hc:Cells w b 0 cs):(loadVar T ⟨b,0,none⟩).run P w=.ok (.agg cs.toArray) w:=by
 have h:=loadCellsFrom_run (P:=P) hc cs.length 0 #[] (by omega)
 simp only [List.drop_zero,Array.empty_append] at h
 subst hl
 simp [loadVar,hA,hz,loadCells,h,go_sem]
theorem resS_ok {st:E.St} {f:Fr} {n:Nat} {fx:Slots E.N} {r:ResultVar} {s:E.SV} (h:Rel E C fx lkd st ρ Z f w) (e:resS st r=some s):∃ v,Rep E.N E.T ρ Z w v s/\∀ a w1,Is a f n->Sim w w1->(getR a.tmps r).run E.P w1=.ok v w1:=by
 cases r with
 | tmp t =>
  exact ⟨f t,h.sl t s e,fun a w1 hi hs=>by simp only [getR]; rw [hi.get]; rfl⟩
 | cell a0 T =>
  simp only [resS] at e
  split at e
  . rename_i id off hl
    split at e
    . rename_i Ty cells hi
      split at e
      . rename_i m hA hz
        have ⟨h1,h2⟩:=bif_some e
        simp only [Option.some.injEq] at h2; subst h2
        simp only [Bool.and_eq_true] at h1
        have e0:=Nat.eq_of_beq_eq_true h1.1
        have e1:=Nat.eq_of_beq_eq_true h1.2
        subst e0
        have hr:=h.sl a0 _ hl
        obtain ⟨j,hj,_⟩:=lk_mem hi
        obtain ⟨L,cs,hL,hbs,ho,hrep⟩:=h.mem.holds (its_get (l2:=lkd) hj)
        have hL:ρ id=some L:=hL
        have hp:f a0=.pointer (some ⟨L.b,0,none⟩):=by
         generalize f a0=u at hr
         cases hr with | ref hL'=>rw [hL] at hL'; cases hL'; rfl
        refine ⟨.agg cs.toArray,hrep,fun a w1 hi' hs=>?_⟩
        have hc:Cells w1 L.b 0 cs:=Cells.sim ho.all hs
        have:=run_loadVar (P:=E.P) (w:=w1) (mm:=m) (agg_run hA) (fun w=>run_size hz w) (by rw [hrep.len]; exact e1.symm) hc
        simp only [getR]
        rw [hi'.get,hp]
        rw [Sem.run_bind]
        simp only [asAddr,Sem.run_pure,Result.andThen_ok]
        exact this
      . cases e
    . cases e
  . cases e
theorem vcFun_ok (hE:EnvOK E) (hI:InlOK E inl) (hf:E.P.funcs[K]?=some fn) {k:E.SV->Items E.N->Nat->Prop} (hv:vcFun inl an fn args its lkd nx k) (hm:Mem E C ρ Z w (its++lkd) nx) (hg:E.G.is Z w) (ha:Rep E.N E.T ρ Z w (.tuple vs.toArray) (.tup args)):CallR E.P K vs w (Done E C ρ Z w lkd k):=by
 unfold vcFun at hv
 split at hv
 . rename_i c hc
   cases hb:Nat.ble args.length fn.ntmps with
   | false=>rw [hb] at hv; exact hv.elim
   | true =>
    rw [hb,cond_true] at hv
    have hle:Nat.ble vs.length fn.ntmps=true:=by rw [args_len ha]; exact hb
    have h0:Rel E (C.at ρ Z w) [] lkd ⟨number 0 args,[],its,nx⟩ ρ Z (nth vs) w:=⟨fun k s e=>args_sl (n:=0) ha k s (by simpa using e),fun p hp=>(by cases hp),fun k j b s e=>(by cases e),hm.down,Tn.refl _ _ _,hg⟩
    have hw:=vc_ok (an:=⟨fn.ntmps,an.loop,an.join⟩) hE hI c _ _ _ _ _ ρ Z (nth vs) w h0 hv
    refine Call_V hf hc rfl hle (W_mono hw fun e f' w' q=>?_)
    obtain ⟨st,ρ',Z',hr,he⟩:=q
    have fin:(match resV fn st with | some v=>k v st.items st.nx | none=>False)->∃ v,RunR E.P fn fn.ntmps f' w' v/\Done E C ρ Z w lkd k v w':=fun hk=>by
     split at hk
     . rename_i s hs
       have key:∃ v,Rep E.N E.T ρ' Z' w' v s/\RunR E.P fn fn.ntmps f' w' v:=by
        unfold resV at hs
        split at hs
        . rename_i e0
          cases hs
          exact ⟨_,.tup0,fun a w1 hi hs=>results_0 (by apply Array.ext'; simpa using e0)⟩
        . rename_i r e0
          obtain ⟨v,h1,h2⟩:=resS_ok (n:=fn.ntmps) hr hs
          exact ⟨v,h1,fun a w1 hi hs=>results_1 (by apply Array.ext'; simpa using e0) (h2 a w1 hi hs)⟩
        . rename_i r1 r2 e0
          split at hs
          . rename_i a b ha hb
            cases hs
            obtain ⟨v1,h1,g1⟩:=resS_ok (n:=fn.ntmps) hr ha
            obtain ⟨v2,h2,g2⟩:=resS_ok (n:=fn.ntmps) hr hb
            exact ⟨.tuple #[v1,v2],.tup1 (cs:=[v2]) h1 (.tup1 (cs:=[]) h2 .tup0),fun a w1 hi hs=>results_2 (by apply Array.ext'; simpa using e0) (g1 a w1 hi hs) (g2 a w1 hi hs)⟩
          . cases hs
        . rename_i r1 r2 r3 e0
          split at hs
          . rename_i a b c ha hb hc
            cases hs
            obtain ⟨v1,h1,g1⟩:=resS_ok (n:=fn.ntmps) hr ha
            obtain ⟨v2,h2,g2⟩:=resS_ok (n:=fn.ntmps) hr hb
            obtain ⟨v3,h3,g3⟩:=resS_ok (n:=fn.ntmps) hr hc
            exact ⟨.tuple #[v1,v2,v3],.tup1 (cs:=[v2,v3]) h1 (.tup1 (cs:=[v3]) h2 (.tup1 (cs:=[]) h3 .tup0)),fun a w1 hi hs=>results_3 (by apply Array.ext'; simpa using e0) (g1 a w1 hi hs) (g2 a w1 hi hs) (g3 a w1 hi hs)⟩
          . cases hs
        . rename_i r1 r2 r3 r4 e0
          split at hs
          . rename_i a b c d ha hb hc hd
            cases hs
            obtain ⟨v1,h1,g1⟩:=resS_ok (n:=fn.ntmps) hr ha
            obtain ⟨v2,h2,g2⟩:=resS_ok (n:=fn.ntmps) hr hb
            obtain ⟨v3,h3,g3⟩:=resS_ok (n:=fn.ntmps) hr hc
            obtain ⟨v4,h4,g4⟩:=resS_ok (n:=fn.ntmps) hr hd
            exact ⟨.tuple #[v1,v2,v3,v4],.tup1 (cs:=[v2,v3,v4]) h1 (.tup1 (cs:=[v3,v4]) h2 (.tup1 (cs:=[v4]) h3 (.tup1 (cs:=[]) h4 .tup0))),fun a w1 hi hs=>results_4 (by apply Array.ext'; simpa using e0) (g1 a w1 hi hs) (g2 a w1 hi hs) (g3 a w1 hi hs) (g4 a w1 hi hs)⟩
          . cases hs
        . cases hs
       obtain ⟨v,h1,h2⟩:=key
       exact ⟨v,h2,ρ',Z',s,st.items,st.nx,Mem.upC hm hr.mem,hr.tn,h1,hk⟩
     . exact hk.elim
    cases e with
    | normal=>exact fin he
    | ret=>exact fin he
    | exit i=>exact he.elim
    | _=>exact he.elim
 . exact hv.elim
def ctx0 (ρ:Env1) (Z:Nat->Prop) (w:World):Ctx:=⟨ρ,Z,w,[],w⟩
theorem mem0 {nx:Nat} (hfr:∀ i,nx<=i->ρ i=none) (hz:∀ b,Z b->b<w.heap.size):Mem E (ctx0 ρ Z w) ρ Z w [] nx :=
 ⟨Wl.Sep.nil hz,hfr,fun _ _ h=>h,fun _ h=>h,fun _ h=>.inl h⟩
theorem Done.pure {k:E.SV->Items E.N->Nat->Prop} {v:Value} {w':World} (h:Done E (ctx0 ρ Z w) ρ Z w [] k v w'):∃ ρ' Z' s its' nx',Ext [] w w'/\Mem E (ctx0 ρ Z w) ρ' Z' w' its' nx'/\Tn ρ Z w ρ' Z' w'/\Rep E.N E.T ρ' Z' w' v s/\k s its' nx':=by
 obtain ⟨ρ',Z',s,its',nx',hm,ht,hr,hk⟩:=h
 rw [List.append_nil] at hm
 exact ⟨ρ',Z',s,its',nx',hm.sep.ext,hm,ht,hr,hk⟩
end
end Go.Rx
end
section
namespace Go.Rx
open Go Go.Wk Go.Wl
section
variable {E:Env} {C:Ctx} {w:World} {ρ:Env1} {Z:Nat->Prop} {its:Items E.N} {nx:Nat} {inl:Inl E} {an:Ann} {fn:Func} {K:Nat} {args:List E.SV} {vs:List Value}
def itsOf (E:Env):(k:VK)->k.den E.N->List (Item E.N)
 | .acc t,x=>[.ac t x]
 | _,_=>[]
def rvOf (E:Env) (nx:Nat) (k:VK) (x:k.den E.N):E.SV:=(fl1 E nx k x).1
theorem fl1_its (k:VK) (x:k.den E.N):(fl1 E nx k x).2.1=number nx (itsOf E k x)/\(fl1 E nx k x).2.2=nx+(itsOf E k x).length:=by cases k <;> exact ⟨rfl,rfl⟩
def bareB {N:Uni}:SV N->Bool
 | .int _ _=>true
 | .byte _=>true
 | .bl _ _=>true
 | .str _=>true
 | _=>false
theorem bareB_rep {v:Value} {s:E.SV} (hb:bareB s=true) (h:Rep E.N E.T ρ Z w v s):Rep E.N E.T (fun _=>none) (fun _=>False) w v s:=by
 cases s with
 | int k x=>cases h with | int h=>exact .int h
 | byte x=>cases h; exact .byte
 | bl p d=>cases h; exact .bl
 | str x=>cases h with | str h=>exact .str h
 | _=>cases hb
theorem bareL_rep:∀ {ls:List E.SV} {cs:List Value},ls.all bareB=true->RepL E.N E.T ρ Z w cs ls->RepL E.N E.T (fun _=>none) (fun _=>False) w cs ls
 | [],cs,_,h=>by
  have:=RepL.nil_inv h
  subst this; exact RepL.nil
 | s::r,cs,hb,h=>by
  obtain ⟨v,t,rfl,h1,hp,h2⟩:=RepL.cons_inv h
  rw [List.all_cons,Bool.and_eq_true] at hb
  exact Rep.agg1 (bareB_rep hb.1 h1) hp (bareL_rep hb.2 h2)
def bare (E:Env):(k:VK)->k.den E.N->Prop
 | .int _,_=>True
 | .byte,_=>True
 | .bool,_=>True
 | .str,_=>True
 | .err,e=>e=.nil ∨ ∃ n,e=.no n
 | .val t,x=>∃ y ls,E.ty t=some y/\y.sv x=.agg ls/\ls.all bareB=true
 | _,_=>False
theorem bare_rep {k:VK} {x:k.den E.N} {v:Value} (hb:bare E k x) (h:Rep E.N E.T ρ Z w v (rvOf E nx k x)):Rep E.N E.T (fun _=>none) (fun _=>False) w v (rvOf E nx k x):=by
 cases k with
 | int k=>cases h with | int h=>exact .int h
 | byte=>cases h; exact .byte
 | bool=>change Rep E.N E.T ρ Z w v (blB x) at h; cases h; exact .bl
 | str=>cases h with | str h=>exact .str h
 | err =>
  cases h with
  | err h =>
   rcases hb with rfl | ⟨n,rfl⟩
   . cases h; exact .err .nil
   . cases h with | no h=>exact .err (.no h)
 | val t =>
  obtain ⟨y,ls,e1,e2,e3⟩:=hb
  have e:rvOf E nx (.val t) x=.agg ls:=by
   unfold rvOf fl1
   simp only [e1,e2]
  rw [e] at h ⊢
  obtain ⟨cs,rfl,hl⟩:=h.agg_inv
  exact bareL_rep e3 hl
 | _=>exact hb.elim
theorem resP1 {k:VK} {x:k.den E.N} {s:E.SV} {i:Nat} (h:resP E [k] (fun y=>y=x) s its i):rb1 E its k s=some x:=by
 unfold resP parts at h
 simp only [rbCells] at h
 cases hy:rb1 E its k s with
 | none=>rw [hy] at h; exact h.elim
 | some y=>rw [hy] at h; have h:y=x:=h; rw [h]
theorem resP2 {k1 k2:VK} {x1:k1.den E.N} {x2:k2.den E.N} {s:E.SV} {i:Nat} (h:resP E [k1,k2] (fun y z=>y=x1/\z=x2) s its i):∃ s1 s2,s=.tup [s1,s2]/\rb1 E its k1 s1=some x1/\rb1 E its k2 s2=some x2:=by
 have one:∀ u:E.SV,(match rbCells E its [k1,k2] [u] (fun y z=>y=x1/\z=x2) with | some p=>p | none=>False)->False:=fun u h=>by
  simp only [rbCells] at h
  cases hy:rb1 E its k1 u with
  | none=>rw [hy] at h; exact h
  | some y=>rw [hy] at h; exact h
 unfold resP at h
 cases s with
 | tup vs =>
  match vs,h with
  | [],h=>exact h.elim
  | [u],h=>exact (one u h).elim
  | [s1,s2],h =>
   simp only [parts,rbCells] at h
   cases hy:rb1 E its k1 s1 with
   | none=>rw [hy] at h; exact h.elim
   | some y =>
    rw [hy] at h
    cases hz:rb1 E its k2 s2 with
    | none=>simp only [hz] at h
    | some z=>simp only [hz] at h; exact ⟨s1,s2,rfl,by rw [hy,h.1],by rw [hz,h.2]⟩
  | s1::s2::s3::r,h =>
   simp only [parts,rbCells] at h
   cases hy:rb1 E its k1 s1 with
   | none=>rw [hy] at h; exact h.elim
   | some y =>
    rw [hy] at h
    cases hz:rb1 E its k2 s2 with
    | none=>simp only [hz] at h
    | some z=>simp only [hz] at h
 | _=>exact (one _ h).elim
theorem resP3 {k1 k2 k3:VK} {x1:k1.den E.N} {x2:k2.den E.N} {x3:k3.den E.N} {s:E.SV} {i:Nat} (h:resP E [k1,k2,k3] (fun y z u=>y=x1/\z=x2/\u=x3) s its i):∃ s1 s2 s3,s=.tup [s1,s2,s3]/\rb1 E its k1 s1=some x1/\rb1 E its k2 s2=some x2/\rb1 E its k3 s3=some x3:=by
 have one:∀ u:E.SV,(match rbCells E its [k1,k2,k3] [u] (fun y z u=>y=x1/\z=x2/\u=x3) with | some p=>p | none=>False)->False:=fun u h=>by
  simp only [rbCells] at h
  cases hy:rb1 E its k1 u with
  | none=>rw [hy] at h; exact h
  | some y=>rw [hy] at h; exact h
 unfold resP at h
 cases s with
 | tup vs =>
  match vs,h with
  | [],h=>exact h.elim
  | [u],h=>exact (one u h).elim
  | [s1,s2],h =>
   simp only [parts,rbCells] at h
   cases hy:rb1 E its k1 s1 with
   | none=>rw [hy] at h; exact h.elim
   | some y =>
    rw [hy] at h
    cases hz:rb1 E its k2 s2 with
    | none=>simp only [hz] at h
    | some z=>simp only [hz] at h
  | [s1,s2,s3],h =>
   simp only [parts,rbCells] at h
   cases hy:rb1 E its k1 s1 with
   | none=>rw [hy] at h; exact h.elim
   | some y =>
    rw [hy] at h
    cases hz:rb1 E its k2 s2 with
    | none=>simp only [hz] at h
    | some z =>
     simp only [hz] at h
     cases hu:rb1 E its k3 s3 with
     | none=>simp only [hu] at h
     | some u=>simp only [hu] at h; exact ⟨s1,s2,s3,rfl,by rw [hy,h.1],by rw [hz,h.2.1],by rw [hu,h.2.2]⟩
  | s1::s2::s3::s4::r,h =>
   simp only [parts,rbCells] at h
   cases hy:rb1 E its k1 s1 with
   | none=>rw [hy] at h; exact h.elim
   | some y =>
    rw [hy] at h
    cases hz:rb1 E its k2 s2 with
    | none=>simp only [hz] at h
    | some z =>
     simp only [hz] at h
     cases hu:rb1 E its k3 s3 with
     | none=>simp only [hu] at h
     | some u=>simp only [hu] at h
 | _=>exact (one _ h).elim
theorem lend1 (hE:EnvOK E) (hI:InlOK E inl) (hf:E.P.funcs[K]?=some fn) {k:VK} {x:k.den E.N} {ob:List Prop} (hb:bare E k x) (hv:vcFun inl an fn args [] [] 0 (resP E [k] (fun y=>y=x))) (n:Nat):LendOK E K args ⟨ob,[],rvOf E n k x,[]⟩:=fun D w vs hD hg ha =>
 (vcFun_ok (C:=ctx0 (fun _=>none) D w) hE hI hf hv (mem0 (nx:=0) (fun _ _=>rfl) hD) hg ha).mono fun v w' h=>by
  obtain ⟨ρ',Z',s,its',nx',hx,hm,ht,hr,hk⟩:=h.pure
  obtain ⟨ρ3,os',_,_,_,hr3,_⟩:=rb1_ok (lkd:=[]) (n2:=n) (ρ2:=fun _=>none) (os:=[]) (new:=[]) (by simpa using hm) hr (resP1 hk) (fun _ _=>rfl) .nil
  exact ⟨hx,bare_rep hb hr3,trivial⟩
theorem tup2_inv {v:Value} {s1 s2:E.SV} (h:Rep E.N E.T ρ Z w v (.tup [s1,s2])):∃ v1 v2,v=.tuple #[v1,v2]/\Rep E.N E.T ρ Z w v1 s1/\Rep E.N E.T ρ Z w v2 s2:=by
 obtain ⟨cs,rfl⟩:=Rep.tup_inv h
 obtain ⟨v1,r,rfl,h1,h⟩:=Rep.tup_cons h
 obtain ⟨v2,r,rfl,h2,h⟩:=Rep.tup_cons h
 have:r=[]:=by
  generalize e:Value.tuple r.toArray=u at h
  cases h with | tup0=>simpa using e
 subst this
 exact ⟨v1,v2,rfl,h1,h2⟩
theorem tup3_inv {v:Value} {s1 s2 s3:E.SV} (h:Rep E.N E.T ρ Z w v (.tup [s1,s2,s3])):∃ v1 v2 v3,v=.tuple #[v1,v2,v3]/\Rep E.N E.T ρ Z w v1 s1/\Rep E.N E.T ρ Z w v2 s2/\Rep E.N E.T ρ Z w v3 s3:=by
 obtain ⟨cs,rfl⟩:=Rep.tup_inv h
 obtain ⟨v1,r,rfl,h1,h⟩:=Rep.tup_cons h
 obtain ⟨v2,r,rfl,h2,h⟩:=Rep.tup_cons h
 obtain ⟨v3,r,rfl,h3,h⟩:=Rep.tup_cons h
 have:r=[]:=by
  generalize e:Value.tuple r.toArray=u at h
  cases h with | tup0=>simpa using e
 subst this
 exact ⟨v1,v2,v3,rfl,h1,h2,h3⟩
theorem tup2 {v1 v2:Value} {s1 s2:E.SV} (h1:Rep E.N E.T ρ Z w v1 s1) (h2:Rep E.N E.T ρ Z w v2 s2):Rep E.N E.T ρ Z w (.tuple #[v1,v2]) (.tup [s1,s2]):=.tup1 (cs:=[v2]) h1 (.tup1 (cs:=[]) h2 .tup0)
theorem tup3 {v1 v2 v3:Value} {s1 s2 s3:E.SV} (h1:Rep E.N E.T ρ Z w v1 s1) (h2:Rep E.N E.T ρ Z w v2 s2) (h3:Rep E.N E.T ρ Z w v3 s3):Rep E.N E.T ρ Z w (.tuple #[v1,v2,v3]) (.tup [s1,s2,s3]):=.tup1 (cs:=[v2,v3]) h1 (tup2 h2 h3)
theorem lend2 (hE:EnvOK E) (hI:InlOK E inl) (hf:E.P.funcs[K]?=some fn) {k1 k2:VK} {x1:k1.den E.N} {x2:k2.den E.N} {ob:List Prop} (hb1:bare E k1 x1) (hb2:bare E k2 x2) (hv:vcFun inl an fn args [] [] 0 (resP E [k1,k2] (fun y z=>y=x1/\z=x2))) (n:Nat):LendOK E K args ⟨ob,[],.tup [rvOf E n k1 x1,rvOf E n k2 x2],[]⟩:=fun D w vs hD hg ha =>
 (vcFun_ok (C:=ctx0 (fun _=>none) D w) hE hI hf hv (mem0 (nx:=0) (fun _ _=>rfl) hD) hg ha).mono fun v w' h=>by
  obtain ⟨ρ',Z',s,its',nx',hx,hm,ht,hr,hk⟩:=h.pure
  obtain ⟨s1,s2,rfl,e1,e2⟩:=resP2 hk
  obtain ⟨v1,v2,rfl,h1,h2⟩:=tup2_inv hr
  obtain ⟨_,_,_,_,_,r1,_⟩:=rb1_ok (lkd:=[]) (n2:=n) (ρ2:=fun _=>none) (os:=[]) (new:=[]) (by simpa using hm) h1 e1 (fun _ _=>rfl) .nil
  obtain ⟨_,_,_,_,_,r2,_⟩:=rb1_ok (lkd:=[]) (n2:=n) (ρ2:=fun _=>none) (os:=[]) (new:=[]) (by simpa using hm) h2 e2 (fun _ _=>rfl) .nil
  exact ⟨hx,tup2 (bare_rep hb1 r1) (bare_rep hb2 r2),trivial⟩
theorem fl1_non {k:VK} {x:k.den E.N} (h:itsOf E k x=[]) (n:Nat):fl1 E n k x=(rvOf E nx k x,[],n):=by
 cases k with
 | acc t=>cases h
 | _=>rfl
theorem acc_nd {k:VK} {s:E.SV} {l:List Nat} (h:l=accId k s++List.filterMap id ([]:List (Option Nat))):l.Nodup:=by rw [h]; unfold accId; split <;> simp
theorem con_end {os:List (Option Nat)} {new:Items E.N} {n2:Nat} {ρ' ρ2:Env1} {Z':Nat->Prop} {w':World} {its':Items E.N} {nx':Nat} (hm:Mem E (ctx0 (fun _=>none) Z w) ρ' Z' w' its' nx') (ht:Tgts E [] ρ' Z' w' its' ρ2 os new) (hnd:(os.filterMap id).Nodup) (hfr:∀ i,n2<=i->ρ2 i=none) :
  Sep [] w Z' w' (toIts E.N E.T ρ2 [] new):=by
 have:=Mem.rebuild (lkd:=[]) (by simpa using hm) (fun _ h=>by cases h) ht hnd hfr (fun _ _ h=>by cases h)
 simpa [ctx0] using this.sep
theorem con1 (hE:EnvOK E) (hI:InlOK E inl) (hf:E.P.funcs[K]?=some fn) {k:VK} {x:k.den E.N} {ob:List Prop} (hp:args.all pureS=true) (hv:vcFun inl an fn args [] [] 0 (resP E [k] (fun y=>y=x))):ConOK E.P E.N E.T E.G K args nx ⟨ob,[],rvOf E nx k x,itsOf E k x⟩ :=
 ⟨fun ρ Z w vs hfr hz hg ha=>(vcFun_ok (C:=ctx0 (fun _=>none) Z w) hE hI hf hv (mem0 (fun _ _=>rfl) hz) hg (pureT_rep hp ha _)).mono fun v w' h=>by
  obtain ⟨ρ',Z',s,its',nx',hx,hm,ht,hr,hk⟩:=h.pure
  obtain ⟨ρ3,os,t1,f1,s1,r1,o1⟩:=rb1_ok (lkd:=[]) (n2:=nx) (ρ2:=ρ) (os:=[]) (new:=[]) (by simpa using hm) hr (resP1 hk) hfr .nil
  rw [(fl1_its k x).1,List.append_nil] at t1
  rw [(fl1_its k x).2] at f1
  refine ⟨ρ3,Z',s1,f1,hm.zge,fun b hb=>?_,r1,con_end hm t1 (acc_nd o1) f1,trivial⟩
  rcases hm.zle b hb with h | h | h
  . exact .inl h
  . cases h
  . exact .inr h⟩
theorem rb_more {os:List (Option Nat)} {new:Items E.N} {n2:Nat} {ρ' ρ2:Env1} {Z':Nat->Prop} {w':World} {its':Items E.N} {nx':Nat} {C:Ctx} {k:VK} {x:k.den E.N} {v:Value} {s:E.SV} (hm:Mem E C ρ' Z' w' its' nx') (hu:Rep E.N E.T ρ' Z' w' v s) (h:rb1 E its' k s=some x) (hn:itsOf E k x=[]) (hfr:∀ i,n2<=i->ρ2 i=none) (ht:Tgts E C.B0 ρ' Z' w' its' ρ2 os new) (hnd:(os.filterMap id).Nodup) :
  ∃ ρ3 os',Tgts E C.B0 ρ' Z' w' its' ρ3 os' new/\(∀ i,n2<=i->ρ3 i=none)/\(∀ i L,ρ2 i=some L->ρ3 i=some L)/\Rep E.N E.T ρ3 Z' w' v (rvOf E nx k x)/\(os'.filterMap id).Nodup:=by
 obtain ⟨ρ3,os',t,f,s1,r,o⟩:=rb1_ok (lkd:=[]) (by simpa using hm) hu h hfr ht
 rw [fl1_non (nx:=nx) hn n2] at t f r
 refine ⟨ρ3,os',by simpa using t,f,s1,r,?_⟩
 rw [o]
 cases k with
 | acc t=>cases hn
 | _=>exact hnd
theorem con2 (hE:EnvOK E) (hI:InlOK E inl) (hf:E.P.funcs[K]?=some fn) {k1 k2:VK} {x1:k1.den E.N} {x2:k2.den E.N} {ob:List Prop} (h2:itsOf E k2 x2=[]) (hp:args.all pureS=true) (hv:vcFun inl an fn args [] [] 0 (resP E [k1,k2] (fun y z=>y=x1/\z=x2))) :
  ConOK E.P E.N E.T E.G K args nx ⟨ob,[],.tup [rvOf E nx k1 x1,rvOf E nx k2 x2],itsOf E k1 x1⟩ :=
 ⟨fun ρ Z w vs hfr hz hg ha=>(vcFun_ok (C:=ctx0 (fun _=>none) Z w) hE hI hf hv (mem0 (fun _ _=>rfl) hz) hg (pureT_rep hp ha _)).mono fun v w' h=>by
  obtain ⟨ρ',Z',s,its',nx',hx,hm,ht,hr,hk⟩:=h.pure
  obtain ⟨s1,s2,rfl,e1,e2⟩:=resP2 hk
  obtain ⟨v1,v2,rfl,g1,g2⟩:=tup2_inv hr
  obtain ⟨ρ3,os,t1,f1,b1,r1,o1⟩:=rb1_ok (lkd:=[]) (n2:=nx) (ρ2:=ρ) (os:=[]) (new:=[]) (by simpa using hm) g1 e1 hfr .nil
  rw [(fl1_its k1 x1).1,List.append_nil] at t1
  rw [(fl1_its k1 x1).2] at f1
  obtain ⟨ρ4,os2,t2,f2,b2,r2,nd2⟩:=rb_more (nx:=nx) hm g2 e2 h2 f1 t1 (acc_nd o1)
  refine ⟨ρ4,Z',sub_trans b1 b2,f2,hm.zge,fun b hb=>?_,tup2 (Rep.sub r1 b2) r2,con_end hm t2 nd2 f2,trivial⟩
  rcases hm.zle b hb with h | h | h
  . exact .inl h
  . cases h
  . exact .inr h⟩
theorem con3 (hE:EnvOK E) (hI:InlOK E inl) (hf:E.P.funcs[K]?=some fn) {k1 k2 k3:VK} {x1:k1.den E.N} {x2:k2.den E.N} {x3:k3.den E.N} {ob:List Prop} (h2:itsOf E k2 x2=[]) (h3:itsOf E k3 x3=[]) (hp:args.all pureS=true) (hv:vcFun inl an fn args [] [] 0 (resP E [k1,k2,k3] (fun y z u=>y=x1/\z=x2/\u=x3))) :
  ConOK E.P E.N E.T E.G K args nx ⟨ob,[],.tup [rvOf E nx k1 x1,rvOf E nx k2 x2,rvOf E nx k3 x3],itsOf E k1 x1⟩ :=
 ⟨fun ρ Z w vs hfr hz hg ha=>(vcFun_ok (C:=ctx0 (fun _=>none) Z w) hE hI hf hv (mem0 (fun _ _=>rfl) hz) hg (pureT_rep hp ha _)).mono fun v w' h=>by
  obtain ⟨ρ',Z',s,its',nx',hx,hm,ht,hr,hk⟩:=h.pure
  obtain ⟨s1,s2,s3,rfl,e1,e2,e3⟩:=resP3 hk
  obtain ⟨v1,v2,v3,rfl,g1,g2,g3⟩:=tup3_inv hr
  obtain ⟨ρ3,os,t1,f1,b1,r1,o1⟩:=rb1_ok (lkd:=[]) (n2:=nx) (ρ2:=ρ) (os:=[]) (new:=[]) (by simpa using hm) g1 e1 hfr .nil
  rw [(fl1_its k1 x1).1,List.append_nil] at t1
  rw [(fl1_its k1 x1).2] at f1
  obtain ⟨ρ4,os2,t2,f2,b2,r2,nd2⟩:=rb_more (nx:=nx) hm g2 e2 h2 f1 t1 (acc_nd o1)
  obtain ⟨ρ5,os3,t3,f3,b3,r3,nd3⟩:=rb_more (nx:=nx) hm g3 e3 h3 f2 t2 nd2
  refine ⟨ρ5,Z',sub_trans (sub_trans b1 b2) b3,f3,hm.zge,fun b hb=>?_,tup3 (Rep.sub (Rep.sub r1 b2) b3) (Rep.sub r2 b3) r3,con_end hm t3 nd3 f3,trivial⟩
  rcases hm.zle b hb with h | h | h
  . exact .inl h
  . cases h
  . exact .inr h⟩
end
end Go.Rx
end
section
namespace Go.Rx
open Go Go.Wk Go.Wl
section
variable {N:Uni} {T:ErrT} {ρ:Env1} {Z:Nat->Prop} {w:World} {cs cs':List Value} {ls ls':List (SV N)}
theorem RepL.split (n:Nat) (h:RepL N T ρ Z w cs ls):RepL N T ρ Z w (cs.take n) (ls.take n)/\RepL N T ρ Z w (cs.drop n) (ls.drop n):=by
 induction n generalizing cs ls with
 | zero=>exact ⟨by simpa using RepL.nil,by simpa using h⟩
 | succ n ih =>
  cases ls with
  | nil=>obtain rfl:=RepL.nil_inv h; exact ⟨by simpa using RepL.nil,by simpa using RepL.nil⟩
  | cons s r =>
   obtain ⟨v,rr,rfl,h1,hp,h2⟩:=RepL.cons_inv h
   obtain ⟨a,b⟩:=ih h2
   exact ⟨RepL.cons h1 hp a,b⟩
def pb {α:Type} (f:SV N->Option α):List (SV N)->Option α
 | [s]=>f s
 | _=>none
def asLN (N:Uni) (t:Nat):SV N->Option (List (N.U t))
 | .nils=>some []
 | .sl t' l=>if h:t'=t then some (castL h l) else none
 | _=>none
theorem asLN_rd {t:Nat} {v:Value} {s:SV N} {l:List (N.U t)} (h:Rep N T ρ Z w v s) (e:asLN N t s=some l):(dSlice (N.tb t).r).rd Z w [v] l:=by
 cases h with
 | nils=>simp [asLN] at e; subst e; exact dSlice_nil
 | sl h =>
  simp only [asLN] at e
  split at e
  . rename_i ht; subst ht; simp [castL] at e; subst e; exact h
  . cases e
 | _=>simp [asLN] at e
theorem pb_inv {α:Type} {f:SV N->Option α} {x:α} {r:Rd α} (hr:∀ (v:Value) (s:SV N),Rep N T ρ Z w v s->f s=some x->r.rd Z w [v] x) (h:RepL N T ρ Z w cs ls) (e:pb f ls=some x):r.rd Z w cs x:=by
 unfold pb at e
 split at e
 . obtain ⟨v,rfl,h1,_⟩:=RepL.one_inv h; exact hr v _ h1 e
 . cases e
theorem pb_int {x:Int} (h:RepL N T ρ Z w cs ls) (e:pb asI64 ls=some x):dInt.rd Z w cs x:=pb_inv (fun v s h e=>by have ⟨a,b⟩:=asI64_rd h e; rw [a]; exact ⟨rfl,b⟩) h e
theorem pb_bool {x:Bool} (h:RepL N T ρ Z w cs ls) (e:pb asB ls=some x):dBool.rd Z w cs x:=pb_inv (r:=dBool) (fun v s h e=>by obtain rfl:=asB_rd h e; rfl) h e
theorem pb_sl {t:Nat} {x:List (N.U t)} (h:RepL N T ρ Z w cs ls) (e:pb (asLN N t) ls=some x):(dSlice (N.tb t).r).rd Z w cs x:=pb_inv (r:=dSlice (N.tb t).r) (fun v s h e=>asLN_rd h e) h e
theorem sv_sl {t:Nat} {x:List (N.U t)} (h:(dSlice (N.tb t).r).rd Z w cs x):RepL N T ρ Z w cs [.sl t x]:=by
 have hl:=Rd.len _ h
 have hp:=Rd.plain _ h
 match cs,hl with
 | [v],_ =>
  simp only [List.all_cons,List.all_nil,Bool.and_true] at hp
  exact RepL.one (.sl h) hp
end
end Go.Rx
end
section
namespace Go.Rx
open Go Go.Wk Go.Wl
def addF {α:Type} (K:Nat) (x:α) (f:Nat->Option α):Nat->Option α:=fun k=>bif Nat.beq k K then some x else f k
def Env.addL (E:Env) (K:Nat) (C:List E.SV->Option (Q1 E.N)):Env:=⟨E.P,E.N,E.T,E.ty,E.zob,addF K (fun a _=>(C a).map fun q=>⟨q.ob,q.hy,q.v,[]⟩) E.con,fun k=>bif Nat.beq k K then true else E.lend k,E.obc,E.inl,E.G,E.wrc,E.rws,E.fnc,E.roc,E.yl⟩
def Env.addC (E:Env) (K:Nat) (C:List E.SV->Nat->Option (CR E.N)):Env:=⟨E.P,E.N,E.T,E.ty,E.zob,addF K C E.con,fun k=>bif Nat.beq k K then false else E.lend k,E.obc,E.inl,E.G,E.wrc,E.rws,E.fnc,E.roc,E.yl⟩
def Env.addI (E:Env) (K:Nat) (fn:Func):Env:=⟨E.P,E.N,E.T,E.ty,E.zob,E.con,E.lend,E.obc,addF K fn E.inl,E.G,E.wrc,E.rws,E.fnc,E.roc,E.yl⟩
def Env.addX (E:Env) (K:Nat) (o:FC E.N):Env:=⟨E.P,E.N,E.T,E.ty,E.zob,E.con,E.lend,E.obc,E.inl,E.G,E.wrc,E.rws,addF K o E.fnc,E.roc,E.yl⟩
def Env.addR (E:Env) (K:Nat) (C:List E.SV->Items E.N->Option (Q1 E.N)):Env:=⟨E.P,E.N,E.T,E.ty,E.zob,E.con,E.lend,E.obc,E.inl,E.G,E.wrc,E.rws,E.fnc,addF K C E.roc,E.yl⟩
section
variable {E:Env} {K:Nat}
abbrev CallOK (P:Program) (K:Nat):Prop:=∀ xs w,(callFunc K xs).run P w=.ok (.enter K xs) w
theorem addF_inv {α:Type} {x y:α} {f:Nat->Option α} {k:Nat} (h:addF K x f k=some y):(k=K/\y=x) ∨ f k=some y:=by
 unfold addF at h
 cases hb:Nat.beq k K with
 | true=>rw [hb,cond_true] at h; cases h; exact .inl ⟨Nat.eq_of_beq_eq_true hb,rfl⟩
 | false=>rw [hb,cond_false] at h; exact .inr h
theorem addF_some {α:Type} {x:α} {f:Nat->Option α} {k:Nat} (h:(addF K x f k).isSome=true):k=K ∨ (f k).isSome=true:=by
 obtain ⟨y,hy⟩:=Option.isSome_iff_exists.1 h
 rcases addF_inv hy with ⟨e,_⟩ | e
 . exact .inl e
 . exact .inr (by rw [e]; rfl)
theorem LendOK.con {args:List E.SV} {c:CR E.N} {nx:Nat} (h:LendOK E K args c) (hi:c.its=[]) (hp:args.all pureS=true):ConOK E.P E.N E.T E.G K args nx c :=
 ⟨fun ρ Z w vs hfr hz hg ha=>(h Z w vs hz hg (pureT_rep hp ha _)).mono fun v w' ⟨x,r,hy⟩=>⟨ρ,Z,fun _ _ h=>h,by rw [hi]; exact hfr,fun _ h=>h,fun _ h=>.inl h,Rep.bare r,by
  rw [hi]
  exact ⟨x,fun b hb=>by have:=hz b hb; have:=x.size; omega,fun k t h=>by simp [toIts,number] at h,fun j k s t h=>by simp [toIts,number] at h⟩,hy⟩⟩
theorem EnvOK.addL (h:EnvOK E) {C:List E.SV->Option (Q1 E.N)} (hc:CallOK E.P K) (ok:∀ args q,C args=some q->allP q.ob->LendOK E K args ⟨q.ob,q.hy,q.v,[]⟩):EnvOK (E.addL K C):=by
 refine ⟨h.mixed,h.zob,fun k hk=>?_,h.inl,fun k f args nx c hf hr hp ho=>?_,fun k f args nx c hf hl hr hi ho=>?_,h.obc,h.wrc,h.callf,h.fnc,h.callr,h.roc,h.yl⟩
 . by_cases e:k=K
   . subst e; exact hc
   . refine h.call k ?_
     simp only [Bool.or_eq_true] at hk ⊢
     rcases hk with ((hk | hk) | hk) | hk
     . rcases addF_some hk with e' | e'
       . exact absurd e' e
       . exact .inl (.inl (.inl e'))
     . exact .inl (.inl (.inr hk))
     . exact .inl (.inr hk)
     . exact .inr hk
 . rcases addF_inv hf with ⟨e1,e2⟩ | hf
   . rw [e2] at hr
     obtain ⟨q,hq,e3⟩:=Option.map_eq_some_iff.1 hr
     subst e3
     rw [e1]
     exact (ok args q hq ho).con rfl hp
   . exact h.con k f args nx c hf hr hp ho
 . rcases addF_inv hf with ⟨e1,e2⟩ | hf'
   . rw [e2] at hr
     obtain ⟨q,hq,e3⟩:=Option.map_eq_some_iff.1 hr
     subst e3
     rw [e1]
     exact ok args q hq ho
   . by_cases e:k=K
     . have hf:addF K (fun a _=>(C a).map fun q=>(⟨q.ob,q.hy,q.v,[]⟩:CR E.N)) E.con k=some f:=hf
       unfold addF at hf
       rw [e,Nat.beq_refl,cond_true] at hf
       have e2:=Option.some.inj hf
       rw [<- e2] at hr
       obtain ⟨q,hq,e3⟩:=Option.map_eq_some_iff.1 hr
       subst e3
       rw [e]
       exact ok args q hq ho
     . refine h.lend k f args nx c hf' ?_ hr hi ho
       have hl:(bif Nat.beq k K then true else E.lend k)=true:=hl
       rw [beq_ne e,cond_false] at hl; exact hl
theorem EnvOK.addC (h:EnvOK E) {C:List E.SV->Nat->Option (CR E.N)} (hc:CallOK E.P K) (ok:∀ args nx c,C args nx=some c->args.all pureS=true->allP c.ob->ConOK E.P E.N E.T E.G K args nx c):EnvOK (E.addC K C):=by
 refine ⟨h.mixed,h.zob,fun k hk=>?_,h.inl,fun k f args nx c hf hr hp ho=>?_,fun k f args nx c hf hl hr hi ho=>?_,h.obc,h.wrc,h.callf,h.fnc,h.callr,h.roc,h.yl⟩
 . by_cases e:k=K
   . subst e; exact hc
   . refine h.call k ?_
     simp only [Bool.or_eq_true] at hk ⊢
     rcases hk with ((hk | hk) | hk) | hk
     . rcases addF_some hk with e' | e'
       . exact absurd e' e
       . exact .inl (.inl (.inl e'))
     . exact .inl (.inl (.inr hk))
     . exact .inl (.inr hk)
     . exact .inr hk
 . rcases addF_inv hf with ⟨e1,e2⟩ | hf
   . rw [e2] at hr
     rw [e1]; exact ok args nx c hr hp ho
   . exact h.con k f args nx c hf hr hp ho
 . have hl:(bif Nat.beq k K then false else E.lend k)=true:=hl
   have e:k≠K:=fun e=>by subst e; rw [Nat.beq_refl,cond_true] at hl; cases hl
   rw [beq_ne e,cond_false] at hl
   rcases addF_inv hf with ⟨e',_⟩ | hf'
   . exact absurd e' e
   . exact h.lend k f args nx c hf' hl hr hi ho
theorem EnvOK.addI (h:EnvOK E) {fn:Func} (hc:CallOK E.P K) (hf:E.P.funcs[K]?=some fn):EnvOK (E.addI K fn):=by
 refine ⟨h.mixed,h.zob,fun k hk=>?_,fun k g hg=>?_,h.con,h.lend,h.obc,h.wrc,h.callf,h.fnc,h.callr,h.roc,h.yl⟩
 . by_cases e:k=K
   . subst e; exact hc
   . refine h.call k ?_
     simp only [Bool.or_eq_true] at hk ⊢
     rcases hk with ((hk | hk) | hk) | hk
     . exact .inl (.inl (.inl hk))
     . exact .inl (.inl (.inr hk))
     . rcases addF_some hk with e' | e'
       . exact absurd e' e
       . exact .inl (.inr e')
     . exact .inr hk
 . rcases addF_inv hg with ⟨rfl,rfl⟩ | hg
   . exact hf
   . exact h.inl k g hg
theorem EnvOK.addX (h:EnvOK E) {o:FC E.N} (hc:CallOK E.P K) (ok:∀ args its r,o.C args its=some r->allP r.ob->GenOK E.P E.N E.T E.G K args its (2 * its.length) (fun k=>allP r.hy->k r.v r.its r.n)):EnvOK (E.addX K o):=by
 refine ⟨h.mixed,h.zob,h.call,h.inl,h.con,h.lend,h.obc,h.wrc,fun k hk=>?_,fun k o' args its r ho hr hob=>?_,h.callr,h.roc,h.yl⟩
 . rcases addF_some hk with e | e
   . subst e; exact hc
   . exact h.callf k e
 . rcases addF_inv ho with ⟨e1,e2⟩ | ho
   . cases e2
     rw [e1]; exact ok args its r hr hob
   . exact h.fnc k o' args its r ho hr hob
theorem EnvOK.addR (h:EnvOK E) {C:List E.SV->Items E.N->Option (Q1 E.N)} (hc:CallOK E.P K) (ok:∀ args its q,C args its=some q->allP q.ob->RocOK E.P E.N E.T E.G K args its q):EnvOK (E.addR K C):=by
 refine ⟨h.mixed,h.zob,h.call,h.inl,h.con,h.lend,h.obc,h.wrc,h.callf,h.fnc,fun k hk=>?_,fun k C' args its q ho hr hob=>?_,h.yl⟩
 . rcases addF_some hk with e | e
   . subst e; exact hc
   . exact h.callr k e
 . rcases addF_inv ho with ⟨e1,e2⟩ | ho
   . cases e2
     rw [e1]; exact ok args its q hr hob
   . exact h.roc k C' args its q ho hr hob
end
end Go.Rx
end
section
namespace Go.Rx
open Go Go.Wk Go.Wl
def Err.num:Err->Option Int
 | .nil=>none
 | .no n=>some n
 | .fault _ n=>some n
 | .w _ _ e=>e.num
 | .p _ _ n=>some n
def Err.is (e:Err) (n:Int):Prop:=e.num=some n
instance (e:Err) (n:Int):Decidable (e.is n):=by unfold Err.is; infer_instance
def Err.nr (e:Err):Int:=match e with
 | .nil=>0
 | e=>match e.num with | some n=>if 1<=n/\n<=16 then n else -1 | none=>-1
section
open Go.Lib
variable {P:Program} (w:World)
end
end Go.Rx
end
section
namespace Go.Rx
open Go Go.Wk Go.Wl
def Vals (N:Uni):List VK->Type
 | []=>Unit
 | k::r=>k.den N×Vals N r
def eqs (N:Uni):(ks:List VK)->Vals N ks->List Prop->cellsDen N Prop ks
 | [],_,ps=>cjl ps
 | _::r,X,ps=>fun x=>eqs N r X.2 (ps++[x=X.1])
section
variable {E:Env} {C:Ctx} {w w':World} {ρ ρ':Env1} {Z Z':Nat->Prop} {its lkd:Items E.N} {nx:Nat} {inl:Inl E}
theorem none_sub {v:Value} {s:E.SV} (h:Rep E.N E.T (fun _=>none) Z w v s):Rep E.N E.T ρ Z w v s:=Rep.sub h (fun _ _ h=>by cases h)
theorem pureL_rep {cs:List Value} {ss:List E.SV} (hp:ss.all pureS=true) (h:RepL E.N E.T ρ Z w cs ss) (ρ':Env1):RepL E.N E.T ρ' Z w cs ss:=by
 induction ss generalizing cs with
 | nil=>obtain rfl:=RepL.nil_inv h; exact RepL.nil
 | cons s ss ih =>
  obtain ⟨v,r,rfl,h1,hv,h2⟩:=RepL.cons_inv h
  simp only [List.all_cons,Bool.and_eq_true] at hp
  exact RepL.cons (pureS_rep hp.1 h1 ρ') hv (ih hp.2 h2)
theorem frz0_own {j id S:Nat} {cells:List E.SV}:∀ {vs vs':List E.SV} {its its':Items E.N},frz0 its vs=some (vs',its')->its[j]?=some (id,.own S cells)->its'[j]?=some (id,.own S cells)
 | [],vs',its,its',h,hj=>by
  simp [frz0] at h; obtain ⟨rfl,rfl⟩:=h; exact hj
 | v::r,vs',its,its',h,hj=>by
  have other:(match frz0 its r with | some (r',its')=>some (v::r',its') | none=>none)=some (vs',its')->its'[j]?=some (id,.own S cells):=fun h=>by
   split at h
   . rename_i r' its1 hr
     simp only [Option.some.injEq,Prod.mk.injEq] at h
     obtain ⟨rfl,rfl⟩:=h
     exact frz0_own hr hj
   . cases h
  cases v with
  | acc id2 =>
   simp only [frz0] at h
   split at h
   . rename_i t l hi
     split at h
     . rename_i r' its1 hr
       simp only [Option.some.injEq,Prod.mk.injEq] at h
       obtain ⟨rfl,rfl⟩:=h
       obtain ⟨i,hi1,hu,_⟩:=lk_mem hi
       refine frz0_own hr ?_
       rw [hu,List.getElem?_set_ne (fun e=>by subst e; rw [hi1] at hj; cases hj)]
       exact hj
     . cases h
   . split at h
     . rename_i r' its1 hr
       simp only [Option.some.injEq,Prod.mk.injEq] at h
       obtain ⟨rfl,rfl⟩:=h
       exact frz0_own hr hj
     . cases h
   . cases h
  | ref=>cases h
  | el=>cases h
  | sub=>cases h
  | clo=>cases h
  | yld=>cases h
  | agg=>cases h
  | tup=>cases h
  | _=>exact other h
def ansV (n:Nat) (s:E.SV):Option (List E.SV):=match n with
 | 1=>some [s]
 | _=>(match s with | .tup vs=>some vs | _=>none)
def tellA {N:Uni} (n:Nat) (vs:List (SV N)):SV N:=match n with
 | 1=>vs.headD .un
 | _=>.tup vs
def resM (E:Env) (S m n:Nat) (ks:List VK) (Q:cellsDen E.N Prop ks):E.SV->Items E.N->Nat->Prop:=fun s its _=>match lk its 0,ansV n s with
 | some (.own S' cells),some ars=>bif Nat.beq S' S && Nat.beq cells.length m then (match frz its (cells++ars) with
  | some (vs,its')=>(match rbCells E its' ks vs Q with | some p=>p | none=>False)
  | none=>False) else False
 | _,_=>False
def tell (E:Env):(ks:List VK)->Vals E.N ks->List E.SV
 | [],_=>[]
 | k::r,X=>rvOf E 0 k X.1::tell E r X.2
theorem tell_len:∀ (ks:List VK) (X:Vals E.N ks),(tell E ks X).length=ks.length
 | [],_=>rfl
 | _::r,X=>by simp [tell,tell_len r X.2]
def noAcc:VK->Bool
 | .acc _=>false
 | _=>true
theorem cjl_app:∀ {ps qs:List Prop},cjl (ps++qs)->cjl ps/\cjl qs
 | [],_,h=>⟨trivial,h⟩
 | [p],[],h=>⟨h,trivial⟩
 | [p],q::r,h=>⟨h.1,h.2⟩
 | p::q::r,qs,h=>by
  have:=cjl_app (ps:=q::r) h.2
  exact ⟨⟨h.1,this.1⟩,this.2⟩
theorem eqs_ok (its:Items E.N):∀ (ks:List VK) (vs:List E.SV) (X:Vals E.N ks) (ps:List Prop) (p:Prop),rbCells E its ks vs (eqs E.N ks X ps)=some p->p->cjl ps/\vs.length=ks.length /\
  ∀ {ρ:Env1} {Z:Nat->Prop} {w:World} {C:Ctx} {nx:Nat} {us:List Value},Mem E C ρ Z w its nx->ks.all noAcc=true->(us.length=vs.length/\∀ (i:Nat) (u:Value) (s:E.SV),us[i]?=some u->vs[i]?=some s->Rep E.N E.T ρ Z w u s)->∀ (i:Nat) (u:Value) (s:E.SV),us[i]?=some u->(tell E ks X)[i]?=some s->Rep E.N E.T (fun _=>none) Z w u s
 | [],[],X,ps,p,h,hp=>by
  have h:=Option.some.inj (show some (cjl ps)=some p from h)
  subst h
  exact ⟨hp,rfl,fun _ _ _ i u s _ hs=>by simp [tell] at hs⟩
 | [],_::_,X,ps,p,h,hp=>by cases h
 | _::_,[],X,ps,p,h,hp=>by cases h
 | k::ks,v::vs,X,ps,p,h,hp=>by
  simp only [rbCells] at h
  split at h
  . rename_i x hx
    obtain ⟨h1,h2,h3⟩:=eqs_ok its ks vs X.2 (ps++[x=X.1]) p h hp
    obtain ⟨h4,h5⟩:=cjl_app h1
    have h5:x=X.1:=h5
    subst h5
    refine ⟨h4,by simp [h2],fun {ρ Z w C nx us} hm hk hlr i u s hu hs=>?_⟩
    obtain ⟨hl,hr⟩:=hlr
    simp only [List.all_cons,Bool.and_eq_true] at hk
    cases us with
    | nil=>simp at hu
    | cons u0 us =>
     cases i with
     | zero =>
      simp only [List.getElem?_cons_zero,Option.some.injEq,tell] at hu hs
      subst hu; subst hs
      have r0:=hr 0 u0 v rfl rfl
      obtain ⟨ρ3,os',_,f,_,r1,_⟩:=rb1_ok (lkd:=[]) (n2:=0) (ρ2:=fun _=>none) (os:=[]) (new:=[]) (by simpa using hm) r0 hx (fun _ _=>rfl) .nil
      have e2:(fl1 E 0 k X.1).2.2=0:=by cases k <;> first | rfl | (cases hk.1)
      have e3:ρ3=fun _=>none:=by funext i; exact f i (by omega)
      rw [e3] at r1; exact r1
     | succ i =>
      exact h3 (us:=us) hm hk.2 ⟨by simpa using hl,fun i u s hu hs=>hr (i+1) u s hu hs⟩ i u s hu hs
  . cases h
theorem ansV_get {n:Nat} {s:E.SV} {ars:List E.SV} {v:Value} (h:ansV n s=some ars) (r:Rep E.N E.T ρ Z w v s):∃ us:List Value,us.length=ars.length/\(∀ (i:Nat) (u:Value) (s:E.SV),us[i]?=some u->ars[i]?=some s->Rep E.N E.T ρ Z w u s) /\
  ∀ {ρ':Env1} {Z':Nat->Prop} {w':World} {ss:List E.SV},ss.length=ars.length->(∀ (i:Nat) (u:Value) (s:E.SV),us[i]?=some u->ss[i]?=some s->Rep E.N E.T ρ' Z' w' u s)->Rep E.N E.T ρ' Z' w' v (tellA n ss):=by
 by_cases e:n=1
 . subst e
   simp only [ansV,Option.some.injEq] at h
   subst h
   refine ⟨[v],rfl,fun i u s' hu hs=>?_,fun {ρ' Z' w' ss} hl hr=>?_⟩
   . cases i with
     | zero=>simp at hu hs; subst hu; subst hs; exact r
     | succ i=>simp at hu
   . match ss,hl with
     | [s'],_=>exact hr 0 v s' rfl rfl
 . have h':∃ vs,s=.tup vs/\ars=vs:=by
     unfold ansV at h
     split at h
     . exact absurd rfl e
     . split at h
       . cases h; exact ⟨_,rfl,rfl⟩
       . cases h
   obtain ⟨vs,rfl,rfl⟩:=h'
   obtain ⟨cs,rfl⟩:=Rep.tup_inv r
   obtain ⟨g1,g2⟩:=RepT.get r
   refine ⟨cs,g1,g2,fun {ρ' Z' w' ss} hl hr=>?_⟩
   have:tellA n ss=.tup ss:=by
    unfold tellA
    split
    . exact absurd rfl e
    . rfl
   rw [this]
   exact RepT.of_get (by rw [g1,hl]) hr
def resZ (E:Env) (n:Nat) (ks:List VK) (Q:cellsDen E.N Prop ks):E.SV->Items E.N->Nat->Prop:=fun s its _=>match ansV n s with
 | some ars=>(match frz its ars with
  | some (vs,its')=>(match rbCells E its' ks vs Q with | some p=>p | none=>False)
  | none=>False)
 | none=>False
theorem conZ (hE:EnvOK E) (hI:InlOK E inl) {K n:Nat} {fn:Func} {an:Ann} (hf:E.P.funcs[K]?=some fn) {ks:List VK} {X:Vals E.N ks} {args:List E.SV} {ob:List Prop} (hk:ks.all noAcc=true) (hp:args.all pureS=true)
  (hv:vcFun inl an fn args [] [] 0 (resZ E n ks (eqs E.N ks X []))):ConOK E.P E.N E.T E.G K args nx ⟨ob,[],tellA n (tell E ks X),[]⟩ :=
 ⟨fun ρ Z w vs hfr hz hg ha=>(vcFun_ok (C:=ctx0 (fun _=>none) Z w) hE hI hf hv (mem0 (fun _ _=>rfl) hz) hg (pureT_rep hp ha _)).mono fun v w' h=>by
  obtain ⟨ρ',Z',s,its',nx',hx,hm,ht,hr,hk'⟩:=h.pure
  unfold resZ at hk'
  split at hk'
  . rename_i ars has
    split at hk'
    . rename_i vs' its2 hfz
      split at hk'
      . rename_i p hrb
        obtain ⟨us,u1,u2,u3⟩:=ansV_get has hr
        obtain ⟨Z2,m2,t2,he⟩:=frz_ok (lkd:=[]) (by simpa using hm) hfz
        rw [List.append_nil] at m2
        obtain ⟨_,hlen,hget⟩:=eqs_ok its2 ks vs' X [] p hrb hk'
        have hvl:vs'.length=ars.length:=he.1
        have all:us.length=vs'.length/\∀ (i:Nat) (u:Value) (s:E.SV),us[i]?=some u->vs'[i]?=some s->Rep E.N E.T ρ' Z2 w' u s:=by
         refine ⟨by rw [hvl,u1],fun i u s' hu hs=>?_⟩
         have hil:i<ars.length:=by rw [<- hvl]; exact lt_get hs
         exact he.2 i _ s' (List.getElem?_eq_getElem hil) hs u (u2 i u _ hu (List.getElem?_eq_getElem hil))
        have fin:=hget m2 hk all
        refine ⟨ρ,Z2,fun _ _ h=>h,fun i hi=>hfr i (by simpa using hi),m2.zge,fun b hb=>?_,none_sub (u3 (by rw [tell_len,<- hlen,hvl]) fun i u s' hu hs=>fin i u s' hu hs),?_,trivial⟩
        . rcases m2.zle b hb with h | h | h
          . exact .inl h
          . cases h
          . exact .inr h
        . exact ⟨m2.sep.ext,m2.sep.zlt,fun k t h=>by simp [toIts,number] at h,fun j k s t h=>by simp [toIts,number] at h⟩
      . exact hk'.elim
    . exact hk'.elim
  . exact hk'.elim⟩
theorem LendOK.conv {K:Nat} {args args':List E.SV} {c:CR E.N} (h:LendOK E K args' c) (ha:∀ (D:Nat->Prop) (w:World) (vs:List Value),Rep E.N E.T (fun _=>none) D w (.tuple vs.toArray) (.tup args)->Rep E.N E.T (fun _=>none) D w (.tuple vs.toArray) (.tup args')):LendOK E K args c :=
 fun D w vs hD hg hr=>h D w vs hD hg (ha D w vs hr)
def boolOf {N:Uni}:SV N->Option Bool
 | .tt=>some true
 | .ff=>some false
 | .bl p d=>some (@decide p d)
 | _=>none
theorem boolOf_rep {s:E.SV} {b:Bool} {v:Value} (h:boolOf s=some b) (r:Rep E.N E.T ρ Z w v s):Rep E.N E.T ρ Z w v (blB b):=by
 have hb:∀ y:Bool,Value.bool y=.bool (@decide (y=true) inferInstance):=fun y=>by cases y <;> rfl
 cases r with
 | tt=>cases h; rw [hb true]; exact .bl
 | ff=>cases h; rw [hb false]; exact .bl
 | @bl p d=>cases h; rw [hb (@decide p d)]; exact .bl
 | _=>cases h
end
end Go.Rx
end
section
namespace Go.Rx
open Go Go.Wk Go.Wl
def HZ (E:Env) (inl:Inl E) (an:Ann) (fn:Func) (args:List E.SV) (n:Nat) (ks:List VK) (X:Vals E.N ks):Prop:=vcFun inl an fn args [] [] 0 (resZ E n ks (eqs E.N ks X []))
theorem conH {E:Env} {inl:Inl E} {nx K n:Nat} {fn:Func} {an:Ann} {ks:List VK} {X:Vals E.N ks} {args:List E.SV} {ob:List Prop} (hE:EnvOK E) (hI:InlOK E inl) (hf:E.P.funcs[K]?=some fn) (hk:ks.all noAcc=true) (hp:args.all pureS=true)
  (hv:HZ E inl an fn args n ks X):ConOK E.P E.N E.T E.G K args nx ⟨ob,[],tellA n (tell E ks X),[]⟩:=conZ hE hI hf hk hp hv
end Go.Rx
end
section
namespace Go.Rx
open Go Go.Wk Go.Wl
section
variable {E:Env} {C:Ctx} {ρ:Env1} {Z:Nat->Prop} {w:World} {its lkd:Items E.N} {nx:Nat} {inl:Inl E}
def bslots (E:Env) (its:Items E.N):Slots E.N:=its.filterMap fun p=>match p.2 with | .own _ _=>some (200+p.1,.ref p.1 0) | .ob _ _ _=>some (200+p.1,.ref p.1 0) | _=>none
def st0 (E:Env) (its:Items E.N) (nx:Nat):E.St:=⟨bslots E its,[],its,nx⟩
end
end Go.Rx
end
section
namespace Go.Rx
open Go Go.Wk Go.Wl
section
variable {N:Uni} {T:ErrT} {ρ:Env1} {Z:Nat->Prop} {w:World} {P:Program} {G:Glob} {K nx:Nat} {c:CR N}
theorem ConOK.weak {a b:List (SV N)} (h:ConOK P N T G K b nx c) (hw:∀ ρ Z w v,Rep N T ρ Z w v (.tup a)->Rep N T ρ Z w v (.tup b)):ConOK P N T G K a nx c :=
 ⟨fun ρ Z w vs h1 h2 h3 h4=>h.run ρ Z w vs h1 h2 h3 (hw ρ Z w _ h4)⟩
end
end Go.Rx
end
section
namespace Go.Rx
open Go Go.Wk Go.Wl
def vTc (N:Uni):List TK->Type
 | []=>Unit
 | .v k::r=>k.den N×vTc N r
 | .to _::r=>vTc N r
 | .nilp::r=>vTc N r
def vTp (N:Uni):List TP->Type
 | []=>Unit
 | .own _ _ ks::r=>vTc N ks×vTp N r
 | .ob _ k::r=>N.O k×vTp N r
def vC (N:Uni):List LV->Type
 | []=>Unit
 | .slot _ k::r=>k.den N×vC N r
 | .tree _ ps::r=>vTp N ps×vC N r
 | _::_=>Unit
def appTc {N:Uni} {α:Type}:(ks:List TK)->tcD N α ks->vTc N ks->α
 | [],f,_=>f
 | .v _::r,f,X=>appTc r (f X.1) X.2
 | .to _::r,f,X=>appTc r f X
 | .nilp::r,f,X=>appTc r f X
def appTp {N:Uni} {α:Type}:(ps:List TP)->tpD N α ps->vTp N ps->α
 | [],f,_=>f
 | .own _ _ ks::r,f,X=>appTp r (appTc ks f X.1) X.2
 | .ob _ _::r,f,X=>appTp r (f X.1) X.2
def appC {N:Uni} {α:Type} (d:α):(vs:List LV)->Cur N α vs->vC N vs->α
 | [],f,_=>f
 | .slot _ _::r,f,X=>appC d r (f X.1) X.2
 | .tree _ ps::r,f,X=>appC d r (appTp ps f X.1) X.2
 | _::_,_,_=>d
def putTc (E:Env) (nm:List Nat):(ks:List TK)->Nat->Items E.N->List E.SV->vTc E.N ks->Nat×Items E.N×List E.SV
 | [],nx,its,acc,_=>(nx,its,acc)
 | .v k::r,nx,its,acc,X=>putTc E nm r (fl1 E nx k X.1).2.2 ((fl1 E nx k X.1).2.1++its) (acc++[(fl1 E nx k X.1).1]) X.2
 | .to j::r,nx,its,acc,X=>putTc E nm r nx its (acc++[.ref (nm.getD j 0) 0]) X
 | .nilp::r,nx,its,acc,X=>putTc E nm r nx its (acc++[.con (.pointer none)]) X
def putTp (E:Env) (nm:List Nat):(ps:List TP)->Nat->Nat->Items E.N->vTp E.N ps->Nat×Items E.N
 | [],_,nx,its,_=>(nx,its)
 | .own _ T ks::r,i,nx,its,X=>putTp E nm r (i+1) (putTc E nm ks nx its [] X.1).1 ((nm.getD i 0,.own T (putTc E nm ks nx its [] X.1).2.2)::(putTc E nm ks nx its [] X.1).2.1) X.2
 | .ob _ k::r,i,nx,its,X=>putTp E nm r (i+1) (nx+1) ((nm.getD i 0,.ob k nx X.1)::its) X.2
def putC (E:Env) (fx:Slots E.N) (st:E.St):(vs:List LV)->vC E.N vs->E.St->E.St
 | [],_,new=>new
 | .slot s k::r,X,new=>putC E fx st r X.2 ⟨(s,(fl1 E new.nx k X.1).1)::new.slots,[],(fl1 E new.nx k X.1).2.1++new.items,(fl1 E new.nx k X.1).2.2⟩
 | .tree ss ps::r,X,new=>putC E fx st r X.2 ⟨(ss.map fun p=>(p.1,.ref ((tnm new.nx 0 (refT fx st ps)).getD p.2 0) 0))++new.slots,[],(putTp E (tnm new.nx 0 (refT fx st ps)) ps 0 (new.nx+ps.length) new.items X.1).2,(putTp E (tnm new.nx 0 (refT fx st ps)) ps 0 (new.nx+ps.length) new.items X.1).1⟩
 | _::_,_,new=>new
section
variable {E:Env} {fx:Slots E.N} {st:E.St}
theorem allTc_of {nm:List Nat} {α:Type} {G:α->Nat->Items E.N->List E.SV->Prop}:∀ (ks:List TK) (f:tcD E.N α ks) (nx:Nat) (its:Items E.N) (acc:List E.SV),(∀ Y,G (appTc ks f Y) (putTc E nm ks nx its acc Y).1 (putTc E nm ks nx its acc Y).2.1 (putTc E nm ks nx its acc Y).2.2)->allTc E nm ks nx its acc f G
 | [],f,nx,its,acc,h=>h ()
 | .v k::r,f,nx,its,acc,h=>fun x=>allTc_of r (f x) _ _ _ fun Y=>h (x,Y)
 | .to j::r,f,nx,its,acc,h=>allTc_of r f _ _ _ h
 | .nilp::r,f,nx,its,acc,h=>allTc_of r f _ _ _ h
theorem allTp_of {nm:List Nat} {α:Type} {G:α->Nat->Items E.N->Prop}:∀ (ps:List TP) (f:tpD E.N α ps) (i nx:Nat) (its:Items E.N),(∀ Y,G (appTp ps f Y) (putTp E nm ps i nx its Y).1 (putTp E nm ps i nx its Y).2)->allTp E nm ps i nx its f G
 | [],f,i,nx,its,h=>h ()
 | .own _ T ks::r,f,i,nx,its,h=>allTc_of ks f nx its [] fun Y=>allTp_of r _ _ _ _ fun Z=>h (Y,Z)
 | .ob _ k::r,f,i,nx,its,h=>fun x=>allTp_of r (f x) _ _ _ fun Z=>h (x,Z)
theorem allC_of {α:Type} {d:α} {G:α->E.St->Prop}:∀ (vs:List LV) (f:Cur E.N α vs) (new:E.St),okSh vs=true->(∀ Y,G (appC d vs f Y) (putC E fx st vs Y new))->allC E fx st vs f new G
 | [],f,new,_,h=>h ()
 | .slot s k::r,f,new,ho,h=>fun x=>allC_of r (f x) _ ho fun Y=>h (x,Y)
 | .tree ss ps::r,f,new,ho,h=>allTp_of ps f 0 _ _ fun Y=>allC_of r _ _ ho fun Z=>h (Y,Z)
 | .own _ _::_,_,_,ho,_=>by cases ho
 | .ob _ _::_,_,_,ho,_=>by cases ho
 | .cont _ _::_,_,_,ho,_=>by cases ho
 | .chain _ _ _ _::_,_,_,ho,_=>by cases ho
 | .rows _ _ _ _::_,_,_,ho,_=>by cases ho
 | .alt::_,_,_,ho,_=>by cases ho
 | .unr _::_,_,_,ho,_=>by cases ho
end
section
variable {N:Uni}
end
section
variable {E:Env} {fx:Slots E.N} {st:E.St}
variable {inl:Inl E}
structure GD (N:Uni) where
 fz:List Nat
 ss:List (List LV)
 C:GC N
def inlH (E:Env) (M:Nat->Option (GD E.N)) (inl:Inl E):Inl E:=fun K args its lkd nx k=>match M K with
 | none=>inl K args its lkd nx k
 | some o=>(match fcArgs (E:=E) ⟨o.fz,o.ss,fun _ _=>none⟩ args its nx with
  | none=>inl K args its lkd nx k
  | some (a,i,m)=>bif (E.inl K).isSome && distinct (reach i 60 (a.flatMap ids1) []) then
   (match renL1 (posO (namesOf i (reach i 60 (a.flatMap ids1) [])) 0) a,selI i (posO (namesOf i (reach i 60 (a.flatMap ids1) [])) 0) 0 (reach i 60 (a.flatMap ids1) []) with
   | some a',some i'=>(match o.C a' i' with
    | some S=>S (fun s it n=>match ren2 (back1 (namesOf i (reach i 60 (a.flatMap ids1) [])) m) s,renIs (back1 (namesOf i (reach i 60 (a.flatMap ids1) [])) m) it with
     | some s',some it'=>k s' (it'++without i (reach i 60 (a.flatMap ids1) [])) (m+(n-(namesOf i (reach i 60 (a.flatMap ids1) [])).length))
     | _,_=>False)
    | none=>inl K args its lkd nx k)
   | _,_=>False) else False)
theorem inlH_ok {M:Nat->Option (GD E.N)} (hM:∀ K o args its S,M K=some o->o.C args its=some S->GenOK E.P E.N E.T E.G K args its (2 * its.length) S) (hI:InlOK E inl):InlOK E (inlH E M inl):=by
 intro K args its lkd nx k hv
 unfold inlH at hv
 split at hv
 . exact hI K args its lkd nx k hv
 . rename_i o hC
   split at hv
   . exact hI K args its lkd nx k hv
   . rename_i a i m hA
     cases hb:((E.inl K).isSome && distinct (reach i 60 (a.flatMap ids1) [])) with
     | false=>rw [hb,cond_false] at hv; exact hv.elim
     | true =>
      rw [hb,cond_true] at hv
      simp only [Bool.and_eq_true] at hb
      obtain ⟨hin,hd⟩:=hb
      refine ⟨hin,fun C ρ Z w vs hm hg ha0=>?_⟩
      obtain ⟨ρ1,Z1,m1,t1,a1⟩:=fcArgs_ok hg hm hA ha0
      split at hv
      . rename_i a' i' ha hi
        split at hv
        . rename_i S hS
          exact (gen_run hd ha hi (hM K o a' i' S hC hS) hv m1 (Glob.turn hg t1) a1).mono fun v w' ⟨ρ',Z',s,its',nx',q1,q2,q3,q4⟩=>⟨ρ',Z',s,its',nx',q1,t1.trans q2,q3,q4⟩
        . exact (hI K args its lkd nx k hv).2 C ρ Z w vs hm hg ha0
      . exact hv.elim
def inlHN (E:Env) (H:Nat->Option (GD E.N)) (an:Nat->Ann):Nat->Inl E
 | 0=>inlH E H (fun _ _ _ _ _ _=>False)
 | n+1=>inlH E H (fun K args its lkd nx k=>match E.inl K with | some fn=>vcFun (inlHN E H an n) (an K) fn args its lkd nx k | none=>False)
theorem inlHN_ok (hE:EnvOK E) {H:Nat->Option (GD E.N)} (hH:∀ K o args its S,H K=some o->o.C args its=some S->GenOK E.P E.N E.T E.G K args its (2 * its.length) S) (an:Nat->Ann):∀ m,InlOK E (inlHN E H an m)
 | 0=>inlH_ok hH fun _ _ _ _ _ _ h=>h.elim
 | m+1=>inlH_ok hH fun K args its lkd nx k h=>by
  have h:(match E.inl K with | some fn=>vcFun (inlHN E H an m) (an K) fn args its lkd nx k | none=>False):=h
  split at h
  . rename_i fn hf
    exact ⟨by rw [hf]; rfl,fun C ρ Z w vs hm hg ha=>vcFun_ok hE (inlHN_ok hE hH an m) (hE.inl K fn hf) h hm hg ha⟩
  . exact h.elim
def noH {N:Uni}:Nat->Option (GD N):=fun _=>none
theorem noH_ok {P:Program} {N:Uni} {T:ErrT} {G:Glob}:∀ K o args its S,(noH:Nat->Option (GD N)) K=some o->o.C args its=some S->GenOK P N T G K args its (2 * its.length) S:=fun _ _ _ _ _ h=>by cases h
end
end Go.Rx
end
section
namespace Go.Rx
open Go Go.Wk Go.Wl
structure Cl (P:Program) where
 J:Nat->(Nat->Prop)->World->List Int->List Nat->Prop
 stab:∀ {b:Nat} {xs:List Int} {F:List Nat},It.Stab ⟨F,[],fun Z w=>J b Z w xs F⟩
 lt:∀ {b:Nat} {Z:Nat->Prop} {w:World} {xs:List Int} {F:List Nat},J b Z w xs F->∀ b∈F,b<w.heap.size
 pre:List Int->Int->Prop
 res:List Int->Int->Bool
 step:∀ (Z:Nat->Prop) (w:World) (b:Nat) (F:List Nat) (xs:List Int) (t:Int),(∀ b,Z b->b<w.heap.size)->(∀ b∈F,¬ Z b)->J b Z w xs F->pre xs t->in64 t ->
  YieldR P b [.int .i64 t] w (fun v w'=>v=.bool (res xs t)/\∃ F',J b Z w' (xs++[t]) F'/\Turn w w' F F')
abbrev ClX (P:Program):=Cl P×List Int
def obY (P:Program) (b:Nat):Ob (ClX P) where
 is:=fun Z w x F=>x.1.J b Z w x.2 F
 stab:=fun {x}=>x.1.stab
 lt:=fun {_ _ x _} h=>x.1.lt h
def ClX.pre {P:Program} (x:ClX P) (t:Int):Prop:=x.1.pre x.2 t
def ClX.res {P:Program} (x:ClX P) (t:Int):Bool:=x.1.res x.2 t
def ClX.put {P:Program} (x:ClX P) (t:Int):ClX P:=(x.1,x.2++[t])
theorem ClX.bl {N:Uni} {T:ErrT} {ρ:Env1} {Z:Nat->Prop} {w:World} {b:Bool}:Rep N T ρ Z w (.bool b) (blB b):=by
 have h:Rep N T ρ Z w (.bool (decide (b=true))) (blB b):=.bl
 rwa [Bool.decide_eq_true] at h
theorem tupNil {N:Uni} {T:ErrT} {ρ:Env1} {Z:Nat->Prop} {w:World} {cs:List Value} (h:Rep N T ρ Z w (.tuple cs.toArray) (.tup [])):cs=[]:=by
 generalize e:Value.tuple cs.toArray=u at h
 cases h with | tup0=>simpa using e
end Go.Rx
end
section
namespace Go.Rx
open Go Go.Wk Go.Wl
section
variable {E:Env} {K t i:Nat} {x:E.N.U t} {cells:List E.SV} {ars:List E.SV} {its:Items E.N} {ob:List Prop} {v:E.SV}
theorem own_row {w:World} {b T:Nat} {cs:List Value} {D:Nat->Prop} (ho:Own w b T cs) (hD:D b) (hr:(E.N.tb t).r.rd D w cs x):(dSlice (E.N.tb t).r).rd D w [.slice (some ⟨b,0,none⟩) [x].length 1] [x] :=
 ⟨by show (1:Nat)<=9223372036854775807; omega,_,_,rfl,⟨fun h=>(by cases h),Nat.le_refl _⟩,fun i hi=>by
  have hi:i<1:=hi
  have e:i=0:=by omega
  subst e
  refine ⟨_,_,_,rfl,hD,Own.cells ho _ cs [] ?_,hr⟩
  show cs.drop (0+0 * _)=cs++[]
  rw [Nat.zero_mul,List.append_nil]; rfl⟩
end
end Go.Rx
end
section
namespace Go.Re
structure Dy where
 Year:Int
 Month:Int
 Date:Int
 deriving DecidableEq,Inhabited
structure Tm where
 Day:Dy
 Hour:Int
 Min:Int
 Sec:Int
 Bare:Bool
 UTC:Bool
 deriving DecidableEq,Inhabited
structure Nt where
 N:Int
 Day:Int
 deriving DecidableEq,Inhabited
structure Rl where
 Freq:Int
 Interval:Int
 Count:Int
 Until:List Tm
 Month:List Int
 WeekNo:List Int
 YearDay:List Int
 MonthDay:List Int
 Days:List Nt
 Hour:List Int
 Minute:List Int
 Second:List Int
 SetPos:List Int
 Wkst:Int
 deriving DecidableEq,Inhabited
def longS (y m:Int):Int :=
 if y<1 ∨ 9999<y then 0 else
 if m=2 then (if y % 4=0/\(y % 100≠0 ∨ y % 400=0) then 29 else 28) else
 if m=1 ∨ m=3 ∨ m=5 ∨ m=7 ∨ m=8 ∨ m=10 ∨ m=12 then 31 else
 if m=4 ∨ m=6 ∨ m=9 ∨ m=11 then 30 else 0
def RightD (d:Dy):Prop:=1<=d.Date/\d.Date<=longS d.Year d.Month
instance:DecidablePred RightD:=fun d=>inferInstanceAs (Decidable (_/\_))
def rightB (d:Dy):Bool:=decide (RightD d)
def aheadS (y:Int):Int:=365 * (y-1)+(y-1) / 4-(y-1) / 100+(y-1) / 400
def cumS (y m:Int):Int :=
 if m<=1 then 0 else if m=2 then 31 else
 (if y % 4=0/\(y % 100≠0 ∨ y % 400=0) then 1 else 0) +
 (if m=3 then 59 else if m=4 then 90 else if m=5 then 120 else if m=6 then 151 else if m=7 then 181 else if m=8 then 212 else if m=9 then 243 else if m=10 then 273 else if m=11 then 304 else 334)
def numD (d:Dy):Int:=aheadS d.Year+cumS d.Year d.Month+d.Date
def numS (d:Dy):Int:=if RightD d then numD d else 0
def countS (y m d:Int):Int :=
 if m<3 then 365 * (y-1)+(y-1) / 4-(y-1) / 100+(y-1) / 400+(153 * (m+12-3)+2) / 5+d-306
 else 365 * y+y / 4-y / 100+y / 400+(153 * (m-3)+2) / 5+d-306
theorem RightD.ym {d:Dy} (h:RightD d):1<=d.Year/\d.Year<=9999/\1<=d.Month/\d.Month<=12/\1<=d.Date/\d.Date<=31:=by
 obtain ⟨h1,h2⟩:=h
 unfold longS at h2
 (repeat' split at h2) <;> omega
theorem long_cum {y m:Int} (h0:1<=y) (h1:y<=9999) (m0:1<=m) (m1:m<=12):longS y m=cumS y (m+1)-cumS y m ∨ m=12/\longS y m=31:=by
 have hm:m=1 ∨ m=2 ∨ m=3 ∨ m=4 ∨ m=5 ∨ m=6 ∨ m=7 ∨ m=8 ∨ m=9 ∨ m=10 ∨ m=11 ∨ m=12:=by omega
 unfold longS cumS
 rw [if_neg (by omega)]
 rcases hm with rfl | rfl | rfl | rfl | rfl | rfl | rfl | rfl | rfl | rfl | rfl | rfl <;> simp <;> split <;> omega
theorem count_num {y m d:Int} (m0:1<=m) (m1:m<=12):countS y m d=aheadS y+cumS y m+d:=by
 have hm:m=1 ∨ m=2 ∨ m=3 ∨ m=4 ∨ m=5 ∨ m=6 ∨ m=7 ∨ m=8 ∨ m=9 ∨ m=10 ∨ m=11 ∨ m=12:=by omega
 unfold countS aheadS cumS
 by_cases hl:y % 4=0/\(y % 100≠0 ∨ y % 400=0)
 . rw [if_pos hl]
   rcases hm with rfl | rfl | rfl | rfl | rfl | rfl | rfl | rfl | rfl | rfl | rfl | rfl <;> simp <;> omega
 . rw [if_neg hl]
   rcases hm with rfl | rfl | rfl | rfl | rfl | rfl | rfl | rfl | rfl | rfl | rfl | rfl <;> simp <;> omega
theorem ahead_step (y:Int):aheadS (y+1)=aheadS y+(if y % 4=0/\(y % 100≠0 ∨ y % 400=0) then 366 else 365):=by
 unfold aheadS
 split <;> omega
theorem ahead_mono {a b:Int} (h:a<=b):aheadS a<=aheadS b:=by
 unfold aheadS; omega
theorem cum_rg (y m:Int):0<=cumS y m/\cumS y m<=335:=by
 unfold cumS
 (repeat' split) <;> omega
theorem num_in {d:Dy} (h:RightD d):aheadS d.Year<numD d/\numD d<=aheadS (d.Year+1):=by
 obtain ⟨y0,y1,m0,m1,d0,d1⟩:=h.ym
 have h2:=h.2
 obtain ⟨c0,c1⟩:=cum_rg d.Year d.Month
 refine ⟨by unfold numD; omega,?_⟩
 rw [ahead_step]
 unfold numD
 have hm:d.Month=1 ∨ d.Month=2 ∨ d.Month=3 ∨ d.Month=4 ∨ d.Month=5 ∨ d.Month=6 ∨ d.Month=7 ∨ d.Month=8 ∨ d.Month=9 ∨ d.Month=10 ∨ d.Month=11 ∨ d.Month=12:=by omega
 unfold longS at h2
 unfold cumS
 generalize d.Month=m at *
 generalize d.Year=y at *
 generalize d.Date=t at *
 rw [if_neg (by omega)] at h2
 by_cases hl:y % 4=0/\(y % 100≠0 ∨ y % 400=0)
 . rw [if_pos hl] at h2 ⊢
   rw [if_pos hl]
   rcases hm with rfl | rfl | rfl | rfl | rfl | rfl | rfl | rfl | rfl | rfl | rfl | rfl <;> simp at h2 ⊢ <;> omega
 . rw [if_neg hl] at h2 ⊢
   rw [if_neg hl]
   rcases hm with rfl | rfl | rfl | rfl | rfl | rfl | rfl | rfl | rfl | rfl | rfl | rfl <;> simp at h2 ⊢ <;> omega
theorem long_ge {y m:Int} (h0:1<=y) (h1:y<=9999) (m0:1<=m) (m1:m<=12):28<=longS y m:=by
 unfold longS
 rw [if_neg (by omega)]
 (repeat' split) <;> omega
theorem cum_mono {y a b:Int} (h0:1<=y) (h1:y<=9999) (ha:1<=a) (hb:b<=12) (h:a<b):cumS y a+longS y a<=cumS y b:=by
 rcases long_cum h0 h1 ha (by omega:a<=12) with e | ⟨e,_⟩
 . rw [e]
   have up:∀ j:Nat,a+1+j<=12->cumS y (a+1)<=cumS y (a+1+j):=fun j=>by
    induction j with
    | zero=>intro _; rw [show a+1+((0:Nat):Int)=a+1 by omega]; exact Int.le_refl _
    | succ j ih =>
     intro hj
     have h2:=ih (by omega)
     have h3:=long_ge h0 h1 (m:=a+1+j) (by omega) (by omega)
     rcases long_cum h0 h1 (m:=a+1+j) (by omega) (by omega) with e | ⟨e,_⟩
     . rw [show a+1+((j+1:Nat):Int)=a+1+j+1 by omega]; omega
     . omega
   have:=up (b-(a+1)).toNat (by omega)
   rw [show a+1+((b-(a+1)).toNat:Int)=b by omega] at this
   omega
 . omega
def wdS (n:Int):Int:=(n+6) % 7
theorem num_inj {a b:Dy} (ha:RightD a) (hb:RightD b) (h:numD a=numD b):a=b:=by
 obtain ⟨a0,a1⟩:=num_in ha
 obtain ⟨b0,b1⟩:=num_in hb
 obtain ⟨y0,y1,m0,m1,d0,d1⟩:=ha.ym
 obtain ⟨y0',y1',m0',m1',d0',d1'⟩:=hb.ym
 have ey:a.Year=b.Year:=by
  rcases Int.lt_trichotomy a.Year b.Year with hl | hl | hl
  . have:=ahead_mono (show a.Year+1<=b.Year by omega); omega
  . exact hl
  . have:=ahead_mono (show b.Year+1<=a.Year by omega); omega
 have a2:=ha.2
 have b2:=hb.2
 unfold numD at h
 rw [ey] at h a2
 have em:a.Month=b.Month:=by
  rcases Int.lt_trichotomy a.Month b.Month with hl | hl | hl
  . have:=cum_mono (y:=b.Year) y0' y1' m0 m1' hl; omega
  . exact hl
  . have:=cum_mono (y:=b.Year) y0' y1' m0' m1 hl; omega
 rw [em] at h
 have ed:a.Date=b.Date:=by omega
 cases a; cases b
 simp only at ey em ed
 rw [ey,em,ed]
def oh (N:Int):Int:=min (N % 146097 / 36524) 3
def o2 (N:Int):Int:=N % 146097-oh N * 36524
def oo (N:Int):Int:=min (o2 N % 1461 / 365) 3
def o4 (N:Int):Int:=o2 N % 1461-oo N * 365
def oy (N:Int):Int:=400 * (N / 146097)+100 * oh N+4 * (o2 N / 1461)+oo N
def om (N:Int):Int:=(5 * o4 N+2) / 153
def ofN (N:Int):Dy :=
 if 12<om N+3 then ⟨oy N+1,om N+3-12,o4 N-(153 * om N+2) / 5+1⟩ else ⟨oy N,om N+3,o4 N-(153 * om N+2) / 5+1⟩
theorem o_rg (N:Int):(0<=oh N/\oh N<=3)/\(0<=o2 N/\o2 N<=36524)/\(0<=oo N/\oo N<=3)/\(0<=o4 N/\o4 N<=365)/\0<=om N/\om N<=11:=by
 have h1:0<=oh N/\oh N<=3:=by unfold oh; omega
 have h2:0<=o2 N/\o2 N<=36524:=by
  unfold o2 oh
  omega
 have h3:0<=oo N/\oo N<=3:=by unfold oo; omega
 have h4:0<=o4 N/\o4 N<=365:=by unfold o4 oo; omega
 exact ⟨h1,h2,h3,h4,by unfold om; omega⟩
def ofS (n:Int):Dy:=if n<1 ∨ 3652059<n then ⟨0,0,0⟩ else ofN (n+305)
theorem ofN_ok {n:Int} (h0:1<=n) (h1:n<=3652059):RightD (ofN (n+305))/\numD (ofN (n+305))=n:=by
 have hd:∀ y m t:Int,1<=m->m<=12->numD ⟨y,m,t⟩=countS y m t:=fun y m t a b=>(count_num a b).symm
 unfold ofN oy om o4 oo o2 oh
 generalize eN:n+305=N
 generalize e1:N % 146097=r1
 generalize eq:N / 146097=q
 generalize eh:min (r1 / 36524) 3=h
 generalize e2:r1-h * 36524=r2
 generalize ef:r2 / 1461=f
 generalize e3:r2 % 1461=r3
 generalize eo:min (r3 / 365) 3=o
 generalize e4:r3-o * 365=r4
 have b1:0<=r1/\r1<146097:=by omega
 have bh:0<=h/\h<=3:=by omega
 have b2:0<=r2/\r2<=36524/\(h<3->r2<36524):=by
  have hc:h=0 ∨ h=1 ∨ h=2 ∨ h=3:=by omega
  rcases hc with rfl | rfl | rfl | rfl <;> omega
 have bf:0<=f/\f<=24:=by omega
 have b3:0<=r3/\r3<1461:=by omega
 have bo:0<=o/\o<=3:=by omega
 have b4:0<=r4/\r4<=365/\(r4=365->o=3/\r3=1460):=by
  have hc:o=0 ∨ o=1 ∨ o=2 ∨ o=3:=by omega
  rcases hc with rfl | rfl | rfl | rfl <;> omega
 generalize em:(5 * r4+2) / 153=m
 have bm:0<=m/\m<=11:=by omega
 have hY:(400 * q+100 * h+4 * f+o) / 4=100 * q+25 * h+f:=by omega
 have hY1:(400 * q+100 * h+4 * f+o) / 100=4 * q+h:=by omega
 have hY4:(400 * q+100 * h+4 * f+o) / 400=q:=by omega
 have eN2:N=146097 * q+r1:=by omega
 have er2:r2=1461 * f+r3:=by omega
 have hc:∀ t,365 * (400 * q+100 * h+4 * f+o)+(400 * q+100 * h+4 * f+o) / 4-(400 * q+100 * h+4 * f+o) / 100+(400 * q+100 * h+4 * f+o) / 400+t-306=146097 * q+36524 * h+1461 * f+365 * o+t-306:=fun t=>by rw [hY,hY1,hY4]; omega
 have hq:0<=q/\q<=25:=by omega
 have bd:1<=r4-(153 * m+2) / 5+1:=by omega
 by_cases h12:12<m+3
 . rw [if_pos h12]
   have hm:m=10 ∨ m=11:=by omega
   refine ⟨⟨bd,?_⟩,?_⟩
   . show r4-(153 * m+2) / 5+1<=longS (400 * q+100 * h+4 * f+o+1) (m+3-12)
     have hy:1<=400 * q+100 * h+4 * f+o+1:=by omega
     have hy2:400 * q+100 * h+4 * f+o+1<=9999:=by omega
     unfold longS
     rw [if_neg (by omega)]
     rcases hm with rfl | rfl
     . simp; omega
     . simp
       split
       . omega
       . rename_i hl
         by_cases h5:r4=365
         . exfalso
           obtain ⟨o3,r60⟩:=b4.2.2 h5
           apply hl
           by_cases hf:f=24
           . have:h=3:=by omega
             omega
           . omega
         . omega
   . rw [hd _ _ _ (by omega) (by omega)]
     unfold countS
     rw [if_pos (by omega),show 400 * q+100 * h+4 * f+o+1-1=400 * q+100 * h+4 * f+o by omega,show m+3-12+12-3=m by omega,hY,hY1,hY4]
     omega
 . rw [if_neg h12]
   refine ⟨⟨bd,?_⟩,?_⟩
   . show r4-(153 * m+2) / 5+1<=longS (400 * q+100 * h+4 * f+o) (m+3)
     have hy:1<=400 * q+100 * h+4 * f+o:=by omega
     have hy2:400 * q+100 * h+4 * f+o<=9999:=by omega
     have hm:m=0 ∨ m=1 ∨ m=2 ∨ m=3 ∨ m=4 ∨ m=5 ∨ m=6 ∨ m=7 ∨ m=8 ∨ m=9:=by omega
     unfold longS
     rw [if_neg (by omega)]
     rcases hm with rfl | rfl | rfl | rfl | rfl | rfl | rfl | rfl | rfl | rfl <;> simp <;> omega
   . rw [hd _ _ _ (by omega) (by omega)]
     unfold countS
     rw [if_neg (by omega),show m+3-3=m by omega,hY,hY1,hY4]
     omega
theorem of_ok {n:Int} (h0:1<=n) (h1:n<=3652059):RightD (ofS n)/\numD (ofS n)=n:=by
 unfold ofS
 rw [if_neg (by omega)]
 exact ofN_ok h0 h1
theorem of_eq {d:Dy} {n:Int} (h:RightD d) (hn:numD d=n) (h0:1<=n) (h1:n<=3652059):d=ofS n:=by
 obtain ⟨a,b⟩:=of_ok h0 h1
 exact num_inj h a (hn.trans b.symm)
theorem num_rg {d:Dy} (h:RightD d):1<=numD d/\numD d<=3652059:=by
 obtain ⟨a0,a1⟩:=num_in h
 obtain ⟨y0,y1,_⟩:=h.ym
 have h1:=ahead_mono (show (1:Int)<=d.Year by omega)
 have h2:=ahead_mono (show d.Year+1<=10000 by omega)
 have e1:aheadS 1=0:=by decide
 have e2:aheadS 10000=3652059:=by decide
 omega
theorem of_num {d:Dy} (h:RightD d):ofS (numD d)=d:=(of_eq h rfl (num_rg h).1 (num_rg h).2).symm
theorem rightB_iff {d:Dy}:rightB d=true↔RightD d:=decide_eq_true_iff
def ydS (d:Dy):Int:=if RightD d then numD d-aheadS d.Year else 0
def begS (y f:Int):Int:=aheadS y+4-(wdS (aheadS y+4)-f+7) % 7
def wkY (n f:Int):Int:=if begS ((ofS n).Year+1) f<=n then (ofS n).Year+1 else if n<begS (ofS n).Year f then (ofS n).Year-1 else (ofS n).Year
def weekS (n f:Int):Int×Int:=if ((n<1 ∨ 3652059<n) ∨ f<0) ∨ 6<f then (0,0) else (wkY n f,(n-begS (wkY n f) f) / 7+1)
def weeksS (y f:Int):Int:=if ((y<1 ∨ 9999<y) ∨ f<0) ∨ 6<f then 0 else (begS (y+1) f-begS y f) / 7
theorem beg_rg (y f:Int):aheadS y+4-6<=begS y f/\begS y f<=aheadS y+4:=by
 unfold begS
 generalize aheadS y+4=a
 omega
theorem ahead_rg {y:Int} (h0:0<=y) (h1:y<=10000):-366<=aheadS y/\aheadS y<=3652059:=by
 have a0:=ahead_mono h0
 have a1:=ahead_mono h1
 have a2:aheadS 0=-366:=by decide
 have a3:aheadS 10000=3652059:=by decide
 omega
def RightT (t:Tm):Prop:=RightD t.Day/\(0<=t.Hour/\t.Hour<=23)/\(0<=t.Min/\t.Min<=59)/\(0<=t.Sec/\t.Sec<=59)/\¬ (t.Bare=true/\(((t.Hour≠0 ∨ t.Min≠0) ∨ t.Sec≠0) ∨ t.UTC=true))
instance:DecidablePred RightT:=fun t=>inferInstanceAs (Decidable (_/\_))
def rightT (t:Tm):Bool:=decide (RightT t)
theorem rightT_iff {t:Tm}:rightT t=true↔RightT t:=decide_eq_true_iff
def secsN (t:Tm):Int:=(numD t.Day-1) * 86400+t.Hour * 3600+t.Min * 60+t.Sec
def secsT (t:Tm):Int:=if RightT t then secsN t else -1
theorem secsN_rg {t:Tm} (h:RightT t):0<=secsN t/\secsN t<3652059 * 86400:=by
 obtain ⟨hd,hh,hm,hs,_⟩:=h
 have:=num_rg hd
 unfold secsN
 omega
def atS (n:Int) (like:Tm):Tm :=
 if n<0 ∨ (like.Bare=true/\(like.UTC=true ∨ n % 86400≠0)) ∨ 3652059<n / 86400+1 then ⟨⟨0,0,0⟩,0,0,0,false,false⟩
 else ⟨ofS (n / 86400+1),n % 86400 / 3600,n % 86400 / 60 % 60,n % 86400 % 60,like.Bare,like.UTC⟩
theorem tm0 {a b:Int}:a.tmod b=0↔a % b=0:=by
 rw [<- Int.dvd_iff_tmod_eq_zero,<- Int.dvd_iff_emod_eq_zero]
def ylongS (y:Int):Int:=if y % 4=0/\(y % 100≠0 ∨ y % 400=0) then 366 else 365
theorem num_month {y m:Int} (m0:1<=m) (m1:m<=12) (h0:1<=y) (h1:y<=9999) (m2:m<12):cumS y (m+1)=cumS y m+longS y m:=by
 rcases long_cum h0 h1 m0 m1 with e | ⟨e,_⟩
 . omega
 . omega
theorem year_sum (y:Int):aheadS (y+1)=aheadS y+cumS y 12+31:=by
 rw [ahead_step]
 unfold cumS
 by_cases hl:y % 4=0/\(y % 100≠0 ∨ y % 400=0)
 . rw [if_pos hl,if_pos hl]; simp; omega
 . rw [if_neg hl,if_neg hl]; simp; omega
theorem cum_1 (y:Int):cumS y 1=0:=by unfold cumS; rw [if_pos (by decide)]
theorem ahead_366 {y:Int} (h:1<=y):aheadS y<=366 * (y-1):=by unfold aheadS; omega
theorem week_al (n y:Int) {f:Int} (f0:0<=f) (f1:f<=6):(begS y f<=n↔aheadS y+1<=n-(wdS n-f+7) % 7+3)/\(begS y f<=n->(n-begS y f) / 7=(n-(wdS n-f+7) % 7+3-(aheadS y+1)) / 7):=by
 unfold begS wdS
 generalize aheadS y=A
 omega
theorem weeks_step (y x:Int) {f:Int} (f0:0<=f) (f1:f<=6):(x+1-begS y f+3) / 7=(x-begS y f+3) / 7+(if (wdS x-f+7) % 7=3 then 1 else 0):=by
 unfold begS wdS
 generalize aheadS y=A
 split <;> omega
theorem weeks_end (y:Int) {f:Int} (f0:0<=f) (f1:f<=6):(aheadS (y+1)+1-begS y f+3) / 7=(begS (y+1) f-begS y f) / 7/\(aheadS y+1-begS y f+3) / 7=0:=by
 unfold begS wdS
 generalize aheadS (y+1)=B
 generalize aheadS y=A
 omega
end Go.Re
end
section
namespace Go.Re
open Go Go.Wk Go.Wl Go.Rx
structure Ls where
 wd:Str
 lo:Int
 hi:Int
 both:Bool
 deriving Inhabited
def dLs:Rd Ls where
 sz:=5
 rd:=fun _ _ cs x=>∃ c,cs=[sv x.wd,c,.int .i64 x.lo,.int .i64 x.hi,.bool x.both]/\plain1 c=true/\x.wd.length<=9223372036854775807/\InI x.lo/\InI x.hi
 len:=fun ⟨_,e,_⟩=>by rw [e]; rfl
 mono:=fun h _ _ _=>h
 plain:=fun ⟨_,e,h,_⟩=>by rw [e]; simp only [List.all_cons,List.all_nil,h]; rfl
structure Lk where
 Rule:Rl
 start:Tm
 day:Int
 deriving DecidableEq,Inhabited
end Go.Re
end
section
namespace Go.Proofs.YtdjfeninmbpflaaGreat
open Go Go.Wk Go.Wl Go.Rx Go.Re
def dDy:Rd Dy where
 sz:=3
 rd:=fun D w cs x=>∃ c0 c1 c2,cs=c0++(c1++(c2))/\dInt.rd D w c0 x.Year/\dInt.rd D w c1 x.Month/\dInt.rd D w c2 x.Date
 len:=fun ⟨c0,c1,c2,e,h0,h1,h2⟩=>by rw [e]; simp only [List.length_append,Rd.len _ h0,Rd.len _ h1,Rd.len _ h2]; rfl
 mono:=fun ⟨c0,c1,c2,e,h0,h1,h2⟩ a b c=>⟨c0,c1,c2,e,Rd.mono _ h0 a b c,Rd.mono _ h1 a b c,Rd.mono _ h2 a b c⟩
 plain:=fun ⟨c0,c1,c2,e,h0,h1,h2⟩=>by rw [e]; simp only [List.all_append,Rd.plain _ h0,Rd.plain _ h1,Rd.plain _ h2]; rfl
def dTm:Rd Tm where
 sz:=8
 rd:=fun D w cs x=>∃ c0 c1 c2 c3 c4 c5,cs=c0++(c1++(c2++(c3++(c4++(c5)))))/\dDy.rd D w c0 x.Day/\dInt.rd D w c1 x.Hour/\dInt.rd D w c2 x.Min/\dInt.rd D w c3 x.Sec/\dBool.rd D w c4 x.Bare/\dBool.rd D w c5 x.UTC
 len:=fun ⟨c0,c1,c2,c3,c4,c5,e,h0,h1,h2,h3,h4,h5⟩=>by rw [e]; simp only [List.length_append,Rd.len _ h0,Rd.len _ h1,Rd.len _ h2,Rd.len _ h3,Rd.len _ h4,Rd.len _ h5]; rfl
 mono:=fun ⟨c0,c1,c2,c3,c4,c5,e,h0,h1,h2,h3,h4,h5⟩ a b c=>⟨c0,c1,c2,c3,c4,c5,e,Rd.mono _ h0 a b c,Rd.mono _ h1 a b c,Rd.mono _ h2 a b c,Rd.mono _ h3 a b c,Rd.mono _ h4 a b c,Rd.mono _ h5 a b c⟩
 plain:=fun ⟨c0,c1,c2,c3,c4,c5,e,h0,h1,h2,h3,h4,h5⟩=>by rw [e]; simp only [List.all_append,Rd.plain _ h0,Rd.plain _ h1,Rd.plain _ h2,Rd.plain _ h3,Rd.plain _ h4,Rd.plain _ h5]; rfl
def dNt:Rd Nt where
 sz:=2
 rd:=fun D w cs x=>∃ c0 c1,cs=c0++(c1)/\dInt.rd D w c0 x.N/\dInt.rd D w c1 x.Day
 len:=fun ⟨c0,c1,e,h0,h1⟩=>by rw [e]; simp only [List.length_append,Rd.len _ h0,Rd.len _ h1]; rfl
 mono:=fun ⟨c0,c1,e,h0,h1⟩ a b c=>⟨c0,c1,e,Rd.mono _ h0 a b c,Rd.mono _ h1 a b c⟩
 plain:=fun ⟨c0,c1,e,h0,h1⟩=>by rw [e]; simp only [List.all_append,Rd.plain _ h0,Rd.plain _ h1]; rfl
def dRl:Rd Rl where
 sz:=14
 rd:=fun D w cs x=>∃ c0 c1 c2 c3 c4 c5 c6 c7 c8 c9 c10 c11 c12 c13,cs=c0++(c1++(c2++(c3++(c4++(c5++(c6++(c7++(c8++(c9++(c10++(c11++(c12++(c13)))))))))))))/\dInt.rd D w c0 x.Freq/\dInt.rd D w c1 x.Interval/\dInt.rd D w c2 x.Count/\(dSlice dTm).rd D w c3 x.Until/\(dSlice dInt).rd D w c4 x.Month/\(dSlice dInt).rd D w c5 x.WeekNo/\(dSlice dInt).rd D w c6 x.YearDay/\(dSlice dInt).rd D w c7 x.MonthDay/\(dSlice dNt).rd D w c8 x.Days/\(dSlice dInt).rd D w c9 x.Hour/\(dSlice dInt).rd D w c10 x.Minute/\(dSlice dInt).rd D w c11 x.Second/\(dSlice dInt).rd D w c12 x.SetPos/\dInt.rd D w c13 x.Wkst
 len:=fun ⟨c0,c1,c2,c3,c4,c5,c6,c7,c8,c9,c10,c11,c12,c13,e,h0,h1,h2,h3,h4,h5,h6,h7,h8,h9,h10,h11,h12,h13⟩=>by rw [e]; simp only [List.length_append,Rd.len _ h0,Rd.len _ h1,Rd.len _ h2,Rd.len _ h3,Rd.len _ h4,Rd.len _ h5,Rd.len _ h6,Rd.len _ h7,Rd.len _ h8,Rd.len _ h9,Rd.len _ h10,Rd.len _ h11,Rd.len _ h12,Rd.len _ h13]; rfl
 mono:=fun ⟨c0,c1,c2,c3,c4,c5,c6,c7,c8,c9,c10,c11,c12,c13,e,h0,h1,h2,h3,h4,h5,h6,h7,h8,h9,h10,h11,h12,h13⟩ a b c=>⟨c0,c1,c2,c3,c4,c5,c6,c7,c8,c9,c10,c11,c12,c13,e,Rd.mono _ h0 a b c,Rd.mono _ h1 a b c,Rd.mono _ h2 a b c,Rd.mono _ h3 a b c,Rd.mono _ h4 a b c,Rd.mono _ h5 a b c,Rd.mono _ h6 a b c,Rd.mono _ h7 a b c,Rd.mono _ h8 a b c,Rd.mono _ h9 a b c,Rd.mono _ h10 a b c,Rd.mono _ h11 a b c,Rd.mono _ h12 a b c,Rd.mono _ h13 a b c⟩
 plain:=fun ⟨c0,c1,c2,c3,c4,c5,c6,c7,c8,c9,c10,c11,c12,c13,e,h0,h1,h2,h3,h4,h5,h6,h7,h8,h9,h10,h11,h12,h13⟩=>by rw [e]; simp only [List.all_append,Rd.plain _ h0,Rd.plain _ h1,Rd.plain _ h2,Rd.plain _ h3,Rd.plain _ h4,Rd.plain _ h5,Rd.plain _ h6,Rd.plain _ h7,Rd.plain _ h8,Rd.plain _ h9,Rd.plain _ h10,Rd.plain _ h11,Rd.plain _ h12,Rd.plain _ h13]; rfl
def dLk:Rd Lk where
 sz:=23
 rd:=fun D w cs x=>∃ c0 c1 c2,cs=c0++(c1++(c2))/\dRl.rd D w c0 x.Rule/\dTm.rd D w c1 x.start/\dInt.rd D w c2 x.day
 len:=fun ⟨c0,c1,c2,e,h0,h1,h2⟩=>by rw [e]; simp only [List.length_append,Rd.len _ h0,Rd.len _ h1,Rd.len _ h2]; rfl
 mono:=fun ⟨c0,c1,c2,e,h0,h1,h2⟩ a b c=>⟨c0,c1,c2,e,Rd.mono _ h0 a b c,Rd.mono _ h1 a b c,Rd.mono _ h2 a b c⟩
 plain:=fun ⟨c0,c1,c2,e,h0,h1,h2⟩=>by rw [e]; simp only [List.all_append,Rd.plain _ h0,Rd.plain _ h1,Rd.plain _ h2]; rfl
def dNone:Rd Unit where
 sz:=0
 rd:=fun _ _ _ _=>False
 len:=fun h=>h.elim
 mono:=fun h _ _ _=>h
 plain:=fun h=>h.elim
def obNone (_:Nat):Ob Unit where
 is:=fun _ _ _ _=>False
 stab:=fun Z Z' B w w' h _ _ _=>h
 lt:=fun h=>h.elim
def U:Uni where
 tb:=fun | 3=>⟨Int,dInt,inferInstance⟩ | 4=>⟨Bool,dBool,inferInstance⟩ | 23=>⟨Dy,dDy,inferInstance⟩ | 25=>⟨Tm,dTm,inferInstance⟩ | 26=>⟨List Tm,(dSlice dTm),inferInstance⟩ | 27=>⟨List Int,(dSlice dInt),inferInstance⟩ | 28=>⟨List Nt,(dSlice dNt),inferInstance⟩ | 30=>⟨Rl,dRl,inferInstance⟩ | 60=>⟨Nt,dNt,inferInstance⟩ | 85=>⟨Lk,dLk,inferInstance⟩ | 101=>⟨Ls,dLs,inferInstance⟩ | _=>⟨Unit,dNone,⟨()⟩⟩
 oj:=fun | 0=>⟨ClX Tryz.prog,obY Tryz.prog⟩ | _=>⟨Unit,obNone⟩
def eT:ErrT:=⟨61,0,0,fun t=>bif Nat.beq t 87 then some 1 else none,fun _=>none⟩
theorem wr_inv {t k:Nat} (h:eT.wr t=some k):(t=87/\k=1):=by
 have h:(bif Nat.beq t 87 then some 1 else none)=some k:=h
 cases hb0:Nat.beq t 87 with
 | true=>rw [hb0,cond_true] at h; cases h; exact ⟨Nat.eq_of_beq_eq_true hb0,rfl⟩
 | false =>
  rw [hb0,cond_false] at h
  cases h
def y3:TyI U eT 3 where
 sv:=fun (x:Int)=>.int .i64 x
 bk:=asI64
 sv_ok:=sv_int
 bk_ok:=bk_int
 hy:=fun (x:Int)=>[in64 x]
 hy_ok:=fun {_ _ _ x} h p hp=>by
  have h:dInt.rd _ _ _ x:=h
  simp only [List.mem_singleton] at hp; subst hp; exact h.2
def y4:TyI U eT 4 where
 sv:=fun (x:Bool)=>blB x
 bk:=asB
 sv_ok:=fun {_ _ _ _ x} h=>sv_bool (x:=x) h
 bk_ok:=bk_bool
def y23k (ls:List (SV U)):Option Dy :=
 (pb asI64 (ls.take 1)).bind fun x0 =>
 (pb asI64 ((ls.drop 1).take 1)).bind fun x1 =>
 (pb asI64 (((ls.drop 1).drop 1))).bind fun x2 =>
 some ⟨x0,x1,x2⟩
theorem y23r {ρ:Env1} {Z:Nat->Prop} {w:World} {cs:List Value} {ls:List (SV U)} {x:Dy} (h:RepL U eT ρ Z w cs ls) (e:y23k ls=some x):dDy.rd Z w cs x:=by
 unfold y23k at e
 obtain ⟨x0,e0,e⟩:=Option.bind_eq_some_iff.1 e
 obtain ⟨x1,e1,e⟩:=Option.bind_eq_some_iff.1 e
 obtain ⟨x2,e2,e⟩:=Option.bind_eq_some_iff.1 e
 cases e
 have g1:=RepL.split 1 h
 have g2:=RepL.split 1 g1.2
 exact ⟨(cs.take 1),((cs.drop 1).take 1),((cs.drop 1).drop 1),by simp only [List.take_append_drop],pb_int g1.1 e0,pb_int g2.1 e1,pb_int g2.2 e2⟩
def y23:TyI U eT 23 where
 sv:=fun (x:Dy)=>.agg ([.int .i64 x.Year]++([.int .i64 x.Month]++([.int .i64 x.Date])))
 bk:=fun s=>y23k (leaves s)
 sv_ok:=fun {ρ Z w cs x} h=>by
  obtain ⟨c0,c1,c2,e,h0,h1,h2⟩:=(show dDy.rd Z w cs x from h)
  subst e
  exact RepL.app (sv_int h0) (RepL.app (sv_int h1) (sv_int h2))
 bk_ok:=y23r
 hy:=fun (x:Dy)=>[in64 x.Year]++[in64 x.Month]++[in64 x.Date]
 hy_ok:=fun {Z w cs x} h p hp=>by
  obtain ⟨c0,c1,c2,e,h0,h1,h2⟩:=(show dDy.rd Z w cs x from h)
  rcases List.mem_append.1 hp with hp | hp
  . rcases List.mem_append.1 hp with hp | hp
    . · simp only [List.mem_singleton] at hp; subst hp; exact h0.2
    . simp only [List.mem_singleton] at hp; subst hp; exact h1.2
  . simp only [List.mem_singleton] at hp; subst hp; exact h2.2
def y25k (ls:List (SV U)):Option Tm :=
 (y23.bk (.agg (ls.take 3))).bind fun x0 =>
 (pb asI64 ((ls.drop 3).take 1)).bind fun x1 =>
 (pb asI64 (((ls.drop 3).drop 1).take 1)).bind fun x2 =>
 (pb asI64 ((((ls.drop 3).drop 1).drop 1).take 1)).bind fun x3 =>
 (pb asB (((((ls.drop 3).drop 1).drop 1).drop 1).take 1)).bind fun x4 =>
 (pb asB ((((((ls.drop 3).drop 1).drop 1).drop 1).drop 1))).bind fun x5 =>
 some ⟨x0,x1,x2,x3,x4,x5⟩
theorem y25r {ρ:Env1} {Z:Nat->Prop} {w:World} {cs:List Value} {ls:List (SV U)} {x:Tm} (h:RepL U eT ρ Z w cs ls) (e:y25k ls=some x):dTm.rd Z w cs x:=by
 unfold y25k at e
 obtain ⟨x0,e0,e⟩:=Option.bind_eq_some_iff.1 e
 obtain ⟨x1,e1,e⟩:=Option.bind_eq_some_iff.1 e
 obtain ⟨x2,e2,e⟩:=Option.bind_eq_some_iff.1 e
 obtain ⟨x3,e3,e⟩:=Option.bind_eq_some_iff.1 e
 obtain ⟨x4,e4,e⟩:=Option.bind_eq_some_iff.1 e
 obtain ⟨x5,e5,e⟩:=Option.bind_eq_some_iff.1 e
 cases e
 have g1:=RepL.split 3 h
 have g2:=RepL.split 1 g1.2
 have g3:=RepL.split 1 g2.2
 have g4:=RepL.split 1 g3.2
 have g5:=RepL.split 1 g4.2
 exact ⟨(cs.take 3),((cs.drop 3).take 1),(((cs.drop 3).drop 1).take 1),((((cs.drop 3).drop 1).drop 1).take 1),(((((cs.drop 3).drop 1).drop 1).drop 1).take 1),(((((cs.drop 3).drop 1).drop 1).drop 1).drop 1),by simp only [List.take_append_drop],y23.bk_ok (s:=.agg _) g1.1 e0,pb_int g2.1 e1,pb_int g3.1 e2,pb_int g4.1 e3,pb_bool g5.1 e4,pb_bool g5.2 e5⟩
def y25:TyI U eT 25 where
 sv:=fun (x:Tm)=>.agg (leaves (y23.sv x.Day)++([.int .i64 x.Hour]++([.int .i64 x.Min]++([.int .i64 x.Sec]++([blB x.Bare]++([blB x.UTC]))))))
 bk:=fun s=>y25k (leaves s)
 sv_ok:=fun {ρ Z w cs x} h=>by
  obtain ⟨c0,c1,c2,c3,c4,c5,e,h0,h1,h2,h3,h4,h5⟩:=(show dTm.rd Z w cs x from h)
  subst e
  exact RepL.app (y23.sv_ok h0) (RepL.app (sv_int h1) (RepL.app (sv_int h2) (RepL.app (sv_int h3) (RepL.app (sv_bool h4) (sv_bool h5)))))
 bk_ok:=y25r
 hy:=fun (x:Tm)=>y23.hy x.Day++[in64 x.Hour]++[in64 x.Min]++[in64 x.Sec]
 hy_ok:=fun {Z w cs x} h p hp=>by
  obtain ⟨c0,c1,c2,c3,c4,c5,e,h0,h1,h2,h3,h4,h5⟩:=(show dTm.rd Z w cs x from h)
  rcases List.mem_append.1 hp with hp | hp
  . rcases List.mem_append.1 hp with hp | hp
    . rcases List.mem_append.1 hp with hp | hp
      . · exact y23.hy_ok h0 p hp
      . simp only [List.mem_singleton] at hp; subst hp; exact h1.2
    . simp only [List.mem_singleton] at hp; subst hp; exact h2.2
  . simp only [List.mem_singleton] at hp; subst hp; exact h3.2
def y26:TyI U eT 26 where
 sv:=fun (x:List Tm)=>.sl 25 x
 bk:=fun s=>pb (asLN U 25) (leaves s)
 sv_ok:=sv_sl (N:=U) (t:=25)
 bk_ok:=pb_sl (N:=U) (t:=25)
def y27:TyI U eT 27 where
 sv:=fun (x:List Int)=>.sl 3 x
 bk:=fun s=>pb (asLN U 3) (leaves s)
 sv_ok:=sv_sl (N:=U) (t:=3)
 bk_ok:=pb_sl (N:=U) (t:=3)
def y28:TyI U eT 28 where
 sv:=fun (x:List Nt)=>.sl 60 x
 bk:=fun s=>pb (asLN U 60) (leaves s)
 sv_ok:=sv_sl (N:=U) (t:=60)
 bk_ok:=pb_sl (N:=U) (t:=60)
def y30k (ls:List (SV U)):Option Rl :=
 (pb asI64 (ls.take 1)).bind fun x0 =>
 (pb asI64 ((ls.drop 1).take 1)).bind fun x1 =>
 (pb asI64 (((ls.drop 1).drop 1).take 1)).bind fun x2 =>
 (pb (asLN U 25) ((((ls.drop 1).drop 1).drop 1).take 1)).bind fun x3 =>
 (pb (asLN U 3) (((((ls.drop 1).drop 1).drop 1).drop 1).take 1)).bind fun x4 =>
 (pb (asLN U 3) ((((((ls.drop 1).drop 1).drop 1).drop 1).drop 1).take 1)).bind fun x5 =>
 (pb (asLN U 3) (((((((ls.drop 1).drop 1).drop 1).drop 1).drop 1).drop 1).take 1)).bind fun x6 =>
 (pb (asLN U 3) ((((((((ls.drop 1).drop 1).drop 1).drop 1).drop 1).drop 1).drop 1).take 1)).bind fun x7 =>
 (pb (asLN U 60) (((((((((ls.drop 1).drop 1).drop 1).drop 1).drop 1).drop 1).drop 1).drop 1).take 1)).bind fun x8 =>
 (pb (asLN U 3) ((((((((((ls.drop 1).drop 1).drop 1).drop 1).drop 1).drop 1).drop 1).drop 1).drop 1).take 1)).bind fun x9 =>
 (pb (asLN U 3) (((((((((((ls.drop 1).drop 1).drop 1).drop 1).drop 1).drop 1).drop 1).drop 1).drop 1).drop 1).take 1)).bind fun x10 =>
 (pb (asLN U 3) ((((((((((((ls.drop 1).drop 1).drop 1).drop 1).drop 1).drop 1).drop 1).drop 1).drop 1).drop 1).drop 1).take 1)).bind fun x11 =>
 (pb (asLN U 3) (((((((((((((ls.drop 1).drop 1).drop 1).drop 1).drop 1).drop 1).drop 1).drop 1).drop 1).drop 1).drop 1).drop 1).take 1)).bind fun x12 =>
 (pb asI64 ((((((((((((((ls.drop 1).drop 1).drop 1).drop 1).drop 1).drop 1).drop 1).drop 1).drop 1).drop 1).drop 1).drop 1).drop 1))).bind fun x13 =>
 some ⟨x0,x1,x2,x3,x4,x5,x6,x7,x8,x9,x10,x11,x12,x13⟩
theorem y30r {ρ:Env1} {Z:Nat->Prop} {w:World} {cs:List Value} {ls:List (SV U)} {x:Rl} (h:RepL U eT ρ Z w cs ls) (e:y30k ls=some x):dRl.rd Z w cs x:=by
 unfold y30k at e
 obtain ⟨x0,e0,e⟩:=Option.bind_eq_some_iff.1 e
 obtain ⟨x1,e1,e⟩:=Option.bind_eq_some_iff.1 e
 obtain ⟨x2,e2,e⟩:=Option.bind_eq_some_iff.1 e
 obtain ⟨x3,e3,e⟩:=Option.bind_eq_some_iff.1 e
 obtain ⟨x4,e4,e⟩:=Option.bind_eq_some_iff.1 e
 obtain ⟨x5,e5,e⟩:=Option.bind_eq_some_iff.1 e
 obtain ⟨x6,e6,e⟩:=Option.bind_eq_some_iff.1 e
 obtain ⟨x7,e7,e⟩:=Option.bind_eq_some_iff.1 e
 obtain ⟨x8,e8,e⟩:=Option.bind_eq_some_iff.1 e
 obtain ⟨x9,e9,e⟩:=Option.bind_eq_some_iff.1 e
 obtain ⟨x10,e10,e⟩:=Option.bind_eq_some_iff.1 e
 obtain ⟨x11,e11,e⟩:=Option.bind_eq_some_iff.1 e
 obtain ⟨x12,e12,e⟩:=Option.bind_eq_some_iff.1 e
 obtain ⟨x13,e13,e⟩:=Option.bind_eq_some_iff.1 e
 cases e
 have g1:=RepL.split 1 h
 have g2:=RepL.split 1 g1.2
 have g3:=RepL.split 1 g2.2
 have g4:=RepL.split 1 g3.2
 have g5:=RepL.split 1 g4.2
 have g6:=RepL.split 1 g5.2
 have g7:=RepL.split 1 g6.2
 have g8:=RepL.split 1 g7.2
 have g9:=RepL.split 1 g8.2
 have g10:=RepL.split 1 g9.2
 have g11:=RepL.split 1 g10.2
 have g12:=RepL.split 1 g11.2
 have g13:=RepL.split 1 g12.2
 exact ⟨(cs.take 1),((cs.drop 1).take 1),(((cs.drop 1).drop 1).take 1),((((cs.drop 1).drop 1).drop 1).take 1),(((((cs.drop 1).drop 1).drop 1).drop 1).take 1),((((((cs.drop 1).drop 1).drop 1).drop 1).drop 1).take 1),(((((((cs.drop 1).drop 1).drop 1).drop 1).drop 1).drop 1).take 1),((((((((cs.drop 1).drop 1).drop 1).drop 1).drop 1).drop 1).drop 1).take 1),(((((((((cs.drop 1).drop 1).drop 1).drop 1).drop 1).drop 1).drop 1).drop 1).take 1),((((((((((cs.drop 1).drop 1).drop 1).drop 1).drop 1).drop 1).drop 1).drop 1).drop 1).take 1),(((((((((((cs.drop 1).drop 1).drop 1).drop 1).drop 1).drop 1).drop 1).drop 1).drop 1).drop 1).take 1),((((((((((((cs.drop 1).drop 1).drop 1).drop 1).drop 1).drop 1).drop 1).drop 1).drop 1).drop 1).drop 1).take 1),(((((((((((((cs.drop 1).drop 1).drop 1).drop 1).drop 1).drop 1).drop 1).drop 1).drop 1).drop 1).drop 1).drop 1).take 1),(((((((((((((cs.drop 1).drop 1).drop 1).drop 1).drop 1).drop 1).drop 1).drop 1).drop 1).drop 1).drop 1).drop 1).drop 1),by simp only [List.take_append_drop],pb_int g1.1 e0,pb_int g2.1 e1,pb_int g3.1 e2,pb_sl (N:=U) (t:=25) g4.1 e3,pb_sl (N:=U) (t:=3) g5.1 e4,pb_sl (N:=U) (t:=3) g6.1 e5,pb_sl (N:=U) (t:=3) g7.1 e6,pb_sl (N:=U) (t:=3) g8.1 e7,pb_sl (N:=U) (t:=60) g9.1 e8,pb_sl (N:=U) (t:=3) g10.1 e9,pb_sl (N:=U) (t:=3) g11.1 e10,pb_sl (N:=U) (t:=3) g12.1 e11,pb_sl (N:=U) (t:=3) g13.1 e12,pb_int g13.2 e13⟩
def y30:TyI U eT 30 where
 sv:=fun (x:Rl)=>.agg ([.int .i64 x.Freq]++([.int .i64 x.Interval]++([.int .i64 x.Count]++([.sl 25 x.Until]++([.sl 3 x.Month]++([.sl 3 x.WeekNo]++([.sl 3 x.YearDay]++([.sl 3 x.MonthDay]++([.sl 60 x.Days]++([.sl 3 x.Hour]++([.sl 3 x.Minute]++([.sl 3 x.Second]++([.sl 3 x.SetPos]++([.int .i64 x.Wkst]))))))))))))))
 bk:=fun s=>y30k (leaves s)
 sv_ok:=fun {ρ Z w cs x} h=>by
  obtain ⟨c0,c1,c2,c3,c4,c5,c6,c7,c8,c9,c10,c11,c12,c13,e,h0,h1,h2,h3,h4,h5,h6,h7,h8,h9,h10,h11,h12,h13⟩:=(show dRl.rd Z w cs x from h)
  subst e
  exact RepL.app (sv_int h0) (RepL.app (sv_int h1) (RepL.app (sv_int h2) (RepL.app (sv_sl (N:=U) (t:=25) h3) (RepL.app (sv_sl (N:=U) (t:=3) h4) (RepL.app (sv_sl (N:=U) (t:=3) h5) (RepL.app (sv_sl (N:=U) (t:=3) h6) (RepL.app (sv_sl (N:=U) (t:=3) h7) (RepL.app (sv_sl (N:=U) (t:=60) h8) (RepL.app (sv_sl (N:=U) (t:=3) h9) (RepL.app (sv_sl (N:=U) (t:=3) h10) (RepL.app (sv_sl (N:=U) (t:=3) h11) (RepL.app (sv_sl (N:=U) (t:=3) h12) (sv_int h13)))))))))))))
 bk_ok:=y30r
 hy:=fun (x:Rl)=>[in64 x.Freq]++[in64 x.Interval]++[in64 x.Count]++[in64 x.Wkst]
 hy_ok:=fun {Z w cs x} h p hp=>by
  obtain ⟨c0,c1,c2,c3,c4,c5,c6,c7,c8,c9,c10,c11,c12,c13,e,h0,h1,h2,h3,h4,h5,h6,h7,h8,h9,h10,h11,h12,h13⟩:=(show dRl.rd Z w cs x from h)
  rcases List.mem_append.1 hp with hp | hp
  . rcases List.mem_append.1 hp with hp | hp
    . rcases List.mem_append.1 hp with hp | hp
      . · simp only [List.mem_singleton] at hp; subst hp; exact h0.2
      . simp only [List.mem_singleton] at hp; subst hp; exact h1.2
    . simp only [List.mem_singleton] at hp; subst hp; exact h2.2
  . simp only [List.mem_singleton] at hp; subst hp; exact h13.2
def y60k (ls:List (SV U)):Option Nt :=
 (pb asI64 (ls.take 1)).bind fun x0 =>
 (pb asI64 ((ls.drop 1))).bind fun x1 =>
 some ⟨x0,x1⟩
theorem y60r {ρ:Env1} {Z:Nat->Prop} {w:World} {cs:List Value} {ls:List (SV U)} {x:Nt} (h:RepL U eT ρ Z w cs ls) (e:y60k ls=some x):dNt.rd Z w cs x:=by
 unfold y60k at e
 obtain ⟨x0,e0,e⟩:=Option.bind_eq_some_iff.1 e
 obtain ⟨x1,e1,e⟩:=Option.bind_eq_some_iff.1 e
 cases e
 have g1:=RepL.split 1 h
 exact ⟨(cs.take 1),(cs.drop 1),by simp only [List.take_append_drop],pb_int g1.1 e0,pb_int g1.2 e1⟩
def y60:TyI U eT 60 where
 sv:=fun (x:Nt)=>.agg ([.int .i64 x.N]++([.int .i64 x.Day]))
 bk:=fun s=>y60k (leaves s)
 sv_ok:=fun {ρ Z w cs x} h=>by
  obtain ⟨c0,c1,e,h0,h1⟩:=(show dNt.rd Z w cs x from h)
  subst e
  exact RepL.app (sv_int h0) (sv_int h1)
 bk_ok:=y60r
 hy:=fun (x:Nt)=>[in64 x.N]++[in64 x.Day]
 hy_ok:=fun {Z w cs x} h p hp=>by
  obtain ⟨c0,c1,e,h0,h1⟩:=(show dNt.rd Z w cs x from h)
  rcases List.mem_append.1 hp with hp | hp
  . · simp only [List.mem_singleton] at hp; subst hp; exact h0.2
  . simp only [List.mem_singleton] at hp; subst hp; exact h1.2
def y85k (ls:List (SV U)):Option Lk :=
 (y30.bk (.agg (ls.take 14))).bind fun x0 =>
 (y25.bk (.agg ((ls.drop 14).take 8))).bind fun x1 =>
 (pb asI64 (((ls.drop 14).drop 8))).bind fun x2 =>
 some ⟨x0,x1,x2⟩
theorem y85r {ρ:Env1} {Z:Nat->Prop} {w:World} {cs:List Value} {ls:List (SV U)} {x:Lk} (h:RepL U eT ρ Z w cs ls) (e:y85k ls=some x):dLk.rd Z w cs x:=by
 unfold y85k at e
 obtain ⟨x0,e0,e⟩:=Option.bind_eq_some_iff.1 e
 obtain ⟨x1,e1,e⟩:=Option.bind_eq_some_iff.1 e
 obtain ⟨x2,e2,e⟩:=Option.bind_eq_some_iff.1 e
 cases e
 have g1:=RepL.split 14 h
 have g2:=RepL.split 8 g1.2
 exact ⟨(cs.take 14),((cs.drop 14).take 8),((cs.drop 14).drop 8),by simp only [List.take_append_drop],y30.bk_ok (s:=.agg _) g1.1 e0,y25.bk_ok (s:=.agg _) g2.1 e1,pb_int g2.2 e2⟩
def y85:TyI U eT 85 where
 sv:=fun (x:Lk)=>.agg (leaves (y30.sv x.Rule)++(leaves (y25.sv x.start)++([.int .i64 x.day])))
 bk:=fun s=>y85k (leaves s)
 sv_ok:=fun {ρ Z w cs x} h=>by
  obtain ⟨c0,c1,c2,e,h0,h1,h2⟩:=(show dLk.rd Z w cs x from h)
  subst e
  exact RepL.app (y30.sv_ok h0) (RepL.app (y25.sv_ok h1) (sv_int h2))
 bk_ok:=y85r
def y101:TyI U eT 101 where
 sv:=fun (x:Ls)=>.agg [.str x.wd,.un,.int .i64 x.lo,.int .i64 x.hi,blB x.both]
 bk:=fun _=>none
 sv_ok:=fun {_ _ _ _ x} h=>by
  have h:dLs.rd _ _ _ x:=h
  obtain ⟨c,rfl,hp,h1,h2,h3⟩:=h
  exact RepL.cons (.str h1) rfl (RepL.cons .un hp (RepL.cons (.int fun _=>h2) rfl (RepL.cons (.int fun _=>h3) rfl (RepL.cons ClX.bl rfl RepL.nil))))
 bk_ok:=fun _ h=>by cases h
def tyU:∀ t,Option (TyI U eT t)
 | 3=>some y3
 | 4=>some y4
 | 23=>some y23
 | 25=>some y25
 | 26=>some y26
 | 27=>some y27
 | 28=>some y28
 | 30=>some y30
 | 60=>some y60
 | 85=>some y85
 | 101=>some y101
 | _=>none
end Go.Proofs.YtdjfeninmbpflaaGreat
end
