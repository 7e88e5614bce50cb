/- 19 texts, one behind the other. -/
import Derived.Test.YtdjfeninmbpflaaGreatU3
import Derived.Lib.FrozenHead
import Derived.Lib.UnsafeStr
import GoSem.Claim
import Derived.Test.YtdjfeninmbpflaaGreatChecked
set_option linter.unusedVariables false
set_option linter.unusedSimpArgs false
set_option maxRecDepth 100000
section
namespace Go.Rx
open Go Go.Wk Go.Wl
section
variable {E:Env} {C C':Ctx} {n:Nat} {l:List Oper} {ms:List Nat} {H:H1} {f0:Fr} {st0:E.St} {fx:m6 E.N} {lkd lkd':i4 E.N} {F a:DA E.N} {D:Nat->Bool} {V:Nat->Value} {w w':World} {ρ ρ':n8} {Z Z':Nat->Prop} {i k m:Nat} {g:Fr} {its:i4 E.N} {nx:Nat}
theorem d4v (hE:k8 E) {o:Oper} {e:Ent E.N} {ob:List Prop} {T:List Nat} {mm:i4 E.N×Nat} (hf:R6 fx l=true) (hq:c1q n fx lkd l ms st0 i o a T=some (ob,e,mm))
  (hob:im (dHy (bit ms i) 0 a.ents) (l7 ob)) (hw:WA E l H i a) (hF:WA E l H m F) (hu:Up a F i) (he:F.ents[i]?=some e) (hei:F.effs[a.effs.length]?=some i) (hmm:F.mems[a.effs.length+1]?=some mm):c1t E.P n l ms (JF E C fx lkd st0 f0 F) f0 i o:=by
 intro D V g w hJ hDi hdep hsucc hdone hkept
 obtain ⟨ρ,Z,k,hj⟩:=hJ
 have hob:=J9 hob (hj.hys (fun j e h=>hu.ent h) hdep)
 obtain ⟨mk,hmk,hmem⟩:=hj.mem
 obtain ⟨dst,op,ty,pos,after,guard⟩:=o
 unfold c1q at hq
 split at hq
 . rename_i m0 hm0
   have h2:=j3 hq
   clear hq
   obtain ⟨hb,hq⟩:=h2
   simp only [Bool.and_eq_true] at hb
   obtain ⟨hfr,hall⟩:=hb
   simp only at hfr hq
   split at hq
   case h_2=>cases hq
   rename_i gg ch hdg
   have hk:k=a.effs.length:=by
    rcases Nat.lt_trichotomy k a.effs.length with c | c | c
    . exfalso
      obtain ⟨e',he'⟩:∃ e',a.effs[k]?=some e':=⟨_,List.getElem?_eq_getElem c⟩
      rw [List.all_eq_true] at hall
      have:=(hj.eff k e' (hu.eff he')).1 (hdep e' (hall e' (List.mem_of_getElem? he')))
      omega
    . exact c
    . exfalso
      have:=(hj.eff _ i hei).2 c
      rw [hDi] at this; cases this
   subst hk
   have:=hu.mem hm0
   rw [this] at hmk; cases hmk
   split at hq
   . rename_i s hs
     have h2:=j3 hq
     clear hq
     obtain ⟨_,hq⟩:=h2
     simp only [Option.some.injEq,Prod.mk.injEq] at hq
     obtain ⟨rfl,rfl,rfl⟩:=hq
     have hR:=hj.rel hf hw (fun j e h=>hu.ent h) hdep hdone hkept (C':=C.at ρ Z w) (its:=within mk.1 T) (lkd':=k7 mk.1 T++lkd) (nx:=mk.2) (hmem.down.perm (by rw [<- List.append_assoc]; exact (S5 mk.1 T).append_right lkd)) (Tn.refl _ _ _) (U5.turn hj.g hj.tn)
     have hgg:∃ hG:R8 g ch,l7 s.ob/\∀ {Q:Exit->Fr->World->Prop},WL E.P false n l Q [⟨dst,op,ty,pos,after,none⟩] g w->WL E.P false n l Q [⟨dst,op,ty,pos,after,guard⟩] g w:=by
      unfold dG at hdg
      cases guard with
      | none =>
       simp only [Option.some.injEq,Prod.mk.injEq] at hdg
       obtain ⟨rfl,rfl⟩:=hdg
       exact ⟨R8.nil,hob,fun h=>h⟩
      | some jb =>
       obtain ⟨j,b⟩:=jb
       simp only at hdg
       split at hdg
       . rename_i dj hdj
         have h3:=j3 hdg
         clear hdg
         obtain ⟨hb3,hdg⟩:=h3
         simp only [Bool.and_eq_true] at hb3
         obtain ⟨⟨_,hnj⟩,_⟩:=hb3
         split at hdg
         . rename_i p dp hgp
           simp only [Option.some.injEq,Prod.mk.injEq] at hdg
           obtain ⟨rfl,rfl⟩:=hdg
           have hob2:p/\l7 s.ob:=hob
           have e1:=(a0r hR 8 dj b p dp hgp).1.1 hob2.1
           exact ⟨a13 hR 8 dj b e1,hob2.2,fun h=>a5h hdj hnj e1 h⟩
         . cases hdg
       . cases hdg
     obtain ⟨hG,hob,hon⟩:=hgg
     refine hon (c8m hE hR hG hfr hs hob fun v ρ' Z' w' hr hy=>W4 ⟨rfl,v,rfl,ρ',Z',a.effs.length+1,?_⟩)
     have t:Tn ρ Z w ρ' Z' w':=hr.tn
     have hM:=Mem.upC hmem hr.mem
     refine ⟨fun r e' hr'=>?_,⟨_,hmm,?_⟩,hj.tn.trans t,fun k s h=>t.rep (hj.sl k s h),fun p hp=>t.rep (hj.fx p hp),fun j e' hj' hD=>?_,hj.g⟩
     . rcases Nat.lt_trichotomy r a.effs.length with c | c | c
       . have h1:=hj.eff r e' hr'
         have hne:e'≠i:=fun e2=>by subst e2; have:=b5g hF.up hr' hei; omega
         rw [K3 hne,h1]; omega
       . subst c
         rw [hei] at hr'; cases hr'
         rw [a6l]; simp
       . have h1:=hj.eff r e' hr'
         have hne:e'≠i:=fun e2=>by subst e2; have:=b5g hF.up hr' hei; omega
         rw [K3 hne,h1]; omega
     . rw [List.append_assoc]
       cases dst with
       | none=>exact hM
       | some d=>exact hM
     . by_cases e2:j=i
       . subst e2; rw [he] at hj'; cases hj'
         refine ⟨hy,?_⟩
         show Rep E.N E.T ρ' Z' w' (L9 V j v j) _
         rw [K6]
         cases dst with
         | none=>exact .un
         | some d =>
          have:=hr.sl d s.v (by show lk ((d,s.v)::_) d=_; rw [B5,if_pos rfl])
          rw [show F9 g (some d) v d=v from a0b] at this
          exact this
       . rw [K3 e2] at hD
         exact (hj.ent j e' hj' hD).turn t hDi hD
   . cases hq
 . cases hq
theorem WA.quiet {o:Oper} {e:Ent E.N} {ob:List Prop} (hw:WA E l H i a) (ho:l[i]?=some o) (hq:a63 n fx lkd l ms H st0 i o a=some (ob,e)):WA E l H (i+1) ⟨a.ents++[e],a.effs,a.mems⟩:=by
 have hent:o.dst=e.dst/\∀ jj dj b,e.g=some (jj,dj,b)->o0 l jj=some dj:=by
  unfold a63 at hq
  split at hq
  . cases hq
  have h2:=j3 hq
  clear hq
  obtain ⟨_,hq⟩:=h2
  split at hq
  . split at hq
    . rename_i q d hgop hd
      simp only [Option.some.injEq,Prod.mk.injEq] at hq
      obtain ⟨_,rfl⟩:=hq
      exact ⟨hd,fun jj dj b h=>by cases h⟩
    . cases hq
  . rename_i j b hg
    split at hq
    . rename_i dj hdj
      have h2:=j3 hq
      clear hq
      obtain ⟨_,hq⟩:=h2
      split at hq
      . rename_i p q d hs
        simp only [Option.some.injEq,Prod.mk.injEq] at hq
        obtain ⟨_,rfl⟩:=hq
        refine ⟨?_,fun jj dj' b' h=>by cases h; exact hdj⟩
        unfold b28 at hs
        split at hs
        . rename_i hd
          have h2:=b2o hs
          have hs:=h2.2
          simp only [Option.some.injEq,Prod.mk.injEq] at hs
          rw [hd,hs.2.2]
        . cases hs
      . cases hq
    . cases hq
 refine ⟨by simp [hw.len],fun j e' hj=>?_,fun e' h=>⟨by have:=(hw.eff e' h).1; omega,(hw.eff e' h).2⟩,hw.up,hw.mlen,hw.chain,hw.nx⟩
 have hl:=hw.len
 by_cases c:j<a.ents.length
 . have hj:(a.ents++[e])[j]?=some e':=hj
   rw [List.getElem?_append_left c] at hj; exact hw.ent j e' hj
 . have hj:(a.ents++[e])[j]?=some e':=hj
   rw [List.getElem?_append_right (by omega)] at hj
   have:j-a.ents.length=0:=by have:=o6 hj; simp at this; omega
   rw [this] at hj; cases hj
   have:j=i:=by omega
   subst this
   exact ⟨by rw [F7 ho]; exact hent.1,hent.2⟩
theorem WA.put {o:Oper} {e:Ent E.N} (hw:WA E l H i a) (ho:l[i]?=some o) (hent:o.dst=e.dst/\∀ jj dj b,e.g=some (jj,dj,b)->o0 l jj=some dj):WA E l H (i+1) ⟨a.ents++[e],a.effs,a.mems⟩:=by
 refine ⟨by simp [hw.len],fun j e' hj=>?_,fun e' h=>⟨by have:=(hw.eff e' h).1; omega,(hw.eff e' h).2⟩,hw.up,hw.mlen,hw.chain,hw.nx⟩
 have hl:=hw.len
 by_cases c:j<a.ents.length
 . have hj:(a.ents++[e])[j]?=some e':=hj
   rw [List.getElem?_append_left c] at hj; exact hw.ent j e' hj
 . have hj:(a.ents++[e])[j]?=some e':=hj
   rw [List.getElem?_append_right (by omega)] at hj
   have:j-a.ents.length=0:=by have:=o6 hj; simp at this; omega
   rw [this] at hj; cases hj
   have:j=i:=by omega
   subst this
   exact ⟨by rw [F7 ho]; exact hent.1,hent.2⟩
theorem WA.dead {o:Oper} {e:Ent E.N} (hw:WA E l H i a) (ho:l[i]?=some o) (hq:b0y n l ms i o a=some e):WA E l H (i+1) ⟨a.ents++[e],a.effs,a.mems⟩:=by
 refine hw.put ho ?_
 unfold b0y at hq
 split at hq
 . rename_i j b d hg hd
   split at hq
   . have ⟨_,hq2⟩:=j3 hq
     simp only [Option.some.injEq] at hq2
     subst hq2
     exact ⟨hd,fun jj dj b h=>by cases h⟩
   . cases hq
 . cases hq
theorem WA.effs {o:Oper} {e:Ent E.N} {ob:List Prop} {T:List Nat} {mm:i4 E.N×Nat} (hw:WA E l H i a) (ho:l[i]?=some o) (hH:lk H i=some T) (hq:c1q n fx lkd l ms st0 i o a T=some (ob,e,mm)):WA E l H (i+1) ⟨a.ents++[e],a.effs++[i],a.mems++[mm]⟩:=by
 have hent:o.dst=e.dst/\e.g=none/\mm.2<=NX/\∃ m0 new,a.mems[a.effs.length]?=some m0/\mm.1=new++k7 (E:=E) m0.1 T:=by
  unfold c1q at hq
  split at hq
  . rename_i m0 hm0
    have h2:=j3 hq
    clear hq
    obtain ⟨_,hq⟩:=h2
    split at hq
    case h_2=>cases hq
    split at hq
    . rename_i s hs
      have h2:=j3 hq
      clear hq
      obtain ⟨hn,hq⟩:=h2
      simp only [Option.some.injEq,Prod.mk.injEq] at hq
      obtain ⟨rfl,rfl,rfl⟩:=hq
      exact ⟨rfl,rfl,Nat.le_of_ble_eq_true hn,m0,_,hm0,rfl⟩
    . cases hq
  . cases hq
 obtain ⟨h1,h2,h3,m0,new,h4,h5⟩:=hent
 have hl:=hw.len
 have hml:=hw.mlen
 refine ⟨by simp [hw.len],fun j e' hj=>?_,fun e' h=>?_,?_,by simp [hml],fun r e' m m' he hm hm'=>?_,fun m h=>?_⟩
 . have hj:(a.ents++[e])[j]?=some e':=hj
   by_cases c:j<a.ents.length
   . rw [List.getElem?_append_left c] at hj; exact hw.ent j e' hj
   . rw [List.getElem?_append_right (by omega)] at hj
     have:j-a.ents.length=0:=by have:=o6 hj; simp at this; omega
     rw [this] at hj; cases hj
     have:j=i:=by omega
     subst this
     exact ⟨by rw [F7 ho]; exact h1,fun jj dj b h=>by rw [h2] at h; cases h⟩
 . have h:e'∈a.effs++[i]:=h
   rw [List.mem_append,List.mem_singleton] at h
   rcases h with h | rfl
   . exact ⟨by have:=(hw.eff e' h).1; omega,(hw.eff e' h).2⟩
   . exact ⟨by omega,T,hH⟩
 . show (a.effs++[i]).Pairwise (· < ·)
   rw [List.pairwise_append]
   refine ⟨hw.up,List.pairwise_singleton _ _,fun x hx y hy=>?_⟩
   rw [List.mem_singleton] at hy; subst hy
   exact (hw.eff x hx).1
 . have he:(a.effs++[i])[r]?=some e':=he
   have hm:(a.mems++[mm])[r]?=some m:=hm
   have hm':(a.mems++[mm])[r+1]?=some m':=hm'
   by_cases c:r<a.effs.length
   . rw [List.getElem?_append_left c] at he
     rw [List.getElem?_append_left (by omega)] at hm hm'
     exact hw.chain r e' m m' he hm hm'
   . rw [List.getElem?_append_right (by omega)] at he
     have:r-a.effs.length=0:=by have:=o6 he; simp at this; omega
     have hr:r=a.effs.length:=by omega
     subst hr
     rw [this] at he; cases he
     rw [List.getElem?_append_left (by omega)] at hm
     rw [List.getElem?_append_right (by omega)] at hm'
     have:a.effs.length+1-a.mems.length=0:=by omega
     rw [this] at hm'; cases hm'
     rw [h4] at hm; cases hm
     exact ⟨T,new,hH,h5⟩
 . have h:m∈a.mems++[mm]:=h
   rw [List.mem_append,List.mem_singleton] at h
   rcases h with h | rfl
   . exact hw.nx m h
   . exact h3
theorem a86 (hE:k8 E) (hf:R6 fx l=true) {K:DA E.N->Prop}:∀ (r:List Oper) (i:Nat) (a:DA E.N),(∀ x,r[x]?=l[i+x]?)->WA E l H i a->dGo n fx lkd l ms H st0 K i r a->∃ F,WA E l H (i+r.length) F/\Up a F i/\a09 E.P n l ms (JF E C fx lkd st0 f0 F) f0 i r/\K F
 | [],i,a,_,hw,h=>⟨a,hw,⟨⟨[],by simp⟩,⟨[],by simp,fun e h=>by cases h⟩,⟨[],by simp⟩⟩,.nil,h⟩
 | o::r,i,a,hr,hw,h=>by
  have ho:l[i]?=some o:=by have:=hr 0; simpa using this.symm
  have hr':∀ x,r[x]?=l[i+1+x]? := fun x=>by have:=hr (x+1); rw [show i+(x+1)=i+1+x by omega] at this; simpa using this
  unfold dGo at h
  rw [d3t] at h
  split at h
  . rename_i ob a' hone
    have ⟨hob,hgo⟩:im (dHy (bit ms i) 0 a.ents) (l7 ob)/\dGo n fx lkd l ms H st0 K (i+1) r a':=by
     cases hb:ob.isEmpty with
     | true=>rw [hb,cond_true] at h; rw [List.isEmpty_iff.1 hb]; exact ⟨b0g fun _=>trivial,h⟩
     | false=>rw [hb,cond_false] at h; exact ⟨b0g fun hy=>b7f (J9 h.1 hy),h.2⟩
    unfold e2c at hone
    split at hone
    . rename_i hH
      split at hone
      . rename_i e hq
        simp only [Option.some.injEq,Prod.mk.injEq] at hone
        obtain ⟨rfl,rfl⟩:=hone
        obtain ⟨F,hF,hu,hs,hK⟩:=a86 hE hf r (i+1) _ hr' (hw.dead ho hq) hgo
        have he:F.ents[i]?=some e:=hu.ent (by show (a.ents++[e])[i]?=_; rw [List.getElem?_append_right (by have:=hw.len; omega),hw.len,Nat.sub_self]; rfl)
        have hu':Up a F i:=by
         obtain ⟨⟨x,hx⟩,⟨y,hy,hy'⟩,hz⟩:=hu
         exact ⟨⟨[e]++x,by rw [hx]; simp⟩,⟨y,hy,fun e h=>by have:=hy' e h; omega⟩,hz⟩
        exact ⟨F,by rw [List.length_cons,show i+(r.length+1)=i+1+r.length by omega]; exact hF,hu',.cons (c8f hq hH hF hu' he) hs,hK⟩
      . split at hone
        . rename_i ob1 e hq
          simp only [Option.some.injEq,Prod.mk.injEq] at hone
          obtain ⟨rfl,rfl⟩:=hone
          obtain ⟨F,hF,hu,hs,hK⟩:=a86 hE hf r (i+1) _ hr' (hw.quiet ho hq) hgo
          have he:F.ents[i]?=some e:=hu.ent (by show (a.ents++[e])[i]?=_; rw [List.getElem?_append_right (by have:=hw.len; omega),hw.len,Nat.sub_self]; rfl)
          have hu':Up a F i:=by
           obtain ⟨⟨x,hx⟩,⟨y,hy,hy'⟩,hz⟩:=hu
           exact ⟨⟨[e]++x,by rw [hx]; simp⟩,⟨y,hy,fun e h=>by have:=hy' e h; omega⟩,hz⟩
          exact ⟨F,by rw [List.length_cons,show i+(r.length+1)=i+1+r.length by omega]; exact hF,hu',.cons (c3t hE hf hq hH hob hw hF hu' he) hs,hK⟩
        . cases hone
    . rename_i T hH
      split at hone
      . rename_i ob1 e mm hq
        simp only [Option.some.injEq,Prod.mk.injEq] at hone
        obtain ⟨rfl,rfl⟩:=hone
        obtain ⟨F,hF,hu,hs,hK⟩:=a86 hE hf r (i+1) _ hr' (hw.effs ho hH hq) hgo
        have he:F.ents[i]?=some e:=hu.ent (by show (a.ents++[e])[i]?=_; rw [List.getElem?_append_right (by have:=hw.len; omega),hw.len,Nat.sub_self]; rfl)
        have hei:F.effs[a.effs.length]?=some i:=hu.eff (by show (a.effs++[i])[a.effs.length]?=_; rw [List.getElem?_append_right (Nat.le_refl _),Nat.sub_self]; rfl)
        have hmm:F.mems[a.effs.length+1]?=some mm:=hu.mem (by show (a.mems++[mm])[a.effs.length+1]?=_; rw [<- hw.mlen,List.getElem?_append_right (Nat.le_refl _),Nat.sub_self]; rfl)
        have hu':Up a F i:=by
         obtain ⟨⟨x,hx⟩,⟨y,hy,hy'⟩,⟨z,hz⟩⟩:=hu
         refine ⟨⟨[e]++x,by rw [hx]; simp⟩,⟨[i]++y,by rw [hy]; simp,fun e h=>?_⟩,⟨[mm]++z,by rw [hz]; simp⟩⟩
         rw [List.mem_append,List.mem_singleton] at h
         rcases h with h | h
         . omega
         . have:=hy' e h; omega
        exact ⟨F,by rw [List.length_cons,show i+(r.length+1)=i+1+r.length by omega]; exact hF,hu',.cons (d4v hE hf hq hob hw hF hu' he hei hmm) hs,hK⟩
      . cases hone
  . exact h.elim
theorem a02 {g g':Fr}:∀ {ks:List Nat} {k:Nat},k∈ks->a1j g' (ks.map fun k=>(k,g k)) k=g k
 | x::r,k,h=>by
  show upd (a1j g' (r.map fun k=>(k,g k))) x (g x) k=g k
  by_cases e:x=k
  . subst e; exact a0b
  . rw [O3 e]
    rcases List.mem_cons.1 h with h | h
    . exact absurd h.symm e
    . exact a02 h
theorem b19 {g:Fr}:∀ {ks:List Nat},c3b g (ks.map fun k=>(k,g k))
 | []=>trivial
 | _::_=>⟨rfl,b19⟩
theorem b8h (hE:k8 E) {id:Nat} {f:Fr} {K:E.St->Prop} {Q:Exit->Fr->World->Prop} (h:Rel E C fx lkd st0 ρ Z f w) {H0:H1} (hv:b5d n fx lkd l st0 H0 K) (hQ:∀ st' ρ' Z' f' w',Rel E C fx lkd st' ρ' Z' f' w'->K st'->Q .normal f' w'):W E.P n (.region id l.toArray true) Q f w:=by
 unfold b5d at hv
 cases hb:(I3 l && a4o l [] && a7e (a9d l) n l && R6 fx l && Nat.ble st0.nx NX) with
 | false=>rw [hb] at hv; exact hv.elim
 | true =>
  rw [hb,cond_true,c4s,a9b,c2u] at hv
  rw [Bool.and_eq_true,Bool.and_eq_true] at hb
  obtain ⟨⟨ha,hf⟩,hn⟩:=hb
  obtain ⟨F,hF,hu,hs,hK⟩:=a86 (C:=C) (f0:=f) hE hf l 0 _ (fun x=>by simp) ⟨rfl,fun j e h=>by simp at h,fun e h=>(by cases h),List.Pairwise.nil,rfl,fun r e m m' h=>by simp at h,fun m h=>by
   have h:m∈[(st0.items,st0.nx)]:=h
   rw [List.mem_singleton] at h; subst h; exact Nat.le_of_ble_eq_true hn⟩ hv
  rw [Nat.zero_add] at hF
  refine b37 (JF E C fx lkd st0 f F) (a9d l) hE.mixed ha (a6t l) rfl (fun V=>⟨ρ,Z,0,fun r e _=>by simp,⟨_,hu.mem (j:=0) rfl,h.mem⟩,h.tn,h.sl,h.fx,fun j e _ hD=>(by cases hD),h.g⟩) hs fun D V g w' hD hJ hdone hkept=>?_
  obtain ⟨ρ',Z',k,hj⟩:=hJ
  obtain ⟨mk,hmk,hmem⟩:=hj.mem
  have hk:k=F.effs.length:=by
   rcases Nat.lt_or_ge k F.effs.length with c | c
   . exfalso
     obtain ⟨e,he⟩:∃ e,F.effs[k]?=some e:=⟨_,List.getElem?_eq_getElem c⟩
     have h1:=(hF.eff e (List.mem_of_getElem? he)).1
     have:=(hj.eff k e he).1 (hD e (by simpa [Nat.blt_eq] using h1))
     omega
   . have:=o6 hmk
     have:=hF.mlen
     omega
  subst hk
  unfold e3c at hK
  rw [hmk] at hK
  simp only at hK
  have hlen:∀ {j:Nat} {e:Ent E.N},F.ents[j]?=some e->Nat.blt j l.length=true:=fun {j e} he=>by have:=o6 he; rw [hF.len] at this; simpa [Nat.blt_eq] using this
  have hK:=J9 hK (a8r fun j e h1 _=>(hj.ent j e h1 (hD j (hlen h1))).1)
  have hg:Rel E C fx lkd ⟨O5 (fun _=>true) 0 F.ents++st0.slots.filter (fun p=>!(a9d l).elem p.1),[],mk.1,mk.2⟩ ρ' Z' g w':=by
   refine ⟨fun k s hk=>?_,fun p hp=>?_,fun k j' b s hk=>(by cases hk),hmem,hj.tn,hj.g⟩
   . rcases b3p hk with hk | ⟨_,hk⟩
     . obtain ⟨j,e,h1,_,h3,rfl⟩:=a1s hk
       have hg:=hdone j k (hlen h1) (by rw [(hF.ent j e h1).1]; exact h3)
       have ho:=(hj.ent j e h1 (hD j (hlen h1))).2
       unfold Ent.now
       split
       . rename_i hn; rw [hn] at ho; rw [hg]; exact ho
       . exact .un
     . have ⟨h1,h2⟩:=a71 (q:=fun t=>!(a9d l).elem t) hk
       rw [hkept k (by simpa using h1)]; exact hj.sl k s h2
   . rw [hkept p.1 ?_]
     . exact hj.fx p hp
     . cases hx:(a9d l).elem p.1 with
       | false=>rfl
       | true =>
        exfalso
        have hx:=List.mem_of_elem_eq_true hx
        unfold a9d at hx
        rw [List.mem_filterMap] at hx
        obtain ⟨o,ho,hd⟩:=hx
        unfold R6 at hf
        rw [List.all_eq_true] at hf
        have:=hf o ho
        rw [hd] at this
        simp only [Option.isNone_iff_eq_none] at this
        exact a3b this p hp rfl
  generalize hst:(⟨O5 (fun _=>true) 0 F.ents++st0.slots.filter (fun p=>!(a9d l).elem p.1),[],mk.1,mk.2⟩:E.St)=stF at hg hK
  refine ⟨((stF.slots++fx).map (·.1)).map fun k=>(k,g k),b19,fun g'=>hQ stF ρ' Z' _ w' ?_ hK⟩
  refine ⟨fun k s hk=>?_,fun p hp=>?_,fun k j' b s hk=>?_,hg.mem,hg.tn,hg.g⟩
  . obtain ⟨x,hx,_⟩:=p7 hk
    rw [a02 (List.mem_map.2 ⟨_,List.mem_append_left _ (List.mem_of_getElem? hx),rfl⟩)]
    exact hg.sl k s hk
  . rw [a02 (List.mem_map.2 ⟨p,List.mem_append_right _ hp,rfl⟩)]
    exact hg.fx p hp
  . rw [<- hst] at hk; cases hk
theorem S0 (hE:k8 E) {id:Nat} {f:Fr} {K:E.St->Prop} {Q:Exit->Fr->World->Prop} (h:Rel E C fx lkd st0 ρ Z f w) (hQ:∀ st' ρ' Z' f' w',Rel E C fx lkd st' ρ' Z' f' w'->K st'->Q .normal f' w'):∀ (fs:List Nat) (H0:H1),X9 n fx lkd l st0 K fs H0->W E.P n (.region id l.toArray true) Q f w
 | [],H0,hv=>b8h hE h (H0:=H0) hv hQ
 | i::r,H0,hv=>by
  unfold X9 at hv
  split at hv
  . rename_i p _
    by_cases hp:p
    . exact S0 hE h hQ r _ (hv.1 hp)
    . exact S0 hE h hQ r _ (hv.2 hp)
  . exact S0 hE h hQ r _ hv
end
end Go.Rx
end
section
namespace Go.Rx
open Go Go.Wk Go.Wl
section
variable {E:Env} {C:Ctx} {f fb:Fr} {w wb:World} {ρb ρ:n8} {Z Zb:Nat->Prop} {lkd:i4 E.N} {fx:m6 E.N} {st st':E.St} {inl:Inl E} {an:Ann}
theorem b3c {keep ids:List Nat} {Kα:Prop×Nat->Prop} {G:Prop×Nat->E.St->Prop} (h0:Rel E C fx lkd st ρb Zb fb wb) (h:Rel E (C.at ρb Zb wb) (n7 fx st keep++fx) (k7 st.items ids++lkd) st' ρ Z f w):∀ (ss:List (List LV)) (p:ShP E.N ss),
  rbS E fx st (n7 fx st keep++fx) st' ss p Kα->e0a E fx st ss p G->∃ new ρ2 a,Kα a/\G a new/\Rel E (C.at ρb Zb wb) (n7 fx st keep++fx) (k7 st.items ids++lkd) new ρ2 Z f w
 | [],_,hv,_=>hv.elim
 | vs::r,p,hv,hK=>by
  unfold rbS at hv
  cases hb:fits E fx st (n7 fx st keep++fx) st' vs with
  | true=>rw [hb,cond_true] at hv; exact a29 h0 h hv hK.1
  | false=>rw [hb,cond_false] at hv; exact b3c h0 h r p.2 hv hK.2
theorem c1z {N:Uni}:∀ {ss:List (List LV)} {k:ShP N ss->Prop},exS N ss k->∃ p,k p
 | [],_,h=>⟨(),h⟩
 | vs::r,k,⟨I,m,h⟩=>by obtain ⟨p,h⟩:=c1z h; exact ⟨_,h⟩
def b9m (K:Ks E) (e:Exit) (st:E.St):Prop:=match e with
 | .normal=>K.n st
 | .ret=>K.r st
 | .exit i=>(match lk K.e i with | some k=>k st | none=>False)
 | _=>False
def QK (E:Env) (C:Ctx) (fx:m6 E.N) (lkd:i4 E.N) (K:Ks E):Exit->Fr->World->Prop:=fun e f w=>∃ st ρ Z,Rel E C fx lkd st ρ Z f w/\b9m K e st
theorem c30 {α β:Type} {l:List (Nat×α)} {g:α->β} {i:Nat}:lk (l.map fun p=>(p.1,g p.2)) i=(lk l i).map g:=by
 induction l with
 | nil=>rfl
 | cons p r ih =>
  show (bif Nat.beq p.1 i then some (g p.2) else lk (r.map fun p=>(p.1,g p.2)) i)=(bif Nat.beq p.1 i then some p.2 else lk r i).map g
  cases Nat.beq p.1 i with
  | true=>rfl
  | false=>exact ih
theorem Rel.g0 (h:Rel E C fx lkd st ρ Z f w):Rel E C fx lkd ⟨st.slots,[],st.items,st.nx⟩ ρ Z f w:=⟨h.sl,h.fx,fun k j b s e=>(by cases e),h.mem,h.tn,h.g⟩
theorem a23 {keep ids:List Nat} {K:Ks E} {n:E.St->Prop} {e:Exit} (h0:Rel E C fx lkd st ρb Zb fb wb) (hn:e≠.normal)
  (h:QK E (C.at ρb Zb wb) (n7 fx st keep++fx) (k7 st.items ids++lkd) (U6 (n7 fx st keep) (k7 st.items ids) K n) e f w):QK E C fx lkd K e f w:=by
 obtain ⟨st',ρ',Z',hr,he⟩:=h
 have hl:=Rel.leave h0 hr
 cases e with
 | normal=>exact absurd rfl hn
 | ret=>exact ⟨_,_,_,hl,he⟩
 | exit i =>
  simp only [b9m,U6] at he
  rw [c30] at he
  cases hk:lk K.e i with
  | none=>rw [hk] at he; exact he.elim
  | some k=>rw [hk] at he; exact ⟨_,_,_,hl,by simp only [b9m,hk]; exact he⟩
 | _=>exact he.elim
theorem a1u {e:Array Edge} {j:Nat} (h:hasE e j=true):∃ x∈e,x.on=j/\Region.binds .any x=true:=by
 unfold hasE at h
 obtain ⟨x,hx,hh⟩:=List.any_eq_true.1 h
 rw [Bool.and_eq_true] at hh
 exact ⟨x,by simpa using hx,Nat.eq_of_beq_eq_true hh.1,hh.2⟩
theorem b63 {T:Nat} (h:b70 E T=true):(∀ w,(zeroValue T).run E.P w=.ok (.bool false) w)/\(∀ w,(sizeOf T).run E.P w=.ok 1 w)/\(∀ w,(isAgg T).run E.P w=.ok false w):=by
 unfold b70 at h
 rw [Bool.and_eq_true,Bool.and_eq_true] at h
 obtain ⟨⟨h1,h2⟩,h3⟩:=h
 refine ⟨?_,?_,?_⟩
 . cases hz:E.zeroV T with
   | none=>rw [hz] at h1; cases h1
   | some v =>
    rw [hz] at h1
    cases v with
    | bool b=>cases b with
     | true=>cases h1
     | false=>exact V9 hz
    | _=>cases h1
 . cases hz:E.size T with
   | none=>rw [hz] at h2; cases h2
   | some s =>
    rw [hz] at h2
    have:=Nat.eq_of_beq_eq_true h2
    subst this
    exact E1 hz
 . cases hz:E.aggOf T with
   | none=>rw [hz] at h3; cases h3
   | some b =>
    rw [hz] at h3
    cases b with
    | true=>cases h3
    | false=>exact R2 hz
theorem Y8.mono {P:Program} {o:Oper} {g:Fr} {w:World} {R R':Value->World->Prop} (h:Y8 P o g w R) (k:∀ v w',R v w'->R' v w'):Y8 P o g w R':=by
 rcases h with h | h | ⟨K,a,h1,h2⟩
 . exact .inl fun w1 hs=>by obtain ⟨v,w2,w',a,b,c⟩:=h w1 hs; exact ⟨v,w2,w',a,b,k _ _ c⟩
 . exact .inr (.inl fun w1 hs=>by obtain ⟨w2,w',a,b,c⟩:=h w1 hs; exact ⟨w2,w',a,b,k _ _ c⟩)
 . exact .inr (.inr ⟨K,a,h1,h2.mono k⟩)
theorem c85 (hE:k8 E) {id n a b:Nat} {l:List Oper} {C:Ctx} {fx:m6 E.N} {lkd:i4 E.N} {st:E.St} {ρ:n8} {Z:Nat->Prop} {f:Fr} {w:World} {K:E.St->Prop} {Q:Exit->Fr->World->Prop} (h:Rel E C fx lkd ⟨st.slots,[],st.items,st.nx⟩ ρ Z f w) (hc:c1d E n fx l=some (a,b))
  (h1:K ⟨(b,.tt)::(a,.un)::st.slots,[],st.items,st.nx⟩) (h2:K ⟨(b,.ff)::(a,.un)::st.slots,[],st.items,st.nx⟩)
  (hQ:∀ st' ρ' Z' f' w',Rel E C fx lkd st' ρ' Z' f' w'->K st'->Q .normal f' w'):W E.P n (.region id l.toArray true) Q f w:=by
 unfold c1d at hc
 split at hc
 . rename_i a' T ty0 pos0 e0 T1 a1 ty1 pos1 e1 T2 a2 ty2 pos2 e2 b' T3 a3 ty3 pos3 e3
   cases hb:(I3 [⟨some a',.alloc T,ty0,pos0,e0,none⟩,⟨none,.store T1 (.tmp a1) (.const (.bool true)),ty1,pos1,e1,none⟩,⟨none,.store T2 (.tmp a2) (.const (.bool false)),ty2,pos2,e2,none⟩,⟨some b',.load T3 (.tmp a3),ty3,pos3,e3,none⟩] && Nat.beq T T1 && Nat.beq T T2 && Nat.beq T T3 && Nat.beq a' a1 && Nat.beq a' a2 && Nat.beq a' a3 && !Nat.beq a' b' && (Nat.blt a' n && (lk fx a').isNone) && (Nat.blt b' n && (lk fx b').isNone) && hasE e1 0 && hasE e2 0 && hasE e3 0 && b70 E T) with
   | false=>rw [hb] at hc; cases hc
   | true =>
   rw [hb,cond_true] at hc
   cases hc
   simp only [Bool.and_eq_true] at hb
   obtain ⟨⟨⟨⟨⟨⟨⟨⟨⟨⟨⟨⟨⟨hao,b1⟩,b2⟩,b3⟩,b4⟩,b5⟩,b6⟩,b7⟩,ha1,ha2⟩,hb1,hb2⟩,he1⟩,he2⟩,he3⟩,hT⟩:=hb
   have b1:=Nat.eq_of_beq_eq_true b1; subst b1
   have b2:=Nat.eq_of_beq_eq_true b2; subst b2
   have b3:=Nat.eq_of_beq_eq_true b3; subst b3
   have b4:=Nat.eq_of_beq_eq_true b4; subst b4
   have b5:=Nat.eq_of_beq_eq_true b5; subst b5
   have b6:=Nat.eq_of_beq_eq_true b6; subst b6
   have hab:a≠b:=fun e=>by
    subst e
    simp at b7
   have hla:=u6 ha1
   have hlb:=u6 hb1
   obtain ⟨hz,hsz,hag⟩:=b63 hT
   obtain ⟨x1,hx1,ho1,hbd1⟩:=a1u he1
   obtain ⟨x2,hx2,ho2,hbd2⟩:=a1u he2
   obtain ⟨x3,hx3,ho3,hbd3⟩:=a1u he3
   have cell:∀ {L:Array Bool} {g:Fr} {w':World},Inv [⟨some a,.alloc T,ty0,pos0,e0,none⟩,⟨none,.store T (.tmp a) (.const (.bool true)),ty1,pos1,e1,none⟩,⟨none,.store T (.tmp a) (.const (.bool false)),ty2,pos2,e2,none⟩,⟨some b,.load T (.tmp a),ty3,pos3,e3,none⟩] (fun v=>Ext [] w v) (fun j v w'=>(j=0->∃ bl c,v=.pointer (some ⟨bl,0,none⟩)/\w.heap.size<=bl/\Own w' bl T [.bool c])/\(j=3->∃ c,v=.bool c)) f L g w'->L[0]?=some true->∃ bl c,g a=.pointer (some ⟨bl,0,none⟩)/\w.heap.size<=bl/\Own w' bl T [.bool c]:=fun hinv h0=>(hinv.done 0 a h0 rfl).1 rfl
   have keep:∀ {w1 w2:World} {bl:Nat} {c:Bool},Own w1 bl T [.bool c]->∀ {B:List Nat},Ext B w1 w2->(∀ x∈B,∃ c',Own w2 x T [.bool c'])->∀ j u,((j=0->∃ bl c,u=.pointer (some ⟨bl,0,none⟩)/\w.heap.size<=bl/\Own w1 bl T [.bool c])/\(j=3->∃ c,u=Value.bool c))->((j=0->∃ bl c,u=.pointer (some ⟨bl,0,none⟩)/\w.heap.size<=bl/\Own w2 bl T [.bool c])/\(j=3->∃ c,u=Value.bool c)):=by
    intro w1 w2 bl c _ B x hB j u hu
    refine ⟨fun hj=>?_,hu.2⟩
    obtain ⟨bl,c,e,hl,ho⟩:=hu.1 hj
    by_cases hm:bl∈B
    . obtain ⟨c',ho'⟩:=hB bl hm; exact ⟨bl,c',e,hl,ho'⟩
    . exact ⟨bl,c,e,hl,ho.ext x hm⟩
   have stor:∀ {ty:TypeId} {pos:String} {e:Array Edge} {g:Fr} {w':World} {bl:Nat} {c c2:Bool},g a=.pointer (some ⟨bl,0,none⟩)->Own w' bl T [.bool c]->Y8 E.P ⟨none,.store T (.tmp a) (.const (.bool c2)),ty,pos,e,none⟩ g w' (fun _ w2=>Ext [bl] w' w2/\Own w2 bl T [.bool c2]):=by
    intro ty pos e g w' bl c c2 hga ho
    refine .inr (.inl fun w1 hs=>?_)
    obtain ⟨k,rfl⟩:=hs
    obtain ⟨w2,hr,ho',he,hsz2,hk⟩:=V6 (P:=E.P) [.bool c2] 0 0 [.bool c] w' ho (by simp) (fun v hv=>by simp at hv; subst hv; rfl)
    refine ⟨_,w2,?_,⟨k,rfl⟩,he,by simpa [s5] using ho'⟩
    have hrun:(storeVar T ⟨bl,0,none⟩ (.bool c2)).run E.P { w' with drawn:=k }=.ok () { w2 with drawn:=k }:=by
     unfold storeVar
     simp only [Sem.run_bind,hsz,Result.andThen_ok]
     rw [if_neg (by simp [Value.cells])]
     exact hk k
    have hga':ev g (.tmp a)=.pointer (some ⟨bl,0,none⟩):=hga
    have hco:ev g (.const (.bool c2))=.bool c2:=rfl
    simp only [execOp,hga',hco,Instr.storeAt,Instr.sureAddr,Sem.run_bind,Sem.run_pure,Result.andThen_ok,hrun]
   refine a0o (I:=fun v=>Ext [] w v) (Φ:=fun j v w'=>(j=0->∃ bl c,v=.pointer (some ⟨bl,0,none⟩)/\w.heap.size<=bl/\Own w' bl T [.bool c])/\(j=3->∃ c,v=.bool c)) hE.mixed hao ?_ ?_ (Ext.refl _ _) ?_ ?_
   . intro j t hj
     match j,hj with
     | 0,hj=>cases hj; exact hla
     | 1,hj=>cases hj
     | 2,hj=>cases hj
     | 3,hj=>cases hj; exact hlb
     | _+4,hj=>cases hj
   . intro i j t hi hj
     match i,j,hi,hj with
     | 0,0,_,_=>rfl
     | 3,3,_,_=>rfl
     | 0,3,hi,hj=>cases hi; cases hj; exact absurd rfl hab
     | 3,0,hi,hj=>cases hi; cases hj; exact absurd rfl hab
     | 1,_,hi,_=>cases hi
     | 2,_,hi,_=>cases hi
     | _+4,_,hi,_=>cases hi
     | 0,1,_,hj=>cases hj
     | 0,2,_,hj=>cases hj
     | 0,_+4,_,hj=>cases hj
     | 3,1,_,hj=>cases hj
     | 3,2,_,hj=>cases hj
     | 3,_+4,_,hj=>cases hj
   . intro i o L g w' ho hinv hLi hdeps
     match i,ho with
     | 0,ho =>
      cases ho
      refine .inl fun w1 hs=>?_
      obtain ⟨k,rfl⟩:=hs
      have x:=Ext.push w' (.cells #[.bool false] T (0,0))
      have hown:Own { w' with heap:=w'.heap.push (.cells #[.bool false] T (0,0)) } w'.heap.size T [.bool false]:=Own.push w' T #[.bool false]
      refine ⟨.pointer (some ⟨w'.heap.size,0,none⟩),_,{ w' with heap:=w'.heap.push (.cells #[.bool false] T (0,0)) },?_,⟨k,rfl⟩,hinv.world.tr x,⟨fun _=>⟨_,_,rfl,hinv.world.size,hown⟩,fun h=>by cases h⟩,fun j u hu=>⟨fun hj=>?_,hu.2⟩⟩
      . simp [execOp,Instr.alloc,hz,newVar,newRow,newObj,Sem.run,go_sem,Value.cells]
        rfl
      . obtain ⟨bl,c,e,hl,ho⟩:=hu.1 hj
        exact ⟨bl,c,e,hl,ho.ext x (by simp)⟩
     | 1,ho =>
      cases ho
      have h0:=hdeps x1 hx1 hbd1
      rw [ho1] at h0
      obtain ⟨bl,c,hga,hl,how⟩:=cell hinv h0
      refine Y8.mono (stor hga how) fun v w2 hh=>?_
      obtain ⟨x,o2⟩:=hh
      exact ⟨hinv.world.own x hl,⟨fun h=>(by cases h),fun h=>(by cases h)⟩,keep how x (fun y hy=>by rw [List.mem_singleton] at hy; rw [hy]; exact ⟨_,o2⟩)⟩
     | 2,ho =>
      cases ho
      have h0:=hdeps x2 hx2 hbd2
      rw [ho2] at h0
      obtain ⟨bl,c,hga,hl,how⟩:=cell hinv h0
      refine Y8.mono (stor hga how) fun v w2 hh=>?_
      obtain ⟨x,o2⟩:=hh
      exact ⟨hinv.world.own x hl,⟨fun h=>(by cases h),fun h=>(by cases h)⟩,keep how x (fun y hy=>by rw [List.mem_singleton] at hy; rw [hy]; exact ⟨_,o2⟩)⟩
     | 3,ho =>
      cases ho
      have h0:=hdeps x3 hx3 hbd3
      rw [ho3] at h0
      obtain ⟨bl,c,hga,hl,how⟩:=cell hinv h0
      refine .inl fun w1 hs=>?_
      have hga':ev g (.tmp a)=.pointer (some ⟨bl,0,none⟩):=hga
      refine ⟨.bool c,w1,w',?_,hs,hinv.world,⟨fun h=>(by cases h),fun _=>⟨c,rfl⟩⟩,fun j u hu=>hu⟩
      simp only [execOp,hga',Sem.run_bind,Wk.run_load hag (how.all.sim hs)]
      rfl
     | _+4,ho=>cases ho
   . intro g w' hI hdone hkept
     obtain ⟨c,hc⟩:=(hdone 3 b rfl).2 rfl
     obtain ⟨hm,ht⟩:=h.mem.ext0 hI
     have r1:=h.put (n:=n) (d:=some a) (v:=g a) (s:=.un) (items:=st.items) (nx:=st.nx) (by show (Nat.blt a n && (lk fx a).isNone && true && true)=true; rw [ha1,ha2]; rfl) ht hm .un
     have r2:=Rel.put0 (n:=n) (d:=some b) (v:=g b) (s:=bif c then .tt else .ff) r1 (by show (Nat.blt b n && (lk fx b).isNone && true && true)=true; rw [hb1,hb2]; rfl) (by rw [hc]; cases c; exact .ff; exact .tt)
     have eg:F9 (F9 f (some a) (g a)) (some b) (g b)=g:=by
      funext k
      show upd (upd f a (g a)) b (g b) k=g k
      by_cases e1:k=b
      . rw [E6,if_pos e1,e1]
      . rw [E6,if_neg e1]
        by_cases e2:k=a
        . rw [E6,if_pos e2,e2]
        . rw [E6,if_neg e2,hkept k fun j hj=>?_]
          match j,hj with
          | 0,hj=>cases hj; exact e2 rfl
          | 3,hj=>cases hj; exact e1 rfl
          | 1,hj=>cases hj
          | 2,hj=>cases hj
          | _+4,hj=>cases hj
     rw [eg] at r2
     cases c with
     | true=>exact hQ _ _ _ _ _ r2 h1
     | false=>exact hQ _ _ _ _ _ r2 h2
 . cases hc
theorem c4c {s:E.SV} {v:Value} (r:Rep E.N E.T ρ Z w v s):Rep E.N E.T ρ Z w v (c9z s):=by
 cases s with
 | bl p d =>
  cases r
  show Rep E.N E.T ρ Z w _ (bif @decide p d then .tt else .ff)
  cases @decide p d with
  | true=>exact .tt
  | false=>exact .ff
 | _=>exact r
theorem b23:∀ (ks:List Nat) {st:E.St},Rel E C fx lkd st ρ Z f w->Rel E C fx lkd (b7u ks st) ρ Z f w
 | [],_,h=>h
 | s::r,st,h=>by
  unfold b7u
  refine b23 r ?_
  split
  . rename_i v hv
    refine ⟨fun k s' hk=>?_,h.fx,h.gs,h.mem,h.tn,h.g⟩
    rw [B5] at hk
    by_cases e:s=k
    . subst e; rw [if_pos rfl] at hk; cases hk; exact c4c (h.sl _ _ hv)
    . rw [if_neg e] at hk; exact h.sl k s' hk
  . exact h
theorem a1n {id:Nat} {K:Ks E} {st:E.St} (h:Rel E C fx lkd st ρ Z f w) (hk:behind an id K.n st):QK E C fx lkd K .normal f w:=by
 unfold behind at hk
 generalize an.join (2000000+id)=o at hk
 cases o with
 | some a=>exact ⟨_,ρ,Z,b23 _ h,hk⟩
 | none=>exact ⟨st,ρ,Z,h,hk⟩
theorem c6w {ks:List Nat} {st:E.St} {k:E.St->Prop} (h:Rel E C fx lkd st ρ Z f w) (hk:c5e ks fx st k):∃ st',Rel E C fx lkd st' ρ Z f w/\k st':=by
 unfold c5e at hk
 cases hb:ks.isEmpty with
 | true=>rw [hb] at hk; exact ⟨st,h,hk⟩
 | false =>
  rw [hb,cond_false,b2m] at hk
  refine ⟨⟨n7 fx st ks,[],st.items,st.nx⟩,⟨fun k s hs=>?_,h.fx,fun k j b s e=>(by cases e),h.mem,h.tn,h.g⟩,hk⟩
  have hs:lk (n7 fx st ks) k=some s:=hs
  clear hk hb
  induction ks with
  | nil=>cases hs
  | cons a r ih =>
   have hs:lk ((a,p3 fx st a)::n7 fx st r) k=some s:=hs
   rw [B5] at hs
   by_cases e:a=k
   . rw [if_pos e] at hs; cases hs; subst e; exact h.slot a
   . rw [if_neg e] at hs; exact ih hs hs
theorem b6f (hE:k8 E) (hI:C6 E inl):∀ (c:Code) (C:Ctx) (fx:m6 E.N) (lkd:i4 E.N) (st:E.St) (K:Ks E) (ρ:n8) (Z:Nat->Prop) (f:Fr) (w:World),Rel E C fx lkd st ρ Z f w->vc inl an c fx lkd st K->W E.P an.n c (QK E C fx lkd K) f w:=by
 intro c
 induction c with
 | skip=>intro C fx lkd st K ρ Z f w h hv; exact e07 ⟨st,ρ,Z,h,hv⟩
 | ret=>intro C fx lkd st K ρ Z f w h hv; exact e2i ⟨st,ρ,Z,h,hv⟩
 | exit i=>intro C fx lkd st K ρ Z f w h hv; exact d5s ⟨st,ρ,Z,h,hv⟩
 | region id l dr =>
  intro C fx lkd st K ρ Z f w h hv
  simp only [vc] at hv
  have e:l=l.toList.toArray:=by simp
  cases hb:(!dr || b59 l.toList) with
  | false =>
   rw [hb,cond_false] at hv
   have hdr:dr=true:=by
    cases dr with
    | true=>rfl
    | false=>rw [Bool.not_false,Bool.true_or] at hb; cases hb
   subst hdr
   split at hv
   . rename_i a b hc
     have:=c85 (id:=id) (Q:=QK E C fx lkd K) hE h.g0 hc hv.1 hv.2 (fun st' ρ' Z' f' w' hr hk=>a1n hr hk)
     rw [<- e] at this; exact this
   . have:=S0 (id:=id) (Q:=QK E C fx lkd K) hE h.g0 (fun st' ρ' Z' f' w' hr hk=>a1n hr hk) _ _ hv
     rw [<- e] at this; exact this
  | true =>
   rw [hb,cond_true] at hv
   have key:WL E.P dr an.n l.toList (QK E C fx lkd K) l.toList f w:=a9w hE hI l.toList _ ρ Z f w h.g0 hv (fun st' ρ' Z' f' w' hr _ hk=>a1n hr hk)
   cases dr with
   | false =>
    have:=c1x (id:=id) key
    rw [<- e] at this; exact this
   | true =>
    have hb2:a8k l.toList=true:=by
     unfold b59 at hb
     simp only [Bool.not_true,Bool.false_or,Bool.and_eq_true] at hb
     exact hb.1
    have:=a42 (id:=id) hE.mixed hb2 key
    rw [<- e] at this; exact this
 | seq a b iha ihb =>
  intro C fx lkd st K ρ Z f w h hv
  simp only [vc] at hv
  split at hv
  . refine c0n (N8 (iha C fx lkd st _ ρ Z f w h hv) fun e f' w' q=>?_)
    obtain ⟨st',ρ',Z',hr,he⟩:=q
    cases e with
    | normal=>exact ihb C fx lkd st' K ρ' Z' f' w' hr he
    | ret=>exact ⟨st',ρ',Z',hr,he⟩
    | exit i=>exact ⟨st',ρ',Z',hr,he⟩
    | _=>exact he.elim
  . rename_i j hj
    split at hv
    . rename_i sl _
      refine c0n (N8 (iha C fx lkd st _ ρ Z f w h hv) fun e f' w' q=>?_)
      obtain ⟨st',ρ',Z',hr,he⟩:=q
      cases e with
      | normal =>
       have he:(match U4 (p3 fx st' sl) with
        | some ⟨p,_⟩=>(p->vc inl an b fx lkd ⟨(sl,.tt)::st'.slots,[],st'.items,st'.nx⟩ K)/\(¬ p->vc inl an b fx lkd ⟨(sl,.ff)::st'.slots,[],st'.items,st'.nx⟩ K)
        | none=>False):=he
       have hs:=hr.slot sl
       split at he
       . rename_i p d hp
         have hv:=hs.boolv hp
         have key:∀ s,Rep E.N E.T ρ' Z' w' (f' sl) s->Rel E C fx lkd ⟨(sl,s)::st'.slots,[],st'.items,st'.nx⟩ ρ' Z' f' w':=fun s hs'=>⟨fun k s2 hk=>by
          have hk:lk ((sl,s)::st'.slots) k=some s2:=hk
          rw [B5] at hk
          by_cases e:sl=k
          . rw [if_pos e] at hk; cases hk; subst e; exact hs'
          . rw [if_neg e] at hk; exact hr.sl k s2 hk,hr.fx,fun k j b s e=>(by cases e),hr.mem,hr.tn,hr.g⟩
         by_cases hpp:p
         . exact ihb C fx lkd _ K ρ' Z' f' w' (key .tt (by rw [hv]; simp only [hpp,decide_true]; exact .tt)) (he.1 hpp)
         . exact ihb C fx lkd _ K ρ' Z' f' w' (key .ff (by rw [hv]; simp only [hpp,decide_false]; exact .ff)) (he.2 hpp)
       . exact he.elim
      | ret=>exact ⟨st',ρ',Z',hr,he⟩
      | exit i=>exact ⟨st',ρ',Z',hr,he⟩
      | _=>exact he.elim
    obtain ⟨J,hva,hvb⟩:=hv
    refine c0n (N8 (iha _ _ _ _ _ ρ Z f w (h.enter j.keep (p9 E fx st j.vars)) hva) fun e f' w' q=>?_)
    cases e with
    | normal =>
     obtain ⟨st',ρ',Z',hr,he⟩:=q
     obtain ⟨new,ρ2,x,hx,hk,hr2⟩:=a29 h hr he hvb
     exact ihb C fx lkd _ K ρ2 Z' f' w' (Rel.leave h hr2) (hk hx)
    | ret=>exact a23 h (by intro e; cases e) q
    | exit i=>exact a23 h (by intro e; cases e) q
    | _=>obtain ⟨_,_,_,_,he⟩:=q; exact he.elim
 | cond o a b iha ihb =>
  intro C fx lkd st K ρ Z f w h hv
  simp only [vc] at hv
  have hr:=h.ev R8.nil o
  split at hv
  . rename_i e; rw [e] at hr
    exact b04 (by generalize Wk.ev f o=u at hr; cases hr; rfl) (iha C fx lkd st K ρ Z f w h hv)
  . rename_i e; rw [e] at hr
    exact a9i (by generalize Wk.ev f o=u at hr; cases hr; rfl) (ihb C fx lkd st K ρ Z f w h hv)
  . rename_i p d e; rw [e] at hr
    have e1:Wk.ev f o=.bool (@decide p d):=by generalize Wk.ev f o=u at hr; cases hr; rfl
    exact b3w e1 (fun hp=>iha C fx lkd st K ρ Z f w h (hv.1 (of_decide_eq_true hp))) (fun hp=>ihb C fx lkd st K ρ Z f w h (hv.2 (of_decide_eq_false hp)))
  . exact hv.elim
 | block i c ih =>
  intro C fx lkd st K ρ Z f w h hv
  refine c7v (N8 (ih C fx lkd st _ ρ Z f w h hv) fun e f' w' q=>?_)
  obtain ⟨st',ρ',Z',hr,he⟩:=q
  cases e with
  | normal=>exact ⟨st',ρ',Z',hr,he⟩
  | ret=>exact ⟨st',ρ',Z',hr,he⟩
  | exit j =>
   have he:(match (bif Nat.beq i j then some K.n else lk K.e j) with | some k=>k st' | none=>False):=he
   show (bif Nat.beq j i then QK E C fx lkd K .normal f' w' else QK E C fx lkd K (.exit j) f' w')
   have hc:Nat.beq i j=Nat.beq j i:=by
    by_cases e:i=j
    . rw [e]
    . rw [I1 e,I1 (Ne.symm e)]
   rw [hc] at he
   cases hb:Nat.beq j i with
   | true=>rw [hb] at he; exact ⟨st',ρ',Z',hr,he⟩
   | false=>rw [hb] at he; exact ⟨st',ρ',Z',hr,he⟩
  | _=>exact he.elim
 | loop c ih =>
  intro C fx lkd st K ρ Z f w h hv
  simp only [vc] at hv
  split at hv
  . exact hv.elim
  . rename_i a ha
    split at hv
    . rename_i n hk
      refine a8t (fun k f' w'=>∃ (st':E.St) (ρ':n8) (Z':Nat->Prop),Rel E C fx lkd st' ρ' Z' f' w'/\vcU (fun st n'=>c5e a.keep fx st fun st=>vc inl an c fx lkd st ⟨n',K.r,K.e⟩) k st') ⟨n,_,_,_,h.g0,hv⟩ ?_
      rintro k f' w' ⟨st',ρ',Z',hr,hu⟩
      cases k with
      | zero=>exact hu.elim
      | succ k =>
       obtain ⟨st1,hr,hu⟩:=c6w (k:=fun st=>vc inl an c fx lkd st ⟨vcU (fun st n'=>c5e a.keep fx st fun st=>vc inl an c fx lkd st ⟨n',K.r,K.e⟩) k,K.r,K.e⟩) hr hu
       refine N8 (ih C fx lkd st1 _ ρ' Z' f' w' hr hu) fun e f2 w2 q=>?_
       obtain ⟨st2,ρ2,Z2,hr2,he⟩:=q
       cases e with
       | normal=>exact ⟨k,Nat.lt_succ_self k,st2,ρ2,Z2,hr2,he⟩
       | ret=>exact ⟨st2,ρ2,Z2,hr2,he⟩
       | exit i=>exact ⟨st2,ρ2,Z2,hr2,he⟩
       | _=>exact he.elim
    . rename_i ss hk
      obtain ⟨P,h0,hb⟩:=c1z hv
      refine     a8t (fun k f' w' => ∃ (new : E.St) (ρ2 :   n8) (Z2 : Nat -> Prop) (im : Prop × Nat), (im.1 -> vc inl an c (   n7 fx st a.keep ++ fx) (     k7 st.items ( b2l E fx st ss) ++ lkd) new
            (U6 (n7 fx st a.keep) (k7 st.items (b2l E fx st ss)) K (fun st'=>rbS E fx st (n7 fx st a.keep++fx) st' ss P (fun im'=>im'.1/\im'.2<im.2))))/\im.1/\im.2=k/\Rel E (C.at ρ Z w) (n7 fx st a.keep++fx) (k7 st.items (b2l E fx st ss)++lkd) new ρ2 Z2 f' w') ?_ ?_
      . obtain ⟨new,ρ2,im,h1,h2,h3⟩:=b3c h (h.enter a.keep (b2l E fx st ss)) ss P h0 hb
        exact ⟨im.2,new,ρ2,Z,im,h2,h1,rfl,h3⟩
      . rintro k f' w' ⟨new,ρ2,Z2,im,hbody,hi,rfl,hr⟩
        refine N8 (ih _ _ _ _ _ ρ2 Z2 f' w' hr (hbody hi)) fun e f2 w2 q=>?_
        cases e with
        | normal =>
         obtain ⟨st',ρ',Z',hr',he⟩:=q
         obtain ⟨new2,ρ3,im2,g1,g2,g3⟩:=b3c h hr' ss P he hb
         exact ⟨im2.2,g1.2,new2,ρ3,Z',im2,g2,g1.1,rfl,g3⟩
        | ret=>exact a23 h (by intro e; cases e) q
        | exit i=>exact a23 h (by intro e; cases e) q
        | _=>obtain ⟨_,_,_,_,he⟩:=q; exact he.elim
    obtain ⟨I,m,h0,hb⟩:=hv
    refine     a8t (fun k f' w' => ∃ (new : E.St) (ρ2 :   n8) (Z2 : Nat -> Prop) (im : Prop × Nat), (im.1 -> vc inl an c (   n7 fx st a.keep ++ fx) (     k7 st.items (   p9 E fx st a.vars) ++ lkd) new
          (U6 (n7 fx st a.keep) (k7 st.items (p9 E fx st a.vars)) K (fun st'=>rbP E fx st (n7 fx st a.keep++fx) st' a.vars (R1 a.vars I m) (fun im'=>im'.1/\im'.2<im.2))))/\im.1/\im.2=k/\Rel E (C.at ρ Z w) (n7 fx st a.keep++fx) (k7 st.items (p9 E fx st a.vars)++lkd) new ρ2 Z2 f' w') ?_ ?_
    . obtain ⟨new,ρ2,im,h1,h2,h3⟩:=a29 h (h.enter a.keep (p9 E fx st a.vars)) h0 hb
      exact ⟨im.2,new,ρ2,Z,im,h2,h1,rfl,h3⟩
    . rintro k f' w' ⟨new,ρ2,Z2,im,hbody,hi,rfl,hr⟩
      refine N8 (ih _ _ _ _ _ ρ2 Z2 f' w' hr (hbody hi)) fun e f2 w2 q=>?_
      cases e with
      | normal =>
       obtain ⟨st',ρ',Z',hr',he⟩:=q
       obtain ⟨new2,ρ3,im2,g1,g2,g3⟩:=a29 h hr' he hb
       exact ⟨im2.2,g1.2,new2,ρ3,Z',im2,g2,g1.1,rfl,g3⟩
      | ret=>exact a23 h (by intro e; cases e) q
      | exit i=>exact a23 h (by intro e; cases e) q
      | _=>obtain ⟨_,_,_,_,he⟩:=q; exact he.elim
 | _=>intro C fx lkd st K ρ Z f w h hv; exact hv.elim
end
end Go.Rx
end
section
namespace Go.Rx
open Go Go.Wk Go.Wl
section
variable {E:Env} {C:Ctx} {w:World} {ρ:n8} {Z:Nat->Prop} {its lkd:i4 E.N} {nx:Nat} {inl:Inl E} {an:Ann} {fn:Func} {K:Nat} {args:List E.SV} {vs:List Value}
def b9e (E:Env) (C:Ctx) (ρ:n8) (Z:Nat->Prop) (w:World) (lkd:i4 E.N) (k:E.SV->i4 E.N->Nat->Prop) (v:Value) (w':World):Prop :=
 ∃ ρ' Z' s its' nx',Mem E C ρ' Z' w' (its'++lkd) nx'/\Tn ρ Z w ρ' Z' w'/\Rep E.N E.T ρ' Z' w' v s/\k s its' nx'
def S3 (tmps:Array Value):ResultVar->Sem Value
 | .tmp t=>pure (tmps.getD t undef)
 | .cell a t=>do loadVar t (<- asAddr (tmps.getD a undef))
section
variable {P:Program} {tmps:Array Value} {v0 v1 v2:Value} {r0 r1 r2:ResultVar}
theorem b9k (h:fn.results=#[]):(results fn tmps).run P w=.ok (.tuple #[]) w:=results_none h _ _ _
theorem a6u (h:fn.results=#[r0]) (h0:(S3 tmps r0).run P w=.ok v0 w):(results fn tmps).run P w=.ok v0 w:=by
 have e:results fn tmps=(do let vs <- fn.results.mapM (S3 tmps); pure (if h:vs.size=1 then vs[0] else .tuple vs)):=rfl
 rw [e,h]
 simp only [List.mapM_toArray,List.mapM_cons,List.mapM_nil,Sem.run_bind,h0,Result.andThen_ok,Sem.run_pure,Sem.run_map]
 simp
theorem c09 (h:fn.results=#[r0,r1]) (h0:(S3 tmps r0).run P w=.ok v0 w) (h1:(S3 tmps r1).run P w=.ok v1 w):(results fn tmps).run P w=.ok (.tuple #[v0,v1]) w:=by
 have e:results fn tmps=(do let vs <- fn.results.mapM (S3 tmps); pure (if h:vs.size=1 then vs[0] else .tuple vs)):=rfl
 rw [e,h]
 simp only [List.mapM_toArray,List.mapM_cons,List.mapM_nil,Sem.run_bind,h0,h1,Result.andThen_ok,Sem.run_pure,Sem.run_map]
 simp
theorem b9n (h:fn.results=#[r0,r1,r2]) (h0:(S3 tmps r0).run P w=.ok v0 w) (h1:(S3 tmps r1).run P w=.ok v1 w) (h2:(S3 tmps r2).run P w=.ok v2 w):(results fn tmps).run P w=.ok (.tuple #[v0,v1,v2]) w:=by
 have e:results fn tmps=(do let vs <- fn.results.mapM (S3 tmps); pure (if h:vs.size=1 then vs[0] else .tuple vs)):=rfl
 rw [e,h]
 simp only [List.mapM_toArray,List.mapM_cons,List.mapM_nil,Sem.run_bind,h0,h1,h2,Result.andThen_ok,Sem.run_pure,Sem.run_map]
 simp
theorem b9p {r3:ResultVar} {v3:Value} (h:fn.results=#[r0,r1,r2,r3]) (h0:(S3 tmps r0).run P w=.ok v0 w) (h1:(S3 tmps r1).run P w=.ok v1 w) (h2:(S3 tmps r2).run P w=.ok v2 w) (h3:(S3 tmps r3).run P w=.ok v3 w):(results fn tmps).run P w=.ok (.tuple #[v0,v1,v2,v3]) w:=by
 have e:results fn tmps=(do let vs <- fn.results.mapM (S3 tmps); pure (if h:vs.size=1 then vs[0] else .tuple vs)):=rfl
 rw [e,h]
 simp only [List.mapM_toArray,List.mapM_cons,List.mapM_nil,Sem.run_bind,h0,h1,h2,h3,Result.andThen_ok,Sem.run_pure,Sem.run_map]
 simp
end
def c02 (P:Program) (fn:Func) (n:Nat) (f:Fr) (w:World) (v:Value):Prop:=∀ a w1,Is a f n->Sim w w1->(results fn a.tmps).run P w1=.ok v w1
def e3z (P:Program) (fn:Func) (n:Nat) (R:Value->World->Prop):Exit->Fr->World->Prop
 | .ret,f,w=>∃ v,c02 P fn n f w v/\R v w
 | .normal,f,w=>∃ v,c02 P fn n f w v/\R v w
 | _,_,_=>False
theorem d5w {P:Program} {c:Code} {n:Nat} {args:List Value} {R:Value->World->Prop} (hf:P.funcs[K]?=some fn) (hb:fn.body=some c) (hn:fn.ntmps=n) (hs:Nat.ble args.length n=true) (h:W P n c (e3z P fn n R) (nth args) w):A3 P K args w R :=
 b33 hf hb hn hs _ (fun e a w1 f w hf hd hv q=>by
  cases e with
  | ret=>obtain ⟨v,h1,h2⟩:=q; exact ⟨hd,v,h1 a w1 hf hv,v,w,rfl,hv,h2⟩
  | normal=>obtain ⟨v,h1,h2⟩:=q; exact ⟨hd,v,h1 a w1 hf hv,v,w,rfl,hv,h2⟩
  | _=>exact q.elim) h
theorem b1o {P:Program} {T:TypeId} {b mm:Nat} {cs:List Value} (hA:∀ w,(isAgg T).run P w=.ok true w) (hz:∀ w,(sizeOf T).run P w=.ok mm w) (hl:cs.length=mm) (hc:Cells w b 0 cs):(loadVar T ⟨b,0,none⟩).run P w=.ok (.agg cs.toArray) w:=by
 have h:=G1 (P:=P) hc cs.length 0 #[] (by omega)
 simp only [List.drop_zero,Array.empty_append] at h
 subst hl
 simp [loadVar,hA,hz,loadCells,h,go_sem]
theorem G6 {st:E.St} {f:Fr} {n:Nat} {fx:m6 E.N} {r:ResultVar} {s:E.SV} (h:Rel E C fx lkd st ρ Z f w) (e:a1t st r=some s):∃ v,Rep E.N E.T ρ Z w v s/\∀ a w1,Is a f n->Sim w w1->(S3 a.tmps r).run E.P w1=.ok v w1:=by
 cases r with
 | tmp t =>
  exact ⟨f t,h.sl t s e,fun a w1 hi hs=>by simp only [S3]; rw [hi.get]; rfl⟩
 | cell a0 T =>
  simp only [a1t] at e
  split at e
  . rename_i id off hl
    split at e
    . rename_i Ty cells hi
      split at e
      . rename_i m hA hz
        have ⟨h1,h2⟩:=j3 e
        simp only [Option.some.injEq] at h2; subst h2
        simp only [Bool.and_eq_true] at h1
        have e0:=Nat.eq_of_beq_eq_true h1.1
        have e1:=Nat.eq_of_beq_eq_true h1.2
        subst e0
        have hr:=h.sl a0 _ hl
        obtain ⟨j,hj,_⟩:=p7 hi
        obtain ⟨L,cs,hL,hbs,ho,hrep⟩:=h.mem.holds (l5 (l2:=lkd) hj)
        have hL:ρ id=some L:=hL
        have hp:f a0=.pointer (some ⟨L.b,0,none⟩):=by
         generalize f a0=u at hr
         cases hr with | ref hL'=>rw [hL] at hL'; cases hL'; rfl
        refine ⟨.agg cs.toArray,hrep,fun a w1 hi' hs=>?_⟩
        have hc:Cells w1 L.b 0 cs:=Cells.sim ho.all hs
        have:=b1o (P:=E.P) (w:=w1) (mm:=m) (R2 hA) (fun w=>E1 hz w) (by rw [hrep.len]; exact e1.symm) hc
        simp only [S3]
        rw [hi'.get,hp]
        rw [Sem.run_bind]
        simp only [asAddr,Sem.run_pure,Result.andThen_ok]
        exact this
      . cases e
    . cases e
  . cases e
theorem I4 (hE:k8 E) (hI:C6 E inl) (hf:E.P.funcs[K]?=some fn) {k:E.SV->i4 E.N->Nat->Prop} (hv:i6 inl an fn args its lkd nx k) (hm:Mem E C ρ Z w (its++lkd) nx) (hg:E.G.is Z w) (ha:Rep E.N E.T ρ Z w (.tuple vs.toArray) (.tup args)):A3 E.P K vs w (b9e E C ρ Z w lkd k):=by
 unfold i6 at hv
 split at hv
 . rename_i c hc
   cases hb:Nat.ble args.length fn.ntmps with
   | false=>rw [hb] at hv; exact hv.elim
   | true =>
    rw [hb,cond_true] at hv
    have hle:Nat.ble vs.length fn.ntmps=true:=by rw [a0w ha]; exact hb
    have h0:Rel E (C.at ρ Z w) [] lkd ⟨number 0 args,[],its,nx⟩ ρ Z (nth vs) w:=⟨fun k s e=>a33 (n:=0) ha k s (by simpa using e),fun p hp=>(by cases hp),fun k j b s e=>(by cases e),hm.down,Tn.refl _ _ _,hg⟩
    have hw:=b6f (an:=⟨fn.ntmps,an.loop,an.join⟩) hE hI c _ _ _ _ _ ρ Z (nth vs) w h0 hv
    refine d5w hf hc rfl hle (N8 hw fun e f' w' q=>?_)
    obtain ⟨st,ρ',Z',hr,he⟩:=q
    have fin:(match c9d fn st with | some v=>k v st.items st.nx | none=>False)->∃ v,c02 E.P fn fn.ntmps f' w' v/\b9e E C ρ Z w lkd k v w':=fun hk=>by
     split at hk
     . rename_i s hs
       have key:∃ v,Rep E.N E.T ρ' Z' w' v s/\c02 E.P fn fn.ntmps f' w' v:=by
        unfold c9d at hs
        split at hs
        . rename_i e0
          cases hs
          exact ⟨_,.tup0,fun a w1 hi hs=>b9k (by apply Array.ext'; simpa using e0)⟩
        . rename_i r e0
          obtain ⟨v,h1,h2⟩:=G6 (n:=fn.ntmps) hr hs
          exact ⟨v,h1,fun a w1 hi hs=>a6u (by apply Array.ext'; simpa using e0) (h2 a w1 hi hs)⟩
        . rename_i r1 r2 e0
          split at hs
          . rename_i a b ha hb
            cases hs
            obtain ⟨v1,h1,g1⟩:=G6 (n:=fn.ntmps) hr ha
            obtain ⟨v2,h2,g2⟩:=G6 (n:=fn.ntmps) hr hb
            exact ⟨.tuple #[v1,v2],.tup1 (cs:=[v2]) h1 (.tup1 (cs:=[]) h2 .tup0),fun a w1 hi hs=>c09 (by apply Array.ext'; simpa using e0) (g1 a w1 hi hs) (g2 a w1 hi hs)⟩
          . cases hs
        . rename_i r1 r2 r3 e0
          split at hs
          . rename_i a b c ha hb hc
            cases hs
            obtain ⟨v1,h1,g1⟩:=G6 (n:=fn.ntmps) hr ha
            obtain ⟨v2,h2,g2⟩:=G6 (n:=fn.ntmps) hr hb
            obtain ⟨v3,h3,g3⟩:=G6 (n:=fn.ntmps) hr hc
            exact ⟨.tuple #[v1,v2,v3],.tup1 (cs:=[v2,v3]) h1 (.tup1 (cs:=[v3]) h2 (.tup1 (cs:=[]) h3 .tup0)),fun a w1 hi hs=>b9n (by apply Array.ext'; simpa using e0) (g1 a w1 hi hs) (g2 a w1 hi hs) (g3 a w1 hi hs)⟩
          . cases hs
        . rename_i r1 r2 r3 r4 e0
          split at hs
          . rename_i a b c d ha hb hc hd
            cases hs
            obtain ⟨v1,h1,g1⟩:=G6 (n:=fn.ntmps) hr ha
            obtain ⟨v2,h2,g2⟩:=G6 (n:=fn.ntmps) hr hb
            obtain ⟨v3,h3,g3⟩:=G6 (n:=fn.ntmps) hr hc
            obtain ⟨v4,h4,g4⟩:=G6 (n:=fn.ntmps) hr hd
            exact ⟨.tuple #[v1,v2,v3,v4],.tup1 (cs:=[v2,v3,v4]) h1 (.tup1 (cs:=[v3,v4]) h2 (.tup1 (cs:=[v4]) h3 (.tup1 (cs:=[]) h4 .tup0))),fun a w1 hi hs=>b9p (by apply Array.ext'; simpa using e0) (g1 a w1 hi hs) (g2 a w1 hi hs) (g3 a w1 hi hs) (g4 a w1 hi hs)⟩
          . cases hs
        . cases hs
       obtain ⟨v,h1,h2⟩:=key
       exact ⟨v,h2,ρ',Z',s,st.items,st.nx,Mem.upC hm hr.mem,hr.tn,h1,hk⟩
     . exact hk.elim
    cases e with
    | normal=>exact fin he
    | ret=>exact fin he
    | exit i=>exact he.elim
    | _=>exact he.elim
 . exact hv.elim
def a2b (ρ:n8) (Z:Nat->Prop) (w:World):Ctx:=⟨ρ,Z,w,[],w⟩
theorem b1c {nx:Nat} (hfr:∀ i,nx<=i->ρ i=none) (hz:∀ b,Z b->b<w.heap.size):Mem E (a2b ρ Z w) ρ Z w [] nx :=
 ⟨Wl.Sep.nil hz,hfr,fun _ _ h=>h,fun _ h=>h,fun _ h=>.inl h⟩
theorem b9e.pure {k:E.SV->i4 E.N->Nat->Prop} {v:Value} {w':World} (h:b9e E (a2b ρ Z w) ρ Z w [] k v w'):∃ ρ' Z' s its' nx',Ext [] w w'/\Mem E (a2b ρ Z w) ρ' Z' w' its' nx'/\Tn ρ Z w ρ' Z' w'/\Rep E.N E.T ρ' Z' w' v s/\k s its' nx':=by
 obtain ⟨ρ',Z',s,its',nx',hm,ht,hr,hk⟩:=h
 rw [List.append_nil] at hm
 exact ⟨ρ',Z',s,its',nx',hm.sep.ext,hm,ht,hr,hk⟩
end
end Go.Rx
end
section
namespace Go.Rx
open Go Go.Wk Go.Wl
section
variable {E:Env} {C:Ctx} {w:World} {ρ:n8} {Z:Nat->Prop} {its:i4 E.N} {nx:Nat} {inl:Inl E} {an:Ann} {fn:Func} {K:Nat} {args:List E.SV} {vs:List Value}
def a2j (E:Env):(k:VK)->k.den E.N->List (Item E.N)
 | .acc t,x=>[.ac t x]
 | _,_=>[]
def Z7 (E:Env) (nx:Nat) (k:VK) (x:k.den E.N):E.SV:=(fl1 E nx k x).1
theorem X3 (k:VK) (x:k.den E.N):(fl1 E nx k x).2.1=number nx (a2j E k x)/\(fl1 E nx k x).2.2=nx+(a2j E k x).length:=by cases k <;> exact ⟨rfl,rfl⟩
def c48 {N:Uni}:SV N->Bool
 | .int _ _=>true
 | .byte _=>true
 | .bl _ _=>true
 | .str _=>true
 | _=>false
theorem b90 {v:Value} {s:E.SV} (hb:c48 s=true) (h:Rep E.N E.T ρ Z w v s):Rep E.N E.T (fun _=>none) (fun _=>False) w v s:=by
 cases s with
 | int k x=>cases h with | int h=>exact .int h
 | byte x=>cases h; exact .byte
 | bl p d=>cases h; exact .bl
 | str x=>cases h with | str h=>exact .str h
 | _=>cases hb
theorem a6s:∀ {ls:List E.SV} {cs:List Value},ls.all c48=true->i7 E.N E.T ρ Z w cs ls->i7 E.N E.T (fun _=>none) (fun _=>False) w cs ls
 | [],cs,_,h=>by
  have:=i7.nil_inv h
  subst this; exact i7.nil
 | s::r,cs,hb,h=>by
  obtain ⟨v,t,rfl,h1,hp,h2⟩:=i7.cons_inv h
  rw [List.all_cons,Bool.and_eq_true] at hb
  exact Rep.agg1 (b90 hb.1 h1) hp (a6s hb.2 h2)
def bare (E:Env):(k:VK)->k.den E.N->Prop
 | .int _,_=>True
 | .byte,_=>True
 | .bool,_=>True
 | .str,_=>True
 | .err,e=>e=.nil ∨ ∃ n,e=.no n
 | .val t,x=>∃ y ls,E.ty t=some y/\y.sv x=.agg ls/\ls.all c48=true
 | _,_=>False
theorem a0d {k:VK} {x:k.den E.N} {v:Value} (hb:bare E k x) (h:Rep E.N E.T ρ Z w v (Z7 E nx k x)):Rep E.N E.T (fun _=>none) (fun _=>False) w v (Z7 E nx k x):=by
 cases k with
 | int k=>cases h with | int h=>exact .int h
 | byte=>cases h; exact .byte
 | bool=>change Rep E.N E.T ρ Z w v (blB x) at h; cases h; exact .bl
 | str=>cases h with | str h=>exact .str h
 | err =>
  cases h with
  | err h =>
   rcases hb with rfl | ⟨n,rfl⟩
   . cases h; exact .err .nil
   . cases h with | no h=>exact .err (.no h)
 | val t =>
  obtain ⟨y,ls,e1,e2,e3⟩:=hb
  have e:Z7 E nx (.val t) x=.agg ls:=by
   unfold Z7 fl1
   simp only [e1,e2]
  rw [e] at h ⊢
  obtain ⟨cs,rfl,hl⟩:=h.agg_inv
  exact a6s e3 hl
 | _=>exact hb.elim
theorem b6j {k:VK} {x:k.den E.N} {s:E.SV} {i:Nat} (h:m9 E [k] (fun y=>y=x) s its i):rb1 E its k s=some x:=by
 unfold m9 parts at h
 simp only [C1] at h
 cases hy:rb1 E its k s with
 | none=>rw [hy] at h; exact h.elim
 | some y=>rw [hy] at h; have h:y=x:=h; rw [h]
theorem d00 {k1 k2:VK} {x1:k1.den E.N} {x2:k2.den E.N} {s:E.SV} {i:Nat} (h:m9 E [k1,k2] (fun y z=>y=x1/\z=x2) s its i):∃ s1 s2,s=.tup [s1,s2]/\rb1 E its k1 s1=some x1/\rb1 E its k2 s2=some x2:=by
 have one:∀ u:E.SV,(match C1 E its [k1,k2] [u] (fun y z=>y=x1/\z=x2) with | some p=>p | none=>False)->False:=fun u h=>by
  simp only [C1] at h
  cases hy:rb1 E its k1 u with
  | none=>rw [hy] at h; exact h
  | some y=>rw [hy] at h; exact h
 unfold m9 at h
 cases s with
 | tup vs =>
  match vs,h with
  | [],h=>exact h.elim
  | [u],h=>exact (one u h).elim
  | [s1,s2],h =>
   simp only [parts,C1] at h
   cases hy:rb1 E its k1 s1 with
   | none=>rw [hy] at h; exact h.elim
   | some y =>
    rw [hy] at h
    cases hz:rb1 E its k2 s2 with
    | none=>simp only [hz] at h
    | some z=>simp only [hz] at h; exact ⟨s1,s2,rfl,by rw [hy,h.1],by rw [hz,h.2]⟩
  | s1::s2::s3::r,h =>
   simp only [parts,C1] at h
   cases hy:rb1 E its k1 s1 with
   | none=>rw [hy] at h; exact h.elim
   | some y =>
    rw [hy] at h
    cases hz:rb1 E its k2 s2 with
    | none=>simp only [hz] at h
    | some z=>simp only [hz] at h
 | _=>exact (one _ h).elim
theorem q8 (hE:k8 E) (hI:C6 E inl) (hf:E.P.funcs[K]?=some fn) {k:VK} {x:k.den E.N} {ob:List Prop} (hb:bare E k x) (hv:i6 inl an fn args [] [] 0 (m9 E [k] (fun y=>y=x))) (n:Nat):l4 E K args ⟨ob,[],Z7 E n k x,[]⟩:=fun D w vs hD hg ha =>
 (I4 (C:=a2b (fun _=>none) D w) hE hI hf hv (b1c (nx:=0) (fun _ _=>rfl) hD) hg ha).mono fun v w' h=>by
  obtain ⟨ρ',Z',s,its',nx',hx,hm,ht,hr,hk⟩:=h.pure
  obtain ⟨ρ3,os',_,_,_,hr3,_⟩:=J3 (lkd:=[]) (n2:=n) (ρ2:=fun _=>none) (os:=[]) (new:=[]) (by simpa using hm) hr (b6j hk) (fun _ _=>rfl) .nil
  exact ⟨hx,a0d hb hr3,trivial⟩
theorem b29 {v:Value} {s1 s2:E.SV} (h:Rep E.N E.T ρ Z w v (.tup [s1,s2])):∃ v1 v2,v=.tuple #[v1,v2]/\Rep E.N E.T ρ Z w v1 s1/\Rep E.N E.T ρ Z w v2 s2:=by
 obtain ⟨cs,rfl⟩:=Rep.tup_inv h
 obtain ⟨v1,r,rfl,h1,h⟩:=Rep.tup_cons h
 obtain ⟨v2,r,rfl,h2,h⟩:=Rep.tup_cons h
 have:r=[]:=by
  generalize e:Value.tuple r.toArray=u at h
  cases h with | tup0=>simpa using e
 subst this
 exact ⟨v1,v2,rfl,h1,h2⟩
theorem e36 {v1 v2:Value} {s1 s2:E.SV} (h1:Rep E.N E.T ρ Z w v1 s1) (h2:Rep E.N E.T ρ Z w v2 s2):Rep E.N E.T ρ Z w (.tuple #[v1,v2]) (.tup [s1,s2]):=.tup1 (cs:=[v2]) h1 (.tup1 (cs:=[]) h2 .tup0)
theorem d0e (hE:k8 E) (hI:C6 E inl) (hf:E.P.funcs[K]?=some fn) {k1 k2:VK} {x1:k1.den E.N} {x2:k2.den E.N} {ob:List Prop} (hb1:bare E k1 x1) (hb2:bare E k2 x2) (hv:i6 inl an fn args [] [] 0 (m9 E [k1,k2] (fun y z=>y=x1/\z=x2))) (n:Nat):l4 E K args ⟨ob,[],.tup [Z7 E n k1 x1,Z7 E n k2 x2],[]⟩:=fun D w vs hD hg ha =>
 (I4 (C:=a2b (fun _=>none) D w) hE hI hf hv (b1c (nx:=0) (fun _ _=>rfl) hD) hg ha).mono fun v w' h=>by
  obtain ⟨ρ',Z',s,its',nx',hx,hm,ht,hr,hk⟩:=h.pure
  obtain ⟨s1,s2,rfl,e1,e2⟩:=d00 hk
  obtain ⟨v1,v2,rfl,h1,h2⟩:=b29 hr
  obtain ⟨_,_,_,_,_,r1,_⟩:=J3 (lkd:=[]) (n2:=n) (ρ2:=fun _=>none) (os:=[]) (new:=[]) (by simpa using hm) h1 e1 (fun _ _=>rfl) .nil
  obtain ⟨_,_,_,_,_,r2,_⟩:=J3 (lkd:=[]) (n2:=n) (ρ2:=fun _=>none) (os:=[]) (new:=[]) (by simpa using hm) h2 e2 (fun _ _=>rfl) .nil
  exact ⟨hx,e36 (a0d hb1 r1) (a0d hb2 r2),trivial⟩
theorem c8d {k:VK} {x:k.den E.N} (h:a2j E k x=[]) (n:Nat):fl1 E n k x=(Z7 E nx k x,[],n):=by
 cases k with
 | acc t=>cases h
 | _=>rfl
theorem b69 {k:VK} {s:E.SV} {l:List Nat} (h:l=D5 k s++List.filterMap id ([]:List (Option Nat))):l.Nodup:=by rw [h]; unfold D5; split <;> simp
theorem a8o {os:List (Option Nat)} {new:i4 E.N} {n2:Nat} {ρ' ρ2:n8} {Z':Nat->Prop} {w':World} {its':i4 E.N} {nx':Nat} (hm:Mem E (a2b (fun _=>none) Z w) ρ' Z' w' its' nx') (ht:I9 E [] ρ' Z' w' its' ρ2 os new) (hnd:(os.filterMap id).Nodup) (hfr:∀ i,n2<=i->ρ2 i=none) :
  Sep [] w Z' w' (n5 E.N E.T ρ2 [] new):=by
 have:=Mem.rebuild (lkd:=[]) (by simpa using hm) (fun _ h=>by cases h) ht hnd hfr (fun _ _ h=>by cases h)
 simpa [a2b] using this.sep
theorem e2x (hE:k8 E) (hI:C6 E inl) (hf:E.P.funcs[K]?=some fn) {k:VK} {x:k.den E.N} {ob:List Prop} (hp:args.all w7=true) (hv:i6 inl an fn args [] [] 0 (m9 E [k] (fun y=>y=x))):D6 E.P E.N E.T E.G K args nx ⟨ob,[],Z7 E nx k x,a2j E k x⟩ :=
 ⟨fun ρ Z w vs hfr hz hg ha=>(I4 (C:=a2b (fun _=>none) Z w) hE hI hf hv (b1c (fun _ _=>rfl) hz) hg (C9 hp ha _)).mono fun v w' h=>by
  obtain ⟨ρ',Z',s,its',nx',hx,hm,ht,hr,hk⟩:=h.pure
  obtain ⟨ρ3,os,t1,f1,s1,r1,o1⟩:=J3 (lkd:=[]) (n2:=nx) (ρ2:=ρ) (os:=[]) (new:=[]) (by simpa using hm) hr (b6j hk) hfr .nil
  rw [(X3 k x).1,List.append_nil] at t1
  rw [(X3 k x).2] at f1
  refine ⟨ρ3,Z',s1,f1,hm.zge,fun b hb=>?_,r1,a8o hm t1 (b69 o1) f1,trivial⟩
  rcases hm.zle b hb with h | h | h
  . exact .inl h
  . cases h
  . exact .inr h⟩
theorem c8e {os:List (Option Nat)} {new:i4 E.N} {n2:Nat} {ρ' ρ2:n8} {Z':Nat->Prop} {w':World} {its':i4 E.N} {nx':Nat} {C:Ctx} {k:VK} {x:k.den E.N} {v:Value} {s:E.SV} (hm:Mem E C ρ' Z' w' its' nx') (hu:Rep E.N E.T ρ' Z' w' v s) (h:rb1 E its' k s=some x) (hn:a2j E k x=[]) (hfr:∀ i,n2<=i->ρ2 i=none) (ht:I9 E C.B0 ρ' Z' w' its' ρ2 os new) (hnd:(os.filterMap id).Nodup) :
  ∃ ρ3 os',I9 E C.B0 ρ' Z' w' its' ρ3 os' new/\(∀ i,n2<=i->ρ3 i=none)/\(∀ i L,ρ2 i=some L->ρ3 i=some L)/\Rep E.N E.T ρ3 Z' w' v (Z7 E nx k x)/\(os'.filterMap id).Nodup:=by
 obtain ⟨ρ3,os',t,f,s1,r,o⟩:=J3 (lkd:=[]) (by simpa using hm) hu h hfr ht
 rw [c8d (nx:=nx) hn n2] at t f r
 refine ⟨ρ3,os',by simpa using t,f,s1,r,?_⟩
 rw [o]
 cases k with
 | acc t=>cases hn
 | _=>exact hnd
theorem e48 (hE:k8 E) (hI:C6 E inl) (hf:E.P.funcs[K]?=some fn) {k1 k2:VK} {x1:k1.den E.N} {x2:k2.den E.N} {ob:List Prop} (h2:a2j E k2 x2=[]) (hp:args.all w7=true) (hv:i6 inl an fn args [] [] 0 (m9 E [k1,k2] (fun y z=>y=x1/\z=x2))) :
  D6 E.P E.N E.T E.G K args nx ⟨ob,[],.tup [Z7 E nx k1 x1,Z7 E nx k2 x2],a2j E k1 x1⟩ :=
 ⟨fun ρ Z w vs hfr hz hg ha=>(I4 (C:=a2b (fun _=>none) Z w) hE hI hf hv (b1c (fun _ _=>rfl) hz) hg (C9 hp ha _)).mono fun v w' h=>by
  obtain ⟨ρ',Z',s,its',nx',hx,hm,ht,hr,hk⟩:=h.pure
  obtain ⟨s1,s2,rfl,e1,e2⟩:=d00 hk
  obtain ⟨v1,v2,rfl,g1,g2⟩:=b29 hr
  obtain ⟨ρ3,os,t1,f1,b1,r1,o1⟩:=J3 (lkd:=[]) (n2:=nx) (ρ2:=ρ) (os:=[]) (new:=[]) (by simpa using hm) g1 e1 hfr .nil
  rw [(X3 k1 x1).1,List.append_nil] at t1
  rw [(X3 k1 x1).2] at f1
  obtain ⟨ρ4,os2,t2,f2,b2,r2,nd2⟩:=c8e (nx:=nx) hm g2 e2 h2 f1 t1 (b69 o1)
  refine ⟨ρ4,Z',w4 b1 b2,f2,hm.zge,fun b hb=>?_,e36 (Rep.sub r1 b2) r2,a8o hm t2 nd2 f2,trivial⟩
  rcases hm.zle b hb with h | h | h
  . exact .inl h
  . cases h
  . exact .inr h⟩
end
end Go.Rx
end
section
namespace Go.Rx
open Go Go.Wk Go.Wl
section
variable {N:Uni} {T:J5} {ρ:n8} {Z:Nat->Prop} {w:World} {cs cs':List Value} {ls ls':List (SV N)}
theorem i7.split (n:Nat) (h:i7 N T ρ Z w cs ls):i7 N T ρ Z w (cs.take n) (ls.take n)/\i7 N T ρ Z w (cs.drop n) (ls.drop n):=by
 induction n generalizing cs ls with
 | zero=>exact ⟨by simpa using i7.nil,by simpa using h⟩
 | succ n ih =>
  cases ls with
  | nil=>obtain rfl:=i7.nil_inv h; exact ⟨by simpa using i7.nil,by simpa using i7.nil⟩
  | cons s r =>
   obtain ⟨v,rr,rfl,h1,hp,h2⟩:=i7.cons_inv h
   obtain ⟨a,b⟩:=ih h2
   exact ⟨i7.cons h1 hp a,b⟩
def pb {α:Type} (f:SV N->Option α):List (SV N)->Option α
 | [s]=>f s
 | _=>none
def T5 (N:Uni) (t:Nat):SV N->Option (List (N.U t))
 | .nils=>some []
 | .sl t' l=>if h:t'=t then some (K7 h l) else none
 | _=>none
theorem c99 {t:Nat} {v:Value} {s:SV N} {l:List (N.U t)} (h:Rep N T ρ Z w v s) (e:T5 N t s=some l):(s6 (N.tb t).r).rd Z w [v] l:=by
 cases h with
 | nils=>simp [T5] at e; subst e; exact a00
 | sl h =>
  simp only [T5] at e
  split at e
  . rename_i ht; subst ht; simp [K7] at e; subst e; exact h
  . cases e
 | _=>simp [T5] at e
theorem b3v {α:Type} {f:SV N->Option α} {x:α} {r:Rd α} (hr:∀ (v:Value) (s:SV N),Rep N T ρ Z w v s->f s=some x->r.rd Z w [v] x) (h:i7 N T ρ Z w cs ls) (e:pb f ls=some x):r.rd Z w cs x:=by
 unfold pb at e
 split at e
 . obtain ⟨v,rfl,h1,_⟩:=i7.one_inv h; exact hr v _ h1 e
 . cases e
theorem H9 {x:Int} (h:i7 N T ρ Z w cs ls) (e:pb G3 ls=some x):y6.rd Z w cs x:=b3v (fun v s h e=>by have ⟨a,b⟩:=b2x h e; rw [a]; exact ⟨rfl,b⟩) h e
theorem b73 {x:Bool} (h:i7 N T ρ Z w cs ls) (e:pb asB ls=some x):a0z.rd Z w cs x:=b3v (r:=a0z) (fun v s h e=>by obtain rfl:=c5g h e; rfl) h e
theorem P2 {t:Nat} {x:List (N.U t)} (h:i7 N T ρ Z w cs ls) (e:pb (T5 N t) ls=some x):(s6 (N.tb t).r).rd Z w cs x:=b3v (r:=s6 (N.tb t).r) (fun v s h e=>c99 h e) h e
theorem Q3 {t:Nat} {x:List (N.U t)} (h:(s6 (N.tb t).r).rd Z w cs x):i7 N T ρ Z w cs [.sl t x]:=by
 have hl:=Rd.len _ h
 have hp:=Rd.plain _ h
 match cs,hl with
 | [v],_ =>
  simp only [List.all_cons,List.all_nil,Bool.and_true] at hp
  exact i7.one (.sl h) hp
end
end Go.Rx
end
section
namespace Go.Rx
open Go Go.Wk Go.Wl
def a64 {α:Type} (K:Nat) (x:α) (f:Nat->Option α):Nat->Option α:=fun k=>bif Nat.beq k K then some x else f k
def Env.addL (E:Env) (K:Nat) (C:List E.SV->Option (Q1 E.N)):Env:=⟨E.P,E.N,E.T,E.ty,E.zob,a64 K (fun a _=>(C a).map fun q=>⟨q.ob,q.hy,q.v,[]⟩) E.con,fun k=>bif Nat.beq k K then true else E.lend k,E.obc,E.inl,E.G,E.wrc,E.rws,E.fnc,E.roc,E.yl⟩
def Env.addC (E:Env) (K:Nat) (C:List E.SV->Nat->Option (CR E.N)):Env:=⟨E.P,E.N,E.T,E.ty,E.zob,a64 K C E.con,fun k=>bif Nat.beq k K then false else E.lend k,E.obc,E.inl,E.G,E.wrc,E.rws,E.fnc,E.roc,E.yl⟩
def Env.addI (E:Env) (K:Nat) (fn:Func):Env:=⟨E.P,E.N,E.T,E.ty,E.zob,E.con,E.lend,E.obc,a64 K fn E.inl,E.G,E.wrc,E.rws,E.fnc,E.roc,E.yl⟩
def Env.addX (E:Env) (K:Nat) (o:FC E.N):Env:=⟨E.P,E.N,E.T,E.ty,E.zob,E.con,E.lend,E.obc,E.inl,E.G,E.wrc,E.rws,a64 K o E.fnc,E.roc,E.yl⟩
def Env.addR (E:Env) (K:Nat) (C:List E.SV->i4 E.N->Option (Q1 E.N)):Env:=⟨E.P,E.N,E.T,E.ty,E.zob,E.con,E.lend,E.obc,E.inl,E.G,E.wrc,E.rws,E.fnc,a64 K C E.roc,E.yl⟩
section
variable {E:Env} {K:Nat}
abbrev a4a (P:Program) (K:Nat):Prop:=∀ xs w,(callFunc K xs).run P w=.ok (.enter K xs) w
theorem I5 {α:Type} {x y:α} {f:Nat->Option α} {k:Nat} (h:a64 K x f k=some y):(k=K/\y=x) ∨ f k=some y:=by
 unfold a64 at h
 cases hb:Nat.beq k K with
 | true=>rw [hb,cond_true] at h; cases h; exact .inl ⟨Nat.eq_of_beq_eq_true hb,rfl⟩
 | false=>rw [hb,cond_false] at h; exact .inr h
theorem O6 {α:Type} {x:α} {f:Nat->Option α} {k:Nat} (h:(a64 K x f k).isSome=true):k=K ∨ (f k).isSome=true:=by
 obtain ⟨y,hy⟩:=Option.isSome_iff_exists.1 h
 rcases I5 hy with ⟨e,_⟩ | e
 . exact .inl e
 . exact .inr (by rw [e]; rfl)
theorem l4.con {args:List E.SV} {c:CR E.N} {nx:Nat} (h:l4 E K args c) (hi:c.its=[]) (hp:args.all w7=true):D6 E.P E.N E.T E.G K args nx c :=
 ⟨fun ρ Z w vs hfr hz hg ha=>(h Z w vs hz hg (C9 hp ha _)).mono fun v w' ⟨x,r,hy⟩=>⟨ρ,Z,fun _ _ h=>h,by rw [hi]; exact hfr,fun _ h=>h,fun _ h=>.inl h,Rep.bare r,by
  rw [hi]
  exact ⟨x,fun b hb=>by have:=hz b hb; have:=x.size; omega,fun k t h=>by simp [n5,number] at h,fun j k s t h=>by simp [n5,number] at h⟩,hy⟩⟩
theorem k8.addL (h:k8 E) {C:List E.SV->Option (Q1 E.N)} (hc:a4a E.P K) (ok:∀ args q,C args=some q->l7 q.ob->l4 E K args ⟨q.ob,q.hy,q.v,[]⟩):k8 (E.addL K C):=by
 refine ⟨h.mixed,h.zob,fun k hk=>?_,h.inl,fun k f args nx c hf hr hp ho=>?_,fun k f args nx c hf hl hr hi ho=>?_,h.obc,h.wrc,h.callf,h.fnc,h.callr,h.roc,h.yl⟩
 . by_cases e:k=K
   . subst e; exact hc
   . refine h.call k ?_
     simp only [Bool.or_eq_true] at hk ⊢
     rcases hk with ((hk | hk) | hk) | hk
     . rcases O6 hk with e' | e'
       . exact absurd e' e
       . exact .inl (.inl (.inl e'))
     . exact .inl (.inl (.inr hk))
     . exact .inl (.inr hk)
     . exact .inr hk
 . rcases I5 hf with ⟨e1,e2⟩ | hf
   . rw [e2] at hr
     obtain ⟨q,hq,e3⟩:=Option.map_eq_some_iff.1 hr
     subst e3
     rw [e1]
     exact (ok args q hq ho).con rfl hp
   . exact h.con k f args nx c hf hr hp ho
 . rcases I5 hf with ⟨e1,e2⟩ | hf'
   . rw [e2] at hr
     obtain ⟨q,hq,e3⟩:=Option.map_eq_some_iff.1 hr
     subst e3
     rw [e1]
     exact ok args q hq ho
   . by_cases e:k=K
     . have hf:a64 K (fun a _=>(C a).map fun q=>(⟨q.ob,q.hy,q.v,[]⟩:CR E.N)) E.con k=some f:=hf
       unfold a64 at hf
       rw [e,Nat.beq_refl,cond_true] at hf
       have e2:=Option.some.inj hf
       rw [<- e2] at hr
       obtain ⟨q,hq,e3⟩:=Option.map_eq_some_iff.1 hr
       subst e3
       rw [e]
       exact ok args q hq ho
     . refine h.lend k f args nx c hf' ?_ hr hi ho
       have hl:(bif Nat.beq k K then true else E.lend k)=true:=hl
       rw [I1 e,cond_false] at hl; exact hl
theorem k8.addC (h:k8 E) {C:List E.SV->Nat->Option (CR E.N)} (hc:a4a E.P K) (ok:∀ args nx c,C args nx=some c->args.all w7=true->l7 c.ob->D6 E.P E.N E.T E.G K args nx c):k8 (E.addC K C):=by
 refine ⟨h.mixed,h.zob,fun k hk=>?_,h.inl,fun k f args nx c hf hr hp ho=>?_,fun k f args nx c hf hl hr hi ho=>?_,h.obc,h.wrc,h.callf,h.fnc,h.callr,h.roc,h.yl⟩
 . by_cases e:k=K
   . subst e; exact hc
   . refine h.call k ?_
     simp only [Bool.or_eq_true] at hk ⊢
     rcases hk with ((hk | hk) | hk) | hk
     . rcases O6 hk with e' | e'
       . exact absurd e' e
       . exact .inl (.inl (.inl e'))
     . exact .inl (.inl (.inr hk))
     . exact .inl (.inr hk)
     . exact .inr hk
 . rcases I5 hf with ⟨e1,e2⟩ | hf
   . rw [e2] at hr
     rw [e1]; exact ok args nx c hr hp ho
   . exact h.con k f args nx c hf hr hp ho
 . have hl:(bif Nat.beq k K then false else E.lend k)=true:=hl
   have e:k≠K:=fun e=>by subst e; rw [Nat.beq_refl,cond_true] at hl; cases hl
   rw [I1 e,cond_false] at hl
   rcases I5 hf with ⟨e',_⟩ | hf'
   . exact absurd e' e
   . exact h.lend k f args nx c hf' hl hr hi ho
theorem k8.addI (h:k8 E) {fn:Func} (hc:a4a E.P K) (hf:E.P.funcs[K]?=some fn):k8 (E.addI K fn):=by
 refine ⟨h.mixed,h.zob,fun k hk=>?_,fun k g hg=>?_,h.con,h.lend,h.obc,h.wrc,h.callf,h.fnc,h.callr,h.roc,h.yl⟩
 . by_cases e:k=K
   . subst e; exact hc
   . refine h.call k ?_
     simp only [Bool.or_eq_true] at hk ⊢
     rcases hk with ((hk | hk) | hk) | hk
     . exact .inl (.inl (.inl hk))
     . exact .inl (.inl (.inr hk))
     . rcases O6 hk with e' | e'
       . exact absurd e' e
       . exact .inl (.inr e')
     . exact .inr hk
 . rcases I5 hg with ⟨rfl,rfl⟩ | hg
   . exact hf
   . exact h.inl k g hg
theorem k8.addX (h:k8 E) {o:FC E.N} (hc:a4a E.P K) (ok:∀ args its r,o.C args its=some r->l7 r.ob->N7 E.P E.N E.T E.G K args its (2 * its.length) (fun k=>l7 r.hy->k r.v r.its r.n)):k8 (E.addX K o):=by
 refine ⟨h.mixed,h.zob,h.call,h.inl,h.con,h.lend,h.obc,h.wrc,fun k hk=>?_,fun k o' args its r ho hr hob=>?_,h.callr,h.roc,h.yl⟩
 . rcases O6 hk with e | e
   . subst e; exact hc
   . exact h.callf k e
 . rcases I5 ho with ⟨e1,e2⟩ | ho
   . cases e2
     rw [e1]; exact ok args its r hr hob
   . exact h.fnc k o' args its r ho hr hob
theorem k8.addR (h:k8 E) {C:List E.SV->i4 E.N->Option (Q1 E.N)} (hc:a4a E.P K) (ok:∀ args its q,C args its=some q->l7 q.ob->c5c E.P E.N E.T E.G K args its q):k8 (E.addR K C):=by
 refine ⟨h.mixed,h.zob,h.call,h.inl,h.con,h.lend,h.obc,h.wrc,h.callf,h.fnc,fun k hk=>?_,fun k C' args its q ho hr hob=>?_,h.yl⟩
 . rcases O6 hk with e | e
   . subst e; exact hc
   . exact h.callr k e
 . rcases I5 ho with ⟨e1,e2⟩ | ho
   . cases e2
     rw [e1]; exact ok args its q hr hob
   . exact h.roc k C' args its q ho hr hob
end
end Go.Rx
end
section
namespace Go.Rx
open Go Go.Wk Go.Wl
def Err.num:Err->Option Int
 | .nil=>none
 | .no n=>some n
 | .fault _ n=>some n
 | .w _ _ e=>e.num
 | .p _ _ n=>some n
def Err.is (e:Err) (n:Int):Prop:=e.num=some n
instance (e:Err) (n:Int):Decidable (e.is n):=by unfold Err.is; infer_instance
def Err.nr (e:Err):Int:=match e with
 | .nil=>0
 | e=>match e.num with | some n=>if 1<=n/\n<=16 then n else -1 | none=>-1
section
open Go.Lib
variable {P:Program} (w:World)
end
end Go.Rx
end
section
namespace Go.Rx
open Go Go.Wk Go.Wl
def b0r (N:Uni):List VK->Type
 | []=>Unit
 | k::r=>k.den N×b0r N r
def eqs (N:Uni):(ks:List VK)->b0r N ks->List Prop->A6 N Prop ks
 | [],_,ps=>cjl ps
 | _::r,X,ps=>fun x=>eqs N r X.2 (ps++[x=X.1])
section
variable {E:Env} {C:Ctx} {w w':World} {ρ ρ':n8} {Z Z':Nat->Prop} {its lkd:i4 E.N} {nx:Nat} {inl:Inl E}
theorem c15 {v:Value} {s:E.SV} (h:Rep E.N E.T (fun _=>none) Z w v s):Rep E.N E.T ρ Z w v s:=Rep.sub h (fun _ _ h=>by cases h)
theorem a7s {cs:List Value} {ss:List E.SV} (hp:ss.all w7=true) (h:i7 E.N E.T ρ Z w cs ss) (ρ':n8):i7 E.N E.T ρ' Z w cs ss:=by
 induction ss generalizing cs with
 | nil=>obtain rfl:=i7.nil_inv h; exact i7.nil
 | cons s ss ih =>
  obtain ⟨v,r,rfl,h1,hv,h2⟩:=i7.cons_inv h
  simp only [List.all_cons,Bool.and_eq_true] at hp
  exact i7.cons (a6r hp.1 h1 ρ') hv (ih hp.2 h2)
theorem a5n {j id S:Nat} {cells:List E.SV}:∀ {vs vs':List E.SV} {its its':i4 E.N},Z6 its vs=some (vs',its')->its[j]?=some (id,.own S cells)->its'[j]?=some (id,.own S cells)
 | [],vs',its,its',h,hj=>by
  simp [Z6] at h; obtain ⟨rfl,rfl⟩:=h; exact hj
 | v::r,vs',its,its',h,hj=>by
  have other:(match Z6 its r with | some (r',its')=>some (v::r',its') | none=>none)=some (vs',its')->its'[j]?=some (id,.own S cells):=fun h=>by
   split at h
   . rename_i r' its1 hr
     simp only [Option.some.injEq,Prod.mk.injEq] at h
     obtain ⟨rfl,rfl⟩:=h
     exact a5n hr hj
   . cases h
  cases v with
  | acc id2 =>
   simp only [Z6] at h
   split at h
   . rename_i t l hi
     split at h
     . rename_i r' its1 hr
       simp only [Option.some.injEq,Prod.mk.injEq] at h
       obtain ⟨rfl,rfl⟩:=h
       obtain ⟨i,hi1,hu,_⟩:=p7 hi
       refine a5n hr ?_
       rw [hu,List.getElem?_set_ne (fun e=>by subst e; rw [hi1] at hj; cases hj)]
       exact hj
     . cases h
   . split at h
     . rename_i r' its1 hr
       simp only [Option.some.injEq,Prod.mk.injEq] at h
       obtain ⟨rfl,rfl⟩:=h
       exact a5n hr hj
     . cases h
   . cases h
  | ref=>cases h
  | el=>cases h
  | sub=>cases h
  | clo=>cases h
  | yld=>cases h
  | agg=>cases h
  | tup=>cases h
  | _=>exact other h
def c1v (n:Nat) (s:E.SV):Option (List E.SV):=match n with
 | 1=>some [s]
 | _=>(match s with | .tup vs=>some vs | _=>none)
def a7k {N:Uni} (n:Nat) (vs:List (SV N)):SV N:=match n with
 | 1=>vs.headD .un
 | _=>.tup vs
def e4y (E:Env) (S m n:Nat) (ks:List VK) (Q:A6 E.N Prop ks):E.SV->i4 E.N->Nat->Prop:=fun s its _=>match lk its 0,c1v n s with
 | some (.own S' cells),some ars=>bif Nat.beq S' S && Nat.beq cells.length m then (match frz its (cells++ars) with
  | some (vs,its')=>(match C1 E its' ks vs Q with | some p=>p | none=>False)
  | none=>False) else False
 | _,_=>False
def a8h (E:Env):(ks:List VK)->b0r E.N ks->List E.SV
 | [],_=>[]
 | k::r,X=>Z7 E 0 k X.1::a8h E r X.2
theorem b0d:∀ (ks:List VK) (X:b0r E.N ks),(a8h E ks X).length=ks.length
 | [],_=>rfl
 | _::r,X=>by simp [a8h,b0d r X.2]
def c4v:VK->Bool
 | .acc _=>false
 | _=>true
theorem b85:∀ {ps qs:List Prop},cjl (ps++qs)->cjl ps/\cjl qs
 | [],_,h=>⟨trivial,h⟩
 | [p],[],h=>⟨h,trivial⟩
 | [p],q::r,h=>⟨h.1,h.2⟩
 | p::q::r,qs,h=>by
  have:=b85 (ps:=q::r) h.2
  exact ⟨⟨h.1,this.1⟩,this.2⟩
theorem c2d (its:i4 E.N):∀ (ks:List VK) (vs:List E.SV) (X:b0r E.N ks) (ps:List Prop) (p:Prop),C1 E its ks vs (eqs E.N ks X ps)=some p->p->cjl ps/\vs.length=ks.length /\
  ∀ {ρ:n8} {Z:Nat->Prop} {w:World} {C:Ctx} {nx:Nat} {us:List Value},Mem E C ρ Z w its nx->ks.all c4v=true->(us.length=vs.length/\∀ (i:Nat) (u:Value) (s:E.SV),us[i]?=some u->vs[i]?=some s->Rep E.N E.T ρ Z w u s)->∀ (i:Nat) (u:Value) (s:E.SV),us[i]?=some u->(a8h E ks X)[i]?=some s->Rep E.N E.T (fun _=>none) Z w u s
 | [],[],X,ps,p,h,hp=>by
  have h:=Option.some.inj (show some (cjl ps)=some p from h)
  subst h
  exact ⟨hp,rfl,fun _ _ _ i u s _ hs=>by simp [a8h] at hs⟩
 | [],_::_,X,ps,p,h,hp=>by cases h
 | _::_,[],X,ps,p,h,hp=>by cases h
 | k::ks,v::vs,X,ps,p,h,hp=>by
  simp only [C1] at h
  split at h
  . rename_i x hx
    obtain ⟨h1,h2,h3⟩:=c2d its ks vs X.2 (ps++[x=X.1]) p h hp
    obtain ⟨h4,h5⟩:=b85 h1
    have h5:x=X.1:=h5
    subst h5
    refine ⟨h4,by simp [h2],fun {ρ Z w C nx us} hm hk hlr i u s hu hs=>?_⟩
    obtain ⟨hl,hr⟩:=hlr
    simp only [List.all_cons,Bool.and_eq_true] at hk
    cases us with
    | nil=>simp at hu
    | cons u0 us =>
     cases i with
     | zero =>
      simp only [List.getElem?_cons_zero,Option.some.injEq,a8h] at hu hs
      subst hu; subst hs
      have r0:=hr 0 u0 v rfl rfl
      obtain ⟨ρ3,os',_,f,_,r1,_⟩:=J3 (lkd:=[]) (n2:=0) (ρ2:=fun _=>none) (os:=[]) (new:=[]) (by simpa using hm) r0 hx (fun _ _=>rfl) .nil
      have e2:(fl1 E 0 k X.1).2.2=0:=by cases k <;> first | rfl | (cases hk.1)
      have e3:ρ3=fun _=>none:=by funext i; exact f i (by omega)
      rw [e3] at r1; exact r1
     | succ i =>
      exact h3 (us:=us) hm hk.2 ⟨by simpa using hl,fun i u s hu hs=>hr (i+1) u s hu hs⟩ i u s hu hs
  . cases h
theorem c3j {n:Nat} {s:E.SV} {ars:List E.SV} {v:Value} (h:c1v n s=some ars) (r:Rep E.N E.T ρ Z w v s):∃ us:List Value,us.length=ars.length/\(∀ (i:Nat) (u:Value) (s:E.SV),us[i]?=some u->ars[i]?=some s->Rep E.N E.T ρ Z w u s) /\
  ∀ {ρ':n8} {Z':Nat->Prop} {w':World} {ss:List E.SV},ss.length=ars.length->(∀ (i:Nat) (u:Value) (s:E.SV),us[i]?=some u->ss[i]?=some s->Rep E.N E.T ρ' Z' w' u s)->Rep E.N E.T ρ' Z' w' v (a7k n ss):=by
 by_cases e:n=1
 . subst e
   simp only [c1v,Option.some.injEq] at h
   subst h
   refine ⟨[v],rfl,fun i u s' hu hs=>?_,fun {ρ' Z' w' ss} hl hr=>?_⟩
   . cases i with
     | zero=>simp at hu hs; subst hu; subst hs; exact r
     | succ i=>simp at hu
   . match ss,hl with
     | [s'],_=>exact hr 0 v s' rfl rfl
 . have h':∃ vs,s=.tup vs/\ars=vs:=by
     unfold c1v at h
     split at h
     . exact absurd rfl e
     . split at h
       . cases h; exact ⟨_,rfl,rfl⟩
       . cases h
   obtain ⟨vs,rfl,rfl⟩:=h'
   obtain ⟨cs,rfl⟩:=Rep.tup_inv r
   obtain ⟨g1,g2⟩:=RepT.get r
   refine ⟨cs,g1,g2,fun {ρ' Z' w' ss} hl hr=>?_⟩
   have:a7k n ss=.tup ss:=by
    unfold a7k
    split
    . exact absurd rfl e
    . rfl
   rw [this]
   exact RepT.of_get (by rw [g1,hl]) hr
def c9k (E:Env) (n:Nat) (ks:List VK) (Q:A6 E.N Prop ks):E.SV->i4 E.N->Nat->Prop:=fun s its _=>match c1v n s with
 | some ars=>(match frz its ars with
  | some (vs,its')=>(match C1 E its' ks vs Q with | some p=>p | none=>False)
  | none=>False)
 | none=>False
theorem e4w (hE:k8 E) (hI:C6 E inl) {K n:Nat} {fn:Func} {an:Ann} (hf:E.P.funcs[K]?=some fn) {ks:List VK} {X:b0r E.N ks} {args:List E.SV} {ob:List Prop} (hk:ks.all c4v=true) (hp:args.all w7=true)
  (hv:i6 inl an fn args [] [] 0 (c9k E n ks (eqs E.N ks X []))):D6 E.P E.N E.T E.G K args nx ⟨ob,[],a7k n (a8h E ks X),[]⟩ :=
 ⟨fun ρ Z w vs hfr hz hg ha=>(I4 (C:=a2b (fun _=>none) Z w) hE hI hf hv (b1c (fun _ _=>rfl) hz) hg (C9 hp ha _)).mono fun v w' h=>by
  obtain ⟨ρ',Z',s,its',nx',hx,hm,ht,hr,hk'⟩:=h.pure
  unfold c9k at hk'
  split at hk'
  . rename_i ars has
    split at hk'
    . rename_i vs' its2 hfz
      split at hk'
      . rename_i p hrb
        obtain ⟨us,u1,u2,u3⟩:=c3j has hr
        obtain ⟨Z2,m2,t2,he⟩:=b5n (lkd:=[]) (by simpa using hm) hfz
        rw [List.append_nil] at m2
        obtain ⟨_,hlen,hget⟩:=c2d its2 ks vs' X [] p hrb hk'
        have hvl:vs'.length=ars.length:=he.1
        have all:us.length=vs'.length/\∀ (i:Nat) (u:Value) (s:E.SV),us[i]?=some u->vs'[i]?=some s->Rep E.N E.T ρ' Z2 w' u s:=by
         refine ⟨by rw [hvl,u1],fun i u s' hu hs=>?_⟩
         have hil:i<ars.length:=by rw [<- hvl]; exact o6 hs
         exact he.2 i _ s' (List.getElem?_eq_getElem hil) hs u (u2 i u _ hu (List.getElem?_eq_getElem hil))
        have fin:=hget m2 hk all
        refine ⟨ρ,Z2,fun _ _ h=>h,fun i hi=>hfr i (by simpa using hi),m2.zge,fun b hb=>?_,c15 (u3 (by rw [b0d,<- hlen,hvl]) fun i u s' hu hs=>fin i u s' hu hs),?_,trivial⟩
        . rcases m2.zle b hb with h | h | h
          . exact .inl h
          . cases h
          . exact .inr h
        . exact ⟨m2.sep.ext,m2.sep.zlt,fun k t h=>by simp [n5,number] at h,fun j k s t h=>by simp [n5,number] at h⟩
      . exact hk'.elim
    . exact hk'.elim
  . exact hk'.elim⟩
theorem l4.conv {K:Nat} {args args':List E.SV} {c:CR E.N} (h:l4 E K args' c) (ha:∀ (D:Nat->Prop) (w:World) (vs:List Value),Rep E.N E.T (fun _=>none) D w (.tuple vs.toArray) (.tup args)->Rep E.N E.T (fun _=>none) D w (.tuple vs.toArray) (.tup args')):l4 E K args c :=
 fun D w vs hD hg hr=>h D w vs hD hg (ha D w vs hr)
def a98 {N:Uni}:SV N->Option Bool
 | .tt=>some true
 | .ff=>some false
 | .bl p d=>some (@decide p d)
 | _=>none
theorem Z8 {s:E.SV} {b:Bool} {v:Value} (h:a98 s=some b) (r:Rep E.N E.T ρ Z w v s):Rep E.N E.T ρ Z w v (blB b):=by
 have hb:∀ y:Bool,Value.bool y=.bool (@decide (y=true) inferInstance):=fun y=>by cases y <;> rfl
 cases r with
 | tt=>cases h; rw [hb true]; exact .bl
 | ff=>cases h; rw [hb false]; exact .bl
 | @bl p d=>cases h; rw [hb (@decide p d)]; exact .bl
 | _=>cases h
end
end Go.Rx
end
section
namespace Go.Rx
open Go Go.Wk Go.Wl
def HZ (E:Env) (inl:Inl E) (an:Ann) (fn:Func) (args:List E.SV) (n:Nat) (ks:List VK) (X:b0r E.N ks):Prop:=i6 inl an fn args [] [] 0 (c9k E n ks (eqs E.N ks X []))
theorem e4a {E:Env} {inl:Inl E} {nx K n:Nat} {fn:Func} {an:Ann} {ks:List VK} {X:b0r E.N ks} {args:List E.SV} {ob:List Prop} (hE:k8 E) (hI:C6 E inl) (hf:E.P.funcs[K]?=some fn) (hk:ks.all c4v=true) (hp:args.all w7=true)
  (hv:HZ E inl an fn args n ks X):D6 E.P E.N E.T E.G K args nx ⟨ob,[],a7k n (a8h E ks X),[]⟩:=e4w hE hI hf hk hp hv
end Go.Rx
end
section
namespace Go.Rx
open Go Go.Wk Go.Wl
section
variable {E:Env} {C:Ctx} {ρ:n8} {Z:Nat->Prop} {w:World} {its lkd:i4 E.N} {nx:Nat} {inl:Inl E}
def e1i (E:Env) (its:i4 E.N):m6 E.N:=its.filterMap fun p=>match p.2 with | .own _ _=>some (200+p.1,.ref p.1 0) | .ob _ _ _=>some (200+p.1,.ref p.1 0) | _=>none
def st0 (E:Env) (its:i4 E.N) (nx:Nat):E.St:=⟨e1i E its,[],its,nx⟩
end
end Go.Rx
end
section
namespace Go.Rx
open Go Go.Wk Go.Wl
section
variable {N:Uni} {T:J5} {ρ:n8} {Z:Nat->Prop} {w:World} {P:Program} {G:U5} {K nx:Nat} {c:CR N}
theorem D6.weak {a b:List (SV N)} (h:D6 P N T G K b nx c) (hw:∀ ρ Z w v,Rep N T ρ Z w v (.tup a)->Rep N T ρ Z w v (.tup b)):D6 P N T G K a nx c :=
 ⟨fun ρ Z w vs h1 h2 h3 h4=>h.run ρ Z w vs h1 h2 h3 (hw ρ Z w _ h4)⟩
end
end Go.Rx
end
section
namespace Go.Rx
open Go Go.Wk Go.Wl
def vTc (N:Uni):List TK->Type
 | []=>Unit
 | .v k::r=>k.den N×vTc N r
 | .to _::r=>vTc N r
 | .nilp::r=>vTc N r
def vTp (N:Uni):List TP->Type
 | []=>Unit
 | .own _ _ ks::r=>vTc N ks×vTp N r
 | .ob _ k::r=>N.O k×vTp N r
def vC (N:Uni):List LV->Type
 | []=>Unit
 | .slot _ k::r=>k.den N×vC N r
 | .tree _ ps::r=>vTp N ps×vC N r
 | _::_=>Unit
def a6z {N:Uni} {α:Type}:(ks:List TK)->tcD N α ks->vTc N ks->α
 | [],f,_=>f
 | .v _::r,f,X=>a6z r (f X.1) X.2
 | .to _::r,f,X=>a6z r f X
 | .nilp::r,f,X=>a6z r f X
def a6v {N:Uni} {α:Type}:(ps:List TP)->tpD N α ps->vTp N ps->α
 | [],f,_=>f
 | .own _ _ ks::r,f,X=>a6v r (a6z ks f X.1) X.2
 | .ob _ _::r,f,X=>a6v r (f X.1) X.2
def b54 {N:Uni} {α:Type} (d:α):(vs:List LV)->Cur N α vs->vC N vs->α
 | [],f,_=>f
 | .slot _ _::r,f,X=>b54 d r (f X.1) X.2
 | .tree _ ps::r,f,X=>b54 d r (a6v ps f X.1) X.2
 | _::_,_,_=>d
def S9 (E:Env) (nm:List Nat):(ks:List TK)->Nat->i4 E.N->List E.SV->vTc E.N ks->Nat×i4 E.N×List E.SV
 | [],nx,its,acc,_=>(nx,its,acc)
 | .v k::r,nx,its,acc,X=>S9 E nm r (fl1 E nx k X.1).2.2 ((fl1 E nx k X.1).2.1++its) (acc++[(fl1 E nx k X.1).1]) X.2
 | .to j::r,nx,its,acc,X=>S9 E nm r nx its (acc++[.ref (nm.getD j 0) 0]) X
 | .nilp::r,nx,its,acc,X=>S9 E nm r nx its (acc++[.con (.pointer none)]) X
def a2g (E:Env) (nm:List Nat):(ps:List TP)->Nat->Nat->i4 E.N->vTp E.N ps->Nat×i4 E.N
 | [],_,nx,its,_=>(nx,its)
 | .own _ T ks::r,i,nx,its,X=>a2g E nm r (i+1) (S9 E nm ks nx its [] X.1).1 ((nm.getD i 0,.own T (S9 E nm ks nx its [] X.1).2.2)::(S9 E nm ks nx its [] X.1).2.1) X.2
 | .ob _ k::r,i,nx,its,X=>a2g E nm r (i+1) (nx+1) ((nm.getD i 0,.ob k nx X.1)::its) X.2
def b8p (E:Env) (fx:m6 E.N) (st:E.St):(vs:List LV)->vC E.N vs->E.St->E.St
 | [],_,new=>new
 | .slot s k::r,X,new=>b8p E fx st r X.2 ⟨(s,(fl1 E new.nx k X.1).1)::new.slots,[],(fl1 E new.nx k X.1).2.1++new.items,(fl1 E new.nx k X.1).2.2⟩
 | .tree ss ps::r,X,new=>b8p E fx st r X.2 ⟨(ss.map fun p=>(p.1,.ref ((tnm new.nx 0 (O8 fx st ps)).getD p.2 0) 0))++new.slots,[],(a2g E (tnm new.nx 0 (O8 fx st ps)) ps 0 (new.nx+ps.length) new.items X.1).2,(a2g E (tnm new.nx 0 (O8 fx st ps)) ps 0 (new.nx+ps.length) new.items X.1).1⟩
 | _::_,_,new=>new
section
variable {E:Env} {fx:m6 E.N} {st:E.St}
theorem a1f {nm:List Nat} {α:Type} {G:α->Nat->i4 E.N->List E.SV->Prop}:∀ (ks:List TK) (f:tcD E.N α ks) (nx:Nat) (its:i4 E.N) (acc:List E.SV),(∀ Y,G (a6z ks f Y) (S9 E nm ks nx its acc Y).1 (S9 E nm ks nx its acc Y).2.1 (S9 E nm ks nx its acc Y).2.2)->a2m E nm ks nx its acc f G
 | [],f,nx,its,acc,h=>h ()
 | .v k::r,f,nx,its,acc,h=>fun x=>a1f r (f x) _ _ _ fun Y=>h (x,Y)
 | .to j::r,f,nx,its,acc,h=>a1f r f _ _ _ h
 | .nilp::r,f,nx,its,acc,h=>a1f r f _ _ _ h
theorem a4i {nm:List Nat} {α:Type} {G:α->Nat->i4 E.N->Prop}:∀ (ps:List TP) (f:tpD E.N α ps) (i nx:Nat) (its:i4 E.N),(∀ Y,G (a6v ps f Y) (a2g E nm ps i nx its Y).1 (a2g E nm ps i nx its Y).2)->a4j E nm ps i nx its f G
 | [],f,i,nx,its,h=>h ()
 | .own _ T ks::r,f,i,nx,its,h=>a1f ks f nx its [] fun Y=>a4i r _ _ _ _ fun Z=>h (Y,Z)
 | .ob _ k::r,f,i,nx,its,h=>fun x=>a4i r (f x) _ _ _ fun Z=>h (x,Z)
theorem a15 {α:Type} {d:α} {G:α->E.St->Prop}:∀ (vs:List LV) (f:Cur E.N α vs) (new:E.St),a6a vs=true->(∀ Y,G (b54 d vs f Y) (b8p E fx st vs Y new))->E7 E fx st vs f new G
 | [],f,new,_,h=>h ()
 | .slot s k::r,f,new,ho,h=>fun x=>a15 r (f x) _ ho fun Y=>h (x,Y)
 | .tree ss ps::r,f,new,ho,h=>a4i ps f 0 _ _ fun Y=>a15 r _ _ ho fun Z=>h (Y,Z)
 | .own _ _::_,_,_,ho,_=>by cases ho
 | .ob _ _::_,_,_,ho,_=>by cases ho
 | .cont _ _::_,_,_,ho,_=>by cases ho
 | .chain _ _ _ _::_,_,_,ho,_=>by cases ho
 | .rows _ _ _ _::_,_,_,ho,_=>by cases ho
 | .alt::_,_,_,ho,_=>by cases ho
 | .unr _::_,_,_,ho,_=>by cases ho
end
section
variable {N:Uni}
end
section
variable {E:Env} {fx:m6 E.N} {st:E.St}
variable {inl:Inl E}
structure GD (N:Uni) where
 fz:List Nat
 ss:List (List LV)
 C:GC N
def c8o (E:Env) (M:Nat->Option (GD E.N)) (inl:Inl E):Inl E:=fun K args its lkd nx k=>match M K with
 | none=>inl K args its lkd nx k
 | some o=>(match a9f (E:=E) ⟨o.fz,o.ss,fun _ _=>none⟩ args its nx with
  | none=>inl K args its lkd nx k
  | some (a,i,m)=>bif (E.inl K).isSome && distinct (reach i 60 (a.flatMap a3r) []) then
   (match a43 (R4 (y8 i (reach i 60 (a.flatMap a3r) [])) 0) a,b9y i (R4 (y8 i (reach i 60 (a.flatMap a3r) [])) 0) 0 (reach i 60 (a.flatMap a3r) []) with
   | some a',some i'=>(match o.C a' i' with
    | some S=>S (fun s it n=>match c0f (a2s (y8 i (reach i 60 (a.flatMap a3r) [])) m) s,a6w (a2s (y8 i (reach i 60 (a.flatMap a3r) [])) m) it with
     | some s',some it'=>k s' (it'++k7 i (reach i 60 (a.flatMap a3r) [])) (m+(n-(y8 i (reach i 60 (a.flatMap a3r) [])).length))
     | _,_=>False)
    | none=>inl K args its lkd nx k)
   | _,_=>False) else False)
theorem b7d {M:Nat->Option (GD E.N)} (hM:∀ K o args its S,M K=some o->o.C args its=some S->N7 E.P E.N E.T E.G K args its (2 * its.length) S) (hI:C6 E inl):C6 E (c8o E M inl):=by
 intro K args its lkd nx k hv
 unfold c8o at hv
 split at hv
 . exact hI K args its lkd nx k hv
 . rename_i o hC
   split at hv
   . exact hI K args its lkd nx k hv
   . rename_i a i m hA
     cases hb:((E.inl K).isSome && distinct (reach i 60 (a.flatMap a3r) [])) with
     | false=>rw [hb,cond_false] at hv; exact hv.elim
     | true =>
      rw [hb,cond_true] at hv
      simp only [Bool.and_eq_true] at hb
      obtain ⟨hin,hd⟩:=hb
      refine ⟨hin,fun C ρ Z w vs hm hg ha0=>?_⟩
      obtain ⟨ρ1,Z1,m1,t1,a1⟩:=a7i hg hm hA ha0
      split at hv
      . rename_i a' i' ha hi
        split at hv
        . rename_i S hS
          exact (b89 hd ha hi (hM K o a' i' S hC hS) hv m1 (U5.turn hg t1) a1).mono fun v w' ⟨ρ',Z',s,its',nx',q1,q2,q3,q4⟩=>⟨ρ',Z',s,its',nx',q1,t1.trans q2,q3,q4⟩
        . exact (hI K args its lkd nx k hv).2 C ρ Z w vs hm hg ha0
      . exact hv.elim
def j7 (E:Env) (H:Nat->Option (GD E.N)) (an:Nat->Ann):Nat->Inl E
 | 0=>c8o E H (fun _ _ _ _ _ _=>False)
 | n+1=>c8o E H (fun K args its lkd nx k=>match E.inl K with | some fn=>i6 (j7 E H an n) (an K) fn args its lkd nx k | none=>False)
theorem j8 (hE:k8 E) {H:Nat->Option (GD E.N)} (hH:∀ K o args its S,H K=some o->o.C args its=some S->N7 E.P E.N E.T E.G K args its (2 * its.length) S) (an:Nat->Ann):∀ m,C6 E (j7 E H an m)
 | 0=>b7d hH fun _ _ _ _ _ _ h=>h.elim
 | m+1=>b7d hH fun K args its lkd nx k h=>by
  have h:(match E.inl K with | some fn=>i6 (j7 E H an m) (an K) fn args its lkd nx k | none=>False):=h
  split at h
  . rename_i fn hf
    exact ⟨by rw [hf]; rfl,fun C ρ Z w vs hm hg ha=>I4 hE (j8 hE hH an m) (hE.inl K fn hf) h hm hg ha⟩
  . exact h.elim
def noH {N:Uni}:Nat->Option (GD N):=fun _=>none
theorem d4y {P:Program} {N:Uni} {T:J5} {G:U5}:∀ K o args its S,(noH:Nat->Option (GD N)) K=some o->o.C args its=some S->N7 P N T G K args its (2 * its.length) S:=fun _ _ _ _ _ h=>by cases h
end
end Go.Rx
end
section
namespace Go.Rx
open Go Go.Wk Go.Wl
structure Cl (P:Program) where
 J:Nat->(Nat->Prop)->World->List Int->List Nat->Prop
 stab:∀ {b:Nat} {xs:List Int} {F:List Nat},It.Stab ⟨F,[],fun Z w=>J b Z w xs F⟩
 lt:∀ {b:Nat} {Z:Nat->Prop} {w:World} {xs:List Int} {F:List Nat},J b Z w xs F->∀ b∈F,b<w.heap.size
 pre:List Int->Int->Prop
 res:List Int->Int->Bool
 step:∀ (Z:Nat->Prop) (w:World) (b:Nat) (F:List Nat) (xs:List Int) (t:Int),(∀ b,Z b->b<w.heap.size)->(∀ b∈F,¬ Z b)->J b Z w xs F->pre xs t->b9 t ->
  O2 P b [.int .i64 t] w (fun v w'=>v=.bool (res xs t)/\∃ F',J b Z w' (xs++[t]) F'/\b9c w w' F F')
abbrev ClX (P:Program):=Cl P×List Int
def obY (P:Program) (b:Nat):Ob (ClX P) where
 is:=fun Z w x F=>x.1.J b Z w x.2 F
 stab:=fun {x}=>x.1.stab
 lt:=fun {_ _ x _} h=>x.1.lt h
def ClX.pre {P:Program} (x:ClX P) (t:Int):Prop:=x.1.pre x.2 t
def ClX.res {P:Program} (x:ClX P) (t:Int):Bool:=x.1.res x.2 t
def ClX.put {P:Program} (x:ClX P) (t:Int):ClX P:=(x.1,x.2++[t])
theorem ClX.bl {N:Uni} {T:J5} {ρ:n8} {Z:Nat->Prop} {w:World} {b:Bool}:Rep N T ρ Z w (.bool b) (blB b):=by
 have h:Rep N T ρ Z w (.bool (decide (b=true))) (blB b):=.bl
 rwa [Bool.decide_eq_true] at h
theorem d6k {N:Uni} {T:J5} {ρ:n8} {Z:Nat->Prop} {w:World} {cs:List Value} (h:Rep N T ρ Z w (.tuple cs.toArray) (.tup [])):cs=[]:=by
 generalize e:Value.tuple cs.toArray=u at h
 cases h with | tup0=>simpa using e
end Go.Rx
end
section
namespace Go.Rx
open Go Go.Wk Go.Wl
section
variable {E:Env} {K t i:Nat} {x:E.N.U t} {cells:List E.SV} {ars:List E.SV} {its:i4 E.N} {ob:List Prop} {v:E.SV}
theorem c7f {w:World} {b T:Nat} {cs:List Value} {D:Nat->Prop} (ho:Own w b T cs) (hD:D b) (hr:(E.N.tb t).r.rd D w cs x):(s6 (E.N.tb t).r).rd D w [.slice (some ⟨b,0,none⟩) [x].length 1] [x] :=
 ⟨by show (1:Nat)<=9223372036854775807; omega,_,_,rfl,⟨fun h=>(by cases h),Nat.le_refl _⟩,fun i hi=>by
  have hi:i<1:=hi
  have e:i=0:=by omega
  subst e
  refine ⟨_,_,_,rfl,hD,Own.cells ho _ cs [] ?_,hr⟩
  show cs.drop (0+0 * _)=cs++[]
  rw [Nat.zero_mul,List.append_nil]; rfl⟩
end
end Go.Rx
end
section
namespace Go.Re
structure Dy where
 Year:Int
 Month:Int
 Date:Int
 deriving DecidableEq,Inhabited
structure Tm where
 Day:Dy
 Hour:Int
 Min:Int
 Sec:Int
 Bare:Bool
 UTC:Bool
 deriving DecidableEq,Inhabited
structure Nt where
 N:Int
 Day:Int
 deriving DecidableEq,Inhabited
structure Rl where
 Freq:Int
 Interval:Int
 Count:Int
 Until:List Tm
 Month:List Int
 WeekNo:List Int
 YearDay:List Int
 MonthDay:List Int
 Days:List Nt
 Hour:List Int
 Minute:List Int
 Second:List Int
 SetPos:List Int
 Wkst:Int
 deriving DecidableEq,Inhabited
def s9 (y m:Int):Int :=
 if y<1 ∨ 9999<y then 0 else
 if m=2 then (if y % 4=0/\(y % 100≠0 ∨ y % 400=0) then 29 else 28) else
 if m=1 ∨ m=3 ∨ m=5 ∨ m=7 ∨ m=8 ∨ m=10 ∨ m=12 then 31 else
 if m=4 ∨ m=6 ∨ m=9 ∨ m=11 then 30 else 0
def w8 (d:Dy):Prop:=1<=d.Date/\d.Date<=s9 d.Year d.Month
instance:DecidablePred w8:=fun d=>inferInstanceAs (Decidable (_/\_))
def D1 (d:Dy):Bool:=decide (w8 d)
def j4 (y:Int):Int:=365 * (y-1)+(y-1) / 4-(y-1) / 100+(y-1) / 400
def D2 (y m:Int):Int :=
 if m<=1 then 0 else if m=2 then 31 else
 (if y % 4=0/\(y % 100≠0 ∨ y % 400=0) then 1 else 0) +
 (if m=3 then 59 else if m=4 then 90 else if m=5 then 120 else if m=6 then 151 else if m=7 then 181 else if m=8 then 212 else if m=9 then 243 else if m=10 then 273 else if m=11 then 304 else 334)
def z7 (d:Dy):Int:=j4 d.Year+D2 d.Year d.Month+d.Date
def p6 (d:Dy):Int:=if w8 d then z7 d else 0
def B7 (y m d:Int):Int :=
 if m<3 then 365 * (y-1)+(y-1) / 4-(y-1) / 100+(y-1) / 400+(153 * (m+12-3)+2) / 5+d-306
 else 365 * y+y / 4-y / 100+y / 400+(153 * (m-3)+2) / 5+d-306
theorem w8.ym {d:Dy} (h:w8 d):1<=d.Year/\d.Year<=9999/\1<=d.Month/\d.Month<=12/\1<=d.Date/\d.Date<=31:=by
 obtain ⟨h1,h2⟩:=h
 unfold s9 at h2
 (repeat' split at h2) <;> omega
theorem a0e {y m:Int} (h0:1<=y) (h1:y<=9999) (m0:1<=m) (m1:m<=12):s9 y m=D2 y (m+1)-D2 y m ∨ m=12/\s9 y m=31:=by
 have hm:m=1 ∨ m=2 ∨ m=3 ∨ m=4 ∨ m=5 ∨ m=6 ∨ m=7 ∨ m=8 ∨ m=9 ∨ m=10 ∨ m=11 ∨ m=12:=by omega
 unfold s9 D2
 rw [if_neg (by omega)]
 rcases hm with rfl | rfl | rfl | rfl | rfl | rfl | rfl | rfl | rfl | rfl | rfl | rfl <;> simp <;> split <;> omega
theorem X4 {y m d:Int} (m0:1<=m) (m1:m<=12):B7 y m d=j4 y+D2 y m+d:=by
 have hm:m=1 ∨ m=2 ∨ m=3 ∨ m=4 ∨ m=5 ∨ m=6 ∨ m=7 ∨ m=8 ∨ m=9 ∨ m=10 ∨ m=11 ∨ m=12:=by omega
 unfold B7 j4 D2
 by_cases hl:y % 4=0/\(y % 100≠0 ∨ y % 400=0)
 . rw [if_pos hl]
   rcases hm with rfl | rfl | rfl | rfl | rfl | rfl | rfl | rfl | rfl | rfl | rfl | rfl <;> simp <;> omega
 . rw [if_neg hl]
   rcases hm with rfl | rfl | rfl | rfl | rfl | rfl | rfl | rfl | rfl | rfl | rfl | rfl <;> simp <;> omega
theorem H4 (y:Int):j4 (y+1)=j4 y+(if y % 4=0/\(y % 100≠0 ∨ y % 400=0) then 366 else 365):=by
 unfold j4
 split <;> omega
theorem v7 {a b:Int} (h:a<=b):j4 a<=j4 b:=by
 unfold j4; omega
theorem a88 (y m:Int):0<=D2 y m/\D2 y m<=335:=by
 unfold D2
 (repeat' split) <;> omega
theorem R5 {d:Dy} (h:w8 d):j4 d.Year<z7 d/\z7 d<=j4 (d.Year+1):=by
 obtain ⟨y0,y1,m0,m1,d0,d1⟩:=h.ym
 have h2:=h.2
 obtain ⟨c0,c1⟩:=a88 d.Year d.Month
 refine ⟨by unfold z7; omega,?_⟩
 rw [H4]
 unfold z7
 have hm:d.Month=1 ∨ d.Month=2 ∨ d.Month=3 ∨ d.Month=4 ∨ d.Month=5 ∨ d.Month=6 ∨ d.Month=7 ∨ d.Month=8 ∨ d.Month=9 ∨ d.Month=10 ∨ d.Month=11 ∨ d.Month=12:=by omega
 unfold s9 at h2
 unfold D2
 generalize d.Month=m at *
 generalize d.Year=y at *
 generalize d.Date=t at *
 rw [if_neg (by omega)] at h2
 by_cases hl:y % 4=0/\(y % 100≠0 ∨ y % 400=0)
 . rw [if_pos hl] at h2 ⊢
   rw [if_pos hl]
   rcases hm with rfl | rfl | rfl | rfl | rfl | rfl | rfl | rfl | rfl | rfl | rfl | rfl <;> simp at h2 ⊢ <;> omega
 . rw [if_neg hl] at h2 ⊢
   rw [if_neg hl]
   rcases hm with rfl | rfl | rfl | rfl | rfl | rfl | rfl | rfl | rfl | rfl | rfl | rfl <;> simp at h2 ⊢ <;> omega
theorem a3f {y m:Int} (h0:1<=y) (h1:y<=9999) (m0:1<=m) (m1:m<=12):28<=s9 y m:=by
 unfold s9
 rw [if_neg (by omega)]
 (repeat' split) <;> omega
theorem a0l {y a b:Int} (h0:1<=y) (h1:y<=9999) (ha:1<=a) (hb:b<=12) (h:a<b):D2 y a+s9 y a<=D2 y b:=by
 rcases a0e h0 h1 ha (by omega:a<=12) with e | ⟨e,_⟩
 . rw [e]
   have up:∀ j:Nat,a+1+j<=12->D2 y (a+1)<=D2 y (a+1+j):=fun j=>by
    induction j with
    | zero=>intro _; rw [show a+1+((0:Nat):Int)=a+1 by omega]; exact Int.le_refl _
    | succ j ih =>
     intro hj
     have h2:=ih (by omega)
     have h3:=a3f h0 h1 (m:=a+1+j) (by omega) (by omega)
     rcases a0e h0 h1 (m:=a+1+j) (by omega) (by omega) with e | ⟨e,_⟩
     . rw [show a+1+((j+1:Nat):Int)=a+1+j+1 by omega]; omega
     . omega
   have:=up (b-(a+1)).toNat (by omega)
   rw [show a+1+((b-(a+1)).toNat:Int)=b by omega] at this
   omega
 . omega
def wdS (n:Int):Int:=(n+6) % 7
theorem c89 {a b:Dy} (ha:w8 a) (hb:w8 b) (h:z7 a=z7 b):a=b:=by
 obtain ⟨a0,a1⟩:=R5 ha
 obtain ⟨b0,b1⟩:=R5 hb
 obtain ⟨y0,y1,m0,m1,d0,d1⟩:=ha.ym
 obtain ⟨y0',y1',m0',m1',d0',d1'⟩:=hb.ym
 have ey:a.Year=b.Year:=by
  rcases Int.lt_trichotomy a.Year b.Year with hl | hl | hl
  . have:=v7 (show a.Year+1<=b.Year by omega); omega
  . exact hl
  . have:=v7 (show b.Year+1<=a.Year by omega); omega
 have a2:=ha.2
 have b2:=hb.2
 unfold z7 at h
 rw [ey] at h a2
 have em:a.Month=b.Month:=by
  rcases Int.lt_trichotomy a.Month b.Month with hl | hl | hl
  . have:=a0l (y:=b.Year) y0' y1' m0 m1' hl; omega
  . exact hl
  . have:=a0l (y:=b.Year) y0' y1' m0' m1 hl; omega
 rw [em] at h
 have ed:a.Date=b.Date:=by omega
 cases a; cases b
 simp only at ey em ed
 rw [ey,em,ed]
def oh (N:Int):Int:=min (N % 146097 / 36524) 3
def o2 (N:Int):Int:=N % 146097-oh N * 36524
def oo (N:Int):Int:=min (o2 N % 1461 / 365) 3
def o4 (N:Int):Int:=o2 N % 1461-oo N * 365
def oy (N:Int):Int:=400 * (N / 146097)+100 * oh N+4 * (o2 N / 1461)+oo N
def om (N:Int):Int:=(5 * o4 N+2) / 153
def ofN (N:Int):Dy :=
 if 12<om N+3 then ⟨oy N+1,om N+3-12,o4 N-(153 * om N+2) / 5+1⟩ else ⟨oy N,om N+3,o4 N-(153 * om N+2) / 5+1⟩
theorem e3n (N:Int):(0<=oh N/\oh N<=3)/\(0<=o2 N/\o2 N<=36524)/\(0<=oo N/\oo N<=3)/\(0<=o4 N/\o4 N<=365)/\0<=om N/\om N<=11:=by
 have h1:0<=oh N/\oh N<=3:=by unfold oh; omega
 have h2:0<=o2 N/\o2 N<=36524:=by
  unfold o2 oh
  omega
 have h3:0<=oo N/\oo N<=3:=by unfold oo; omega
 have h4:0<=o4 N/\o4 N<=365:=by unfold o4 oo; omega
 exact ⟨h1,h2,h3,h4,by unfold om; omega⟩
def ofS (n:Int):Dy:=if n<1 ∨ 3652059<n then ⟨0,0,0⟩ else ofN (n+305)
theorem e1h {n:Int} (h0:1<=n) (h1:n<=3652059):w8 (ofN (n+305))/\z7 (ofN (n+305))=n:=by
 have hd:∀ y m t:Int,1<=m->m<=12->z7 ⟨y,m,t⟩=B7 y m t:=fun y m t a b=>(X4 a b).symm
 unfold ofN oy om o4 oo o2 oh
 generalize eN:n+305=N
 generalize e1:N % 146097=r1
 generalize eq:N / 146097=q
 generalize eh:min (r1 / 36524) 3=h
 generalize e2:r1-h * 36524=r2
 generalize ef:r2 / 1461=f
 generalize e3:r2 % 1461=r3
 generalize eo:min (r3 / 365) 3=o
 generalize e4:r3-o * 365=r4
 have b1:0<=r1/\r1<146097:=by omega
 have bh:0<=h/\h<=3:=by omega
 have b2:0<=r2/\r2<=36524/\(h<3->r2<36524):=by
  have hc:h=0 ∨ h=1 ∨ h=2 ∨ h=3:=by omega
  rcases hc with rfl | rfl | rfl | rfl <;> omega
 have bf:0<=f/\f<=24:=by omega
 have b3:0<=r3/\r3<1461:=by omega
 have bo:0<=o/\o<=3:=by omega
 have b4:0<=r4/\r4<=365/\(r4=365->o=3/\r3=1460):=by
  have hc:o=0 ∨ o=1 ∨ o=2 ∨ o=3:=by omega
  rcases hc with rfl | rfl | rfl | rfl <;> omega
 generalize em:(5 * r4+2) / 153=m
 have bm:0<=m/\m<=11:=by omega
 have hY:(400 * q+100 * h+4 * f+o) / 4=100 * q+25 * h+f:=by omega
 have hY1:(400 * q+100 * h+4 * f+o) / 100=4 * q+h:=by omega
 have hY4:(400 * q+100 * h+4 * f+o) / 400=q:=by omega
 have eN2:N=146097 * q+r1:=by omega
 have er2:r2=1461 * f+r3:=by omega
 have hc:∀ t,365 * (400 * q+100 * h+4 * f+o)+(400 * q+100 * h+4 * f+o) / 4-(400 * q+100 * h+4 * f+o) / 100+(400 * q+100 * h+4 * f+o) / 400+t-306=146097 * q+36524 * h+1461 * f+365 * o+t-306:=fun t=>by rw [hY,hY1,hY4]; omega
 have hq:0<=q/\q<=25:=by omega
 have bd:1<=r4-(153 * m+2) / 5+1:=by omega
 by_cases h12:12<m+3
 . rw [if_pos h12]
   have hm:m=10 ∨ m=11:=by omega
   refine ⟨⟨bd,?_⟩,?_⟩
   . show r4-(153 * m+2) / 5+1<=s9 (400 * q+100 * h+4 * f+o+1) (m+3-12)
     have hy:1<=400 * q+100 * h+4 * f+o+1:=by omega
     have hy2:400 * q+100 * h+4 * f+o+1<=9999:=by omega
     unfold s9
     rw [if_neg (by omega)]
     rcases hm with rfl | rfl
     . simp; omega
     . simp
       split
       . omega
       . rename_i hl
         by_cases h5:r4=365
         . exfalso
           obtain ⟨o3,r60⟩:=b4.2.2 h5
           apply hl
           by_cases hf:f=24
           . have:h=3:=by omega
             omega
           . omega
         . omega
   . rw [hd _ _ _ (by omega) (by omega)]
     unfold B7
     rw [if_pos (by omega),show 400 * q+100 * h+4 * f+o+1-1=400 * q+100 * h+4 * f+o by omega,show m+3-12+12-3=m by omega,hY,hY1,hY4]
     omega
 . rw [if_neg h12]
   refine ⟨⟨bd,?_⟩,?_⟩
   . show r4-(153 * m+2) / 5+1<=s9 (400 * q+100 * h+4 * f+o) (m+3)
     have hy:1<=400 * q+100 * h+4 * f+o:=by omega
     have hy2:400 * q+100 * h+4 * f+o<=9999:=by omega
     have hm:m=0 ∨ m=1 ∨ m=2 ∨ m=3 ∨ m=4 ∨ m=5 ∨ m=6 ∨ m=7 ∨ m=8 ∨ m=9:=by omega
     unfold s9
     rw [if_neg (by omega)]
     rcases hm with rfl | rfl | rfl | rfl | rfl | rfl | rfl | rfl | rfl | rfl <;> simp <;> omega
   . rw [hd _ _ _ (by omega) (by omega)]
     unfold B7
     rw [if_neg (by omega),show m+3-3=m by omega,hY,hY1,hY4]
     omega
theorem N1 {n:Int} (h0:1<=n) (h1:n<=3652059):w8 (ofS n)/\z7 (ofS n)=n:=by
 unfold ofS
 rw [if_neg (by omega)]
 exact e1h h0 h1
theorem of_eq {d:Dy} {n:Int} (h:w8 d) (hn:z7 d=n) (h0:1<=n) (h1:n<=3652059):d=ofS n:=by
 obtain ⟨a,b⟩:=N1 h0 h1
 exact c89 h a (hn.trans b.symm)
theorem J6 {d:Dy} (h:w8 d):1<=z7 d/\z7 d<=3652059:=by
 obtain ⟨a0,a1⟩:=R5 h
 obtain ⟨y0,y1,_⟩:=h.ym
 have h1:=v7 (show (1:Int)<=d.Year by omega)
 have h2:=v7 (show d.Year+1<=10000 by omega)
 have e1:j4 1=0:=by decide
 have e2:j4 10000=3652059:=by decide
 omega
theorem b5h {d:Dy} (h:w8 d):ofS (z7 d)=d:=(of_eq h rfl (J6 h).1 (J6 h).2).symm
theorem C5 {d:Dy}:D1 d=true↔w8 d:=decide_eq_true_iff
def ydS (d:Dy):Int:=if w8 d then z7 d-j4 d.Year else 0
def v8 (y f:Int):Int:=j4 y+4-(wdS (j4 y+4)-f+7) % 7
def wkY (n f:Int):Int:=if v8 ((ofS n).Year+1) f<=n then (ofS n).Year+1 else if n<v8 (ofS n).Year f then (ofS n).Year-1 else (ofS n).Year
def A7 (n f:Int):Int×Int:=if ((n<1 ∨ 3652059<n) ∨ f<0) ∨ 6<f then (0,0) else (wkY n f,(n-v8 (wkY n f) f) / 7+1)
def E8 (y f:Int):Int:=if ((y<1 ∨ 9999<y) ∨ f<0) ∨ 6<f then 0 else (v8 (y+1) f-v8 y f) / 7
theorem J4 (y f:Int):j4 y+4-6<=v8 y f/\v8 y f<=j4 y+4:=by
 unfold v8
 generalize j4 y+4=a
 omega
theorem z6 {y:Int} (h0:0<=y) (h1:y<=10000):-366<=j4 y/\j4 y<=3652059:=by
 have a0:=v7 h0
 have a1:=v7 h1
 have a2:j4 0=-366:=by decide
 have a3:j4 10000=3652059:=by decide
 omega
def O0 (t:Tm):Prop:=w8 t.Day/\(0<=t.Hour/\t.Hour<=23)/\(0<=t.Min/\t.Min<=59)/\(0<=t.Sec/\t.Sec<=59)/\¬ (t.Bare=true/\(((t.Hour≠0 ∨ t.Min≠0) ∨ t.Sec≠0) ∨ t.UTC=true))
instance:DecidablePred O0:=fun t=>inferInstanceAs (Decidable (_/\_))
def l9 (t:Tm):Bool:=decide (O0 t)
theorem o7 {t:Tm}:l9 t=true↔O0 t:=decide_eq_true_iff
def E2 (t:Tm):Int:=(z7 t.Day-1) * 86400+t.Hour * 3600+t.Min * 60+t.Sec
def b8 (t:Tm):Int:=if O0 t then E2 t else -1
theorem a5q {t:Tm} (h:O0 t):0<=E2 t/\E2 t<3652059 * 86400:=by
 obtain ⟨hd,hh,hm,hs,_⟩:=h
 have:=J6 hd
 unfold E2
 omega
def atS (n:Int) (like:Tm):Tm :=
 if n<0 ∨ (like.Bare=true/\(like.UTC=true ∨ n % 86400≠0)) ∨ 3652059<n / 86400+1 then ⟨⟨0,0,0⟩,0,0,0,false,false⟩
 else ⟨ofS (n / 86400+1),n % 86400 / 3600,n % 86400 / 60 % 60,n % 86400 % 60,like.Bare,like.UTC⟩
theorem tm0 {a b:Int}:a.tmod b=0↔a % b=0:=by
 rw [<- Int.dvd_iff_tmod_eq_zero,<- Int.dvd_iff_emod_eq_zero]
def a07 (y:Int):Int:=if y % 4=0/\(y % 100≠0 ∨ y % 400=0) then 366 else 365
theorem a7f {y m:Int} (m0:1<=m) (m1:m<=12) (h0:1<=y) (h1:y<=9999) (m2:m<12):D2 y (m+1)=D2 y m+s9 y m:=by
 rcases a0e h0 h1 m0 m1 with e | ⟨e,_⟩
 . omega
 . omega
theorem b10 (y:Int):j4 (y+1)=j4 y+D2 y 12+31:=by
 rw [H4]
 unfold D2
 by_cases hl:y % 4=0/\(y % 100≠0 ∨ y % 400=0)
 . rw [if_pos hl,if_pos hl]; simp; omega
 . rw [if_neg hl,if_neg hl]; simp; omega
theorem d04 (y:Int):D2 y 1=0:=by unfold D2; rw [if_pos (by decide)]
theorem b8o {y:Int} (h:1<=y):j4 y<=366 * (y-1):=by unfold j4; omega
theorem a95 (n y:Int) {f:Int} (f0:0<=f) (f1:f<=6):(v8 y f<=n↔j4 y+1<=n-(wdS n-f+7) % 7+3)/\(v8 y f<=n->(n-v8 y f) / 7=(n-(wdS n-f+7) % 7+3-(j4 y+1)) / 7):=by
 unfold v8 wdS
 generalize j4 y=A
 omega
theorem b4x (y x:Int) {f:Int} (f0:0<=f) (f1:f<=6):(x+1-v8 y f+3) / 7=(x-v8 y f+3) / 7+(if (wdS x-f+7) % 7=3 then 1 else 0):=by
 unfold v8 wdS
 generalize j4 y=A
 split <;> omega
theorem b8v (y:Int) {f:Int} (f0:0<=f) (f1:f<=6):(j4 (y+1)+1-v8 y f+3) / 7=(v8 (y+1) f-v8 y f) / 7/\(j4 y+1-v8 y f+3) / 7=0:=by
 unfold v8 wdS
 generalize j4 (y+1)=B
 generalize j4 y=A
 omega
end Go.Re
end
section
namespace Go.Re
open Go Go.Wk Go.Wl Go.Rx
structure Ls where
 wd:Str
 lo:Int
 hi:Int
 both:Bool
 deriving Inhabited
def dLs:Rd Ls where
 sz:=5
 rd:=fun _ _ cs x=>∃ c,cs=[sv x.wd,c,.int .i64 x.lo,.int .i64 x.hi,.bool x.both]/\u4 c=true/\x.wd.length<=9223372036854775807/\InI x.lo/\InI x.hi
 len:=fun ⟨_,e,_⟩=>by rw [e]; rfl
 mono:=fun h _ _ _=>h
 plain:=fun ⟨_,e,h,_⟩=>by rw [e]; simp only [List.all_cons,List.all_nil,h]; rfl
structure Lk where
 Rule:Rl
 start:Tm
 day:Int
 deriving DecidableEq,Inhabited
end Go.Re
end
section
namespace Go.Proofs.YtdjfeninmbpflaaGreat
open Go Go.Wk Go.Wl Go.Rx Go.Re
def dDy:Rd Dy where
 sz:=3
 rd:=fun D w cs x=>∃ c0 c1 c2,cs=c0++(c1++(c2))/\y6.rd D w c0 x.Year/\y6.rd D w c1 x.Month/\y6.rd D w c2 x.Date
 len:=fun ⟨c0,c1,c2,e,h0,h1,h2⟩=>by rw [e]; simp only [List.length_append,Rd.len _ h0,Rd.len _ h1,Rd.len _ h2]; rfl
 mono:=fun ⟨c0,c1,c2,e,h0,h1,h2⟩ a b c=>⟨c0,c1,c2,e,Rd.mono _ h0 a b c,Rd.mono _ h1 a b c,Rd.mono _ h2 a b c⟩
 plain:=fun ⟨c0,c1,c2,e,h0,h1,h2⟩=>by rw [e]; simp only [List.all_append,Rd.plain _ h0,Rd.plain _ h1,Rd.plain _ h2]; rfl
def dTm:Rd Tm where
 sz:=8
 rd:=fun D w cs x=>∃ c0 c1 c2 c3 c4 c5,cs=c0++(c1++(c2++(c3++(c4++(c5)))))/\dDy.rd D w c0 x.Day/\y6.rd D w c1 x.Hour/\y6.rd D w c2 x.Min/\y6.rd D w c3 x.Sec/\a0z.rd D w c4 x.Bare/\a0z.rd D w c5 x.UTC
 len:=fun ⟨c0,c1,c2,c3,c4,c5,e,h0,h1,h2,h3,h4,h5⟩=>by rw [e]; simp only [List.length_append,Rd.len _ h0,Rd.len _ h1,Rd.len _ h2,Rd.len _ h3,Rd.len _ h4,Rd.len _ h5]; rfl
 mono:=fun ⟨c0,c1,c2,c3,c4,c5,e,h0,h1,h2,h3,h4,h5⟩ a b c=>⟨c0,c1,c2,c3,c4,c5,e,Rd.mono _ h0 a b c,Rd.mono _ h1 a b c,Rd.mono _ h2 a b c,Rd.mono _ h3 a b c,Rd.mono _ h4 a b c,Rd.mono _ h5 a b c⟩
 plain:=fun ⟨c0,c1,c2,c3,c4,c5,e,h0,h1,h2,h3,h4,h5⟩=>by rw [e]; simp only [List.all_append,Rd.plain _ h0,Rd.plain _ h1,Rd.plain _ h2,Rd.plain _ h3,Rd.plain _ h4,Rd.plain _ h5]; rfl
def dNt:Rd Nt where
 sz:=2
 rd:=fun D w cs x=>∃ c0 c1,cs=c0++(c1)/\y6.rd D w c0 x.N/\y6.rd D w c1 x.Day
 len:=fun ⟨c0,c1,e,h0,h1⟩=>by rw [e]; simp only [List.length_append,Rd.len _ h0,Rd.len _ h1]; rfl
 mono:=fun ⟨c0,c1,e,h0,h1⟩ a b c=>⟨c0,c1,e,Rd.mono _ h0 a b c,Rd.mono _ h1 a b c⟩
 plain:=fun ⟨c0,c1,e,h0,h1⟩=>by rw [e]; simp only [List.all_append,Rd.plain _ h0,Rd.plain _ h1]; rfl
def dRl:Rd Rl where
 sz:=14
 rd:=fun D w cs x=>∃ c0 c1 c2 c3 c4 c5 c6 c7 c8 c9 c10 c11 c12 c13,cs=c0++(c1++(c2++(c3++(c4++(c5++(c6++(c7++(c8++(c9++(c10++(c11++(c12++(c13)))))))))))))/\y6.rd D w c0 x.Freq/\y6.rd D w c1 x.Interval/\y6.rd D w c2 x.Count/\(s6 dTm).rd D w c3 x.Until/\(s6 y6).rd D w c4 x.Month/\(s6 y6).rd D w c5 x.WeekNo/\(s6 y6).rd D w c6 x.YearDay/\(s6 y6).rd D w c7 x.MonthDay/\(s6 dNt).rd D w c8 x.Days/\(s6 y6).rd D w c9 x.Hour/\(s6 y6).rd D w c10 x.Minute/\(s6 y6).rd D w c11 x.Second/\(s6 y6).rd D w c12 x.SetPos/\y6.rd D w c13 x.Wkst
 len:=fun ⟨c0,c1,c2,c3,c4,c5,c6,c7,c8,c9,c10,c11,c12,c13,e,h0,h1,h2,h3,h4,h5,h6,h7,h8,h9,h10,h11,h12,h13⟩=>by rw [e]; simp only [List.length_append,Rd.len _ h0,Rd.len _ h1,Rd.len _ h2,Rd.len _ h3,Rd.len _ h4,Rd.len _ h5,Rd.len _ h6,Rd.len _ h7,Rd.len _ h8,Rd.len _ h9,Rd.len _ h10,Rd.len _ h11,Rd.len _ h12,Rd.len _ h13]; rfl
 mono:=fun ⟨c0,c1,c2,c3,c4,c5,c6,c7,c8,c9,c10,c11,c12,c13,e,h0,h1,h2,h3,h4,h5,h6,h7,h8,h9,h10,h11,h12,h13⟩ a b c=>⟨c0,c1,c2,c3,c4,c5,c6,c7,c8,c9,c10,c11,c12,c13,e,Rd.mono _ h0 a b c,Rd.mono _ h1 a b c,Rd.mono _ h2 a b c,Rd.mono _ h3 a b c,Rd.mono _ h4 a b c,Rd.mono _ h5 a b c,Rd.mono _ h6 a b c,Rd.mono _ h7 a b c,Rd.mono _ h8 a b c,Rd.mono _ h9 a b c,Rd.mono _ h10 a b c,Rd.mono _ h11 a b c,Rd.mono _ h12 a b c,Rd.mono _ h13 a b c⟩
 plain:=fun ⟨c0,c1,c2,c3,c4,c5,c6,c7,c8,c9,c10,c11,c12,c13,e,h0,h1,h2,h3,h4,h5,h6,h7,h8,h9,h10,h11,h12,h13⟩=>by rw [e]; simp only [List.all_append,Rd.plain _ h0,Rd.plain _ h1,Rd.plain _ h2,Rd.plain _ h3,Rd.plain _ h4,Rd.plain _ h5,Rd.plain _ h6,Rd.plain _ h7,Rd.plain _ h8,Rd.plain _ h9,Rd.plain _ h10,Rd.plain _ h11,Rd.plain _ h12,Rd.plain _ h13]; rfl
def dLk:Rd Lk where
 sz:=23
 rd:=fun D w cs x=>∃ c0 c1 c2,cs=c0++(c1++(c2))/\dRl.rd D w c0 x.Rule/\dTm.rd D w c1 x.start/\y6.rd D w c2 x.day
 len:=fun ⟨c0,c1,c2,e,h0,h1,h2⟩=>by rw [e]; simp only [List.length_append,Rd.len _ h0,Rd.len _ h1,Rd.len _ h2]; rfl
 mono:=fun ⟨c0,c1,c2,e,h0,h1,h2⟩ a b c=>⟨c0,c1,c2,e,Rd.mono _ h0 a b c,Rd.mono _ h1 a b c,Rd.mono _ h2 a b c⟩
 plain:=fun ⟨c0,c1,c2,e,h0,h1,h2⟩=>by rw [e]; simp only [List.all_append,Rd.plain _ h0,Rd.plain _ h1,Rd.plain _ h2]; rfl
def e3k:Rd Unit where
 sz:=0
 rd:=fun _ _ _ _=>False
 len:=fun h=>h.elim
 mono:=fun h _ _ _=>h
 plain:=fun h=>h.elim
def e1o (_:Nat):Ob Unit where
 is:=fun _ _ _ _=>False
 stab:=fun Z Z' B w w' h _ _ _=>h
 lt:=fun h=>h.elim
def U:Uni where
 tb:=fun | 3=>⟨Int,y6,inferInstance⟩ | 4=>⟨Bool,a0z,inferInstance⟩ | 23=>⟨Dy,dDy,inferInstance⟩ | 25=>⟨Tm,dTm,inferInstance⟩ | 26=>⟨List Tm,(s6 dTm),inferInstance⟩ | 27=>⟨List Int,(s6 y6),inferInstance⟩ | 28=>⟨List Nt,(s6 dNt),inferInstance⟩ | 30=>⟨Rl,dRl,inferInstance⟩ | 60=>⟨Nt,dNt,inferInstance⟩ | 85=>⟨Lk,dLk,inferInstance⟩ | 101=>⟨Ls,dLs,inferInstance⟩ | _=>⟨Unit,e3k,⟨()⟩⟩
 oj:=fun | 0=>⟨ClX Tryz.prog,obY Tryz.prog⟩ | _=>⟨Unit,e1o⟩
def eT:J5:=⟨61,0,0,fun t=>bif Nat.beq t 87 then some 1 else none,fun _=>none⟩
theorem d9h {t k:Nat} (h:eT.wr t=some k):(t=87/\k=1):=by
 have h:(bif Nat.beq t 87 then some 1 else none)=some k:=h
 cases hb0:Nat.beq t 87 with
 | true=>rw [hb0,cond_true] at h; cases h; exact ⟨Nat.eq_of_beq_eq_true hb0,rfl⟩
 | false =>
  rw [hb0,cond_false] at h
  cases h
def y3:TyI U eT 3 where
 sv:=fun (x:Int)=>.int .i64 x
 bk:=G3
 sv_ok:=G0
 bk_ok:=d2a
 hy:=fun (x:Int)=>[b9 x]
 hy_ok:=fun {_ _ _ x} h p hp=>by
  have h:y6.rd _ _ _ x:=h
  simp only [List.mem_singleton] at hp; subst hp; exact h.2
def y4:TyI U eT 4 where
 sv:=fun (x:Bool)=>blB x
 bk:=asB
 sv_ok:=fun {_ _ _ _ x} h=>a9h (x:=x) h
 bk_ok:=c8x
def d2l (ls:List (SV U)):Option Dy :=
 (pb G3 (ls.take 1)).bind fun x0 =>
 (pb G3 ((ls.drop 1).take 1)).bind fun x1 =>
 (pb G3 (((ls.drop 1).drop 1))).bind fun x2 =>
 some ⟨x0,x1,x2⟩
theorem e3m {ρ:n8} {Z:Nat->Prop} {w:World} {cs:List Value} {ls:List (SV U)} {x:Dy} (h:i7 U eT ρ Z w cs ls) (e:d2l ls=some x):dDy.rd Z w cs x:=by
 unfold d2l at e
 obtain ⟨x0,e0,e⟩:=Option.bind_eq_some_iff.1 e
 obtain ⟨x1,e1,e⟩:=Option.bind_eq_some_iff.1 e
 obtain ⟨x2,e2,e⟩:=Option.bind_eq_some_iff.1 e
 cases e
 have g1:=i7.split 1 h
 have g2:=i7.split 1 g1.2
 exact ⟨(cs.take 1),((cs.drop 1).take 1),((cs.drop 1).drop 1),by simp only [List.take_append_drop],H9 g1.1 e0,H9 g2.1 e1,H9 g2.2 e2⟩
def y23:TyI U eT 23 where
 sv:=fun (x:Dy)=>.agg ([.int .i64 x.Year]++([.int .i64 x.Month]++([.int .i64 x.Date])))
 bk:=fun s=>d2l (leaves s)
 sv_ok:=fun {ρ Z w cs x} h=>by
  obtain ⟨c0,c1,c2,e,h0,h1,h2⟩:=(show dDy.rd Z w cs x from h)
  subst e
  exact i7.app (G0 h0) (i7.app (G0 h1) (G0 h2))
 bk_ok:=e3m
 hy:=fun (x:Dy)=>[b9 x.Year]++[b9 x.Month]++[b9 x.Date]
 hy_ok:=fun {Z w cs x} h p hp=>by
  obtain ⟨c0,c1,c2,e,h0,h1,h2⟩:=(show dDy.rd Z w cs x from h)
  rcases List.mem_append.1 hp with hp | hp
  . rcases List.mem_append.1 hp with hp | hp
    . · simp only [List.mem_singleton] at hp; subst hp; exact h0.2
    . simp only [List.mem_singleton] at hp; subst hp; exact h1.2
  . simp only [List.mem_singleton] at hp; subst hp; exact h2.2
def d9e (ls:List (SV U)):Option Tm :=
 (y23.bk (.agg (ls.take 3))).bind fun x0 =>
 (pb G3 ((ls.drop 3).take 1)).bind fun x1 =>
 (pb G3 (((ls.drop 3).drop 1).take 1)).bind fun x2 =>
 (pb G3 ((((ls.drop 3).drop 1).drop 1).take 1)).bind fun x3 =>
 (pb asB (((((ls.drop 3).drop 1).drop 1).drop 1).take 1)).bind fun x4 =>
 (pb asB ((((((ls.drop 3).drop 1).drop 1).drop 1).drop 1))).bind fun x5 =>
 some ⟨x0,x1,x2,x3,x4,x5⟩
theorem e42 {ρ:n8} {Z:Nat->Prop} {w:World} {cs:List Value} {ls:List (SV U)} {x:Tm} (h:i7 U eT ρ Z w cs ls) (e:d9e ls=some x):dTm.rd Z w cs x:=by
 unfold d9e at e
 obtain ⟨x0,e0,e⟩:=Option.bind_eq_some_iff.1 e
 obtain ⟨x1,e1,e⟩:=Option.bind_eq_some_iff.1 e
 obtain ⟨x2,e2,e⟩:=Option.bind_eq_some_iff.1 e
 obtain ⟨x3,e3,e⟩:=Option.bind_eq_some_iff.1 e
 obtain ⟨x4,e4,e⟩:=Option.bind_eq_some_iff.1 e
 obtain ⟨x5,e5,e⟩:=Option.bind_eq_some_iff.1 e
 cases e
 have g1:=i7.split 3 h
 have g2:=i7.split 1 g1.2
 have g3:=i7.split 1 g2.2
 have g4:=i7.split 1 g3.2
 have g5:=i7.split 1 g4.2
 exact ⟨(cs.take 3),((cs.drop 3).take 1),(((cs.drop 3).drop 1).take 1),((((cs.drop 3).drop 1).drop 1).take 1),(((((cs.drop 3).drop 1).drop 1).drop 1).take 1),(((((cs.drop 3).drop 1).drop 1).drop 1).drop 1),by simp only [List.take_append_drop],y23.bk_ok (s:=.agg _) g1.1 e0,H9 g2.1 e1,H9 g3.1 e2,H9 g4.1 e3,b73 g5.1 e4,b73 g5.2 e5⟩
def y25:TyI U eT 25 where
 sv:=fun (x:Tm)=>.agg (leaves (y23.sv x.Day)++([.int .i64 x.Hour]++([.int .i64 x.Min]++([.int .i64 x.Sec]++([blB x.Bare]++([blB x.UTC]))))))
 bk:=fun s=>d9e (leaves s)
 sv_ok:=fun {ρ Z w cs x} h=>by
  obtain ⟨c0,c1,c2,c3,c4,c5,e,h0,h1,h2,h3,h4,h5⟩:=(show dTm.rd Z w cs x from h)
  subst e
  exact i7.app (y23.sv_ok h0) (i7.app (G0 h1) (i7.app (G0 h2) (i7.app (G0 h3) (i7.app (a9h h4) (a9h h5)))))
 bk_ok:=e42
 hy:=fun (x:Tm)=>y23.hy x.Day++[b9 x.Hour]++[b9 x.Min]++[b9 x.Sec]
 hy_ok:=fun {Z w cs x} h p hp=>by
  obtain ⟨c0,c1,c2,c3,c4,c5,e,h0,h1,h2,h3,h4,h5⟩:=(show dTm.rd Z w cs x from h)
  rcases List.mem_append.1 hp with hp | hp
  . rcases List.mem_append.1 hp with hp | hp
    . rcases List.mem_append.1 hp with hp | hp
      . · exact y23.hy_ok h0 p hp
      . simp only [List.mem_singleton] at hp; subst hp; exact h1.2
    . simp only [List.mem_singleton] at hp; subst hp; exact h2.2
  . simp only [List.mem_singleton] at hp; subst hp; exact h3.2
def y26:TyI U eT 26 where
 sv:=fun (x:List Tm)=>.sl 25 x
 bk:=fun s=>pb (T5 U 25) (leaves s)
 sv_ok:=Q3 (N:=U) (t:=25)
 bk_ok:=P2 (N:=U) (t:=25)
def y27:TyI U eT 27 where
 sv:=fun (x:List Int)=>.sl 3 x
 bk:=fun s=>pb (T5 U 3) (leaves s)
 sv_ok:=Q3 (N:=U) (t:=3)
 bk_ok:=P2 (N:=U) (t:=3)
def y28:TyI U eT 28 where
 sv:=fun (x:List Nt)=>.sl 60 x
 bk:=fun s=>pb (T5 U 60) (leaves s)
 sv_ok:=Q3 (N:=U) (t:=60)
 bk_ok:=P2 (N:=U) (t:=60)
def d8l (ls:List (SV U)):Option Rl :=
 (pb G3 (ls.take 1)).bind fun x0 =>
 (pb G3 ((ls.drop 1).take 1)).bind fun x1 =>
 (pb G3 (((ls.drop 1).drop 1).take 1)).bind fun x2 =>
 (pb (T5 U 25) ((((ls.drop 1).drop 1).drop 1).take 1)).bind fun x3 =>
 (pb (T5 U 3) (((((ls.drop 1).drop 1).drop 1).drop 1).take 1)).bind fun x4 =>
 (pb (T5 U 3) ((((((ls.drop 1).drop 1).drop 1).drop 1).drop 1).take 1)).bind fun x5 =>
 (pb (T5 U 3) (((((((ls.drop 1).drop 1).drop 1).drop 1).drop 1).drop 1).take 1)).bind fun x6 =>
 (pb (T5 U 3) ((((((((ls.drop 1).drop 1).drop 1).drop 1).drop 1).drop 1).drop 1).take 1)).bind fun x7 =>
 (pb (T5 U 60) (((((((((ls.drop 1).drop 1).drop 1).drop 1).drop 1).drop 1).drop 1).drop 1).take 1)).bind fun x8 =>
 (pb (T5 U 3) ((((((((((ls.drop 1).drop 1).drop 1).drop 1).drop 1).drop 1).drop 1).drop 1).drop 1).take 1)).bind fun x9 =>
 (pb (T5 U 3) (((((((((((ls.drop 1).drop 1).drop 1).drop 1).drop 1).drop 1).drop 1).drop 1).drop 1).drop 1).take 1)).bind fun x10 =>
 (pb (T5 U 3) ((((((((((((ls.drop 1).drop 1).drop 1).drop 1).drop 1).drop 1).drop 1).drop 1).drop 1).drop 1).drop 1).take 1)).bind fun x11 =>
 (pb (T5 U 3) (((((((((((((ls.drop 1).drop 1).drop 1).drop 1).drop 1).drop 1).drop 1).drop 1).drop 1).drop 1).drop 1).drop 1).take 1)).bind fun x12 =>
 (pb G3 ((((((((((((((ls.drop 1).drop 1).drop 1).drop 1).drop 1).drop 1).drop 1).drop 1).drop 1).drop 1).drop 1).drop 1).drop 1))).bind fun x13 =>
 some ⟨x0,x1,x2,x3,x4,x5,x6,x7,x8,x9,x10,x11,x12,x13⟩
theorem e3t {ρ:n8} {Z:Nat->Prop} {w:World} {cs:List Value} {ls:List (SV U)} {x:Rl} (h:i7 U eT ρ Z w cs ls) (e:d8l ls=some x):dRl.rd Z w cs x:=by
 unfold d8l at e
 obtain ⟨x0,e0,e⟩:=Option.bind_eq_some_iff.1 e
 obtain ⟨x1,e1,e⟩:=Option.bind_eq_some_iff.1 e
 obtain ⟨x2,e2,e⟩:=Option.bind_eq_some_iff.1 e
 obtain ⟨x3,e3,e⟩:=Option.bind_eq_some_iff.1 e
 obtain ⟨x4,e4,e⟩:=Option.bind_eq_some_iff.1 e
 obtain ⟨x5,e5,e⟩:=Option.bind_eq_some_iff.1 e
 obtain ⟨x6,e6,e⟩:=Option.bind_eq_some_iff.1 e
 obtain ⟨x7,e7,e⟩:=Option.bind_eq_some_iff.1 e
 obtain ⟨x8,e8,e⟩:=Option.bind_eq_some_iff.1 e
 obtain ⟨x9,e9,e⟩:=Option.bind_eq_some_iff.1 e
 obtain ⟨x10,e10,e⟩:=Option.bind_eq_some_iff.1 e
 obtain ⟨x11,e11,e⟩:=Option.bind_eq_some_iff.1 e
 obtain ⟨x12,e12,e⟩:=Option.bind_eq_some_iff.1 e
 obtain ⟨x13,e13,e⟩:=Option.bind_eq_some_iff.1 e
 cases e
 have g1:=i7.split 1 h
 have g2:=i7.split 1 g1.2
 have g3:=i7.split 1 g2.2
 have g4:=i7.split 1 g3.2
 have g5:=i7.split 1 g4.2
 have g6:=i7.split 1 g5.2
 have g7:=i7.split 1 g6.2
 have g8:=i7.split 1 g7.2
 have g9:=i7.split 1 g8.2
 have g10:=i7.split 1 g9.2
 have g11:=i7.split 1 g10.2
 have g12:=i7.split 1 g11.2
 have g13:=i7.split 1 g12.2
 exact ⟨(cs.take 1),((cs.drop 1).take 1),(((cs.drop 1).drop 1).take 1),((((cs.drop 1).drop 1).drop 1).take 1),(((((cs.drop 1).drop 1).drop 1).drop 1).take 1),((((((cs.drop 1).drop 1).drop 1).drop 1).drop 1).take 1),(((((((cs.drop 1).drop 1).drop 1).drop 1).drop 1).drop 1).take 1),((((((((cs.drop 1).drop 1).drop 1).drop 1).drop 1).drop 1).drop 1).take 1),(((((((((cs.drop 1).drop 1).drop 1).drop 1).drop 1).drop 1).drop 1).drop 1).take 1),((((((((((cs.drop 1).drop 1).drop 1).drop 1).drop 1).drop 1).drop 1).drop 1).drop 1).take 1),(((((((((((cs.drop 1).drop 1).drop 1).drop 1).drop 1).drop 1).drop 1).drop 1).drop 1).drop 1).take 1),((((((((((((cs.drop 1).drop 1).drop 1).drop 1).drop 1).drop 1).drop 1).drop 1).drop 1).drop 1).drop 1).take 1),(((((((((((((cs.drop 1).drop 1).drop 1).drop 1).drop 1).drop 1).drop 1).drop 1).drop 1).drop 1).drop 1).drop 1).take 1),(((((((((((((cs.drop 1).drop 1).drop 1).drop 1).drop 1).drop 1).drop 1).drop 1).drop 1).drop 1).drop 1).drop 1).drop 1),by simp only [List.take_append_drop],H9 g1.1 e0,H9 g2.1 e1,H9 g3.1 e2,P2 (N:=U) (t:=25) g4.1 e3,P2 (N:=U) (t:=3) g5.1 e4,P2 (N:=U) (t:=3) g6.1 e5,P2 (N:=U) (t:=3) g7.1 e6,P2 (N:=U) (t:=3) g8.1 e7,P2 (N:=U) (t:=60) g9.1 e8,P2 (N:=U) (t:=3) g10.1 e9,P2 (N:=U) (t:=3) g11.1 e10,P2 (N:=U) (t:=3) g12.1 e11,P2 (N:=U) (t:=3) g13.1 e12,H9 g13.2 e13⟩
def y30:TyI U eT 30 where
 sv:=fun (x:Rl)=>.agg ([.int .i64 x.Freq]++([.int .i64 x.Interval]++([.int .i64 x.Count]++([.sl 25 x.Until]++([.sl 3 x.Month]++([.sl 3 x.WeekNo]++([.sl 3 x.YearDay]++([.sl 3 x.MonthDay]++([.sl 60 x.Days]++([.sl 3 x.Hour]++([.sl 3 x.Minute]++([.sl 3 x.Second]++([.sl 3 x.SetPos]++([.int .i64 x.Wkst]))))))))))))))
 bk:=fun s=>d8l (leaves s)
 sv_ok:=fun {ρ Z w cs x} h=>by
  obtain ⟨c0,c1,c2,c3,c4,c5,c6,c7,c8,c9,c10,c11,c12,c13,e,h0,h1,h2,h3,h4,h5,h6,h7,h8,h9,h10,h11,h12,h13⟩:=(show dRl.rd Z w cs x from h)
  subst e
  exact i7.app (G0 h0) (i7.app (G0 h1) (i7.app (G0 h2) (i7.app (Q3 (N:=U) (t:=25) h3) (i7.app (Q3 (N:=U) (t:=3) h4) (i7.app (Q3 (N:=U) (t:=3) h5) (i7.app (Q3 (N:=U) (t:=3) h6) (i7.app (Q3 (N:=U) (t:=3) h7) (i7.app (Q3 (N:=U) (t:=60) h8) (i7.app (Q3 (N:=U) (t:=3) h9) (i7.app (Q3 (N:=U) (t:=3) h10) (i7.app (Q3 (N:=U) (t:=3) h11) (i7.app (Q3 (N:=U) (t:=3) h12) (G0 h13)))))))))))))
 bk_ok:=e3t
 hy:=fun (x:Rl)=>[b9 x.Freq]++[b9 x.Interval]++[b9 x.Count]++[b9 x.Wkst]
 hy_ok:=fun {Z w cs x} h p hp=>by
  obtain ⟨c0,c1,c2,c3,c4,c5,c6,c7,c8,c9,c10,c11,c12,c13,e,h0,h1,h2,h3,h4,h5,h6,h7,h8,h9,h10,h11,h12,h13⟩:=(show dRl.rd Z w cs x from h)
  rcases List.mem_append.1 hp with hp | hp
  . rcases List.mem_append.1 hp with hp | hp
    . rcases List.mem_append.1 hp with hp | hp
      . · simp only [List.mem_singleton] at hp; subst hp; exact h0.2
      . simp only [List.mem_singleton] at hp; subst hp; exact h1.2
    . simp only [List.mem_singleton] at hp; subst hp; exact h2.2
  . simp only [List.mem_singleton] at hp; subst hp; exact h13.2
def e0k (ls:List (SV U)):Option Nt :=
 (pb G3 (ls.take 1)).bind fun x0 =>
 (pb G3 ((ls.drop 1))).bind fun x1 =>
 some ⟨x0,x1⟩
theorem e4i {ρ:n8} {Z:Nat->Prop} {w:World} {cs:List Value} {ls:List (SV U)} {x:Nt} (h:i7 U eT ρ Z w cs ls) (e:e0k ls=some x):dNt.rd Z w cs x:=by
 unfold e0k at e
 obtain ⟨x0,e0,e⟩:=Option.bind_eq_some_iff.1 e
 obtain ⟨x1,e1,e⟩:=Option.bind_eq_some_iff.1 e
 cases e
 have g1:=i7.split 1 h
 exact ⟨(cs.take 1),(cs.drop 1),by simp only [List.take_append_drop],H9 g1.1 e0,H9 g1.2 e1⟩
def y60:TyI U eT 60 where
 sv:=fun (x:Nt)=>.agg ([.int .i64 x.N]++([.int .i64 x.Day]))
 bk:=fun s=>e0k (leaves s)
 sv_ok:=fun {ρ Z w cs x} h=>by
  obtain ⟨c0,c1,e,h0,h1⟩:=(show dNt.rd Z w cs x from h)
  subst e
  exact i7.app (G0 h0) (G0 h1)
 bk_ok:=e4i
 hy:=fun (x:Nt)=>[b9 x.N]++[b9 x.Day]
 hy_ok:=fun {Z w cs x} h p hp=>by
  obtain ⟨c0,c1,e,h0,h1⟩:=(show dNt.rd Z w cs x from h)
  rcases List.mem_append.1 hp with hp | hp
  . · simp only [List.mem_singleton] at hp; subst hp; exact h0.2
  . simp only [List.mem_singleton] at hp; subst hp; exact h1.2
def e0x (ls:List (SV U)):Option Lk :=
 (y30.bk (.agg (ls.take 14))).bind fun x0 =>
 (y25.bk (.agg ((ls.drop 14).take 8))).bind fun x1 =>
 (pb G3 (((ls.drop 14).drop 8))).bind fun x2 =>
 some ⟨x0,x1,x2⟩
theorem e3s {ρ:n8} {Z:Nat->Prop} {w:World} {cs:List Value} {ls:List (SV U)} {x:Lk} (h:i7 U eT ρ Z w cs ls) (e:e0x ls=some x):dLk.rd Z w cs x:=by
 unfold e0x at e
 obtain ⟨x0,e0,e⟩:=Option.bind_eq_some_iff.1 e
 obtain ⟨x1,e1,e⟩:=Option.bind_eq_some_iff.1 e
 obtain ⟨x2,e2,e⟩:=Option.bind_eq_some_iff.1 e
 cases e
 have g1:=i7.split 14 h
 have g2:=i7.split 8 g1.2
 exact ⟨(cs.take 14),((cs.drop 14).take 8),((cs.drop 14).drop 8),by simp only [List.take_append_drop],y30.bk_ok (s:=.agg _) g1.1 e0,y25.bk_ok (s:=.agg _) g2.1 e1,H9 g2.2 e2⟩
def y85:TyI U eT 85 where
 sv:=fun (x:Lk)=>.agg (leaves (y30.sv x.Rule)++(leaves (y25.sv x.start)++([.int .i64 x.day])))
 bk:=fun s=>e0x (leaves s)
 sv_ok:=fun {ρ Z w cs x} h=>by
  obtain ⟨c0,c1,c2,e,h0,h1,h2⟩:=(show dLk.rd Z w cs x from h)
  subst e
  exact i7.app (y30.sv_ok h0) (i7.app (y25.sv_ok h1) (G0 h2))
 bk_ok:=e3s
def e4v:TyI U eT 101 where
 sv:=fun (x:Ls)=>.agg [.str x.wd,.un,.int .i64 x.lo,.int .i64 x.hi,blB x.both]
 bk:=fun _=>none
 sv_ok:=fun {_ _ _ _ x} h=>by
  have h:dLs.rd _ _ _ x:=h
  obtain ⟨c,rfl,hp,h1,h2,h3⟩:=h
  exact i7.cons (.str h1) rfl (i7.cons .un hp (i7.cons (.int fun _=>h2) rfl (i7.cons (.int fun _=>h3) rfl (i7.cons ClX.bl rfl i7.nil))))
 bk_ok:=fun _ h=>by cases h
def tyU:∀ t,Option (TyI U eT t)
 | 3=>some y3
 | 4=>some y4
 | 23=>some y23
 | 25=>some y25
 | 26=>some y26
 | 27=>some y27
 | 28=>some y28
 | 30=>some y30
 | 60=>some y60
 | 85=>some y85
 | 101=>some e4v
 | _=>none
end Go.Proofs.YtdjfeninmbpflaaGreat
end
