/- 34 texts, one behind the other. -/
import Derived.Test.YtapnoejokajcoaaGreatDoorW2
import Derived.Test.YtapnoejokajcoaaGreatDoorW1
import Derived.Lib.FrozenHead
import Derived.Lib.UnsafeStr
import GoSem.Claim
import Derived.Test.YtapnoejokajcoaaGreatDoorChecked
set_option linter.defProp false
set_option linter.unusedVariables false
set_option linter.unusedSimpArgs false
set_option maxRecDepth 100000
noncomputable section
def d5E:=@Bool.not_eq_true
def d5H:=@List.pairwise_iff_getElem
def d5M:=@decide_eq_true_iff
def d5P:=@List.mem_cons_self
def d5Q:=@of_decide_eq_true
def d5T:=@List.getElem?_of_mem
def d5o:=@Int.le_refl
def d5v:=@List.mem_cons_of_mem
def d6A:=@List.mem_map
def d6C:=@List.cons_append
def d6O:=@List.pairwise_append
def d6X:=@List.pairwise_singleton
def d7I:=@List.filter_eq_self
def d7Q:=@List.elem_eq_true_of_mem
def d7R:=@Prod.ext
def d7T:=@List.Perm.refl
def d7d:=@Int.lt_trichotomy
def d7i:=@of_decide_eq_false
def d8C:=@Bool.false_or
def d8M:=@List.mem_flatMap
def d8N:=@List.isEmpty_iff
def d8O:=@Nat.sub_self
def d8P:=@List.append_cons
def d8f:=@List.filter_cons
def d8n:=@List.nodup_cons
namespace Go.Rx
open Go Go.Wk Go.Wl
section
variable{E:Env}{C:Ctx}{f:Fr}{w:World}
variable{ρb ρ ρ2 ρ3:p4}{Z Zb:Nat->Prop}{wb:World}{its lkd:c7 E.N}{nx:Nat}{fx fx':n5 E.N}{st st':E.St}
def a92(ks:List VK)(vs:List E.SV):((ks.zip vs).filterMap c7F)=(ks.zip vs).flatMap fun p=>X5 p.1 p.2:=by
 induction ks generalizing vs with
 |nil=>rfl
 |cons k ks ih =>
  cases vs with
  |nil=>rfl
  |cons v vs =>
   rw[List.zip_cons_cons,d7l,<- ih vs];cases k with
   |acc t=>cases v <;> rfl
   |_=>cases v <;> rfl
def rbCells_ok{α:Type}(hm:Mem E C ρ Z w (its++lkd) nx):∀(ks:List VK)(vs:List E.SV)(cs:List Value)(g:I9 E.N α ks)(a:α)(n2:Nat)(new:c7 E.N)(acc:List E.SV)(ac:List Value)(ρ2:p4) (os:List (Option Nat)),
  e8 E.N E.T ρ Z w cs vs->G7 E its ks vs g=some a->(∀i,n2<=i->ρ2 i=none)->V4 E C.B0 ρ Z w its ρ2 os new->e8 E.N E.T ρ2 Z w ac acc ->
  ∃ρ3 os' n3 new' cells',V4 E C.B0 ρ Z w its ρ3 os' new'/\(∀i,n3<=i->ρ3 i=none)/\(∀i L,ρ2 i=some L->ρ3 i=some L)/\e8 E.N E.T ρ3 Z w (ac++cs) cells'/\(os'.filterMap id).Perm (((ks.zip vs).flatMap fun p=>X5 p.1 p.2)++os.filterMap id)/\∀K,a4u E ks n2 new acc g K->K a n3 new' cells'
 |[],vs,cs,g,a,n2,new,acc,ac,ρ2,os,hr,h,hfr,ht,hac=>by
  cases vs with
  |nil =>
   cases h;obtain rfl:=e8.A1 hr;exact⟨ρ2,os,n2,new,acc,ht,hfr,fun _ _ h=>h,by simp_all,d7T _,fun K h=>h⟩
  |cons v vs=>cases h
 |k::ks,vs,cs,g,a,n2,new,acc,ac,ρ2,os,hr,h,hfr,ht,hac=>by
  cases vs with
  |nil=>cases h
  |cons v vs =>
   obtain⟨u,r,rfl,hu,hp,hr⟩:=e8.cons_inv hr;simp only[G7]at h;split at h
   . rename_i x hx;obtain⟨ρ3,os1,t1,f1,s1,r1,o1⟩:=rb1_ok hm hu hx hfr ht;have hac1:e8 E.N E.T ρ3 Z w (ac++[u]) (acc++[(fl1 E n2 k x).1]):=e8.app (e7.sub hac s1) (e7.R8 r1 hp e7.a1P);obtain⟨ρ4,os2,n4,new4,cells4,t2,f2,s2,r2,o2,k2⟩:=rbCells_ok hm ks vs r (g x) a _ _ _ _ ρ3 os1 hr h f1 t1 hac1;refine⟨ρ4,os2,n4,new4,cells4,t2,f2,G5 s1 s2,by simp_all,?_,fun K hK=>k2 K (hK x)⟩;rw[List.zip_cons_cons,d7l];grind
   . cases h
def b2J{cs:List Value}{cells:List E.SV}{n:Nat}(h:e8 E.N E.T ρ Z w cs cells)(hn:cells.length=n+1):∃c0 v,cs=c0++[v]/\e8 E.N E.T ρ Z w c0 (cells.take n)/\e7 E.N E.T ρ Z w v (a9o cells)/\D7 v=true/\c0.length=n:=by
 induction n generalizing cs cells with
 |zero =>
  match cells,hn with
  |[s],_ =>
   obtain⟨v,r,rfl,h1,hp,hr⟩:=e8.cons_inv h;obtain rfl:=e8.A1 hr;exact⟨[],v,rfl,e8.nil,h1,hp,rfl⟩
 |succ n ih =>
  match cells,hn with
  |s::t::r,hn =>
   obtain⟨v,c,rfl,h1,hp,hr⟩:=e8.cons_inv h;obtain⟨c0,u,rfl,g1,g2,g3,g4⟩:=ih hr (by simp_all);exact⟨v::c0,u,rfl,e8.cons h1 hp g1,g2,g3,by simp[g4]⟩
def rbCh_ok{T:Nat}{ks:List VK}{α:Type}(hm:Mem E C ρ Z w (its++lkd) nx):∀(n:Nat)(v:Value)(sv:E.SV)(g:chD E.N α ks n)(a:α)(n2:Nat)(new:c7 E.N)(ρ2:p4) (os:List (Option Nat)),
  e7 E.N E.T ρ Z w v sv->c2V E its T ks n sv g=some a->(∀i,n2<=i->ρ2 i=none)->V4 E C.B0 ρ Z w its ρ2 os new ->
  ∃ρ3 os' n3 new' sv',V4 E C.B0 ρ Z w its ρ3 os' new'/\(∀i,n3<=i->ρ3 i=none)/\(∀i L,ρ2 i=some L->ρ3 i=some L)/\e7 E.N E.T ρ3 Z w v sv'/\D7 v=true/\(os'.filterMap id).Perm (b2W its ks n sv++os.filterMap id)/\∀K,c4Z E T ks n n2 new g K->K a n3 new' sv'
 |0,v,sv,g,a,n2,new,ρ2,os,hr,h,hfr,ht=>by
  unfold c2V at h;split at h
  . split at h
    . split at h
      . cases h;cases hr;exact⟨ρ2,os,n2,new,_,ht,hfr,fun _ _ h=>h,.M5 rfl,rfl,d7T _,fun K h=>h⟩
      . cases h
    . cases h
  . cases h
 |n+1,v,sv,g,a,n2,new,ρ2,os,hr,h,hfr,ht=>by
  unfold c2V at h;split at h
  . rename_i id off;have⟨ho0,hh⟩:=j3 h;clear h;have h:=hh;clear hh;have ho0:=d4W ho0;subst ho0;split at h
    . rename_i T' cells hi;have⟨hb,hh⟩:=j3 h;clear h;have h:=hh;clear hh;obtain⟨hb1,hb2⟩:=(d4U _ _).mp hb;have hb1:=d4W hb1;have hb2:=d4W hb2;subst hb1;split at h
      . rename_i g1 hc;obtain⟨j,hj,_⟩:=x8 hi;obtain⟨L,cs,hL,hbs,ho,hrep⟩:=hm.holds (p5 (l2:=lkd) hj);have hL:ρ id=some L:=hL;cases hr with
        |ref hL' =>
         rw[hL]at hL';cases hL';obtain⟨c0,u,rfl,k1,k2,k3,k4⟩:=b2J hrep hb2;have s0:=F6 (L:=L) (hfr n2 (d5m _));obtain⟨ρ3,os1,n3,new3,cells3,t1,f1,s1,r1,o1,q1⟩:=rbCells_ok hm ks (cells.take ks.length) c0 g g1 (n2+1) new [] [] (I6 ρ2 n2 L) os k1 hc (fun i hi=>by unfold I6;grind) (ht.mono s0) e8.nil;obtain⟨ρ4,os2,n4,new4,sv4,t2,f2,s2,r2,p2,o2,q2⟩:=rbCh_ok hm n u (a9o cells) g1 a n3 new3 ρ3 os1 k2 h f1 t1;have hL4:ρ4 n2=some L:=s2 _ _ (s1 _ _ j8);have r1':e8 E.N E.T ρ3 Z w c0 cells3:=by simpa using r1
         refine⟨ρ4,some id::os2,n4,(n2,.own T' (cells3++[sv4]))::new4,.ref n2 0,.cons ⟨_,hi,⟨L,c0++[u],hL4,hbs,ho,e8.app (e7.sub r1' s2) (e8.cons r2 p2 e8.nil)⟩,fun b hb=>by rw[u6 hL4]at hb;rw[u6 hL];exact hb⟩ t2,f2,G5 s0 (G5 s1 s2),.ref hL4,rfl,?_,fun K hK=>q2 _ (q1 _ hK)⟩;have e:b2W its ks (n+1) (.ref id 0)=id::(((ks.zip (cells.take ks.length)).flatMap fun p=>X5 p.1 p.2)++b2W its ks n (a9o cells)):=by
          rw[<- a92]
          conv=>lhs;unfold b2W
          simp only[hi]
         grind
      . cases h
    . cases h
  . cases h
def rbTc_ok{α:Type}{nm ids:List Nat}(hm:Mem E C ρ Z w (its++lkd) nx):∀(ks:List TK)(vs:List E.SV)(cs:List Value)(g:tcD E.N α ks)(a:α)(n2:Nat)(new:c7 E.N)(acc:List E.SV)(ac:List Value)(ρ2:p4) (os:List (Option Nat)),
  e8 E.N E.T ρ Z w cs vs->a8D E its ids ks vs g=some a->(∀i,n2<=i->ρ2 i=none)->V4 E C.B0 ρ Z w its ρ2 os new->e8 E.N E.T ρ2 Z w ac acc->(∀j id,a38 ids j id=true->∃L,ρ id=some L/\ρ2 (nm.getD j 0)=some L) ->
  ∃ρ3 os' n3 new' cells',V4 E C.B0 ρ Z w its ρ3 os' new'/\(∀i,n3<=i->ρ3 i=none)/\(∀i L,ρ2 i=some L->ρ3 i=some L)/\e8 E.N E.T ρ3 Z w (ac++cs) cells'/\(os'.filterMap id).Perm (a4c ks vs++os.filterMap id)/\∀K,a4h E nm ks n2 new acc g K->K a n3 new' cells'
 |[],vs,cs,g,a,n2,new,acc,ac,ρ2,os,hr,h,hfr,ht,hac,_=>by
  cases vs with
  |nil =>
   cases h;obtain rfl:=e8.A1 hr;exact⟨ρ2,os,n2,new,acc,ht,hfr,fun _ _ h=>h,by simp_all,d7T _,fun K h=>h⟩
  |cons v vs=>cases h
 |.v k::ks,vs,cs,g,a,n2,new,acc,ac,ρ2,os,hr,h,hfr,ht,hac,hH=>by
  cases vs with
  |nil=>cases h
  |cons v vs =>
   obtain⟨u,r,rfl,hu,hp,hq⟩:=e8.cons_inv hr;simp only[a8D]at h;split at h
   . rename_i x hx;obtain⟨ρ3,os1,t1,f1,s1,r1,o1⟩:=rb1_ok hm hu hx hfr ht;have hac1:e8 E.N E.T ρ3 Z w (ac++[u]) (acc++[(fl1 E n2 k x).1]):=e8.app (e7.sub hac s1) (e7.R8 r1 hp e7.a1P);obtain⟨ρ4,os2,n4,new4,cells4,t2,f2,s2,r2,o2,k2⟩:=rbTc_ok hm ks vs r (g x) a _ _ _ _ ρ3 os1 hq h f1 t1 hac1 (fun j id hj=>by obtain⟨L,e1,e2⟩:=hH j id hj;exact⟨L,e1,s1 _ _ e2⟩);refine⟨ρ4,os2,n4,new4,cells4,t2,f2,G5 s1 s2,by simp_all,?_,fun K hK=>k2 K (hK x)⟩;refine o2.trans ?_;show(a4c ks vs++os1.filterMap id).Perm ((X5 k v++a4c ks vs)++os.filterMap id)
     grind
   . cases h
 |.to j::ks,vs,cs,g,a,n2,new,acc,ac,ρ2,os,hr,h,hfr,ht,hac,hH=>by
  cases vs with
  |nil=>cases h
  |cons v vs =>
   obtain⟨u,r,rfl,hu,hp,hq⟩:=e8.cons_inv hr;simp only[a8D]at h;split at h
   . rename_i id off;have⟨hb,h2⟩:=j3 h;clear h;obtain⟨hb1,hb2⟩:=(d4U _ _).mp hb;have hb1:=d4W hb1;subst hb1;obtain⟨L,e1,e2⟩:=hH j id hb2;have hru:e7 E.N E.T ρ2 Z w u (.ref (nm.getD j 0) 0):=by
      cases hu with
      |ref hL=>rw[e1]at hL;cases hL;exact .ref e2
     obtain⟨ρ4,os2,n4,new4,cells4,t2,f2,s2,r2,o2,k2⟩:=rbTc_ok hm ks vs r g a n2 new _ _ ρ2 os hq h2 hfr ht (e8.app hac (e7.R8 hru hp e7.a1P)) hH;exact⟨ρ4,os2,n4,new4,cells4,t2,f2,s2,by simp_all,o2,fun K hK=>k2 K hK⟩
   . cases h
 |.a0n::ks,vs,cs,g,a,n2,new,acc,ac,ρ2,os,hr,h,hfr,ht,hac,hH=>by
  cases vs with
  |nil=>cases h
  |cons v vs =>
   obtain⟨u,r,rfl,hu,hp,hq⟩:=e8.cons_inv hr;simp only[a8D]at h;have⟨hb,h2⟩:=j3 h;clear h;have hru:e7 E.N E.T ρ2 Z w u (.M5 (.pointer none)):=by
    unfold b8X at hb;split at hb
    . split at hb
      . rename_i p;cases p with
        |none=>cases hu;exact .M5 rfl
        |some p=>cases hb
      . cases hb
    . cases hb
   obtain⟨ρ4,os2,n4,new4,cells4,t2,f2,s2,r2,o2,k2⟩:=rbTc_ok hm ks vs r g a n2 new _ _ ρ2 os hq h2 hfr ht (e8.app hac (e7.R8 hru hp e7.a1P)) hH;exact⟨ρ4,os2,n4,new4,cells4,t2,f2,s2,by simp_all,o2,fun K hK=>k2 K hK⟩
 |.any::ks,vs,cs,g,a,n2,new,acc,ac,ρ2,os,hr,h,hfr,ht,hac,hH=>by
  cases vs with
  |nil=>cases h
  |cons v vs =>
   obtain⟨u,r,rfl,hu,hp,hq⟩:=e8.cons_inv hr;simp only[a8D]at h;obtain⟨ρ4,os2,n4,new4,cells4,t2,f2,s2,r2,o2,k2⟩:=rbTc_ok hm ks vs r g a n2 new _ _ ρ2 os hq h hfr ht (e8.app hac (e7.R8 .un hp e7.a1P)) hH;exact⟨ρ4,os2,n4,new4,cells4,t2,f2,s2,by simp_all,o2,fun K hK=>k2 K hK⟩
def b0V{α:Type}{ids:List Nat}(hm:Mem E C ρ Z w (its++lkd) nx):∀(ps:List TP)(rest:List Nat)(g:tpD E.N α ps)(a:α),a5P E its ids ps rest g=some a->∀id∈rest,∃L,ρ id=some L
 |[],rest,g,a,h,id,hi=>by
  cases rest with
  |nil=>cases hi
  |cons _ _=>cases h
 |.own s0 T ks::ps,rest,g,a,h,id,hi=>by
  cases rest with
  |nil=>cases hi
  |cons id0 rest =>
   simp only[a5P]at h;split at h
   . rename_i T' cells hl;have⟨_,h2⟩:=j3 h;split at h2
     . rename_i g1 _;rcases d5k.1 hi with rfl|hi
       . obtain⟨j,hj,_⟩:=x8 hl;obtain⟨L,cs,hL,_⟩:=hm.holds (p5 (l2:=lkd) hj);simp_all
       . exact b0V hm ps rest g1 a h2 id hi
     . cases h2
   . cases h
 |.ob s0 k::ps,rest,g,a,h,id,hi=>by
  cases rest with
  |nil=>cases hi
  |cons id0 rest =>
   simp only[a5P]at h;split at h
   . rename_i k' fid x hl;split at h
     . rename_i hk;rcases d5k.1 hi with rfl|hi
       . obtain⟨j,hj,_⟩:=x8 hl;obtain⟨L,Lf,hL,_⟩:=hm.holds (p5 (l2:=lkd) hj);simp_all
       . exact b0V hm ps rest _ a h id hi
     . cases h
   . cases h
def rbTp_ok{α:Type}{nm ids:List Nat}(hm:Mem E C ρ Z w (its++lkd) nx):∀(ps:List TP)(rest:List Nat)(i:Nat)(g:tpD E.N α ps)(a:α)(n2:Nat)(new:c7 E.N)(ρ2:p4) (os:List (Option Nat)),
  rest=ids.drop i->a5P E its ids ps rest g=some a->(∀i,n2<=i->ρ2 i=none)->V4 E C.B0 ρ Z w its ρ2 os new->(∀j id,a38 ids j id=true->∃L,ρ id=some L/\ρ2 (nm.getD j 0)=some L) ->
  ∃ρ3 os' n3 new',V4 E C.B0 ρ Z w its ρ3 os' new'/\(∀i,n3<=i->ρ3 i=none)/\(∀i L,ρ2 i=some L->ρ3 i=some L)/\(os'.filterMap id).Perm (a5o its ps rest++os.filterMap id)/\∀K,a7r E nm ps i n2 new g K->K a n3 new'
 |[],rest,i,g,a,n2,new,ρ2,os,hrest,h,hfr,ht,hH=>by
  cases rest with
  |nil=>cases h;exact⟨ρ2,os,n2,new,ht,hfr,fun _ _ h=>h,d7T _,fun K h=>h⟩
  |cons _ _=>cases h
 |.own s0 T ks::ps,rest,i,g,a,n2,new,ρ2,os,hrest,h,hfr,ht,hH=>by
  cases rest with
  |nil=>cases h
  |cons id0 rest =>
   have hat:a38 ids i id0=true:=by
    have:ids[i]?=some id0:=by
     have e:(ids.drop i)[0]?=some id0:=by rw[<- hrest];rfl
     simpa using e
    unfold a38;rw[this];exact d7h _
   have hrest':rest=ids.drop (i+1):=by rw[<- List.drop_drop,<- hrest];rfl
   simp only[a5P]at h;split at h
   . rename_i T' cells hl;have⟨hb,h2⟩:=j3 h;have hb:=d4W hb;subst hb;split at h2
     . rename_i g1 hc;obtain⟨j,hj,_⟩:=x8 hl;obtain⟨L,cs,hL,hbs,ho,hrep⟩:=hm.holds (p5 (l2:=lkd) hj);have hL:ρ id0=some L:=hL;obtain⟨L',e1,e2⟩:=hH i id0 hat;rw[hL]at e1;cases e1;obtain⟨ρ3,os1,n3,new3,cells3,t1,f1,s1,r1,o1,q1⟩:=rbTc_ok (nm:=nm) hm ks cells cs g g1 n2 new [] [] ρ2 os hrep hc hfr ht e8.nil hH;have hL3:ρ3 (nm.getD i 0)=some L:=s1 _ _ e2;have r1':e8 E.N E.T ρ3 Z w cs cells3:=by simpa using r1
       have t1':V4 E C.B0 ρ Z w its ρ3 (some id0::os1) ((nm.getD i 0,.own T' cells3)::new3):=.cons ⟨_,hl,⟨L,cs,hL3,hbs,ho,r1'⟩,fun x hx=>by rw[u6 hL3]at hx;rw[u6 hL];exact hx⟩ t1;obtain⟨ρ4,os2,n4,new4,t2,f2,s2,o2,q2⟩:=rbTp_ok hm ps rest (i+1) g1 a n3 _ ρ3 (some id0::os1) hrest' h2 f1 t1' (fun j id hj=>by obtain⟨L,e1,e2⟩:=hH j id hj;exact⟨L,e1,s1 _ _ e2⟩);refine⟨ρ4,os2,n4,new4,t2,f2,G5 s1 s2,?_,fun K hK=>q2 K (q1 _ hK)⟩;have e:a5o its (.own s0 T' ks::ps) (id0::rest)=(id0::a4c ks cells)++a5o its ps rest:=by simp only[a5o,hl]
       grind
     . cases h2
   . cases h
 |.ob s0 k::ps,rest,i,g,a,n2,new,ρ2,os,hrest,h,hfr,ht,hH=>by
  cases rest with
  |nil=>cases h
  |cons id0 rest =>
   have hat:a38 ids i id0=true:=by
    have:ids[i]?=some id0:=by
     have e:(ids.drop i)[0]?=some id0:=by rw[<- hrest];rfl
     simpa using e
    unfold a38;rw[this];exact d7h _
   have hrest':rest=ids.drop (i+1):=by rw[<- List.drop_drop,<- hrest];rfl
   simp only[a5P]at h;split at h
   . rename_i k' fid x hl;split at h
     . rename_i hk;subst hk;obtain⟨j,hj,_⟩:=x8 hl;obtain⟨L,Lf,hL,hLf,ho⟩:=hm.holds (p5 (l2:=lkd) hj);have hL:ρ id0=some L:=hL;obtain⟨L',e1,e2⟩:=hH i id0 hat;rw[hL]at e1;cases e1;have hn:=hfr n2 (d5m _);have s1:=F6 (L:=Lf) hn;have t1':V4 E C.B0 ρ Z w its (I6 ρ2 n2 Lf) (some id0::os) ((nm.getD i 0,.ob k' n2 x)::new):=.cons ⟨_,hl,⟨L,Lf,s1 _ _ e2,j8,ho⟩,fun y hy=>by rw[F1 j8]at hy;rw[F1 hLf];exact hy⟩ (ht.mono s1);obtain⟨ρ4,os2,n4,new4,t2,f2,s2,o2,q2⟩:=rbTp_ok hm ps rest (i+1) (g x) a (n2+1) _ (I6 ρ2 n2 Lf) (some id0::os) hrest' h (fun j hj=>by unfold I6;grind) t1' (fun j id hj=>by obtain⟨L,e1,e2⟩:=hH j id hj;exact⟨L,e1,s1 _ _ e2⟩);exact⟨ρ4,os2,n4,new4,t2,f2,G5 s1 s2,o2.trans List.perm_middle,fun K hK=>q2 K (hK x)⟩
     . cases h
   . cases h
def a7P{α:Type}{ids:List Nat}:∀(ps:List TP)(rest:List Nat)(g:tpD E.N α ps)(a:α),a5P E its ids ps rest g=some a->rest.length=ps.length
 |[],rest,g,a,h=>by
  cases rest with
  |nil=>rfl
  |cons _ _=>cases h
 |.own s0 T ks::ps,rest,g,a,h=>by
  cases rest with
  |nil=>cases h
  |cons id0 rest =>
   simp only[a5P]at h;split at h
   . have⟨_,h2⟩:=j3 h;split at h2
     . simp[a7P ps rest _ a h2]
     . cases h2
   . cases h
 |.ob s0 k::ps,rest,g,a,h=>by
  cases rest with
  |nil=>cases h
  |cons id0 rest =>
   simp only[a5P]at h;split at h
   . split at h
     . rename_i hk;simp[a7P ps rest _ a h]
     . cases h
   . cases h
def b9Q{ids:List Nat}{n2:Nat}(hin:∀id∈ids,∃L,ρ id=some L)(hfr:∀i,n2<=i->ρ2 i=none) :
  ∃ρ3:p4,(∀i L,ρ2 i=some L->ρ3 i=some L)/\(∀i,n2+ids.length<=i->ρ3 i=none)/\∀j id,a38 ids j id=true->∃L,ρ id=some L/\ρ3 (n2+j)=some L:=by
 refine⟨fun i=>if n2<=i then(ids[i-n2]?).bind ρ else ρ2 i,fun i L h=>?_,fun i hi=>?_,fun j id hj=>?_⟩
 . grind
 . grind
 . unfold a38 at hj;split at hj
   . rename_i i hi;have:=d4W hj;subst this;obtain⟨L,hL⟩:=hin i (d5c hi);simp_all
   . cases hj
def a4W{ids:List Nat}:∀{ss:List (Nat×Nat)},a0C fx st ids ss=true->∀p∈ss,∃id,w8 fx st p.1=.ref id 0/\a38 ids p.2 id=true
 |[],_,p,hp=>by cases hp
 |q::ss,h,p,hp=>by
  unfold a0C at h;obtain⟨h1,h2⟩:=(d4U _ _).mp h;rcases d5k.1 hp with rfl|hp
  . split at h1
    all_goals simp_all
  . exact a4W h2 p hp
def b6t{q:Nat->Nat}{k:Nat}{s:E.SV}{r:n5 E.N}:∀{ss:List (Nat×Nat)},lk ((ss.map fun p=>(p.1,(.ref (q p.2) 0:E.SV)))++r) k=some s->(∃p∈ss,p.1=k/\s=.ref (q p.2) 0)∨lk r k=some s
 |[],h=>.inr h
 |x::ss,h=>by
  rw[d6f,d6C,K7]at h;by_cases e:x.1=k
  . simp_all
  . rw[if_neg e]at h;rcases b6t h with⟨p,hp,e1,e2⟩|h
    all_goals grind
def a9j{s:Nat}{p:TP}:∀{ps:List TP}{i j:Nat},ps[j]?=some p->p.kept=some s->(s,i+j)∈a8s ps i
 |[],i,j,h,_=>by simp at h
 |q::ps,i,j,h,hk=>by
  unfold a8s;cases j with
  |zero =>
   simp_all
  |succ j =>
   have ih:=a9j (i:=i+1) (j:=j) (by simpa using h) hk;grind
def b5v{b:Nat}:∀{l:List Nat}{i j r:Nat},l[j]?=some r->(tnm b i l).getD j 0=bif Nat.beq r 0 then b+(i+j)else r-1
 |[],i,j,r,h=>by simp at h
 |x::l,i,j,r,h=>by
  unfold tnm;cases j with
  |zero=>simp_all
  |succ j =>
   have ih:=b5v (b:=b) (l:=l) (i:=i+1) (j:=j) (r:=r) (by simpa using h);grind
def d0h{ids:List Nat}{ps:List TP}{b:Nat}(hbase:∀s id off,w8 fx st s=.ref id off->∃L,ρb id=some L)(hk:a0C fx' st' ids (a8s ps 0)=true)(he:a0V fx' st' ps=a0V fx st ps)(hl:ids.length=ps.length)(h2:∀i L,ρb i=some L->ρ2 i=some L)(hρ:∀i L,ρb i=some L->ρ i=some L)
  (hH:∀j id,a38 ids j id=true->∃L,ρ id=some L/\ρ2 (b+j)=some L):∀j id,a38 ids j id=true->∃L,ρ id=some L/\ρ2 ((tnm b 0 (a0V fx st ps)).getD j 0)=some L:=by
 intro j id hj;have hjl:j<ps.length:=by
  unfold a38 at hj;split at hj
  . grind
  . cases hj
 have hp:=d5i hjl;have hr:(a0V fx st ps)[j]?=some (b1J fx st ps[j]):=by unfold a0V;rw[d6F,hp];rfl
 have hr':(a0V fx' st' ps)[j]?=some (b1J fx' st' ps[j]):=by unfold a0V;rw[d6F,hp];rfl
 rw[he,hr]at hr';have e1:=d6g hr';rw[b5v hr];cases hkp:ps[j].kept with
 |none =>
  have:b1J fx st ps[j]=0:=by unfold b1J;rw[hkp]
  rw[this,d6I];simp_all
 |some s =>
  obtain⟨id',hs,hat⟩:=a4W hk (s,0+j) (a9j hp hkp);have hs:w8 fx' st' s=.ref id' 0:=hs;have hat:a38 ids j id'=true:=by simpa using hat
  have eid:id'=id:=by
   unfold a38 at hat hj;split at hj
   . simp_all
   . cases hj
  subst eid;have e2:b1J fx' st' ps[j]=id'+1:=by unfold b1J;rw[hkp];simp only[hs]
  rw[e2]at e1;have e3:∃off,w8 fx st s=.ref id' off:=by
   unfold b1J at e1;rw[hkp]at e1;simp only at e1;split at e1
   . simp_all
   . omega
  grind
def a8r{ids:List Nat}{b:List (Nat×Nat)}:∀{a:List (Nat×Nat)},a0C fx st ids (a++b)=true->a0C fx st ids a=true/\a0C fx st ids b=true
 |[],h=>⟨rfl,h⟩
 |x::a,h=>by rw[d6C]at h;unfold a0C at h;obtain⟨h1,h2⟩:=(d4U _ _).mp h;obtain⟨h3,h4⟩:=a8r h2;refine⟨?_,h4⟩;unfold a0C;simp_all
structure b47(E:Env)(B0:List Nat)(ρb ρ:p4)(Z:Nat->Prop)(f:Fr)(w:World)(its:c7 E.N)(ρ2:p4)(os:List (Option Nat))(new:E.St):Prop where
 tg:V4 E B0 ρ Z w its ρ2 os new.items
 fr:∀i,new.nx<=i->ρ2 i=none
 sub:∀i L,ρb i=some L->ρ2 i=some L
 sl:∀k s,lk new.slots k=some s->e7 E.N E.T ρ2 Z w (f k) s
 gs:new.gs=[]
def a7f:∀{a b:List Nat},eqL a b=true->a=b
 |[],[],_=>rfl
 |[],_::_,h=>by cases h
 |_::_,[],h=>by cases h
 |x::a,y::b,h=>by simp only[eqL,d4U]at h;rw[d4W h.1,a7f h.2]
def rbAll_ok(hbO:∀s id,a8l fx st s=some id->∃L,ρb id=some L)(hbase:∀s id off,w8 fx st s=.ref id off->∃L,ρb id=some L)(hbA:∀s id,b1x (w8 fx st s)=some id∨obN (w8 fx st s)=some id->∃L,ρb id=some L)(hρ:∀i L,ρb i=some L->ρ i=some L)(h:Rel E C fx' lkd st' ρ Z f w){α:Type} :
  ∀(vs:List LV)(g:Cur E.N α vs)(a:α)(new:E.St)(ρ2:p4) (os:List (Option Nat)),a0s E fx' st' vs g=some a->F4 E fx' st' vs=F4 E fx st vs->b47 E C.B0 ρb ρ Z f w st'.items ρ2 os new->∀K,Q2 E fx st vs g new K ->
  ∃new' ρ3 os',b47 E C.B0 ρb ρ Z f w st'.items ρ3 os' new'/\(os'.filterMap id).Perm (B4 E fx' st' vs++os.filterMap id)/\K a new'
 |[],g,a,new,ρ2,os,hr,_,hF,K,hK=>by cases hr;exact⟨new,ρ2,os,hF,d7T _,hK⟩
 |.slot s k::vs,g,a,new,ρ2,os,hr,he,hF,K,hK=>by
  simp only[a0s]at hr;split at hr
  . rename_i x hx;obtain⟨ρ3,os1,t1,f1,s1,r1,o1⟩:=rb1_ok h.mem (h.slot s) hx hF.fr hF.tg;have hF1:b47 E C.B0 ρb ρ Z f w st'.items ρ3 os1 ⟨(s,(fl1 E new.nx k x).1)::new.slots,[],(fl1 E new.nx k x).2.1++new.items,(fl1 E new.nx k x).2.2⟩:=⟨t1,f1,G5 hF.sub s1,fun k' s' hk=>by
     rw[K7]at hk;by_cases e:s=k'
     . simp_all
     . rw[if_neg e]at hk;exact e7.sub (hF.sl k' s' hk) s1,rfl⟩
    obtain⟨new',ρ4,os2,hF2,o2,k2⟩:=rbAll_ok hbO hbase hbA hρ h vs (g x) a _ ρ3 os1 hr (by simpa[F4,U8]using he) hF1 K (hK x);refine⟨new',ρ4,os2,hF2,?_,k2⟩;have e0:a5Q E fx' st' (.slot s k)=X5 k (w8 fx' st' s):=rfl;have e:B4 E fx' st' (.slot s k::vs)=X5 k (w8 fx' st' s)++B4 E fx' st' vs:=by
     show a5Q E fx' st' (.slot s k)++B4 E fx' st' vs=_
     rw[e0]
    grind
  . cases hr
 |.own s ks::vs,g,a,new,ρ2,os,hr,he,hF,K,hK=>by
  simp only[a0s]at hr;split at hr
  . rename_i id hs;split at hr
    . rename_i T cells hi;split at hr
      . rename_i g1 hc;have hE:F4 E fx' st' (.own s ks::vs)=[id,T]++F4 E fx' st' vs:=by
         show U8 E fx' st' (.own s ks)++F4 E fx' st' vs=_
         rw[show U8 E fx' st' (.own s ks)=[id,T] by simp[U8,hs,hi]]
        rw[hE]at he;have heB:F4 E fx st (.own s ks::vs)=U8 E fx st (.own s ks)++F4 E fx st vs:=rfl;rw[heB]at he;obtain⟨j,hj,_⟩:=x8 hi;obtain⟨L,cs,hL,hbs,ho,hrep⟩:=h.mem.holds (p5 (l2:=lkd) hj);have hL:ρ id=some L:=hL
        -- the base
        cases hsb:a8l fx st s with
        |some idb =>
         cases hib:lk st.items idb with
         |none=>exact absurd hK (by simp[Q2,hsb,hib])
         |some ib =>
          cases ib with
          |own Tb cb =>
           simp only[U8,hsb,hib]at he;have he2:id::T::F4 E fx' st' vs=idb::Tb::F4 E fx st vs:=he;simp only[d6Z]at he2;obtain⟨rfl,rfl,he3⟩:=he2;obtain⟨Lb,hLb⟩:=hbO s _ hsb;have e1:=hρ _ _ hLb;rw[hL]at e1;cases e1;obtain⟨ρ3,os1,n3,new3,cells3,t1,f1,s1,r1,o1,k1⟩:=rbCells_ok h.mem ks cells cs g g1 new.nx new.items [] [] ρ2 os hrep hc hF.fr hF.tg e8.nil;have hL3:ρ3 id=some L:=s1 _ _ (hF.sub _ _ hLb);have hF1:b47 E C.B0 ρb ρ Z f w st'.items ρ3 (some id::os1) ⟨new.slots,[],(id,.own T cells3)::new3,n3⟩:=⟨.cons ⟨_,hi,⟨L,cs,hL3,hbs,ho,by simp_all⟩,fun b hb=>by rw[u6 hL3]at hb;rw[u6 hL];exact hb⟩ t1,f1,G5 hF.sub s1,fun k' s' hk=>e7.sub (hF.sl k' s' hk) s1,rfl⟩;simp only[Q2,hsb,hib]at hK;obtain⟨new',ρ4,os2,hF2,o2,k2⟩:=rbAll_ok hbO hbase hbA hρ h vs g1 a _ ρ3 (some id::os1) hr he3 hF1 K (k1 _ hK);refine⟨new',ρ4,os2,hF2,?_,k2⟩
           . have e:B4 E fx' st' (.own s ks::vs)=id::((ks.zip cells).flatMap fun p=>X5 p.1 p.2)++B4 E fx' st' vs:=by
               show a5Q E fx' st' (.own s ks)++B4 E fx' st' vs=_
               rw[show a5Q E fx' st' (.own s ks)=id::((ks.zip cells).flatMap fun p=>X5 p.1 p.2) by simp only[a5Q,hs,hi];rw[a92]]
             grind
          |_=>exact absurd hK (by simp[Q2,hsb,hib])
        |none=>exact absurd hK (by simp[Q2,hsb])
      . cases hr
    . cases hr
  . cases hr
 |.ob s k::vs,g,a,new,ρ2,os,hr,he,hF,K,hK=>by
  simp only[a0s]at hr;split at hr
  . rename_i id hs;split at hr
    . rename_i k' fid x hi;split at hr
      . rename_i hk;subst hk;have hE:F4 E fx' st' (.ob s k'::vs)=id::F4 E fx' st' vs:=by
         show U8 E fx' st' (.ob s k')++F4 E fx' st' vs=_
         rw[show U8 E fx' st' (.ob s k')=[id] by simp[U8,hs]];rfl
        rw[hE]at he;have heB:F4 E fx st (.ob s k'::vs)=U8 E fx st (.ob s k')++F4 E fx st vs:=rfl;rw[heB]at he;obtain⟨j,hj,_⟩:=x8 hi;obtain⟨L,Lf,hL,hLf,ho⟩:=h.mem.holds (p5 (l2:=lkd) hj);have hL:ρ id=some L:=hL;cases hsb:obN (w8 fx st s)with
        |some idb =>
         simp only[U8,hsb]at he;have he2:id::F4 E fx' st' vs=idb::F4 E fx st vs:=he;simp only[d6Z]at he2;obtain⟨rfl,he3⟩:=he2;obtain⟨Lb,hLb⟩:=hbA s _ (.inr hsb);have e1:=hρ _ _ hLb;rw[hL]at e1;cases e1;have hn:=hF.fr new.nx (d5m _);have s1:=F6 (L:=Lf) hn;have hF1:b47 E C.B0 ρb ρ Z f w st'.items (I6 ρ2 new.nx Lf) (some id::os) ⟨new.slots,[],(id,.ob k' new.nx x)::new.items,new.nx+1⟩:=⟨.cons ⟨_,hi,⟨L,Lf,s1 _ _ (hF.sub _ _ hLb),j8,ho⟩,fun b hb=>by rw[F1 j8]at hb;rw[F1 hLf];exact hb⟩ (hF.tg.mono s1),fun i hi=>by have hi:new.nx+1<=i:=hi;unfold I6;rw[if_neg (by omega)];exact hF.fr i (by omega),G5 hF.sub s1,fun k' s' hk=>e7.sub (hF.sl k' s' hk) s1,rfl⟩
         simp only[Q2,hsb]at hK;obtain⟨new',ρ4,os2,hF2,o2,k2⟩:=rbAll_ok hbO hbase hbA hρ h vs (g x) a _ _ (some id::os) hr he3 hF1 K (hK x);refine⟨new',ρ4,os2,hF2,?_,k2⟩
         . have e:B4 E fx' st' (.ob s k'::vs)=id::B4 E fx' st' vs:=by
             show a5Q E fx' st' (.ob s k')++B4 E fx' st' vs=_
             rw[show a5Q E fx' st' (.ob s k')=[id] by simp[a5Q,hs]];rfl
           grind
        |none=>exact absurd hK (by simp[Q2,hsb])
      . cases hr
    . cases hr
  . cases hr
 |.cont s t::vs,g,a,new,ρ2,os,hr,he,hF,K,hK=>by
  simp only[a0s]at hr;split at hr
  . rename_i id hs;split at hr
    . rename_i t' l hi;split at hr
      . rename_i hk;subst hk;have hE:F4 E fx' st' (.cont s t'::vs)=id::F4 E fx' st' vs:=by
         show U8 E fx' st' (.cont s t')++F4 E fx' st' vs=_
         rw[show U8 E fx' st' (.cont s t')=[id] by simp[U8,hs]];rfl
        rw[hE]at he;have heB:F4 E fx st (.cont s t'::vs)=U8 E fx st (.cont s t')++F4 E fx st vs:=rfl;rw[heB]at he;obtain⟨j,hj,_⟩:=x8 hi;obtain⟨L,hL,hn1,hn2,hac⟩:=h.mem.holds (p5 (l2:=lkd) hj);cases hsb:b1x (w8 fx st s)with
        |some idb =>
         simp only[U8,hsb]at he;have he2:id::F4 E fx' st' vs=idb::F4 E fx st vs:=he;simp only[d6Z]at he2;obtain⟨rfl,he3⟩:=he2;obtain⟨Lb,hLb⟩:=hbA s _ (.inl hsb);have e1:=hρ _ _ hLb;have hL:ρ id=some L:=hL;rw[hL]at e1;cases e1;have hF1:b47 E C.B0 ρb ρ Z f w st'.items ρ2 (some id::os) ⟨new.slots,[],(id,.ac t' l)::new.items,new.nx⟩:=⟨.cons ⟨_,hi,⟨L,hF.sub _ _ hLb,hn1,hn2,hac⟩,fun b hb=>by rw[x7 (hF.sub _ _ hLb)]at hb;rw[x7 hL];exact hb⟩ hF.tg,hF.fr,hF.sub,hF.sl,rfl⟩;simp only[Q2,hsb]at hK;obtain⟨new',ρ4,os2,hF2,o2,k2⟩:=rbAll_ok hbO hbase hbA hρ h vs (g l) a _ _ (some id::os) hr he3 hF1 K (hK l);refine⟨new',ρ4,os2,hF2,?_,k2⟩
         . have e:B4 E fx' st' (.cont s t'::vs)=id::B4 E fx' st' vs:=by
             show a5Q E fx' st' (.cont s t')++B4 E fx' st' vs=_
             rw[show a5Q E fx' st' (.cont s t')=[id] by simp[a5Q,hs]];rfl
           grind
        |none=>exact absurd hK (by simp[Q2,hsb])
      . cases hr
    . cases hr
  . cases hr
 |.tree ss ps::vs,g,a,new,ρ2,os,hr,he,hF,K,hK=>by
  simp only[a0s]at hr;have⟨hss,hr2⟩:=j3 hr;clear hr;split at hr2
  . rename_i g1 hc;obtain⟨hsk,hss⟩:=a8r hss;have hE:a0V fx' st' ps++F4 E fx' st' vs=a0V fx st ps++F4 E fx st vs:=he;obtain⟨he1,he2⟩:=List.append_inj hE (by unfold a0V;simp_all);obtain⟨ρ2',s0,f0,hH0⟩:=b9Q (b0V h.mem ps _ g g1 hc) hF.fr;have hlen:(a1g fx' st' ss ps).length=ps.length:=a7P ps _ g g1 hc;rw[hlen]at f0;have hH:=d0h hbase hsk he1 hlen (G5 hF.sub s0) hρ hH0;obtain⟨ρ3,os1,n3,new3,t1,f1,s1,o1,q1⟩:=rbTp_ok h.mem ps (a1g fx' st' ss ps) 0 g g1 (new.nx+ps.length) new.items ρ2' os rfl hc f0 (hF.tg.mono s0) hH;have hF1:b47 E C.B0 ρb ρ Z f w st'.items ρ3 os1 ⟨(ss.map fun p=>(p.1,.ref ((tnm new.nx 0 (a0V fx st ps)).getD p.2 0) 0))++new.slots,[],new3,n3⟩:=⟨t1,f1,G5 hF.sub (G5 s0 s1),fun k' s' hk=>by
     rcases b6t (q:=fun j=>(tnm new.nx 0 (a0V fx st ps)).getD j 0) hk with⟨p,hp,e1,e2⟩|hk
     . subst e1;subst e2;obtain⟨id,hs,hat⟩:=a4W hss p hp;have hsl:=h.slot p.1;rw[hs]at hsl;obtain⟨L,e1,e2⟩:=hH p.2 id hat;generalize f p.1=u at hsl;cases hsl with
       |ref hL=>rw[e1]at hL;cases hL;exact .ref (s1 _ _ e2)
     . exact e7.sub (hF.sl k' s' hk) (G5 s0 s1),rfl⟩
    obtain⟨new',ρ4,os2,hF2,o2,k2⟩:=rbAll_ok hbO hbase hbA hρ h vs g1 a _ ρ3 os1 hr2 he2 hF1 K (q1 _ hK);refine⟨new',ρ4,os2,hF2,?_,k2⟩;have e:B4 E fx' st' (.tree ss ps::vs)=a5o st'.items ps (a1g fx' st' ss ps)++B4 E fx' st' vs:=rfl;grind
  . cases hr2
 |.unr _::vs,g,a,new,ρ2,os,hr,he,hF,K,hK=>by cases hr
end
section
variable{B0:List Nat}{w0 w w':World}{Z Z':Nat->Prop}{l l':List It}
def Sep.pw(hs:Sep B0 w0 Z w l):(∀t∈l,t.Ok B0 w0 Z w)/\l.Pairwise (fun s t=>∀b∈s.F,b ∉ t.F):=by
 refine⟨fun t ht=>?_,?_⟩
 . obtain⟨i,hi,rfl⟩:=d5w ht;exact hs.ok i _ (by simp[hi])
 . rw[d5H];intro i j hi hj hij;exact hs.apart i j _ _ (by simp[hi]) (by simp[hj]) (by omega)
def Sep.c69(hx:Ext B0 w0 w)(hz:∀b,Z b->b<w.heap.size)(h1:∀t∈l,t.Ok B0 w0 Z w)(h2:l.Pairwise (fun s t=>∀b∈s.F,b ∉ t.F)):Sep B0 w0 Z w l:=by refine⟨hx,hz,fun k t hk=>h1 t (d5c hk),fun j k s t hj hk hne=>?_⟩;rw[d5H]at h2;grind
def Sep.perm(hs:Sep B0 w0 Z w l)(hp:l.Perm l'):Sep B0 w0 Z w l':=by obtain⟨h1,h2⟩:=Sep.pw hs;exact Sep.c69 hs.ext hs.zlt (fun t ht=>h1 t (hp.mem_iff.2 ht)) ((hp.pairwise_iff (fun{a b} h x hx hx'=>h x hx' hx)).1 h2)
end
section
variable{E:Env}{C:Ctx}{f:Fr}{w w':World}
variable{ρ ρ':p4}{Z Z':Nat->Prop}{its its' lkd:c7 E.N}{nx:Nat}{fx:n5 E.N}{st:E.St}
def Mem.perm(hm:Mem E C ρ Z w its nx)(hp:its.Perm its'):Mem E C ρ Z w its' nx:=⟨Sep.perm hm.sep (hp.map _),hm.fr,hm.ge,hm.zge,hm.zle⟩
def a1q(its:c7 E.N)(ids:List Nat):its.Perm (within its ids++without its ids):=by
 induction its with
 |nil=>exact List.Perm.nil
 |cons p r ih =>
  unfold within without at *;rw[d8f,d8f];cases ids.elem p.1 with
  |true=>simp_all
  |false=>exact((List.Perm.cons p ih).trans List.perm_middle.symm)
def Ctx.at(C:Ctx)(ρ:p4)(Z:Nat->Prop)(w:World):Ctx:=⟨ρ,Z,C.w0,C.B0,w⟩
def Mem.down(hm:Mem E C ρ Z w its nx):Mem E (C.at ρ Z w) ρ Z w its nx:=⟨hm.sep,hm.fr,fun _ _ h=>h,fun _ h=>h,fun _ h=>.inl h⟩
def Mem.upC{ρb:p4}{Zb:Nat->Prop}{wb:World}{nb:Nat}{ib:c7 E.N}(hb:Mem E C ρb Zb wb ib nb)(hm:Mem E (C.at ρb Zb wb) ρ Z w its nx):Mem E C ρ Z w its nx:=
 ⟨hm.sep,hm.fr,fun i L e=>hm.ge i L (hb.ge i L e),fun b h=>hm.zge b (hb.zge b h),fun b h=>by
  rcases hm.zle b h with h|h
  . exact hb.zle b h
  . exact .inr h⟩
def Rel.enter(h:Rel E C fx lkd st ρ Z f w)(keep ids:List Nat):Rel E (C.at ρ Z w) (s5 fx st keep++fx) (without st.items ids++lkd) (inn st ids) ρ Z f w:=by
 refine⟨h.sl,fun p hp=>?_,fun k j b s hk=>(by cases hk),?_,Tn.refl _ _ _,h.a4g⟩
 . rcases d5t.1 hp with hp|hp
   . simp only[s5,d6A]at hp;obtain⟨s,_,rfl⟩:=hp;exact h.slot s
   . exact h.fx p hp
 . refine h.mem.down.perm ?_;rw[show(inn st ids).items=within st.items ids from rfl,<- d5x];exact(a1q st.items ids).append_right lkd
def b55{β:Type}{l l2:List (Nat×β)}{k:Nat}{s:β}(h:lk (l++l2) k=some s):lk l k=some s∨(lk l k=none/\lk l2 k=some s):=by
 induction l with
 |nil=>exact .inr ⟨rfl,h⟩
 |cons p r ih =>
  have h:(bif Nat.beq p.1 k then some p.2 else lk (r++l2) k)=some s:=h;show(bif Nat.beq p.1 k then some p.2 else lk r k)=some s∨((bif Nat.beq p.1 k then some p.2 else lk r k)=none/\lk l2 k=some s)
  grind
def Rel.leave{ρb:p4}{Zb:Nat->Prop}{wb:World}{fb:Fr}{st':E.St}(hb:Rel E C fx lkd st ρb Zb fb wb){ks:n5 E.N}{is:c7 E.N}(h:Rel E (C.at ρb Zb wb) (ks++fx) (is++lkd) st' ρ Z f w):Rel E C fx lkd ⟨st'.slots++ks,[],st'.items++is,st'.nx⟩ ρ Z f w:=by
 refine⟨fun k s hk=>?_,fun p hp=>h.fx p (d6H _ hp),fun k j b s hk=>(by cases hk),?_,hb.tn.trans h.tn,hb.g⟩
 . rcases b55 hk with hk|⟨_,hk⟩
   . exact h.sl k s hk
   . obtain⟨i,hi,_⟩:=x8 hk;exact h.fx (k,s) (d5S _ (d5c hi))
 . have:=Mem.upC hb.mem h.mem;simp_all
end
section
variable{N:B8}{T:N6}{f:Nat->Option Nat}{ρ ρ':p4}{Z:Nat->Prop}{w:World}{v:Value}{s s':SV N}{cs:List Value}{ss ss':List (SV N)}
def a4I(f:Nat->Option Nat)(ρ ρ':p4):Prop:=∀i j,f i=some j->∀L,ρ i=some L->ρ' j=some L
def ren0_ok(hf:a4I f ρ ρ')(h:a9R f s=some s')(r:e7 N T ρ Z w v s):e7 N T ρ' Z w v s':=by
 cases s with
 |ref id off =>
  simp only[a9R,d5g]at h;obtain⟨j,hj,rfl⟩:=h;cases r with|ref hL=>exact .ref (hf _ _ hj _ hL)
 |acc id =>
  simp only[a9R,d5g]at h;obtain⟨j,hj,rfl⟩:=h;cases r with|acc hL=>exact .acc (hf _ _ hj _ hL)
 |el id t i off =>
  simp only[a9R,d5g]at h;obtain⟨j,hj,rfl⟩:=h;cases r with|el hL h0 h1=>exact .el (hf _ _ hj _ hL) h0 h1
 |sub id t lo n =>
  simp only[a9R,d5g]at h;obtain⟨j,hj,rfl⟩:=h;cases r with|a3d hL a b c d e=>exact .a3d (hf _ _ hj _ hL) a b c d e
 |ifc t v=>cases h
 |agg vs=>cases h
 |F5 vs=>cases h
 |clo K vs=>cases h
 |yld id =>
  simp only[a9R,d5g]at h;obtain⟨j,hj,rfl⟩:=h;cases r with|yld hL=>exact .yld (hf _ _ hj _ hL)
 |mp id =>
  simp only[a9R,d5g]at h;obtain⟨j,hj,rfl⟩:=h;cases r with|mp hL=>exact .mp (hf _ _ hj _ hL)
 |un=>cases h;exact .un
 |undef=>cases h;cases r;exact .undef
 |int k x=>cases h;cases r with|int h=>exact .int h
 |byte c=>cases h;cases r;exact .byte
 |tt=>cases h;cases r;exact .tt
 |ff=>cases h;cases r;exact .ff
 |bl p d=>cases h;cases r;exact .bl
 |str x=>cases h;cases r with|str h=>exact .str h
 |M5 x=>cases h;cases r with|M5 h=>exact .M5 h
 |M9=>cases h;cases r;exact .M9
 |sl t l=>cases h;cases r with|sl h=>exact .sl h
 |fel t l i off=>cases h;cases r with|fel h a b=>exact .fel h a b
 |err e=>cases h;cases r with|err h=>exact .err h
 |fn K=>cases h;cases r;exact .fn
def renL_ok(hf:a4I f ρ ρ')(h:a5j f ss=some ss')(r:e8 N T ρ Z w cs ss):e8 N T ρ' Z w cs ss':=by
 induction ss generalizing cs ss' with
 |nil=>cases h;obtain rfl:=e8.A1 r;exact e8.nil
 |cons s ss ih =>
  obtain⟨u,c,rfl,h1,hp,h2⟩:=e8.cons_inv r;simp only[a5j]at h;split at h
  . rename_i a b ha hb;cases h;exact e8.cons (ren0_ok hf ha h1) hp (ih hb h2)
  . cases h
def ren1_ok(hf:a4I f ρ ρ')(h:c4q f s=some s')(r:e7 N T ρ Z w v s):e7 N T ρ' Z w v s':=by
 unfold c4q at h;split at h
 . obtain⟨ss',h1,rfl⟩:=d5g.1 h;obtain⟨cs,rfl,hr⟩:=e7.E5 r;exact renL_ok hf h1 hr
 . obtain⟨ss',h1,rfl⟩:=d5g.1 h;cases r with
   |clo r=>exact .clo (renL_ok hf h1 r)
 . exact ren0_ok hf h r
def renL1_ok(hf:a4I f ρ ρ')(h:a81 f ss=some ss')(r:e7 N T ρ Z w (.tuple cs.toArray) (.F5 ss)):e7 N T ρ' Z w (.tuple cs.toArray) (.F5 ss'):=by
 induction ss generalizing cs ss' with
 |nil =>
  cases h;generalize e:Value.tuple cs.toArray=u at r;cases r with|M0=>exact .M0
 |cons s ss ih =>
  obtain⟨u,c,rfl,h1,h2⟩:=e7.w4 r;simp only[a81]at h;split at h
  . rename_i a b ha hb;cases h;exact .I8 (ren1_ok hf ha h1) (ih hb h2)
  . cases h
def ren2_ok(hf:a4I f ρ ρ')(h:c1o f s=some s')(r:e7 N T ρ Z w v s):e7 N T ρ' Z w v s':=by
 unfold c1o at h;split at h
 . obtain⟨ss',h1,rfl⟩:=d5g.1 h;obtain⟨cs,rfl⟩:=e7.a2I r;exact renL1_ok hf h1 r
 . exact ren1_ok hf h r
def renI_ok{id id':Nat}{i i':Item N}(hf:a4I f ρ ρ')(hid:f id=some id')(h:b7m f i=some i')(r:holds N T ρ id Z w i):holds N T ρ' id' Z w i'/\u4 N ρ' id' i'=u4 N ρ id i:=by
 cases i with
 |own Ty cells =>
  obtain⟨ss',h1,rfl⟩:=d5g.1 (show(a5j f cells).map (fun vs=>Item.own Ty vs)=some i' from h);obtain⟨L,cs,hL,hbs,ho,hr⟩:=r;have hL':=hf _ _ hid _ hL;exact⟨⟨L,cs,hL',hbs,ho,renL_ok hf h1 hr⟩,by rw[u6 hL,u6 hL']⟩
 |ac t l =>
  cases h;obtain⟨L,hL,r⟩:=r;have hL':=hf _ _ hid _ hL;exact⟨⟨L,hL',r⟩,by rw[x7 hL,x7 hL']⟩
 |fz t l =>
  cases h;obtain⟨L,hL,r⟩:=r;exact⟨⟨L,hf _ _ hid _ hL,r⟩,rfl⟩
 |ob k fid x =>
  obtain⟨j,h1,rfl⟩:=d5g.1 (show(f fid).map (fun j=>Item.ob k j x)=some i' from h);obtain⟨L,Lf,hL,hLf,r⟩:=r;have hL':=hf _ _ hid _ hL;have hLf':=hf _ _ h1 _ hLf;exact⟨⟨L,Lf,hL',hLf',r⟩,by rw[F1 hLf,F1 hLf']⟩
 |rw t n cells =>
  obtain⟨ss',h1,rfl⟩:=d5g.1 (show(a5j f cells).map (fun vs=>Item.rw t n vs)=some i' from h);obtain⟨L,F,hL,hn,hb,hA,hr,hrep⟩:=r;have hL':=hf _ _ hid _ hL;exact⟨⟨L,F,hL',hn,hb,hA,hr,renL_ok hf h1 hrep⟩,by rw[O8 hL,O8 hL']⟩
def S6{id:Nat}{i:Item N}(h:holds N T ρ id Z w i):(∃L,ρ id=some L)/\∀k fid x,i=.ob k fid x->∃L,ρ fid=some L:=by
 cases i with
 |own Ty cells=>obtain⟨L,cs,hL,_⟩:=h;simp_all
 |ac t l=>obtain⟨L,hL,_⟩:=h;simp_all
 |fz t l=>obtain⟨L,hL,_⟩:=h;simp_all
 |ob k fid x=>obtain⟨L,Lf,hL,hLf,_⟩:=h;grind
 |rw t n cells=>obtain⟨L,F,hL,_⟩:=h;simp_all
def posO_ok{nm:List (Option Nat)}{n i p:Nat}(h:a1u nm n i=some p):n<=p/\nm[p-n]?=some (some i):=by
 induction nm generalizing n with
 |nil=>cases h
 |cons o r ih =>
  unfold a1u at h;cases o with
  |none =>
   grind
  |some j =>
   simp only at h;cases hb:Nat.beq j i with
   |true =>
    simp_all
   |false =>
    grind
def selI_ok{its:c7 N}:∀{ids:List Nat}{p:Nat}{l:c7 N},b7R its f p ids=some l->l.length=ids.length/\∀(k:Nat)(q:Nat×Item N),l[k]?=some q->∃i it,ids[k]?=some i/\lk its i=some it/\b7m f it=some q.2/\q.1=p+k
 |[],_,l,h=>by cases h;simp_all
 |i::r,p,l,h=>by
  simp only[b7R]at h;split at h
  . rename_i it hit;split at h
    . rename_i it' l' h1 h2;cases h;obtain⟨e,g⟩:=selI_ok h2;grind
    . cases h
  . cases h
def renIs_ok:∀{its its':c7 N},a9n f its=some its'->its'.length=its.length/\∀(k:Nat)(q:Nat×Item N),its'[k]?=some q->∃p,its[k]?=some p/\f p.1=some q.1/\b7m f p.2=some q.2
 |[],its',h=>by cases h;simp_all
 |p::r,its',h=>by
  simp only[a9n]at h;split at h
  . rename_i i it r' h1 h2 h3;cases h;obtain⟨e,g⟩:=renIs_ok h3;grind
  . cases h
end
section
variable{E:Env}{C:Ctx}{f fb:Fr}{w wb:World}{ρb ρ:p4}{Z Zb:Nat->Prop}{lkd its:c7 E.N}{fx:n5 E.N}{st st':E.St}{nx:Nat}
def J6:∀{l:List Nat},distinct l=true->l.Nodup
 |[],_=>List.nodup_nil
 |a::r,h=>by simp only[distinct,d4U,d6w]at h;rw[d8n];refine⟨fun hm=>?_,J6 h.2⟩;simp_all
def b2S{v:Value}{s:E.SV}{id:Nat}(h:e7 E.N E.T ρ Z w v s)(e:c2o s=some id):∃L,ρ id=some L:=by
 unfold c2o at e;split at e
 . cases e;cases h with|ref hL=>simp_all
 . cases e
def Rel.a8l{s id:Nat}(h:Rel E C fx lkd st ρ Z f w)(e:Go.Rx.a8l fx st s=some id):∃L,ρ id=some L:=by
 unfold Go.Rx.a8l at e;cases hb:Nat.blt s 1000000 with
 |true=>rw[hb,d5r]at e;exact b2S (h.slot s) e
 |false =>
  rw[hb,d5y]at e;have hs:=h.slot (s%1000000);generalize hv:w8 fx st (s%1000000)=x at e hs;split at e
  . rename_i K vs;split at e
    . rename_i v hv;generalize f (s%1000000)=u at hs;cases hs with
      |clo r =>
       obtain⟨v',_,h1,_⟩:=e8.get (show e8 E.N E.T ρ Z w _ vs from r) _ _ hv;exact b2S h1 e
    . cases e
  . cases e
def rbP_ok{keep ids:List Nat}{vs:List LV}{α:Type}{g:Cur E.N α vs}{Kα:α->Prop}{K:α->E.St->Prop}(h0:Rel E C fx lkd st ρb Zb fb wb)
  (h:Rel E (C.at ρb Zb wb) (s5 fx st keep++fx) (without st.items ids++lkd) st' ρ Z f w) (hv:rbP E fx st (s5 fx st keep++fx) st' vs g Kα) (hK:Q2 E fx st vs g ⟨[],[],[],st.nx⟩ K) :
  ∃new ρ2 a,Kα a/\K a new/\Rel E (C.at ρb Zb wb) (s5 fx st keep++fx) (without st.items ids++lkd) new ρ2 Z f w:=by
 unfold rbP at hv;cases hb:b3t E fx st (s5 fx st keep++fx) st' vs with
 |false=>simp_all
 |true =>
  rw[hb,d5r]at hv;unfold b3t at hb;simp only[d4U]at hb;obtain⟨hd,hr⟩:=hb;split at hv
  . rename_i a ha;have hρ:∀i L,ρb i=some L->ρ i=some L:=h.mem.ge;have hbase:∀s id off,w8 fx st s=.ref id off->∃L,ρb id=some L:=fun s id off e=>by
     have:=h0.slot s;rw[e]at this;generalize fb s=u at this;cases this with
     |ref hL=>simp_all
    have hbA:∀s id,b1x (w8 fx st s)=some id∨obN (w8 fx st s)=some id->∃L,ρb id=some L:=fun s id e=>by
     have:=h0.slot s;generalize w8 fx st s=x at e this;generalize fb s=u at this;rcases e with e|e
     . cases this with
       |acc hL=>cases e;simp_all
       |a3d hL _ _ _ _ _=>cases e;simp_all
       |_=>cases e
     . cases this with
       |ref hL=>cases e;simp_all
       |yld hL=>cases e;simp_all
       |mp hL=>cases e;simp_all
       |_=>cases e
    obtain⟨new,ρ2,os,hF,hp,hk⟩:=rbAll_ok (fun s id e=>h0.a8l e) hbase hbA hρ h vs g a ⟨[],[],[],st.nx⟩ ρb [] ha (a7f hr) ⟨.nil,h0.mem.fr,fun _ _ h=>h,fun k s e=>(by cases e),rfl⟩ K hK;have hnd:(os.filterMap id).Nodup:=hp.nodup_iff.2 (by simpa using J6 hd);refine⟨new,ρ2,a,hv,hk,hF.sl,fun p hp=>?_,fun k j b s e=>(by rw[hF.gs]at e;cases e),?_,⟨hF.sub,h.tn.z,h.tn.ext⟩,h.g⟩
    . have r1:=h.fx p hp;have r2:∃v,e7 E.N E.T ρb Zb wb v p.2:=by
       rcases d5t.1 hp with hp|hp
       . simp only[s5,d6A]at hp;obtain⟨s,_,rfl⟩:=hp;exact⟨_,h0.slot s⟩
       . exact⟨_,h0.fx p hp⟩
      obtain⟨v,r2⟩:=r2;exact e7.sub (e7.lower r1 r2 hρ) hF.sub
    . refine Mem.b02 h.mem (fun p hp=>?_) hF.tg hnd hF.fr hF.sub;obtain⟨k,hk⟩:=d5T hp;have e1:holds E.N E.T ρ p.1 Z w p.2:=h.mem.holds (k:=st'.items.length+k) (by grind);have e2:holds E.N E.T ρb p.1 Zb wb p.2:=by
       have hin:p∈st.items++lkd:=by
        rcases d5t.1 hp with hp|hp
        . exact d5S _ ((d5u.1 hp).1)
        . simp_all
       obtain⟨k2,hk2⟩:=d5T hin;exact h0.mem.holds hk2
      obtain⟨a1,a2⟩:=a5r e1 e2 hρ;obtain⟨b1,b2⟩:=P7 hF.sub a1;simp_all
  simp_all
def c9v{its:c7 E.N}{i:Nat}{it:Item E.N}(h:lk its i=some it):∃j:Nat,its[j]?=some (i,it):=by obtain⟨j,hj,_⟩:=x8 h;grind
def b4S(E:Env)(ρ:p4)(its:c7 E.N)(i:Nat):List Nat:=match lk its i with|some it=>u4 E.N ρ i it|none=>[]
def b6o{K:Nat}{args a':List E.SV}{i':c7 E.N}{S:PT E.N}{k:E.SV->c7 E.N->Nat->Prop}{ids:List Nat}{vs:List Value}(hd:distinct ids=true)(ha:a81 (a1u (G0 its ids) 0) args=some a')(hi:b7R its (a1u (G0 its ids) 0) 0 ids=some i')(hG:M6 E.P E.N E.T E.G K a' i' (2*i'.length) S)
  (hv:S (fun s it n=>match c1o (a5A (G0 its ids) nx) s,a9n (a5A (G0 its ids) nx) it with
    |some s',some it'=>k s' (it'++without its ids) (nx+(n-(G0 its ids).length))
    |_,_=>False))
  (hm:Mem E C ρ Z w (its++lkd) nx) (hg:E.G.is Z w) (ha0:e7 E.N E.T ρ Z w (.tuple vs.toArray) (.F5 args)) :
  G2 E.P K vs w (fun v w'=>∃ρ' Z' s its' nx',Mem E C ρ' Z' w' (its'++lkd) nx'/\Tn ρ Z w ρ' Z' w'/\e7 E.N E.T ρ' Z' w' v s/\k s its' nx'):=by
 have hnd:=J6 hd;generalize hnm:G0 its ids=nm at ha hi hv;have hlen:nm.length=2*ids.length:=by rw[<- hnm];unfold G0;simp only[d4Y,d6h];omega
 obtain⟨hil,hsel⟩:=selI_ok hi;have hm2:Mem E C ρ Z w (within its ids++(without its ids++lkd)) nx:=hm.perm (by rw[<- d5x];exact(a1q its ids).append_right lkd)
 -- the parts chosen
 have pick:∀(p i:Nat),ids[p]?=some i->∃it j,lk its i=some it/\(within its ids)[j]?=some (i,it):=fun p i hp=>by
  have hlt:p<i'.length:=by rw[hil];exact A5 hp
  obtain⟨i2,it,h1,h2,_⟩:=hsel p _ (d5i hlt);rw[hp]at h1;cases h1;obtain⟨j,hj⟩:=c9v h2;have hmem:(i,it)∈within its ids:=d5u.2 ⟨d5c hj,d7Q (d5c hp)⟩;obtain⟨j2,hj2⟩:=d5T hmem;exact⟨it,j2,h2,hj2⟩
 have holdsI:∀(j:Nat)(i:Nat)(it:Item E.N),(within its ids)[j]?=some (i,it)->holds E.N E.T ρ i Z w it:=fun j i it hj=>hm2.holds (p5 (l2:=without its ids++lkd) hj);have named:∀(j i:Nat),nm[j]?=some (some i)->∃L,ρ i=some L:=fun j i hj=>by
  rw[<- hnm]at hj;unfold G0 at hj;by_cases hlt:j<ids.length
  . rw[d5l (by simpa using hlt),d6F]at hj;obtain⟨i2,h1,h2⟩:=d5g.1 hj;cases h2;obtain⟨it,j2,_,hj2⟩:=pick j i h1;exact(S6 (holdsI j2 i it hj2)).1
  . rw[d5d (by simpa using Nat.le_of_not_lt hlt),d6F]at hj;obtain⟨i2,h1,h2⟩:=d5g.1 hj;obtain⟨it,j2,hlk,hj2⟩:=pick _ i2 h1;unfold c5D at h2;rw[hlk]at h2;cases it with
    |ob kk f x=>cases h2;exact(S6 (holdsI j2 i2 _ hj2)).2 kk i x rfl
    |_=>cases h2
 let ρc:p4:=fun p=>match nm[p]? with|some (some i)=>ρ i|_=>none
 have hρc:∀p i,nm[p]?=some (some i)->ρc p=ρ i:=fun p i h=>by grind
 have hf:a4I (a1u nm 0) ρ ρc:=fun i p h L hL=>by obtain⟨_,h2⟩:=posO_ok h;simp_all
 let B:List Nat:=ids.flatMap (b4S E ρ its)
 have hB:∀b∈B,∃(i j:Nat)(it:Item E.N),(within its ids)[j]?=some (i,it)/\b∈u4 E.N ρ i it:=fun b hb=>by obtain⟨i,hi1,hb⟩:=d8M.1 hb;obtain⟨p,hp⟩:=d5T hi1;obtain⟨it,j,hlk,hj⟩:=pick p i hp;unfold b4S at hb;grind
 have okW:∀(j:Nat)(i:Nat)(it:Item E.N),(within its ids)[j]?=some (i,it)->(C9 E.N E.T ρ C.B0 i it).Ok C.B0 C.w0 Z w:=fun j i it hj=>hm2.sep.ok j _ (j6 (p5 (l2:=without its ids++lkd) hj))
 -- the parts under their own names
 have parts:∀(p:Nat)(q:Nat×Item E.N),i'[p]?=some q->∃i it j,ids[p]?=some i/\(within its ids)[j]?=some (i,it)/\holds E.N E.T ρc q.1 Z w q.2/\u4 E.N ρc q.1 q.2=u4 E.N ρ i it:=fun p q hq=>by
  obtain⟨i,it,h1,h2,h3,h4⟩:=hsel p q hq;obtain⟨it2,j,hlk,hj⟩:=pick p i h1;rw[h2]at hlk;cases hlk;have hid:a4I (fun x=>if x=i then some q.1 else a1u nm 0 x) ρ ρc:=fun x y e L hL=>by
   simp only at e;split at e
   . rename_i ex;cases e;subst ex;have hn:nm[q.1]?=some (some x):=by
      rw[<- hnm];unfold G0;have:p<ids.length:=A5 h1;rw[h4,d6I,d5l (by simpa using this),d6F,h1];rfl
     simp_all
   . exact hf x y e L hL
  have h3':b7m (a1u nm 0) it=some q.2:=h3;have hh:=holdsI j i it hj
  -- names of cells
  have:holds E.N E.T ρc q.1 Z w q.2/\u4 E.N ρc q.1 q.2=u4 E.N ρ i it:=by
   obtain⟨L,hL⟩:=(S6 hh).1;have hq1:ρc q.1=some L:=by have:=hid i q.1 (by simp) L hL;exact this
   cases it with
   |own Ty cells =>
    obtain⟨ss',e1,e2⟩:=d5g.1 (show(a5j (a1u nm 0) cells).map (fun vs=>Item.own Ty vs)=some q.2 from h3');rw[<- e2];obtain⟨L',cs,hL',hbs,ho,hr⟩:=hh;rw[hL]at hL';cases hL';exact⟨⟨L,cs,hq1,hbs,ho,renL_ok hf e1 hr⟩,by rw[u6 hL,u6 hq1]⟩
   |ac t l =>
    have e2:Item.ac t l=q.2:=d6g h3';rw[<- e2];obtain⟨L',hL',r⟩:=hh;rw[hL]at hL';cases hL';exact⟨⟨L,hq1,r⟩,by rw[x7 hL,x7 hq1]⟩
   |fz t l =>
    have e2:Item.fz t l=q.2:=d6g h3';rw[<- e2];obtain⟨L',hL',r⟩:=hh;rw[hL]at hL';cases hL';exact⟨⟨L,hq1,r⟩,rfl⟩
   |ob kk fid x =>
    obtain⟨jf,e1,e2⟩:=d5g.1 (show(a1u nm 0 fid).map (fun j=>Item.ob kk j x)=some q.2 from h3');rw[<- e2];obtain⟨L',Lf,hL',hLf,r⟩:=hh;rw[hL]at hL';cases hL';have hLf':=hf _ _ e1 _ hLf;exact⟨⟨L,Lf,hq1,hLf',r⟩,by rw[F1 hLf,F1 hLf']⟩
   |rw t n cells =>
    obtain⟨ss',e1,e2⟩:=d5g.1 (show(a5j (a1u nm 0) cells).map (fun vs=>Item.rw t n vs)=some q.2 from h3');rw[<- e2];obtain⟨L',F,hL',hn,hb,hA,hr,hrep⟩:=hh;rw[hL]at hL';cases hL';exact⟨⟨L,F,hq1,hn,hb,hA,hr,renL_ok hf e1 hrep⟩,by rw[O8 hL,O8 hq1]⟩
  exact⟨i,it,j,h1,hj,this.1,this.2⟩
 have hsep:Sep B w Z w (u7 E.N E.T ρc B i'):=by
  refine⟨Ext.refl _ _,hm.sep.zlt,fun p t hp=>?_,fun p p2 t t2 hp hp2 hne b hb hb2=>?_⟩
  . obtain⟨q,hq,rfl⟩:=o8 hp;obtain⟨i,it,j,h1,hj,h2,h3⟩:=parts p q hq;have ok:=okW j i it hj;have hF:∀b,b∈u4 E.N ρc q.1 q.2->b∈u4 E.N ρ i it:=fun b hb=>by rw[<- h3];exact hb
    refine⟨h2,u5,fun b hb=>ok.lt b (hF b hb),fun b hb=>ok.O2 b (hF b hb),fun b hb=>.inl ?_,fun b hb=>hb⟩;refine d8M.2 ⟨i,d5c h1,?_⟩;obtain⟨it2,j2,hlk,hj2⟩:=pick p i h1;have hlk':lk its i=some it:=by
     obtain⟨i3,it3,g1,g2,g3,g4⟩:=hsel p q hq;rw[h1]at g1;cases g1;obtain⟨i5,it5,j5,k1,k2,_⟩:=parts p q hq;rw[hlk];by_cases e:it2=it
     . rw[e]
     . exfalso;have e1:=hm2.sep.apart j j2 _ _ (j6 (p5 (l2:=without its ids++lkd) hj)) (j6 (p5 (l2:=without its ids++lkd) hj2)) (fun ej=>by simp_all) b (hF b hb);have f1:u4 E.N ρ i it2=u4 E.N ρ i it:=by
        have:u4 E.N ρc q.1 q.2=u4 E.N ρ i it2:=by
         rw[g2]at hlk;cases hlk;have hh:=holdsI j2 i it2 hj2;obtain⟨L,hL⟩:=(S6 hh).1;have hn:nm[q.1]?=some (some i):=by rw[<- hnm];unfold G0;have:p<ids.length:=A5 h1;rw[g4,d6I,d5l (by simpa using this),d6F,h1];rfl
         have hq1:ρc q.1=some L:=by rw[hρc _ _ hn];exact hL
         cases it2 with
         |own Ty cells =>
          obtain⟨ss',e1,e2⟩:=d5g.1 (show(a5j (a1u nm 0) cells).map (fun vs=>Item.own Ty vs)=some q.2 from g3);rw[<- e2,u6 hL,u6 hq1]
         |ac t l =>
          have e2:Item.ac t l=q.2:=d6g g3;rw[<- e2,x7 hL,x7 hq1]
         |fz t l =>
          have e2:Item.fz t l=q.2:=d6g g3;rw[<- e2];rfl
         |ob kk fid x =>
          obtain⟨jf,e1,e2⟩:=d5g.1 (show(a1u nm 0 fid).map (fun j=>Item.ob kk j x)=some q.2 from g3);obtain⟨Lf,hLf⟩:=(S6 hh).2 kk fid x rfl;have hLf':=hf _ _ e1 _ hLf;rw[<- e2,F1 hLf,F1 hLf']
         |rw t n cells =>
          obtain⟨ss',e1,e2⟩:=d5g.1 (show(a5j (a1u nm 0) cells).map (fun vs=>Item.rw t n vs)=some q.2 from g3);rw[<- e2,O8 hL,O8 hq1]
        rw[<- this,h3]
       exact e1 (by show b∈u4 E.N ρ i it2;rw[f1];exact hF b hb)
    unfold b4S;rw[hlk'];exact hF b hb
  . obtain⟨q,hq,rfl⟩:=o8 hp;obtain⟨q2,hq2,rfl⟩:=o8 hp2;obtain⟨i,it,j,h1,hj,_,h3⟩:=parts p q hq;obtain⟨i2,it2,j2,g1,gj,_,g3⟩:=parts p2 q2 hq2;have hii:i≠i2:=fun e=>by
     subst e;have hl1:=A5 h1;have hl2:=A5 g1;rw[d5i hl1]at h1;rw[d5i hl2]at g1;cases h1;exact hne ((List.getElem_inj hnd).1 (d6g g1).symm)
    refine hm2.sep.apart j j2 _ _ (j6 (p5 (l2:=without its ids++lkd) hj)) (j6 (p5 (l2:=without its ids++lkd) gj)) (fun e=>by simp_all) b ?_ ?_
    . show b∈u4 E.N ρ i it;rw[<- h3];exact hb
    . show b∈u4 E.N ρ i2 it2;rw[<- g3];exact hb2
 have hnl:2*i'.length=nm.length:=by rw[hlen,hil]
 have run:=hG _ hv ρc Z w vs B (fun i hi=>by grind) hsep hg (renL1_ok hf ha ha0)
 refine run.mono fun v w' ⟨ρ',Z',s,it,n',hs',hfr',hρ',hz1,hz2,hr',hk⟩=>?_;split at hk
 . rename_i s' it' h1 h2
   let ρ2:p4:=fun i=>if i<nx then ρ i else ρ' (nm.length+(i-nx))
   have old:∀i L,ρ i=some L->ρ2 i=some L:=fun i L h=>by
    have:i<nx:=by
     rcases d5B i nx with h1|h1
     . exact h1
     . rw[hm.fr i h1]at h;cases h
    grind
   have hf2:a4I (a5A nm nx) ρ' ρ2:=fun j i h L hL=>by unfold a5A at h;grind
   obtain⟨itl,itp⟩:=renIs_ok h2;have x:=hs'.ext;have w0le:=hm.sep.ext.size;have Bold:∀b∈B,b<w.heap.size/\¬Z b/\(b∈C.B0∨C.w0.heap.size<=b):=fun b hb=>by obtain⟨i,j,it,hj,hb⟩:=hB b hb;have ok:=okW j i it hj;exact⟨ok.lt b hb,ok.O2 b hb,ok.org b hb⟩
   -- what is new,or was turned
   have newF:∀{p:Nat}{q:Nat×Item E.N},it'[p]?=some q->∃q0,it[p]?=some q0/\holds E.N E.T ρ2 q.1 Z' w' q.2/\u4 E.N ρ2 q.1 q.2=u4 E.N ρ' q0.1 q0.2/\∀b∈u4 E.N ρ2 q.1 q.2,b<w'.heap.size/\¬Z' b/\(b∈B∨w.heap.size<=b):=fun{p q} hq=>by obtain⟨q0,h3,h4,h5⟩:=itp p q hq;have ok:=hs'.ok p _ (j6 h3);obtain⟨a1,a2⟩:=renI_ok (T:=E.T) (Z:=Z') (w:=w') hf2 h4 h5 ok.holds;refine⟨q0,h3,a1,a2,fun b hb=>?_⟩;rw[a2]at hb;exact⟨ok.lt b hb,ok.O2 b hb,ok.org b hb⟩
   -- what lay beside
   have rest:∀{p:Nat}{q:Nat×Item E.N},(without its ids++lkd)[p]?=some q->holds E.N E.T ρ2 q.1 Z' w' q.2/\u4 E.N ρ2 q.1 q.2=u4 E.N ρ q.1 q.2/\∀b∈u4 E.N ρ q.1 q.2,b<w.heap.size/\¬Z' b/\(b∈C.B0∨C.w0.heap.size<=b)/\b ∉ B:=fun{p q} hq=>by
    have hq2:(within its ids++(without its ids++lkd))[(within its ids).length+p]?=some q:=by rw[d5d (by omega)];simpa using hq
    have ok:=hm2.sep.ok _ _ (j6 hq2);have nB:∀b∈u4 E.N ρ q.1 q.2,b ∉ B:=fun b hb hbB=>by obtain⟨i,j,it,hj,hb2⟩:=hB b hbB;have hjl:=A5 hj;exact hm2.sep.apart _ j _ _ (j6 hq2) (j6 (p5 (l2:=without its ids++lkd) hj)) (by omega) b hb hb2
    have h1:holds E.N E.T ρ q.1 Z' w' q.2:=u5 (B0:=C.B0) Z Z' B w w' (hm2.holds hq2) x (fun b hb h=>by
     rcases h with h|h
     . exact absurd hb (nB b h)
     . exact absurd h (Bold b hb).2.1) hz1
    obtain⟨a1,a2⟩:=P7 old h1;refine⟨a1,a2,fun b hb=>⟨ok.lt b hb,fun hz=>?_,ok.org b hb,nB b hb⟩⟩;rcases hz2 b hz with h|h|h
    . exact ok.O2 b hb h
    . exact nB b hb h
    . have:b<w.heap.size:=ok.lt b hb;omega
   refine⟨ρ2,Z',s',it'++without its ids,nx+(n'-nm.length),⟨⟨hm.sep.ext.trans x (fun b hb=>.inl hb) (fun b hb=>(Bold b hb).2.2),hs'.zlt,fun p t hp=>?_,fun p p2 t t2 hp hp2 hne b hb hb2=>?_⟩,fun i hi=>?_,fun i L e=>old i L (hm.ge i L e),fun b h=>hz1 b (hm.zge b h),fun b h=>?_⟩,⟨old,fun b h _=>hz1 b h,B,x,fun b hb hz=>absurd hz (Bold b hb).2.1⟩,ren2_ok hf2 h1 hr',hk⟩
   . rw[d5x]at hp;obtain⟨q,hq,rfl⟩:=o8 hp;by_cases hlt:p<it'.length
     . rw[d5l hlt]at hq;obtain⟨q0,_,h3,h4,h5⟩:=newF hq;refine⟨h3,u5,fun b hb=>(h5 b hb).1,fun b hb=>(h5 b hb).2.1,fun b hb=>?_,fun b hb=>hb⟩;rcases(h5 b hb).2.2 with h|h
       . exact(Bold b h).2.2
       omega
     . rw[d5d (by omega)]at hq;obtain⟨h3,h4,h5⟩:=rest hq;have hF:∀b,b∈u4 E.N ρ2 q.1 q.2->b∈u4 E.N ρ q.1 q.2:=fun b hb=>by rw[<- h4];exact hb
       exact⟨h3,u5,fun b hb=>by have:=(h5 b (hF b hb)).1;have:=x.size;omega,fun b hb=>(h5 b (hF b hb)).2.1,fun b hb=>(h5 b (hF b hb)).2.2.1,fun b hb=>hb⟩
   . rw[d5x]at hp hp2;obtain⟨q,hq,rfl⟩:=o8 hp;obtain⟨q2,hq2,rfl⟩:=o8 hp2;have hb:b∈u4 E.N ρ2 q.1 q.2:=hb;have hb2:b∈u4 E.N ρ2 q2.1 q2.2:=hb2;have cross:∀{u v:Nat×Item E.N}{a c:Nat},it'[a]?=some u->(without its ids++lkd)[c]?=some v->b∈u4 E.N ρ2 u.1 u.2->b∈u4 E.N ρ2 v.1 v.2->False:=fun{u v a c} hu hv h1 h2=>by
      grind
     by_cases e1:p<it'.length
     . rw[d5l e1]at hq;by_cases e2:p2<it'.length
       . rw[d5l e2]at hq2;obtain⟨u,hu,_,hu2,_⟩:=newF hq;obtain⟨u2,hv,_,hv2,_⟩:=newF hq2;rw[hu2]at hb;rw[hv2]at hb2;exact hs'.apart p p2 _ _ (j6 hu) (j6 hv) hne b hb hb2
       grind
     . rw[d5d (by omega)]at hq;by_cases e2:p2<it'.length
       . rw[d5l e2]at hq2;exact cross hq2 hq hb2 hb
       . rw[d5d (by omega)]at hq2;rw[(rest hq).2.1]at hb;rw[(rest hq2).2.1]at hb2;have g1:(within its ids++(without its ids++lkd))[(within its ids).length+(p-it'.length)]?=some q:=by rw[d5d (by omega)];simpa using hq
         have g2:(within its ids++(without its ids++lkd))[(within its ids).length+(p2-it'.length)]?=some q2:=by rw[d5d (by omega)];simpa using hq2
         exact hm2.sep.apart _ _ _ _ (j6 g1) (j6 g2) (by omega) b hb hb2
   . grind
   . rcases hz2 b h with h|h|h
     . exact hm.zle b h
     . exact .inr (Bold b h).2.2
     . exact .inr (.inr (by omega))
 . exact hk.elim
def a1b{nm:List Nat}{α:Type}{P:α->Nat->c7 E.N->List E.SV->Prop}:∀(ks:List TK)(nx:Nat)(its:c7 E.N)(acc:List E.SV)(K:Nat->c7 E.N->List E.SV->α),(∀nx its cs,P (K nx its cs) nx its cs)->a4h E nm ks nx its acc (a9q E nm ks nx its acc K) P
 |[],nx,its,acc,K,h=>h nx its acc
 |.v k::r,nx,its,acc,K,h=>fun x=>a1b r _ _ _ K h
 |.to j::r,nx,its,acc,K,h=>a1b r _ _ _ K h
 |.a0n::r,nx,its,acc,K,h=>a1b r _ _ _ K h
 |.any::r,nx,its,acc,K,h=>a1b r _ _ _ K h
def a5b{nm:List Nat}{α:Type}{P:α->Nat->c7 E.N->Prop}:∀(ps:List TP)(i nx:Nat)(its:c7 E.N)(K:Nat->c7 E.N->α),(∀nx its,P (K nx its) nx its)->a7r E nm ps i nx its (b5L E nm ps i nx its K) P
 |[],i,nx,its,K,h=>h nx its
 |.own _ T ks::r,i,nx,its,K,h=>a1b ks nx its [] _ (fun nx1 its1 cs=>a5b r (i+1) nx1 _ K h)
 |.ob _ k::r,i,nx,its,K,h=>fun x=>a5b r (i+1) _ _ K h
def a8h{α:Type}{P:α->E.St->Prop}:∀(vs:List LV)(new:E.St)(K:E.St->α),a3R vs=true->(∀new',P (K new') new')->Q2 E fx st vs (b9A E fx st vs new K) new P
 |[],new,K,_,h=>h new
 |.slot s k::r,new,K,ho,h=>fun x=>a8h r _ K ho h
 |.tree ss ps::r,new,K,ho,h=>a5b ps 0 _ _ _ (fun nx its=>a8h r _ K ho h)
 |.own _ _::_,_,_,ho,_=>by cases ho
 |.ob _ _::_,_,_,ho,_=>by cases ho
 |.cont _ _::_,_,_,ho,_=>by cases ho
 |.unr _::_,_,_,ho,_=>by cases ho
def normS_ok:∀{ss:List (List LV)}{new:E.St},Rel E C [] lkd st ρ Z f w->b2g E st ss=some new->∃ρ2,Mem E C ρ2 Z w (new.items++lkd) new.nx/\Tn ρ Z w ρ2 Z w/\∀k,e7 E.N E.T ρ2 Z w (f k) (w8 [] new k)
 |[],_,_,h=>by cases h
 |vs::r,new,hr,h=>by
  unfold b2g at h;cases hb:(a3R vs && b3t E [] st [] (inn st (B4 E [] st vs)) vs)with
  |false=>rw[hb,d5y]at h;exact normS_ok hr h
  |true =>
   rw[hb,d5r]at h;simp only[d4U]at hb;split at h
   . rename_i n0 hn0;simp only[d4T]at h;have hv:rbP E [] st (s5 [] st []++[]) (inn st (B4 E [] st vs)) vs (b9A E [] st vs ⟨[],[],[],st.nx⟩ id) (fun a=>a=n0):=by
      unfold rbP;rw[show s5 ([]:n5 E.N) st []++[]=[]from rfl,hb.2,d5r,hn0]
     obtain⟨n1,ρ2,a,e1,e2,h3⟩:=rbP_ok (K:=fun a n=>a=n) hr (hr.enter [] (B4 E [] st vs)) hv (a8h vs _ id hb.1 fun _=>rfl);subst e1;subst e2;have hm:=Mem.upC hr.mem h3.mem;subst h;refine⟨ρ2,by simp_all,h3.tn,fun k=>h3.slot k⟩
   . exact normS_ok hr h
def b0O.b19{cs:List Value}{ss:List E.SV}(hl:cs.length=ss.length)(h:∀(i:Nat)(u:Value)(s:E.SV),cs[i]?=some u->ss[i]?=some s->e7 E.N E.T ρ Z w u s):e7 E.N E.T ρ Z w (.tuple cs.toArray) (.F5 ss):=by
 induction ss generalizing cs with
 |nil =>
  have:cs=[]:=d6s (by omega);subst this;exact .M0
 |cons s ss ih =>
  cases cs with
  |nil=>simp at hl
  |cons c cs=>exact .I8 (h 0 c s rfl rfl) (ih (by simp_all) fun i u s hu hs=>h (i+1) u s hu hs)
def b0O.get{cs:List Value}{ss:List E.SV}(h:e7 E.N E.T ρ Z w (.tuple cs.toArray) (.F5 ss)):cs.length=ss.length/\∀(i:Nat)(u:Value)(s:E.SV),cs[i]?=some u->ss[i]?=some s->e7 E.N E.T ρ Z w u s:=by
 induction ss generalizing cs with
 |nil =>
  generalize e:Value.tuple cs.toArray=u at h;cases h with|M0=>simp_all
 |cons s ss ih =>
  obtain⟨v,r,rfl,h1,h2⟩:=e7.w4 h;grind
def a1T{st:E.St}:∀(n i k:Nat)(s:E.SV),(U6 E st n i)[k]?=some s->s=w8 [] st (i+k)/\k<n
 |0,i,k,s,h=>by simp[U6]at h
 |n+1,i,k,s,h=>by
  cases k with
  |zero=>simp[U6]at h;simp_all
  |succ k =>
   obtain⟨a,b⟩:=a1T n (i+1) k s (by simpa[U6]using h);grind
def a2k{st:E.St}:∀(n i:Nat),(U6 E st n i).length=n
 |0,_=>rfl
 |n+1,i=>by simp[U6,a2k n (i+1)]
def a62:∀{vs:List Value}{args:List E.SV}{n:Nat},e7 E.N E.T ρ Z w (.tuple vs.toArray) (.F5 args)->∀k s,lk (number n args) (n+k)=some s->e7 E.N E.T ρ Z w (nth vs k) s
 |vs,[],n,_,k,s,e=>by cases e
 |vs,a::args,n,h,k,s,e=>by
  obtain⟨v,r,rfl,h1,h2⟩:=e7.w4 h;have e:(bif Nat.beq n (n+k)then some a else lk (number (n+1) args) (n+k))=some s:=e;cases k with
  |zero=>rw[d6r,d7h,d5r]at e;cases e;exact h1
  |succ k =>
   rw[a02 (by omega),d5y]at e;exact a62 (n:=n+1) h2 k s (by grind)
def a4b:∀{vs:List Value}{args:List E.SV},e7 E.N E.T ρ Z w (.tuple vs.toArray) (.F5 args)->vs.length=args.length
 |vs,[],h=>by
  generalize e:Value.tuple vs.toArray=u at h;cases h with
  |M0=>simp_all
 |vs,a::args,h=>by obtain⟨v,r,rfl,h1,h2⟩:=e7.w4 h;simp[a4b h2]
def b6D:∀{vs:List Value}{k:Nat}{u:Value},vs[k]?=some u->nth vs k=u
 |[],k,u,h=>by simp at h
 |v::vs,0,u,h=>by simp at h;exact h
 |v::vs,k+1,u,h=>b6D (vs:=vs) (by simpa using h)
def c2E{vs:List Value}{args:List E.SV}{i:Nat}{v':E.SV}(h:e7 E.N E.T ρ Z w (.tuple vs.toArray) (.F5 args))(hv:∀u,vs[i]?=some u->e7 E.N E.T ρ Z w u v'):e7 E.N E.T ρ Z w (.tuple vs.toArray) (.F5 (args.set i v')):=by obtain⟨h1,h2⟩:=b0O.get h;refine b0O.b19 (by simp_all) fun k u s hu hs=>?_;grind
def frzAt_ok:∀{fz:List Nat}{args a':List E.SV}{its its':c7 E.N}{Z:Nat->Prop}{vs:List Value},Mem E C ρ Z w (its++lkd) nx->b2h its fz args=some (a',its')->e7 E.N E.T ρ Z w (.tuple vs.toArray) (.F5 args)->∃Z',Mem E C ρ Z' w (its'++lkd) nx/\Tn ρ Z w ρ Z' w/\e7 E.N E.T ρ Z' w (.tuple vs.toArray) (.F5 a')
 |[],args,a',its,its',Z,vs,hm,h,ha=>by simp only[b2h,d4T,d5A]at h;obtain⟨rfl,rfl⟩:=h;exact⟨Z,hm,Tn.refl _ _ _,ha⟩
 |i::r,args,a',its,its',Z,vs,hm,h,ha=>by
  unfold b2h at h;split at h
  . rename_i v hv;split at h
    . rename_i v' its1 h1;obtain⟨Z1,m1,t1,e1⟩:=frz1_ok hm h1;have ha1:e7 E.N E.T ρ Z1 w (.tuple vs.toArray) (.F5 (args.set i v')):=c2E (t1.rep ha) fun u hu=>e1 u ((b0O.get ha).2 i u v hu hv);obtain⟨Z2,m2,t2,a2⟩:=frzAt_ok m1 h ha1;exact⟨Z2,m2,t1.trans t2,a2⟩
    . cases h
  . cases h
def fcArgs_ok{o:FC E.N}{args a':List E.SV}{its':c7 E.N}{m:Nat}{vs:List Value}(hg:E.G.is Z w)(hm:Mem E C ρ Z w (its++lkd) nx)(h:b0Z o args its nx=some (a',its',m))(ha:e7 E.N E.T ρ Z w (.tuple vs.toArray) (.F5 args)) :
  ∃ρ' Z',Mem E C ρ' Z' w (its'++lkd) m/\Tn ρ Z w ρ' Z' w/\e7 E.N E.T ρ' Z' w (.tuple vs.toArray) (.F5 a'):=by
 unfold b0Z at h;split at h
 . rename_i a i hf;obtain⟨Z1,m1,t1,a1⟩:=frzAt_ok hm hf ha;cases hb:o.ss.isEmpty with
   |true =>
    grind
   |false =>
    rw[hb,d5y]at h;split at h
    . rename_i new hn;simp only[d4T,d5A]at h;obtain⟨rfl,rfl,rfl⟩:=h;have h0:Rel E (C.at ρ Z1 w) [] lkd ⟨number 0 a,[],i,nx⟩ ρ Z1 (nth vs) w:=⟨fun k s e=>a62 (n:=0) a1 k s (by simpa using e),fun p hp=>(by cases hp),fun k j b s e=>(by cases e),m1.down,Tn.refl _ _ _,a1s.turn hg t1⟩;obtain⟨ρ2,m2,t2,r2⟩:=normS_ok h0 hn;refine⟨ρ2,Z1,Mem.upC m1 m2,t1.trans t2,b0O.b19 (by rw[a4b a1,a2k]) fun k u s hu hs=>?_⟩;obtain⟨e,_⟩:=a1T _ 0 k s hs;rw[d6I]at e;have:=r2 k;rw[b6D hu]at this;simp_all
    . cases h
 . cases h
def fcRun_ok(hE:c8 E){K:Nat}{o:FC E.N}{args:List E.SV}{s:S1 E.N}{vs:List Value}(hK:E.fnc K=some o)(h:b5V o args its nx=some s)(ho:q9 s.ob)(hm:Mem E C ρ Z w (its++lkd) nx)(hg:E.G.is Z w)(ha:e7 E.N E.T ρ Z w (.tuple vs.toArray) (.F5 args)) :
  G2 E.P K vs w (fun v w'=>∃ρ' Z',Mem E C ρ' Z' w' (s.items++lkd) s.nx/\Tn ρ Z w ρ' Z' w'/\e7 E.N E.T ρ' Z' w' v s.v/\q9 s.hy):=by
 unfold b5V at h;split at h
 . rename_i a i m hA;obtain⟨ρ1,Z1,m1,t1,a1⟩:=fcArgs_ok hg hm hA ha;generalize reach i 60 (a.flatMap a6U) []=ids at h;unfold c5G at h;cases hd:distinct ids with
   |false=>simp_all
   |true =>
    rw[hd,d5r]at h;split at h
    . rename_i a' i' h1 h2;split at h
      . rename_i r hr;split at h
        . rename_i v it h3 h4;simp only[d4T]at h;subst h;have hG:=hE.fnc K o a' i' r hK hr ho;refine(b6o (k:=fun sv it' n=>sv=v/\it'=it++without i ids/\n=m+(r.n-(G0 i ids).length)/\q9 r.hy) hd h1 h2 hG (fun hy=>?_) m1 (a1s.turn hg t1) a1).mono fun v' w' ⟨ρ',Z',sv,it',n',q1,q2,q3,q4⟩=>?_
          . simp_all
          . obtain⟨rfl,rfl,rfl,hy⟩:=q4;exact⟨ρ',Z',q1,t1.trans q2,q3,hy⟩
        . cases h
      . cases h
    . cases h
 . cases h
end
def H6(E:Env)(inl:Inl E):Prop:=
 ∀(K:Nat)(args:List E.SV)(its lkd:c7 E.N)(nx:Nat)(k:E.SV->c7 E.N->Nat->Prop),inl K args its lkd nx k->(E.inl K).isSome=true /\
  ∀(C:Ctx)(ρ:p4)(Z:Nat->Prop)(w:World)(vs:List Value),Mem E C ρ Z w (its++lkd) nx->E.G.is Z w->e7 E.N E.T ρ Z w (.tuple vs.toArray) (.F5 args) ->
   G2 E.P K vs w (fun v w'=>∃ρ' Z' s its' nx',Mem E C ρ' Z' w' (its'++lkd) nx'/\Tn ρ Z w ρ' Z' w'/\e7 E.N E.T ρ' Z' w' v s/\k s its' nx')
section
variable{E:Env}{C:Ctx}{n:Nat}{ops:List Oper}{Q:Exit->Fr->World->Prop}{rest:List Oper}{f:Fr}{w w':World}
variable{ty T T':TypeId}{pos:String}{after:Array Edge}{x y z:Operand}{a b:Int}{ρ ρ':p4}{Z Z':Nat->Prop}{its its' lkd:c7 E.N}{nx:Nat}{s:S1 E.N}
variable{fx:n5 E.N}{st:E.St}{inl:Inl E}
def Mem.c3R(hm:Mem E C ρ Z w its nx)(x:Ext [] w w'):Mem E C ρ Z w' its nx/\Tn ρ Z w ρ Z w':=by have:=hm.join (new:=[]) (ρ':=ρ) (Z':=Z) (nx':=nx) (fun _ _ h=>h) hm.fr (fun _ h=>h) (fun _ h=>.inl h) ⟨x,fun b hb=>by have:=hm.sep.zlt b hb;have:=x.size;omega,fun k t h=>by simp[u7]at h,fun j k s t h=>by simp[u7]at h⟩;exact this
def e7.bare{v:Value}{s:E.SV}(h:e7 E.N E.T (fun _=>none) (fun _=>False) w v s):e7 E.N E.T ρ Z w v s:=h.I3 (Ext.refl [] w) (fun _ h=>by cases h) (fun _ h _=>h.elim) (fun _ _ h=>by cases h)
def c5o{α:Type}{a:Array α}{x:α}(h:a.toList=[x]):a=#[x]:=by grind
abbrev KR(E:Env)(C:Ctx)(m:Bool)(n:Nat)(ops:List Oper)(Q:Exit->Fr->World->Prop)(rest:List Oper)(fx:n5 E.N)(lkd:c7 E.N)(f:Fr)(d:Option Nat)(k:E.St->Prop):Prop:=
 ∀st' ρ' Z' v w',Rel E C fx lkd st' ρ' Z' (R7 f d v) w'->k st'->WL E.P m n ops Q rest (R7 f d v) w'
def a0W{d:Option Nat}(h:free n fx st d=true):∀d',d=some d'->Nat.blt d' n=true:=fun d' e=>by subst e;exact(H9 h).1
def b2q(hE:c8 E){K:Nat}{Cf:List E.SV->Nat->Option (CR E.N)}{r:CR E.N}{args:List E.SV}{vs:List Value}(hm:Mem E C ρ Z w its nx)(hc:E.M5 K=some Cf)(hl:E.U0 K=true)(hr:Cf (args.map (a1x its)) nx=some r)(hi:r.its.isEmpty=true)(hp:(args.map (a1x its)).all F7=true)(ho:q9 r.ob)(hg:E.G.is Z w)
  (hv:e7 E.N E.T ρ Z w (.tuple vs.toArray) (.F5 args)):G2 E.P K vs w (fun v w'=>Ext [] w w'/\e7 E.N E.T (fun _=>none) (fun _=>False) w' v r.r/\q9 r.hy):=by
 have h1:=lent_ok (F:=[]) hm (fun _ h=>by cases h) (fun _ _ _ _ _ _ h=>by cases h) hv;exact hE.U0 K Cf _ _ r hc hl hr (d8N.1 hi) ho (seen Z w []) w vs (fun b hb=>hb.1) (E.G.I3 hg (Ext.refl [] w) (fun _ h=>by cases h) (fun b hz hb=>⟨hb,fun h=>by cases h⟩)) (L0 hp h1 _)
def b3Y(hE:c8 E){K:Nat}{args:List E.SV}{vs:List Value}{a:Q1 E.N}(h:Rel E C fx lkd st ρ Z f w)(hs:b4L lkd st K args=some a)(ho:q9 a.ob)
  (hv:e7 E.N E.T ρ Z w (.tuple vs.toArray) (.F5 args)):(∀ars w,(callFunc K ars).run E.P w=.ok (.enter K ars) w)/\G2 E.P K vs w (fun v w'=>Ext [] w w'/\e7 E.N E.T (fun _=>none) (fun _=>False) w' v a.v/\q9 a.hy):=by
 have roc:(match E.roc K with|some C=>C args (st.items++lkd)|none=>none)=some a->(∀ars w,(callFunc K ars).run E.P w=.ok (.enter K ars) w)/\G2 E.P K vs w (fun v w'=>Ext [] w w'/\e7 E.N E.T (fun _=>none) (fun _=>False) w' v a.v/\q9 a.hy):=fun hs=>by
  split at hs
  . rename_i Cf hroc;exact⟨hE.a5m K (by simp_all),hE.roc K Cf args _ a hroc hs ho ρ Z w vs h.a4g (fun i x hi=>by obtain⟨j,hj,_⟩:=x8 hi;exact h.mem.holds hj) hv⟩
  . cases hs
 unfold b4L at hs;split at hs
 . rename_i a0 hl0;simp only[d4T]at hs;subst hs;unfold c09 at hl0;cases hl:E.U0 K with
   |true =>
    rw[hl,d5r]at hl0;split at hl0
    . rename_i Cf hcon;split at hl0
      . rename_i r hr;have⟨hb2,ho3⟩:=j3 hl0;simp only[d4T]at ho3;subst ho3;simp only[d4U]at hb2;exact⟨hE.call K (by simp_all),b2q hE h.mem hcon hl hr hb2.1 hb2.2 ho h.a4g hv⟩
      . cases hl0
    . cases hl0
   |false=>simp_all
 grind
def vcCall_ok(hE:c8 E)(hI:H6 E inl){ch:List (Nat×Bool)}{d:Option Nat}{c:Call}{k:E.St->Prop}(h:Rel E C fx lkd st ρ Z f w)(hG:Z5 f ch)(hf:free n fx st d=true)(hv:a6F inl fx lkd st ch d c k)(K:KR E C false n ops Q rest fx lkd f d k) :
  WL E.P false n ops Q (⟨d,.call c,ty,pos,after,none⟩::rest) f w:=by
 unfold a6F at hv;split at hv
 . split at hv
   . rename_i id args o hcal hyl;obtain⟨z,xs,Ts,L,rfl,hz,hL,hargs⟩:=calleeY_ok (fun o=>h.ev hG o) hcal;have hn:=a0W hf;unfold c4I at hv;cases hb:(d.isSome && (args.map (a1x (st.items++lkd))).all F7)with
     |false=>grind
     |true =>
      rw[hb,d5r]at hv;rw[d4U]at hb;obtain⟨hd0,hb⟩:=hb;split at hv
      . rename_i k' fid xx hi;split at hv
        . rename_i hk;obtain⟨ok0,oC⟩:=o;simp only at hk;subst hk;split at hv
          . rename_i r hr;obtain⟨ho,hv⟩:=a3m hv;cases d with
            |none=>cases hd0
            |some d =>
             obtain⟨j,hj,hu,_⟩:=x8 hi;have hjg:=p5 (l2:=lkd) hj;obtain⟨L',Lf,hL',hLf,hob⟩:=h.mem.holds hjg;have hL':ρ id=some L':=hL';rw[hL]at hL';cases hL';have okj:=h.mem.sep.ok j _ (j6 hjg);have hF:(C9 E.N E.T ρ C.B0 id (.ob k' fid xx)).F=Lf.bs:=by show u4 E.N ρ id (.ob k' fid xx)=_;exact F1 hLf
             have hA:∀id2 t l,lk (st.items++lkd) id2=some (.ac t l)->∀b∈u4 E.N ρ id2 (.ac t l),b ∉ Lf.bs:=fun id2 t l hi2 b hb hb'=>by
              obtain⟨j2,hj2,_⟩:=x8 hi2;have hne:j2≠j:=fun e=>by simp_all
              exact h.mem.sep.apart j2 j _ _ (j6 hj2) (j6 hjg) hne b hb (by simp_all)
             have hlv:=L0 (ρ':=fun _=>none) hb (lent_ok (F:=Lf.bs) h.mem (fun b hb hz=>okj.O2 b (by simp_all) hz) hA hargs);have run:=hE.yl _ xx _ r hyl hr ho Z (seen Z w Lf.bs) w _ L.b Lf.bs h.mem.sep.zlt (fun b hb=>hb.1) (fun b hb=>⟨okj.O2 b (by simp_all),fun hs=>hs.2 hb⟩) hob (E.G.I3 h.a4g (Ext.refl [] w) (fun _ h=>by cases h) (fun b hz hb=>⟨hb,fun hm=>okj.O2 b (by simp_all) hz⟩)) hlv;refine c4w hz run (hn d rfl) fun v w' ⟨F',hob',⟨x,hF'⟩,hrep,hy⟩=>?_;obtain⟨ρ1,m1,t2⟩:=b5l h.mem hi hL hLf hob' x hF';exact K _ _ _ _ _ (h.put hf t2 m1 (e7.bare hrep)) (X4 hv hy)
          simp_all
        simp_all
      simp_all
   . unfold c5H at hv;split at hv
     . rename_i x T hc;split at hv
       . rename_i s hs;cases d with
         |some d=>exact hv.elim
         |none =>
          obtain⟨cal,args,Ts⟩:=c;unfold d2o at hc;split at hc
          . rename_i b hcal;split at hc
            . split at hc
              . rename_i x' T' ha hT';obtain rfl:=c5o ha;obtain rfl:=c5o hT';simp only[d4T,d5A]at hc;obtain⟨rfl,rfl⟩:=hc;simp only at hcal;subst hcal;exact sClear_ok h.mem (h.ev hG _) hs fun v ρ' Z' w' m1 t1 hr _=>K _ _ _ _ _ (h.put hf t1 m1 hr) hv
              . cases hc
            . cases hc
          . cases hc
       . exact hv.elim
     . exact hv.elim
 . rename_i K0 args hcal;obtain⟨z,xs,Ts,cap,rfl,hz,hargs⟩:=callee_ok (fun o=>h.ev hG o) hcal;have hn:=a0W hf;split at hv
   . rename_i Cf hcon;have hK:=hE.call K0 (by simp_all);cases hl:E.U0 K0 with
     |true =>
      rw[hl,d5r]at hv;unfold b8Z at hv;rw[hcon]at hv;simp only at hv;split at hv
      . rename_i r hr;cases hb:(r.its.isEmpty && (args.map (a1x (st.items++lkd))).all F7)with
        |false=>grind
        |true =>
         rw[hb,d5r]at hv;simp only[d4U]at hb;obtain⟨ho,hv⟩:=a3m hv;refine Y4 hz hK (b2q hE h.mem hcon hl hr hb.1 hb.2 ho h.a4g hargs) hn fun v w' ⟨x,hr',hy⟩=>?_;obtain⟨m1,t1⟩:=h.mem.c3R x;exact K _ _ _ _ _ (h.put hf t1 m1 (e7.bare hr')) (X4 hv hy)
      simp_all
     |false =>
      rw[hl,d5y]at hv;split at hv
      . rename_i args' its hfz;obtain⟨Z1,hm1,t1,he⟩:=frz_ok h.mem hfz;unfold b9X at hv;rw[hcon]at hv;simp only at hv;split at hv
        . rename_i r hr;cases hpu:args'.all F7 with
          |false=>simp_all
          |true =>
          rw[hpu,d5r]at hv;obtain⟨ho,hv⟩:=a3m hv;have ok:=(hE.M5 K0 Cf args' st.nx r hcon hr hpu ho).run ρ Z1 w _ hm1.fr hm1.sep.zlt (a1s.turn h.a4g t1) (he.F5 hargs);refine Y4 hz hK ok hn fun v w' ⟨ρ',Z',hρ,hfr,hzz,hz',hrep,hsep,hy⟩=>?_;have⟨m2,t2⟩:=hm1.join hρ hfr hzz hz' hsep;rw[<- d5x]at m2;exact K _ _ _ _ _ (h.put hf (t1.trans t2) m2 hrep) (X4 hv hy)
        simp_all
      simp_all
   . split at hv
     . rename_i o hobc;have hK:=hE.call K0 (by simp_all);unfold b9i at hv;split at hv
       . rename_i v0 args0;split at hv
         . rename_i id off;cases hb:(Nat.beq off 0 && (args0.map (a1x (st.items++lkd))).all F7)with
           |false=>grind
           |true =>
            rw[hb,d5r]at hv;simp only[d4U]at hb;have hoff:=d4W hb.1;subst hoff;split at hv
            . rename_i k' fid xx hi;split at hv
              . rename_i hk;obtain⟨ok0,oC⟩:=o;simp only at hk;subst hk;split at hv
                . rename_i r hr;obtain⟨ho,hv⟩:=a3m hv;obtain⟨j,hj,hu,_⟩:=x8 hi;obtain⟨L,Lf,hL,hLf,hob⟩:=h.mem.holds (p5 (l2:=lkd) hj);have hL:ρ id=some L:=hL;have hjg:=p5 (l2:=lkd) hj;have okj:=h.mem.sep.ok j _ (j6 hjg);have hF:(C9 E.N E.T ρ C.B0 id (.ob k' fid xx)).F=Lf.bs:=by show u4 E.N ρ id (.ob k' fid xx)=_;exact F1 hLf
                  obtain⟨v1,vr,hvs,hv1,hvr⟩:=e7.w4 hargs;have hv1':v1=.pointer (some ⟨L.b,0,none⟩):=by
                   cases hv1 with
                   |ref hL'=>simp_all
                  subst hv1';have hA:∀id2 t l,lk (st.items++lkd) id2=some (.ac t l)->∀b∈u4 E.N ρ id2 (.ac t l),b ∉ Lf.bs:=fun id2 t l hi2 b hb hb'=>by
                   obtain⟨j2,hj2,_⟩:=x8 hi2;have hne:j2≠j:=fun e=>by simp_all
                   exact h.mem.sep.apart j2 j _ _ (j6 hj2) (j6 hjg) hne b hb (by simp_all)
                  have hlv:=L0 (ρ':=fun _=>none) hb.2 (lent_ok (F:=Lf.bs) h.mem (fun b hb hz=>okj.O2 b (by simp_all) hz) hA hvr);have run:=hE.obc K0 _ xx _ r hobc hr ho Z (seen Z w Lf.bs) w vr L.b Lf.bs h.mem.sep.zlt (fun b hb=>hb.1) (fun b hb=>⟨okj.O2 b (by simp_all),fun hs=>hs.2 hb⟩) hob (E.G.I3 h.a4g (Ext.refl [] w) (fun _ h=>by cases h) (fun b hz hb=>⟨hb,fun hm=>okj.O2 b (by simp_all) hz⟩)) hlv;rw[<- hvs]at run;refine Y4 hz hK run hn fun v w' ⟨F',hob',⟨x,hF'⟩,hrep,hy⟩=>?_;obtain⟨ρ1,m1,t2⟩:=b5l h.mem hi hL hLf hob' x hF';exact K _ _ _ _ _ (h.put hf t2 m1 (e7.bare hrep)) (X4 hv hy)
                simp_all
              simp_all
            simp_all
         simp_all
       simp_all
     . split at hv
       . rename_i o hwrc;have hK:=hE.call K0 (by simp_all);unfold c4G at hv;split at hv
         . rename_i v0 T id off;cases hb:(Nat.beq off 0 && Nat.beq T o.T && F7 (a1x (st.items++lkd) v0))with
           |false=>simp_all
           |true =>
            rw[hb,d5r]at hv;simp only[d4U]at hb;have hoff:=d4W hb.1.1;have hT:=d4W hb.1.2;subst hoff hT;split at hv
            . rename_i S x hi;cases hS:Nat.beq S o.S with
              |false=>simp_all
              |true =>
               rw[hS,d5r]at hv;have hS:=d4W hS;subst hS;split at hv
               . rename_i r hr;obtain⟨ho,hv⟩:=a3m hv;obtain⟨j,hj,hu,_⟩:=x8 hi;have hjg:=p5 (l2:=lkd) hj;obtain⟨L,cs,hL,hbs,hown,hrep⟩:=h.mem.holds hjg;have hL:ρ id=some L:=hL;obtain⟨cv,cr,rfl,hcv,_,hcr⟩:=e8.cons_inv hrep;obtain rfl:=e8.A1 hcr;obtain⟨rfl,hxI⟩:cv=.int .i64 x/\InI x:=by cases hcv with|int h=>simp_all
                 obtain⟨v1,vr,hvs,hv1,hvr⟩:=e7.w4 hargs;obtain⟨v2,vr2,hvr2,hv2,hvr3⟩:=e7.w4 hvr;have hnil:vr2=[]:=by generalize e:Value.tuple vr2.toArray=u at hvr3;cases hvr3 with|M0=>simpa using e
                 have hv2':v2=.iface o.T (.pointer (some ⟨L.b,0,none⟩)):=by
                  cases hv2 with
                  |ifc h=>cases h with|ref hL'=>simp_all
                 subst hnil hv2' hvr2;have okj:=h.mem.sep.ok j _ (j6 hjg);have hF:(C9 E.N E.T ρ C.B0 id (.own o.S [.int .i64 x])).F=[L.b]:=by show u4 E.N ρ id (.own o.S [.int .i64 x])=_;rw[u6 hL,hbs]
                 have hnz:∀b∈[L.b],¬Z b:=fun b hb=>okj.O2 b (by simp_all);have hA:∀id2 t l,lk (st.items++lkd) id2=some (.ac t l)->∀b∈u4 E.N ρ id2 (.ac t l),b ∉ [L.b]:=fun id2 t l hi2 b hb hb'=>by
                  obtain⟨j2,hj2,_⟩:=x8 hi2;have hne:j2≠j:=fun e=>by simp_all
                  exact h.mem.sep.apart j2 j _ _ (j6 hj2) (j6 hjg) hne b hb (by simp_all)
                 have hlv:=L0 (ρ':=fun _=>none) (ss:=[a1x (st.items++lkd) v0]) (by simp[hb.2]) (lent_ok (cs:=[v1]) (ss:=[v0]) (F:=[L.b]) h.mem (fun b hb hz=>hnz b hb hz) hA (.I8 (cs:=[]) hv1 .M0));obtain⟨u1,ur,hu1,hl1,_⟩:=e7.w4 hlv;obtain⟨rfl,rfl⟩:v1=u1/\[]=ur:=by simp_all
                 have run:=hE.wrc K0 o _ x r hwrc hr ho (seen Z w [L.b]) w v1 L.b (fun b hb=>hb.1) (fun hs=>hs.2 (by simp)) (E.G.I3 h.a4g (Ext.refl [] w) (fun _ h=>by cases h) (fun b hz hb=>⟨hb,fun hm=>hnz b hm hz⟩)) hl1 hown hxI;rw[<- hvs]at run;refine Y4 hz hK run hn fun v w' ⟨x',hown',hrx,hrep',hy⟩=>?_;have hs1:=Wl.Sep.D5 h.mem.tn (j+1) (t:=C9 E.N E.T ρ C.B0 id (.own o.S [.int .i64 x])) (t':=a7K L.b o.S [.int .i64 r.x] C.B0) (w':=w') (by rw[d5F];exact j6 hjg) (by simp_all) hown' b9b (fun b hb=>⟨.inl (by simp_all),by have:=hown'.lt;simp_all⟩) rfl;have hjt:j<(u7 E.N E.T ρ C.B0 (st.items++lkd)).length:=by simpa[u7]using A5 hjg
                 have t1:=a4x (Z:=Z) (w:=w) (ρ:=ρ) (ρ':=ρ) (k:=0) hs1 (by simp) (fun _ _ h=>h);have hs2:Sep C.B0 C.w0 Z w' ((u7 E.N E.T ρ C.B0 (st.items++lkd)).set j (a7K L.b o.S [.int .i64 r.x] C.B0)):=a9e (u:=tnI Z w) (by simp_all);have m1:=h.mem.turn (i':=.own o.S [.int .i64 r.x]) hjg hs2 ⟨L,_,hL,hbs,hs2.at j (t:=a7K L.b o.S [.int .i64 r.x] C.B0) (by simp_all),e8.cons (.int fun _=>hrx) rfl e8.nil⟩ (fun b hb=>by rw[u6 hL,hbs]at hb;exact hb);rw[d7B _ _ (A5 hj),<- hu]at m1;exact K _ _ _ _ _ (h.put hf t1 m1 (e7.bare hrep')) (X4 hv hy)
               simp_all
            simp_all
         simp_all
       . split at hv
         . rename_i s hs;obtain⟨o,hfn,hs⟩:=d5j.1 hs;have hK:=hE.a5n K0 (by rw[hfn];rfl);obtain⟨ho,hv⟩:=a3m hv;refine Y4 hz hK (fcRun_ok hE hfn hs ho h.mem h.a4g hargs) hn fun v w' ⟨ρ',Z',hm',t',hr,hy⟩=>?_;exact K _ _ _ _ _ (h.put hf t' hm' hr) (X4 hv hy)
         . obtain⟨hi,hrun⟩:=hI _ _ _ _ _ _ hv;have hK:=hE.call K0 (by rw[hi];simp);refine Y4 hz hK (hrun C ρ Z w _ h.mem h.a4g hargs) hn fun v w' ⟨ρ',Z',s,its',nx',hm',t',hr,hk⟩=>?_;exact K _ _ _ _ _ (h.put hf t' hm' hr) hk
def vcOp1_ok{q:Bool}(hE:c8 E)(hI:H6 E inl){d:Option Nat}{op:Op}{k:E.St->Prop}(h:Rel E C fx lkd st ρ Z f w)(hf:free n fx st d=true)(hv:c0n q inl fx lkd st d op ty k)(K:KR E C q n ops Q rest fx lkd f d k) :
  WL E.P q n ops Q (⟨d,op,ty,pos,after,none⟩::rest) f w:=by
 unfold c0n at hv;split at hv
 . rename_i a hs;cases d with
   |none=>exact hv.elim
   |some d =>
    obtain⟨ho,hv⟩:=a3m (show cj a.ob (im a.hy (k (put st (some d) a.v)))from hv);exact stepG_ok h Z5.nil hs ho (H9 hf).1 fun v hr hy=>K _ _ _ _ _ (h.b8v hf hr) (X4 hv hy)
 . cases q with
   |true=>exact hv.elim
   |false =>
    rw[d5y]at hv;split at hv
    . rename_i s hs;cases hd:okD op d with
      |false=>simp_all
      |true =>
       rw[hd,d5r]at hv;obtain⟨ho,hv⟩:=a3m hv;refine stepE_ok hE h.mem (fun o=>h.ev Z5.nil o) hs ho ?_ fun v ρ' Z' w' m1 t1 hr hy=>K _ _ _ _ _ (h.put hf t1 m1 hr) (X4 hv hy);have hb:=a0W hf;cases op with
       |store T a x =>
        cases d with
        |none=>rfl
        |some d=>cases hd
       |mapUpdate T a x y =>
        cases d with
        |none=>rfl
        |some d=>cases hd
       |_ =>
        cases d with
        |none=>cases hd
        |some d=>exact⟨d,rfl,hb d rfl⟩
    . split at hv
      . rename_i c hc;cases op with
        |call c' =>
         simp only[a3J,d4T]at hc;subst hc;split at hv
         . rename_i a ha;cases d with
           |none=>cases ha
           |some d =>
            have ha2:a9a fx lkd st [] c'=some a:=ha;clear ha;obtain⟨ho,hv⟩:=a3m hv;unfold a9a at ha2;split at ha2
            . rename_i K0 args hcal;obtain⟨z,xs,Ts,cap,rfl,hz,hargs⟩:=callee_ok (fun o=>h.ev Z5.nil o) hcal;obtain⟨hK,hrun⟩:=b3Y hE h ha2 ho hargs;refine Y4 hz hK hrun (a0W hf) fun v w' ⟨x,hr',hy⟩=>?_;obtain⟨m1,t1⟩:=h.mem.c3R x;exact K _ _ _ _ _ (h.put hf t1 m1 (e7.bare hr')) (X4 hv hy)
            . cases ha2
         . exact vcCall_ok hE hI h Z5.nil hf hv K
        |_=>cases hc
      simp_all
def b1N{T:Nat}{b b':Bool}{vx vy:Value}{sx sy:E.SV}{p:Prop}(h:c2T E T b' sx sy=some (p,b))(hx:e7 E.N E.T ρ Z w vx sx)(hy:e7 E.N E.T ρ Z w vy sy):b=b'/\(∃e,∀w,(underlying T).run E.P w=.ok (.slice e) w)/\vy=.slice none 0 0/\((p/\∃n c,vx=.slice none n c)∨∃a n c,vx=.slice (some a) n c):=by
 unfold c2T at h;split at h
 . rename_i t l;split at h
   . obtain⟨hi,h⟩:=j3 h;simp only[d4T,d5A]at h;obtain⟨rfl,rfl⟩:=h;cases hy;cases hx with|sl hx =>
     obtain⟨_,A,cap,e1,⟨hn0,hcap⟩,_⟩:=hx;simp only[d6Z,and_true]at e1;refine⟨rfl,a1Z hi,rfl,?_⟩;cases A with
     |some a=>exact .inr ⟨a,_,_,e1⟩
     |none=>exact .inl ⟨d6s (by have:=hn0 rfl;omega),_,_,e1⟩
   . cases h
 . cases h
def vcOp_ok{q:Bool}(hE:c8 E)(hI:H6 E inl){d:Option Nat}{op:Op}{k:E.St->Prop}(h:Rel E C fx lkd st ρ Z f w)(hf:free n fx st d=true)(hv:b5i q inl fx lkd st d op ty k)(K:KR E C q n ops Q rest fx lkd f d k) :
  WL E.P q n ops Q (⟨d,op,ty,pos,after,none⟩::rest) f w:=by
 unfold b5i at hv;split at hv
 . rename_i p b hs;cases d with
   |none=>exact hv.elim
   |some d =>
    have hv:(p->k (put st (some d) (bif b then .tt else .ff)))/\k (put st (some d) (bif b then .ff else .tt)):=hv;have hn:=(H9 hf).1;unfold d0t at hs;split at hs
    . rename_i bo T x y T';split at hs
      . obtain⟨rfl,⟨e,hT⟩,hvy,hx⟩:=b1N hs (h.ev Z5.nil x) (h.ev Z5.nil y);rcases hx with⟨hp,n1,c1,hvx⟩|⟨a,n1,c1,hvx⟩
        . exact b6a hT hvx hvy hn (K _ _ _ _ _ (h.b8v hf .tt) (hv.1 hp))
        . exact b5X hT hvx hvy hn (K _ _ _ _ _ (h.b8v hf .ff) hv.2)
      . obtain⟨rfl,⟨e,hT⟩,hvy,hx⟩:=b1N hs (h.ev Z5.nil x) (h.ev Z5.nil y);rcases hx with⟨hp,n1,c1,hvx⟩|⟨a,n1,c1,hvx⟩
        . exact b5F hT hvx hvy hn (K _ _ _ _ _ (h.b8v hf .ff) (hv.1 hp))
        . exact b6m hT hvx hvy hn (K _ _ _ _ _ (h.b8v hf .tt) hv.2)
      . cases hs
    . cases hs
 . exact vcOp1_ok hE hI h hf hv K
end
section
variable{E:Env}{C:Ctx}{n:Nat}{ops:List Oper}{Q:Exit->Fr->World->Prop}{rest:List Oper}{f:Fr}{w w':World}
variable{ty T T':TypeId}{pos:String}{after:Array Edge}{x y z:Operand}{a b:Int}{ρ ρ':p4}{Z Z':Nat->Prop}{its its' lkd:c7 E.N}{nx:Nat}{s:S1 E.N}
variable{fx:n5 E.N}{st:E.St}{inl:Inl E}
def a6N{b:Bool}:(undef:Value)≠.bool b:=fun h=>by cases h
def chain_ok(h:Rel E C fx lkd st ρ Z f w):∀(m j:Nat)(b:Bool),f j=.bool b->Z5 f (chain st.gs m j b)
 |0,_,_,_=>Z5.nil
 |m+1,j,b,e=>fun k c hk=>by
  simp only[chain,c0D,List.any_cons,d5V,d4U]at hk;rcases hk with⟨h1,h2⟩|hk
  . simp_all
  . split at hk
    . rename_i j' b' v hg;have hgs:=h.gs j j' b' v hg;have e':f j'=.bool b':=by
       by_cases e2:f j'=.bool b'
       . exact e2
       . rw[hgs.2 e2]at e;exact absurd e a6N
      exact chain_ok h m j' b' e' k c hk
    . simp at hk
def gprop_ok(h:Rel E C fx lkd st ρ Z f w):∀(m j:Nat)(b:Bool)(p:Prop)(d:Decidable p),b2E fx st m j b=some ⟨p,d⟩->(p↔f j=.bool b)/\(¬p->f j=.bool (!b)∨f j=undef)
 |0,_,_,_,_,e=>by cases e
 |m+1,j,b,p,d,e=>by
  unfold b2E at e;split at e
  . rename_i j' b' v hg;have hgs:=h.gs j j' b' v hg;split at e
    . rename_i p1 d1 q1 e1 hp1 hq1;have ih:=gprop_ok h m j' b' q1 e1 hq1;cases b with
      |true =>
       rw[d5r]at e;cases e;by_cases hq:q1
       . have hr:=(hgs.1 (ih.1.1 hq)).a2o hp1;simp_all
       . have hu:=hgs.2 (fun e=>hq (ih.1.2 e));rw[hu];exact⟨⟨fun h=>absurd h.1 hq,fun h=>absurd h a6N⟩,fun _=>.inr rfl⟩
      |false =>
       rw[d5y]at e;cases e;by_cases hq:q1
       . have hr:=(hgs.1 (ih.1.1 hq)).a2o hp1;simp_all
       . have hu:=hgs.2 (fun e=>hq (ih.1.2 e));rw[hu];exact⟨⟨fun h=>absurd h.1 hq,fun h=>absurd h a6N⟩,fun _=>.inr rfl⟩
    . cases e
  . split at e
    . rename_i p1 d1 hp1;have hr:=(h.slot j).a2o hp1;grind
    . cases e
def Rel.guarded{d dj:Nat}{b:Bool}{v:Value}{s:E.SV}(h:Rel E C fx lkd st ρ Z f w)(hf:free n fx st (some d)=true)(hd:d≠dj)(t:Tn ρ Z w ρ Z' w')(hm:Mem E C ρ Z' w' (st.items++lkd) st.nx)(hv:(f dj=.bool b->e7 E.N E.T ρ Z' w' v s)/\(f dj≠.bool b->v=undef)) :
  Rel E C fx lkd ⟨(d,.un)::st.slots,(d,dj,b,s)::st.gs,st.items,st.nx⟩ ρ Z' (D5 f d v) w':=by
 obtain⟨_,h2,h3,h4⟩:=H9 hf;refine⟨fun k s' hk=>?_,fun p hp=>?_,fun k j c s' hk=>?_,hm,h.tn.trans t,h.g⟩
 . rw[K7]at hk;by_cases e:d=k
   . rw[if_pos e]at hk;cases hk;exact .un
   . rw[if_neg e]at hk;rw[a0F e];exact t.rep (h.sl k s' hk)
 . rw[a0F (a6l h2 p hp)];exact t.rep (h.fx p hp)
 . rw[K7]at hk;by_cases e:d=k
   . rw[if_pos e]at hk;cases hk;subst e;rw[a4N,a0F hd];exact hv
   . rw[if_neg e]at hk;have e2:d≠j:=d6l (b5K h4 hk);rw[a0F e,a0F e2];exact⟨fun e=>t.rep ((h.gs k j c s' hk).1 e),(h.gs k j c s' hk).2⟩
def b6i{p:Prop}{l:List Prop}(hp:p)(h:q9 (imp p l)):q9 l:=by
 induction l with
 |nil=>trivial
 |cons q l ih=>exact⟨h.1 hp,ih h.2⟩
def a7n{p:Prop}{l:List Prop}(h:p->q9 l):q9 (imp p l):=by
 induction l with
 |nil=>trivial
 |cons q l ih=>exact⟨fun hp=>(h hp).1,ih fun hp=>(h hp).2⟩
def Rel.c63{dj:Nat}{b:Bool}(h:Rel E C fx lkd st ρ Z f w)(e:f dj=.bool b):Rel E C fx lkd (Rx.put st (some dj) (bif b then .tt else .ff)) ρ Z f w:=by
 refine⟨fun k s' hk=>?_,h.fx,h.gs,h.mem,h.tn,h.g⟩;have hk:lk ((dj,bif b then SV.tt else SV.ff)::st.slots) k=some s':=hk;rw[K7]at hk;by_cases e2:dj=k
 . rw[if_pos e2]at hk;cases hk;subst e2;rw[e];cases b
   . exact .ff
   . exact .tt
 . rw[if_neg e2]at hk;exact h.sl k s' hk
def c37{β:Type}{a b:List (Nat×β)}{k:Nat}{x:β}(h:lk (a++b) k=some x):lk a k=some x∨lk b k=some x:=by
 induction a with
 |nil=>exact .inr h
 |cons p a ih =>
  have h:(bif Nat.beq p.1 k then some p.2 else lk (a++b) k)=some x:=h;show(bif Nat.beq p.1 k then some p.2 else lk a k)=some x∨_
  grind
def c7R{β:Type}{a:List (Nat×β)}{k:Nat}{x:β}(h:lk a k=some x):(k,x)∈a:=by obtain⟨i,hi,_⟩:=x8 h;grind
def a6x{β:Type}{l:List (Nat×β)}{g:Nat->Bool}{k:Nat}{x:β}(h:lk (l.filter fun p=>g p.1) k=some x):g k=true/\lk l k=some x:=by
 induction l with
 |nil=>cases h
 |cons p l ih =>
  show _/\(bif Nat.beq p.1 k then some p.2 else lk l k)=some x
  rw[d8f]at h;by_cases hg:g p.1=true
  . rw[if_pos hg]at h;have h:(bif Nat.beq p.1 k then some p.2 else lk (l.filter fun p=>g p.1) k)=some x:=h;cases hb:Nat.beq p.1 k with
    |true =>
     simp_all
    |false=>simp_all
  . rw[if_neg hg]at h;obtain⟨h1,h2⟩:=ih h;cases hb:Nat.beq p.1 k with
    |true =>
     simp_all
    |false=>simp_all
def Rel.settle{dj:Nat}{b:Bool}(h:Rel E C fx lkd st ρ Z f w)(e:f dj=.bool b):Rel E C fx lkd (Rx.settle st dj b) ρ Z f w:=by
 refine⟨fun k s' hk=>?_,h.fx,fun k j c s' hk=>?_,h.mem,h.tn,h.g⟩
 . rcases c37 hk with hk|hk
   . have hm:=c7R hk;rw[d7N]at hm;obtain⟨p,_,hp⟩:=hm;split at hp
     . rename_i j w' v hl;cases hb:Nat.beq j dj with
       |false=>simp_all
       |true =>
        rw[hb,d5r]at hp;have hj:=d4W hb;subst hj;simp only[d4T,d5A]at hp;obtain⟨rfl,rfl⟩:=hp;have g:=h.gs p.1 j w' v hl;by_cases hw:w'=b
        . simp_all
        . have:(w' == b)=false:=by simpa using hw
          rw[this,d5y,g.2 (by grind)];exact .undef
     . cases hp
   . exact h.sl k s' hk
 . have hk:lk (st.gs.filter (fun p=>match lk st.gs p.1 with|some (j,_,_)=>!Nat.beq j dj|none=>false)) k=some (j,c,s'):=hk;exact h.gs k j c s' (a6x (g:=fun k=>match lk st.gs k with|some (j,_,_)=>!Nat.beq j dj|none=>false) hk).2
def a0u{dj:Nat}{b:Bool}{d:Option Nat}(h:free n fx st d=true):free n fx (settle st dj b) d=true:=by
 cases d with
 |none=>rfl
 |some d =>
  unfold free at h ⊢;simp only[d4U]at h ⊢;obtain⟨⟨⟨h1,h2⟩,h3⟩,h4⟩:=h;refine⟨⟨⟨h1,h2⟩,?_⟩,?_⟩
  . cases hl:lk (settle st dj b).gs d with
    |none=>rfl
    |some x =>
     have hl:lk (st.gs.filter (fun p=>match lk st.gs p.1 with|some (j,_,_)=>!Nat.beq j dj|none=>false)) d=some x:=hl;have:=(a6x (g:=fun k=>match lk st.gs k with|some (j,_,_)=>!Nat.beq j dj|none=>false) hl).2;simp_all
  . rw[d5D]at h4 ⊢;intro p hp;exact h4 p (d5u.1 hp).1
def a4d{dj:Nat}{s:E.SV}{d:Option Nat}(h:free n fx st d=true):free n fx (put st (some dj) s) d=true:=by
 cases d with
 |none=>rfl
 |some d=>exact h
def off_ok{q:Bool}{j dj:Nat}{b:Bool}{d:Option Nat}{op:Op}{k:E.St->Prop}(hj:q8 ops j=some dj)(hnj:Nat.blt dj n=true)(h:Rel E C fx lkd st ρ Z f w)(hf:free n fx st d=true)(hq:q=true->d.isSome=true)(e:f dj=.bool (!b)∨f dj=undef)(hk:k (put st d .undef))(K:KR E C q n ops Q rest fx lkd f d k) :
  WL E.P q n ops Q (⟨d,op,ty,pos,after,some (j,b)⟩::rest) f w:=by
 have hr:=h.b8v (v:=undef) hf .undef;cases d with
 |some d =>
  have hn:=(H9 hf).1;rcases e with e|e
  . exact a9S hj hnj hn e (K _ _ _ _ _ hr hk)
  . exact a6p hj hnj hn e (K _ _ _ _ _ hr hk)
 |none =>
  cases q with
  |true=>simp_all
  |false =>
   rcases e with e|e
   . exact c2B hj hnj e (K _ _ _ _ _ hr hk)
   . exact c1k hj hnj e (K _ _ _ _ _ hr hk)
def vcGuard_ok{e0 q:Bool}(hE:c8 E)(hI:H6 E inl){j dj:Nat}{b:Bool}{d:Option Nat}{op:Op}{k:E.St->Prop}(hj:q8 ops j=some dj)(hnj:Nat.blt dj n=true)(h:Rel E C fx lkd st ρ Z f w)(hf:free n fx st d=true)(hq:q=true->d.isSome=true)(hv:b0W n e0 q inl fx lkd st dj b d op ty k)(K:KR E C q n ops Q rest fx lkd f d k) :
  WL E.P q n ops Q (⟨d,op,ty,pos,after,some (j,b)⟩::rest) f w:=by
 unfold b0W at hv;split at hv
 . rename_i p a d' hs
   replace hs:b2L q fx lkd st dj b d op=some (p,a,d'):=by
    cases e0 with
    |true=>cases hs
    |false=>exact hs
   unfold b2L at hs;split at hs
   . rename_i p1 dp a1 d1 hg ho1;cases hb:Nat.beq d1 dj with
     |true=>simp_all
     |false =>
      rw[hb,d5y]at hs;cases hs;have hne:d'≠dj:=fun e=>by simp_all
      obtain⟨ho,hv⟩:=a3m hv;obtain⟨g1,g2⟩:=gprop_ok h 8 dj b p dp hg;by_cases hp:p
      . have e:=g1.1 hp;have ho:=b6i hp ho;have hc:=chain_ok h 8 dj b e;refine a7q hj hnj e ?_;unfold gOp at ho1;split at ho1
        . rename_i a2 hs2;simp only[d4T]at ho1;subst ho1;exact stepG_ok h hc hs2 ho (H9 hf).1 fun v hr hy=>K _ _ _ _ _ (h.guarded hf hne (Tn.refl _ _ _) h.mem ⟨fun _=>hr,fun e'=>absurd e e'⟩) (X4 hv (a7n fun _=>hy))
        . cases q with
          |true=>cases ho1
          |false =>
           rw[d5y]at ho1;split at ho1
           . rename_i c hc2;cases op with
             |call c' =>
              simp only[a3J,d4T]at hc2;subst hc2;unfold a9a at ho1;split at ho1
              . rename_i K0 args hcal;obtain⟨z,xs,Ts,cap,rfl,hz,hargs⟩:=callee_ok (fun o=>h.ev hc o) hcal;obtain⟨hK,hrun⟩:=b3Y hE h ho1 ho hargs;refine Y4 hz hK hrun (a0W hf) fun v w' ⟨x,hr',hy⟩=>?_;obtain⟨m1,t1⟩:=h.mem.c3R x;exact K _ _ _ _ _ (h.guarded hf hne t1 m1 ⟨fun _=>e7.bare hr',fun e'=>absurd e e'⟩) (X4 hv (a7n fun _=>hy))
              . cases ho1
             |_=>cases hc2
           . cases ho1
      . have e:=g2 hp;have hr:=h.guarded (v:=undef) (s:=a.v) (b:=b) hf hne (Tn.refl _ _ _) h.mem ⟨fun e'=>absurd (g1.2 e') hp,fun _=>rfl⟩;have hk:=X4 hv (a7n fun hp'=>absurd hp' hp);rcases e with e|e
        . exact a9S hj hnj (H9 hf).1 e (K _ _ _ _ _ hr hk)
        . exact a6p hj hnj (H9 hf).1 e (K _ _ _ _ _ hr hk)
   . cases hs
 . cases hb:((lk st.gs dj).isNone && !q)with
   |false=>simp_all
   |true =>
    rw[hb,d5r]at hv;split at hv
    . rename_i p dp hp;have hr:=(h.slot dj).a2o hp;by_cases hpp:p
      . have e:f dj=.bool true:=by rw[hr];simp[hpp]
        have hk:=hv.1 hpp;have h2:=(h.settle e).c63 e;cases b with
        |true=>rw[d5r]at hk;exact a7q hj hnj e (vcOp_ok hE hI h2 (a4d (a0u hf)) hk K)
        |false=>rw[d5y]at hk;exact off_ok hj hnj h2 (a4d (a0u hf)) hq (.inl e) hk K
      . have e:f dj=.bool false:=by rw[hr];simp[hpp]
        have hk:=hv.2 hpp;have h2:=(h.settle e).c63 e;cases b with
        |true=>rw[d5r]at hk;exact off_ok hj hnj h2 (a4d (a0u hf)) hq (.inl e) hk K
        |false=>rw[d5y]at hk;exact a7q hj hnj e (vcOp_ok hE hI h2 (a4d (a0u hf)) hk K)
    simp_all
def vcOps_ok{q:Bool}(hE:c8 E)(hI:H6 E inl){k:E.St->Prop}:∀(l:List Oper)(st:E.St)(ρ:p4)(Z:Nat->Prop)(f:Fr)(w:World),Rel E C fx lkd st ρ Z f w->a1F n q inl fx lkd ops l st k->(∀st' ρ' Z' f' w',Rel E C fx lkd st' ρ' Z' f' w'->st'.gs=[]->k st'->Q .normal f' w')->WL E.P q n ops Q l f w
 |[],st,ρ,Z,f,w,h,hv,K=>a2c (K ⟨st.slots,[],st.items,st.nx⟩ ρ Z f w ⟨h.sl,h.fx,fun k j b s hk=>(by cases hk),h.mem,h.tn,h.g⟩ rfl hv)
 |o::rest,st,ρ,Z,f,w,h,hv,K=>by
  obtain⟨dst,op,ty,pos,after,guard⟩:=o;unfold a1F at hv;rw[c1i]at hv;cases hb:(free n fx st dst && (!q || dst.isSome))with
  |false=>simp_all
  |true =>
   simp only[hb,d5r]at hv;simp only[d4U,d5V,d6w]at hb;obtain⟨hf,hq⟩:=hb;have hq':q=true->dst.isSome=true:=fun e=>by simp_all
   have KK:KR E C q n ops Q rest fx lkd f dst (fun st=>a1F n q inl fx lkd ops rest st k):=fun st' ρ' Z' v w' hr hk=>vcOps_ok hE hI rest st' ρ' Z' _ w' hr hk K;cases guard with
   |none=>exact vcOp_ok hE hI h hf hv KK
   |some g =>
    obtain⟨j,b⟩:=g;simp only at hv;split at hv
    . exact hv.elim
    . rename_i dj hj;cases hnj:Nat.blt dj n with
      |false=>simp_all
      |true =>
       rw[hnj,d5r]at hv;have hslot:∀s,(bif (lk st.gs dj).isNone then w8 fx st dj else .un)=s->e7 E.N E.T ρ Z w (f dj) s:=fun s e=>by
        subst e;cases(lk st.gs dj).isNone with
        |true=>exact h.slot dj
        |false=>exact .un
       split at hv
       . rename_i e;have hr:=hslot _ e;have e1:f dj=.bool true:=by generalize f dj=u at hr;cases hr;rfl
         cases b with
         |true=>rw[d5r]at hv;exact a7q hj hnj e1 (vcOp_ok hE hI h hf hv KK)
         |false=>rw[d5y]at hv;exact off_ok hj hnj h hf hq' (.inl e1) hv KK
       . rename_i e;have hr:=hslot _ e;have e1:f dj=.bool false:=by generalize f dj=u at hr;cases hr;rfl
         cases b with
         |true=>rw[d5r]at hv;exact off_ok hj hnj h hf hq' (.inl e1) hv KK
         |false=>rw[d5y]at hv;exact a7q hj hnj e1 (vcOp_ok hE hI h hf hv KK)
       . rename_i e;have hr:=hslot _ e;have e1:f dj=undef:=by generalize f dj=u at hr;cases hr;rfl
         exact off_ok hj hnj h hf hq' (.inr e1) hv KK
       . exact vcGuard_ok hE hI hj hnj h hf hq' hv KK
end
section
variable{E:Env}{C:Ctx}{n:Nat}{ops:List Oper}{Q:Exit->Fr->World->Prop}{rest:List Oper}{f:Fr}{w w':World}
variable{ty T T':TypeId}{pos:String}{after:Array Edge}{x y z:Operand}{ρ ρ':p4}{Z Z':Nat->Prop}{its its' lkd:c7 E.N}{nx:Nat}
variable{fx:n5 E.N}{st:E.St}
def b96{ps:List Prop}{r:Prop}(h:q9 ps)(hr:r):cj ps r:=by
 induction ps with
 |nil=>exact hr
 |cons p ps ih=>exact⟨h.1,ih h.2⟩
def b2N{ps:List Prop}{r:Prop}(h:q9 ps->r):im ps r:=by
 induction ps with
 |nil=>exact h trivial
 |cons p ps ih=>exact fun hp=>ih fun hs=>h ⟨hp,hs⟩
def b66:∀{ps:List Prop},cjl ps->q9 ps
 |[],_=>trivial
 |[_],h=>⟨h,trivial⟩
 |_::_::_,h=>⟨h.1,b66 h.2⟩
def gOp_ok(hE:c8 E){ch:List (Nat×Bool)}{op:Op}{d:Nat}{a:Q1 E.N}(h:Rel E C fx lkd st ρ Z f w)(hc:Z5 f ch)(hs:gOp false fx lkd st ch op=some a)(ho:q9 a.ob)(hn:Nat.blt d n=true)
  (K:∀v w',Ext [] w w'->e7 E.N E.T ρ Z w' v a.v->q9 a.hy->WL E.P false n ops Q rest (D5 f d v) w'):WL E.P false n ops Q (⟨some d,op,ty,pos,after,none⟩::rest) f w:=by
 unfold gOp at hs;split at hs
 . rename_i a2 hs2;simp only[d4T]at hs;subst hs;exact stepG_ok h hc hs2 ho hn fun v hr hy=>K v w (Ext.refl [] w) hr hy
 . rw[d5y]at hs;split at hs
   . rename_i c hc2;cases op with
     |call c' =>
      simp only[a3J,d4T]at hc2;subst hc2;unfold a9a at hs;split at hs
      . rename_i K0 args hcal;obtain⟨z,xs,Ts,cap,rfl,hz,hargs⟩:=callee_ok (fun o=>h.ev hc o) hcal;obtain⟨hK,hrun⟩:=b3Y hE h hs ho hargs;exact Y4 hz hK hrun (fun d' e=>by simp_all) fun v w' ⟨x,hr',hy⟩=>K v w' x (e7.bare hr') hy
      . cases hs
     |_=>cases hc2
   . cases hs
def d1K(E:Env):Inl E:=fun _ _ _ _ _ _=>False
def inl0_ok:H6 E (d1K E):=fun _ _ _ _ _ _ h=>h.elim
def c1c{ch:List (Nat×Bool)}{d:Option Nat}{c:Call}{s:S1 E.N}{k:E.St->Prop}(hs:c1t fx lkd st ch c=some s)(ho:q9 s.ob)(hk:q9 s.hy->k (put ⟨st.slots,st.gs,s.items,s.nx⟩ d s.v)):a6F (d1K E) fx lkd st ch d c k:=by
 unfold c1t at hs;unfold a6F;split at hs
 . cases hs
 . rename_i K args hcal;split at hs
   . rename_i Cf hcon;cases hl:E.U0 K with
     |true=>simp_all
     |false =>
      rw[hl,d5y]at hs
      try rw[hcon]
      simp only[d5y];split at hs
      . rename_i args' its hf
        try rw[hf]
        try simp only
        unfold d2J at hs;unfold b9X;rw[hcon]at hs ⊢;simp only at hs ⊢;split at hs
        . rename_i r hr;have⟨hb,hs2⟩:=j3 hs;simp only[d4T]at hs2;subst hs2
          try rw[hr]
          rw[hb];exact b96 ho (b2N hk)
        . cases hs
      . cases hs
   . rename_i hcon
     try rw[hcon]
     try simp only
     split at hs
     . rename_i o hob
       try rw[hob]
       try simp only
       unfold c9s at hs;unfold b9i;split at hs
       . rename_i v args0;split at hs
         . rename_i id off;have⟨hb,hs2⟩:=j3 hs;simp only[hb,d5r];split at hs2
           . rename_i k' fid x hi
             try rw[hi]
             try simp only
             split at hs2
             . rename_i hk'
               try rw[dif_pos hk']
               split at hs2
               . rename_i r hr;simp only[d4T]at hs2;subst hs2
                 try rw[hr]
                 exact b96 ho (b2N hk)
               . cases hs2
             . cases hs2
           . cases hs2
         . cases hs
       . cases hs
     . rename_i hob
       try rw[hob]
       try simp only
       split at hs
       . cases hs
       . rename_i hw
         try rw[hw]
         try simp only
         rw[hs];exact b96 ho (b2N hk)
def fEff_ok(hE:c8 E){ch:List (Nat×Bool)}{d:Option Nat}{op:Op}{s:S1 E.N}(h:Rel E C fx lkd st ρ Z f w)(hG:Z5 f ch)(hf:free n fx st d=true)(hs:b56 fx lkd st ch d op ty=some s)(ho:q9 s.ob)
  (K:∀v ρ' Z' w',Rel E C fx lkd (put ⟨st.slots,st.gs,s.items,s.nx⟩ d s.v) ρ' Z' (R7 f d v) w'->q9 s.hy->WL E.P false n ops Q rest (R7 f d v) w') :
  WL E.P false n ops Q (⟨d,op,ty,pos,after,none⟩::rest) f w:=by
 unfold b56 at hs;split at hs
 . rename_i s' hs';have⟨hd,hs2⟩:=j3 hs;simp only[d4T]at hs2;subst hs2;refine stepE_ok hE h.mem (fun o=>h.ev hG o) hs' ho ?_ fun v ρ' Z' w' m1 t1 hr hy=>K _ _ _ _ (h.put hf t1 m1 hr) hy;have hb:=a0W hf;cases op with
   |store T a x =>
    cases d with
    |none=>rfl
    |some d=>cases hd
   |mapUpdate T a x y =>
    cases d with
    |none=>rfl
    |some d=>cases hd
   |_ =>
    cases d with
    |none=>cases hd
    |some d=>exact⟨d,rfl,hb d rfl⟩
 . split at hs
   . rename_i c hc;cases op with
     |call c' =>
      simp only[a3J,d4T]at hc;subst hc;refine vcCall_ok hE inl0_ok h hG hf (c1c (k:=fun st'=>st'=put ⟨st.slots,st.gs,s.items,s.nx⟩ d s.v/\q9 s.hy) hs ho fun hy=>⟨rfl,hy⟩) fun st' ρ' Z' v w' hr hk=>?_;grind
     |_=>cases hc
   . cases hs
end
section
variable{N:B8}{p:Nat->Bool}
def a5k:∀{E3:List (Ent N)}{j0 k:Nat}{s:SV N},lk (a0E p j0 E3) k=some s->∃j e,E3[j]?=some e/\p (j0+j)=true/\e.dst=some k/\s=e.now
 |[],_,_,_,h=>by cases h
 |e::r,j0,k,s,h=>by
  have go:lk (a0E p (j0+1) r) k=some s->∃j e',(e::r)[j]?=some e'/\p (j0+j)=true/\e'.dst=some k/\s=e'.now:=fun h=>by obtain⟨j,e',h1,h2,h3⟩:=a5k h;exact⟨j+1,e',by simp_all,by grind,h3⟩
  unfold a0E at h;cases hp:p j0 with
  |false=>simp_all
  |true =>
   rw[hp,d5r]at h;split at h
   . rename_i d hd;rw[K7]at h;by_cases e1:d=k
     . rw[if_pos e1]at h;cases h;exact⟨0,e,rfl,hp,by rw[hd,e1],rfl⟩
     simp_all
   . exact go h
def c0j:∀{E3:List (Ent N)}{j0 k j':Nat}{b:Bool}{s:SV N},lk (dGs p j0 E3) k=some (j',b,s)->∃j e jj,E3[j]?=some e/\p (j0+j)=true/\p jj=true/\e.dst=some k/\e.g=some (jj,j',b)/\s=e.sv
 |[],_,_,_,_,_,h=>by cases h
 |e::r,j0,k,j',b,s,h=>by
  have go:lk (dGs p (j0+1) r) k=some (j',b,s)->∃j e' jj,(e::r)[j]?=some e'/\p (j0+j)=true/\p jj=true/\e'.dst=some k/\e'.g=some (jj,j',b)/\s=e'.sv:=fun h=>by obtain⟨j,e',jj,h1,h2,h3⟩:=c0j h;exact⟨j+1,e',jj,by simp_all,by grind,h3⟩
  unfold dGs at h;cases hp:p j0 with
  |false=>simp_all
  |true =>
   rw[hp,d5r]at h;split at h
   . rename_i d jj dj b' hd hg;cases hpj:p jj with
     |false=>simp_all
     |true =>
      rw[hpj,d5r]at h;rw[K7]at h;by_cases e1:d=k
      . rw[if_pos e1]at h;cases h;exact⟨0,e,jj,rfl,hp,hpj,by rw[hd,e1],hg,rfl⟩
      simp_all
   . exact go h
def b9S{a b:List Prop}(h:q9 a)(k:q9 b):q9 (a++b):=by
 induction a with
 |nil=>exact k
 |cons p r ih=>exact⟨h.1,ih h.2⟩
def b0v:∀{E3:List (Ent N)}{j0:Nat},(∀j e,E3[j]?=some e->p (j0+j)=true->q9 e.hy)->q9 (dHy p j0 E3)
 |[],_,_=>trivial
 |e::r,j0,h=>by
  have go:q9 (dHy p (j0+1) r):=b0v fun j e' h1 h2=>h (j+1) e' (by simp_all) (by grind);unfold dHy;cases hp:p j0 with
  |false=>exact go
  |true=>exact b9S (h 0 e rfl hp) go
def a98{β:Type}{q:Nat->Bool}{l:List (Nat×β)}{k:Nat}{s:β}(h:lk (l.filter (fun p=>q p.1)) k=some s):q k=true/\lk l k=some s:=by
 induction l with
 |nil=>cases h
 |cons p r ih =>
  rw[d8f]at h;by_cases hq:q p.1=true
  . rw[if_pos hq]at h;have h:lk ((p.1,p.2)::r.filter (fun p=>q p.1)) k=some s:=h;show _/\lk ((p.1,p.2)::r) k=some s
    rw[K7]at h ⊢;grind
  . rw[if_neg hq]at h;have⟨h1,h2⟩:=ih h;refine⟨h1,?_⟩;show lk ((p.1,p.2)::r) k=some s
    rw[K7,if_neg]
    all_goals grind
end
section
variable{B0:List Nat}{w0 w w':World}{Z:Nat->Prop}{l l':List It}
def Sep.sub(hs:Sep B0 w0 Z w l)(h:l'.Sublist l):Sep B0 w0 Z w l':=by obtain⟨h1,h2⟩:=Sep.pw hs;exact Sep.c69 hs.ext hs.zlt (fun t ht=>h1 t (h.subset ht)) (h2.sublist h)
end
section
variable{E:Env}{C:Ctx}{ρ ρ':p4}{Z Z':Nat->Prop}{w w':World}{its its':c7 E.N}{nx nx':Nat}
def Mem.sub(hm:Mem E C ρ Z w its nx)(h:its'.Sublist its)(hn:nx<=nx'):Mem E C ρ Z w its' nx':=⟨Sep.sub hm.sep (h.map _),fun i hi=>hm.fr i (by omega),hm.ge,hm.zge,hm.zle⟩
def a8N{X T:List Nat}(h:∀t∈T,t∈X):without (without its X) T=without its X:=by unfold without;rw[d7I];grind
end
def a7h(E:Env)(ρ:p4)(Z:Nat->Prop)(w:World)(D:Nat->Bool)(V:Nat->Value)(j:Nat)(e:Ent E.N):Prop:=
 q9 e.hy/\match e.g with
  |none=>e7 E.N E.T ρ Z w (V j) e.sv
  |some (jj,_,b)=>D jj=true/\(V jj=.bool b->e7 E.N E.T ρ Z w (V j) e.sv)/\(V jj≠.bool b->V j=undef)
structure JI(E:Env)(C:Ctx)(fx:n5 E.N)(lkd:c7 E.N)(N9:E.St)(f0:Fr)(F:DA E.N)(D:Nat->Bool)(V:Nat->Value)(w:World)(ρ:p4)(Z:Nat->Prop)(k:Nat):Prop where
 eff:∀r e,F.A6[r]?=some e->(D e=true↔r<k)
 mem:∃m,F.O6[k]?=some m/\Mem E C ρ Z w (m.1++lkd) m.2
 tn:Tn C.ρ0 C.Z0 C.w1 ρ Z w
 sl:∀k s,lk N9.slots k=some s->e7 E.N E.T ρ Z w (f0 k) s
 fx:∀p∈fx,e7 E.N E.T ρ Z w (f0 p.1) p.2
 ent:∀j e,F.E3[j]?=some e->D j=true->a7h E ρ Z w D V j e
 g:E.G.is C.Z0 C.w1
def JF(E:Env)(C:Ctx)(fx:n5 E.N)(lkd:c7 E.N)(N9:E.St)(f0:Fr)(F:DA E.N):JP:=fun D V w=>∃ρ Z k,JI E C fx lkd N9 f0 F D V w ρ Z k
structure WA(E:Env)(l:List Oper)(H:Hints)(i:Nat)(a:DA E.N):Prop where
 len:a.E3.length=i
 ent:∀j e,a.E3[j]?=some e->q8 l j=e.dst/\∀jj dj b,e.g=some (jj,dj,b)->q8 l jj=some dj
 eff:∀e∈a.A6,e<i/\∃T,lk H e=some T
 up:a.A6.Pairwise (· < ·)
 b7D:a.O6.length=a.A6.length+1
 chain:∀(r e:Nat)(m m':c7 E.N×Nat),a.A6[r]?=some e->a.O6[r]?=some m->a.O6[r+1]?=some m'->∃T new,lk H e=some T/\m'.1=new++without (E:=E) m.1 T
 nx:∀m∈a.O6,m.2<=NX
structure Up{N:B8}(a F:DA N)(i:Nat):Prop where
 E3:∃x,F.E3=a.E3++x
 A6:∃y,F.A6=a.A6++y/\∀e∈y,i<=e
 O6:∃z,F.O6=a.O6++z
def Up.ent{N:B8}{a F:DA N}{i j:Nat}{e:Ent N}(h:Up a F i)(hj:a.E3[j]?=some e):F.E3[j]?=some e:=by obtain⟨x,hx⟩:=h.E3;grind
def Up.eff{N:B8}{a F:DA N}{i j e:Nat}(h:Up a F i)(hj:a.A6[j]?=some e):F.A6[j]?=some e:=by obtain⟨x,hx,_⟩:=h.A6;grind
def Up.mem{N:B8}{a F:DA N}{i j:Nat}{e:c7 N×Nat}(h:Up a F i)(hj:a.O6[j]?=some e):F.O6[j]?=some e:=by obtain⟨x,hx⟩:=h.O6;grind
section
variable{E:Env}{C C':Ctx}{n:Nat}{l:List Oper}{ms:List Nat}{H:Hints}{f0:Fr}{N9:E.St}{fx:n5 E.N}{lkd lkd':c7 E.N}{F a:DA E.N}{D:Nat->Bool}{V:Nat->Value}{w w':World}{ρ ρ':p4}{Z Z':Nat->Prop}{i k:Nat}{g:Fr}{its:c7 E.N}{nx:Nat}
def b7A(hf:a1h fx l=true){p:Nat×E.SV}(hp:p∈fx):a09 ms i p.1 l 0=true:=by
 have key:∀(r:List Oper)(j:Nat),(∀o∈r,∀d,o.dst=some d->d≠p.1)->a09 ms i p.1 r j=true:=by
  intro r
  induction r with
  |nil=>intro j _;rfl
  |cons o r ih =>
   intro j h;unfold a09;rw[ih (j+1) (fun o ho=>h o (d5v _ ho)),Bool.and_true];split
   . rename_i d hd;rw[a02 (h o (d5P ..) d hd)];rfl
   . rfl
 refine key l 0 fun o ho d hd e=>?_;unfold a1h at hf;rw[d5D]at hf;have:=hf o ho;rw[hd]at this;simp only[d7L]at this;exact a6l this p hp e
def JI.rel(hj:JI E C fx lkd N9 f0 F D V w ρ Z k)(hf:a1h fx l=true)(hw:WA E l H i a)(hu:∀(j:Nat)(e:Ent E.N),a.E3[j]?=some e->F.E3[j]?=some e)(hd:∀j,bit ms i j=true->D j=true)
  (hdone:∀j t,D j=true->q8 l j=some t->g t=V j) (hkept:∀t,a09 ms i t l 0=true->g t=f0 t) (hm:Mem E C' ρ Z w (its++lkd') nx) (ht:Tn C'.ρ0 C'.Z0 C'.w1 ρ Z w) (hg0:E.G.is C'.Z0 C'.w1):Rel E C' fx lkd' (dSt l ms N9 i a its nx) ρ Z g w:=by
 refine⟨fun k s hk=>?_,fun p hp=>by rw[hkept _ (b7A hf hp)];exact hj.fx p hp,fun k j' b s hk=>?_,hm,ht,hg0⟩
 . rcases b55 hk with hk|⟨_,hk⟩
   . obtain⟨j,e,h1,h2,h3,rfl⟩:=a5k hk;rw[d6I]at h2;have hD:=hd j h2;have hg:=hdone j k hD (by rw[(hw.ent j e h1).1];exact h3);have ho:=(hj.ent j e (hu j e h1) hD).2;unfold Ent.now;split
     . simp_all
     . exact .un
   . have⟨h1,h2⟩:=a98 (q:=fun t=>a09 ms i t l 0) hk;rw[hkept k h1];exact hj.sl k s h2
 . obtain⟨j,e,jj,h1,h2,h3,h4,h5,rfl⟩:=c0j hk;rw[d6I]at h2;have hD:=hd j h2;have hg:=hdone j k hD (by rw[(hw.ent j e h1).1];exact h4);have hg':=hdone jj j' (hd jj h3) ((hw.ent j e h1).2 _ _ _ h5);have ho:=(hj.ent j e (hu j e h1) hD).2;simp_all
def JI.hys(hj:JI E C fx lkd N9 f0 F D V w ρ Z k)(hu:∀(j:Nat)(e:Ent E.N),a.E3[j]?=some e->F.E3[j]?=some e)(hd:∀j,bit ms i j=true->D j=true):q9 (dHy (bit ms i) 0 a.E3):=
 b0v fun j e h1 h2=>(hj.ent j e (hu j e h1) (hd j (by simp_all))).1
def a7h.turn{e:Ent E.N}{j:Nat}{v:Value}(h:a7h E ρ Z w D V j e)(t:Tn ρ Z w ρ' Z' w')(hi:D i=false)(hj:D j=true):a7h E ρ' Z' w' (a2E D i) (a05 V i v) j e:=by
 have ne:∀{x},D x=true->x≠i:=fun hx e=>by simp_all
 refine⟨h.1,?_⟩;have h2:=h.2;split at h2
 . rename_i hg;rw[a2Y (ne hj)];exact t.rep h2
 . rename_i jj dj b hg;rw[a2Y (ne hj),a2Y (ne h2.1),Q7 (ne h2.1)];exact⟨h2.1,fun e=>t.rep (h2.2.1 e),h2.2.2⟩
end
section
variable{E:Env}{C C':Ctx}{n:Nat}{l:List Oper}{ms:List Nat}{H:Hints}{f0:Fr}{N9:E.St}{fx:n5 E.N}{lkd lkd':c7 E.N}{F a:DA E.N}{D:Nat->Bool}{V:Nat->Value}{w w':World}{ρ ρ':p4}{Z Z':Nat->Prop}{i k m:Nat}{g:Fr}{its:c7 E.N}{nx:Nat}
def c0i{α:Type}{b:Bool}{o:Option α}{r:α}(h:(bif b then none else o)=some r):b=false/\o=some r:=by grind
def a9H:∀{A6:List Nat}{r:Nat},r<a0l ms i A6->∃e,A6[r]?=some e/\bit ms i e=true
 |[],_,h=>by simp[a0l]at h
 |e::s,r,h=>by
  unfold a0l at h;cases hb:bit ms i e with
  |false=>simp_all
  |true =>
   rw[hb,d5r]at h;cases r with
   |zero=>simp_all
   |succ r=>obtain⟨e',h1,h2⟩:=a9H (A6:=s) (r:=r) (by omega);simp_all
def c1h{A6:List Nat}(h:A6.Pairwise (· < ·)){r s e:Nat}(hr:A6[r]?=some e)(hs:A6[s]?=some e):r=s:=by rw[d5H]at h;grind
def c26(hj:JI E C fx lkd N9 f0 F D V w ρ Z k)(hF:WA E l H m F)(hu:Up a F i)(hdep:∀j,bit ms i j=true->D j=true)(hsucc:∀j,bit ms j i=true->D j=false){m0 mk:c7 E.N×Nat}(hm0:a.O6[a0l ms i a.A6]?=some m0)(hmk:F.O6[k]?=some mk) :
  (without m0.1 (shut ms H i (a.A6.take (a0l ms i a.A6)))).Sublist mk.1:=by
 have hlo:a0l ms i a.A6<=k:=by
  rcases d5B k (a0l ms i a.A6)with h|h
  . obtain⟨e,h1,h2⟩:=a9H h;have:=(hj.eff k e (hu.eff h1)).1 (hdep e h2);omega
  . exact h
 have key:∀t mr,F.O6[a0l ms i a.A6+t]?=some mr->a0l ms i a.A6+t<=k->(without m0.1 (shut ms H i (a.A6.take (a0l ms i a.A6)))).Sublist mr.1:=by
  intro t
  induction t with
  |zero =>
   intro mr hr _;have:=hu.mem hm0;rw[d6r,this]at hr;cases hr;exact List.filter_sublist
  |succ t ih =>
   intro mr hr hk;have hl:=A5 hr;obtain⟨m1,hm1⟩:∃m1,F.O6[a0l ms i a.A6+t]?=some m1:=⟨_,d5i (by omega)⟩;have hl2:a0l ms i a.A6+t<F.A6.length:=by have:=hF.b7D;omega
   obtain⟨e,he⟩:∃e,F.A6[a0l ms i a.A6+t]?=some e:=⟨_,d5i hl2⟩;obtain⟨T,new,hT,hnew⟩:=hF.chain _ e m1 mr he hm1 hr;have hs:=ih m1 hm1 (by omega);have hDe:D e=true:=(hj.eff _ e he).2 (by omega);have hTX:∀t∈T,t∈shut ms H i (a.A6.take (a0l ms i a.A6)):=fun t ht=>by
    obtain⟨x,hx,_⟩:=x8 hT;unfold shut;rw[d8M];refine⟨(e,T),d5c hx,?_⟩;have h1:bit ms e i=false:=by
     cases hb:bit ms e i with
     |false=>rfl
     |true=>simp_all
    have h2:(a.A6.take (a0l ms i a.A6)).elem e=false:=by
     cases hb:(a.A6.take (a0l ms i a.A6)).elem e with
     |false=>rfl
     |true =>
      exfalso;have hb:=List.mem_of_elem_eq_true hb;obtain⟨r,hr1,hr2⟩:=d5w hb;simp only[d5n]at hr1;rw[d7k]at hr2;have hr3:a.A6[r]?=some e:=by rw[d5i (by omega),hr2]
      have:=c1h hF.up (hu.eff hr3) he;omega
    simp_all
   rw[hnew,<- a8N hTX];exact List.Sublist.trans (List.Sublist.filter _ hs) (List.sublist_append_right _ _)
 have:=key (k-a0l ms i a.A6) mk (by simp_all) (by omega);exact this
def JI.quiet(hj:JI E C fx lkd N9 f0 F D V w ρ Z k)(hF:WA E l H m F)(hH:lk H i=none)(hDi:D i=false)(x:Ext [] w w'){e:Ent E.N}(he:F.E3[i]?=some e){v:Value}(ho:a7h E ρ Z w' (a2E D i) (a05 V i v) i e):JI E C fx lkd N9 f0 F (a2E D i) (a05 V i v) w' ρ Z k:=by
 obtain⟨mm,hm,hmem⟩:=hj.mem;obtain⟨m1,t⟩:=hmem.c3R x;refine⟨fun r e' hr=>?_,⟨mm,hm,m1⟩,hj.tn.trans t,fun k s h=>t.rep (hj.sl k s h),fun p hp=>t.rep (hj.fx p hp),fun j e' hj' hD=>?_,hj.g⟩
 . obtain⟨_,T,hT⟩:=hF.eff e' (d5c hr);rw[Q7 (fun e2=>by simp_all)];exact hj.eff r e' hr
 . by_cases e2:j=i
   . simp_all
   . rw[Q7 e2]at hD;exact(hj.ent j e' hj' hD).turn t hDi hD
def c1Z{b:Option Bool}{q0:Option (Q1 E.N)}{q:Q1 E.N}(h:frc b q0=some q):∃q1,q0=some q1/\q.hy=q1.hy/\(q9 q.ob->q9 q1.ob/\∀{ρ:p4}{Z:Nat->Prop}{w:World}{v:Value},e7 E.N E.T ρ Z w v q1.v->e7 E.N E.T ρ Z w v q.v):=by
 unfold frc at h;cases b with
 |none=>simp_all
 |some b =>
  simp only at h;cases q0 with
  |none=>cases h
  |some q1 =>
   simp only at h;split at h
   . rename_i p d hp;simp only[d4T]at h;subst h;refine⟨q1,rfl,rfl,fun ho=>?_⟩;have key:∀{l:List Prop}{x:Prop},q9 (l++[x])->q9 l/\x:=fun{l x}=>by
      induction l with
      |nil=>exact fun h=>⟨trivial,h.1⟩
      |cons y l ih=>exact fun h=>⟨⟨h.1,(ih h.2).1⟩,(ih h.2).2⟩
     obtain⟨h1,h2⟩:=key ho;refine⟨h1,fun r=>?_⟩;generalize q1.v=u at hp r;cases u with
     |tt =>
      cases hp;simp_all
     |ff =>
      cases hp;simp_all
     |bl p' d' =>
      cases hp;cases r;cases b with
      |true=>rw[d5e (show p from h2)];exact .tt
      |false=>rw[d5q (show ¬p from h2)];exact .ff
     |_=>cases hp
   . cases h
def quiet_ok(hE:c8 E){o:Oper}{e:Ent E.N}{ob:List Prop}(hf:a1h fx l=true)(hq:a6V n fx lkd l ms H N9 i o a=some (ob,e))(hH:lk H i=none)
  (hob:im (dHy (bit ms i) 0 a.E3) (q9 ob)) (hw:WA E l H i a) (hF:WA E l H m F) (hu:Up a F i) (he:F.E3[i]?=some e):b8L E.P n l ms (JF E C fx lkd N9 f0 F) f0 i o:=by
 intro D V g w hJ hDi hdep hsucc hdone hkept;obtain⟨ρ,Z,k,hj⟩:=hJ;have hob:=X4 hob (hj.hys (fun j e h=>hu.ent h) hdep);unfold a6V at hq;split at hq
 . cases hq
 rename_i m0 hm0;have h2:=j3 hq;clear hq;obtain⟨hfr,hq⟩:=h2;obtain⟨mk,hmk,hmem⟩:=hj.mem;have hR:=hj.rel hf hw (fun j e h=>hu.ent h) hdep hdone hkept (C':=C) (hmem.sub ((c26 hj hF hu hdep hsucc hm0 hmk).append_right lkd) (hF.nx mk (d5c hmk))) hj.tn hj.g;obtain⟨dst,op,ty,pos,after,guard⟩:=o;cases guard with
 |none =>
  simp only at hq hfr;split at hq
  . rename_i q d hgop0;simp only[d4T,d5A]at hq;obtain⟨rfl,rfl⟩:=hq;obtain⟨q1,hgop,hhy,hconv⟩:=c1Z hgop0;obtain⟨hob,hconv⟩:=hconv hob;exact gOp_ok hE hR Z5.nil hgop hob (H9 hfr).1 fun v w' x hr hy=>a2c ⟨rfl,v,rfl,ρ,Z,k,hj.quiet hF hH hDi x he ⟨by simp_all,by show e7 E.N E.T ρ Z w' (a05 V i v i) q.v;rw[Z3];simp_all⟩⟩
  . cases hq
 |some jb =>
  obtain⟨j,b⟩:=jb;simp only at hq hfr;split at hq
  . rename_i dj hdj;have h2:=j3 hq;clear hq;obtain⟨hb,hq⟩:=h2;simp only[d4U]at hb;obtain⟨hbj,hnj⟩:=hb;have hDj:=hdep j hbj;have hji:j≠i:=fun e=>by simp_all
    have hgj:=hdone j dj hDj hdj;split at hq
    . rename_i p q d hs;simp only[d4T,d5A]at hq;obtain⟨rfl,rfl⟩:=hq;unfold b2L at hs;split at hs
      . rename_i p1 dp q1 d1 hg ho1;have h2:=c0i hs;clear hs;have hs:=h2.2;simp only[d4T,d5A]at hs;obtain⟨rfl,rfl,rfl⟩:=hs;obtain⟨g1,g2⟩:=gprop_ok hR 8 dj b p1 dp hg;by_cases hp:p1
        . have e1:=g1.1 hp;refine a7q hdj hnj e1 (gOp_ok hE hR (chain_ok hR 8 dj b e1) ho1 (b6i hp hob) (H9 hfr).1 fun v w' x hr hy=>a2c ⟨rfl,v,rfl,ρ,Z,k,hj.quiet hF hH hDi x he ⟨a7n fun _=>hy,?_⟩⟩);show a2E D i j=true/\(a05 V i v j=.bool b->e7 E.N E.T ρ Z w' (a05 V i v i) q1.v)/\(a05 V i v j≠.bool b->a05 V i v i=undef)
          rw[Q7 hji,a2Y hji,Z3,<- hgj];simp_all
        . have e1:=g2 hp;have ho:a7h E ρ Z w (a2E D i) (a05 V i undef) i ⟨some d1,some (j,dj,b),q1.v,imp p1 q1.hy⟩:=by
           refine⟨a7n fun h=>absurd h hp,?_⟩;show a2E D i j=true/\(a05 V i undef j=.bool b->e7 E.N E.T ρ Z w (a05 V i undef i) q1.v)/\(a05 V i undef j≠.bool b->a05 V i undef i=undef)
           rw[Q7 hji,a2Y hji,Z3,<- hgj];exact⟨hDj,fun h=>absurd (g1.2 h) hp,fun _=>rfl⟩
          have fin:=hj.quiet hF hH hDi (Ext.refl [] w) he ho;rcases e1 with e1|e1
          . exact a9S hdj hnj (H9 hfr).1 e1 (a2c ⟨rfl,undef,rfl,ρ,Z,k,fin⟩)
          . exact a6p hdj hnj (H9 hfr).1 e1 (a2c ⟨rfl,undef,rfl,ρ,Z,k,fin⟩)
      . cases hs
    . cases hq
  . cases hq
def isOff_ok{s:E.SV}{b:Bool}{v:Value}(h:b6s s b=true)(r:e7 E.N E.T ρ Z w v s):v=.bool (!b):=by
 cases s with
 |tt =>
  cases b with
  |false=>cases r;rfl
  |true=>cases h
 |ff =>
  cases b with
  |true=>cases r;rfl
  |false=>cases h
 |_=>cases h
def dead_ok{o:Oper}{e:Ent E.N}(hq:b1h n l ms i o a=some e)(hH:lk H i=none)(hF:WA E l H m F)(hu:Up a F i)(he:F.E3[i]?=some e):b8L E.P n l ms (JF E C fx lkd N9 f0 F) f0 i o:=by
 intro D V g w hJ hDi hdep hsucc hdone hkept;obtain⟨ρ,Z,k,hj⟩:=hJ;obtain⟨dst,op,ty,pos,after,guard⟩:=o;unfold b1h at hq;split at hq
 . rename_i j b d hg hd;simp only at hg hd;subst hg hd;split at hq
   . rename_i dj ej hdj hej;have⟨hb,hq2⟩:=j3 hq;clear hq;simp only[d4U]at hb;obtain⟨⟨⟨hbj,hnj⟩,hnd⟩,hoff⟩:=hb;simp only[d4T]at hq2;subst hq2;have hDj:=hdep j hbj;have hji:j≠i:=fun e=>by simp_all
     have hgj:=hdone j dj hDj hdj;have hoj:=(hj.ent j ej (hu.ent hej) hDj).2;have hv:g dj=.bool (!b)∨g dj=undef:=by
      rw[hgj];unfold d1U at hoff;split at hoff
      . rename_i hsv;split at hoj
        . rw[hsv]at hoj;generalize V j=u at hoj;cases hoj;simp_all
        simp_all
      . split at hoj
        . exact .inl (isOff_ok hoff hoj)
        . rename_i jj dj' b' _;by_cases e:V jj=.bool b'
          . exact .inl (isOff_ok hoff (hoj.2.1 e))
          simp_all
     have ho:a7h E ρ Z w (a2E D i) (a05 V i undef) i (⟨some d,none,.undef,[]⟩:Ent E.N):=⟨trivial,by
      show e7 E.N E.T ρ Z w (a05 V i undef i) .undef
      rw[Z3];exact .undef⟩
     have fin:=hj.quiet hF hH hDi (Ext.refl [] w) he ho;rcases hv with e1|e1
     . exact a9S hdj hnj hnd e1 (a2c ⟨rfl,undef,rfl,ρ,Z,k,fin⟩)
     . exact a6p hdj hnj hnd e1 (a2c ⟨rfl,undef,rfl,ρ,Z,k,fin⟩)
   . cases hq
 . cases hq
end
section
variable{E:Env}{C C':Ctx}{n:Nat}{l:List Oper}{ms:List Nat}{H:Hints}{f0:Fr}{N9:E.St}{fx:n5 E.N}{lkd lkd':c7 E.N}{F a:DA E.N}{D:Nat->Bool}{V:Nat->Value}{w w':World}{ρ ρ':p4}{Z Z':Nat->Prop}{i k m:Nat}{g:Fr}{its:c7 E.N}{nx:Nat}
def eff_ok(hE:c8 E){o:Oper}{e:Ent E.N}{ob:List Prop}{T:List Nat}{mm:c7 E.N×Nat}(hf:a1h fx l=true)(hq:c1q n fx lkd l ms N9 i o a T=some (ob,e,mm))
  (hob:im (dHy (bit ms i) 0 a.E3) (q9 ob)) (hw:WA E l H i a) (hF:WA E l H m F) (hu:Up a F i) (he:F.E3[i]?=some e) (hei:F.A6[a.A6.length]?=some i) (hmm:F.O6[a.A6.length+1]?=some mm):b8L E.P n l ms (JF E C fx lkd N9 f0 F) f0 i o:=by
 intro D V g w hJ hDi hdep hsucc hdone hkept;obtain⟨ρ,Z,k,hj⟩:=hJ;have hob:=X4 hob (hj.hys (fun j e h=>hu.ent h) hdep);obtain⟨mk,hmk,hmem⟩:=hj.mem;obtain⟨dst,op,ty,pos,after,guard⟩:=o;unfold c1q at hq;split at hq
 . rename_i m0 hm0;have h2:=j3 hq;clear hq;obtain⟨hb,hq⟩:=h2;simp only[d4U]at hb;obtain⟨hfr,hall⟩:=hb;simp only at hfr hq;split at hq
   case h_2=>cases hq
   rename_i gg ch hdg;have hk:k=a.A6.length:=by
    rcases Nat.lt_trichotomy k a.A6.length with c|c|c
    . exfalso;obtain⟨e',he'⟩:∃e',a.A6[k]?=some e':=⟨_,d5i c⟩;rw[d5D]at hall;have:=(hj.eff k e' (hu.eff he')).1 (hdep e' (hall e' (d5c he')));omega
    . exact c
    . exfalso;have:=(hj.eff _ i hei).2 c;simp_all
   subst hk;have:=hu.mem hm0;rw[this]at hmk;cases hmk;split at hq
   . rename_i s hs;have h2:=j3 hq;clear hq;obtain⟨_,hq⟩:=h2;simp only[d4T,d5A]at hq;obtain⟨rfl,rfl,rfl⟩:=hq;have hR:=hj.rel hf hw (fun j e h=>hu.ent h) hdep hdone hkept (C':=C.at ρ Z w) (its:=within mk.1 T) (lkd':=without mk.1 T++lkd) (nx:=mk.2) (hmem.down.perm (by rw[<- d5x];exact(a1q mk.1 T).append_right lkd)) (Tn.refl _ _ _) (a1s.turn hj.g hj.tn);have hgg:∃hG:Z5 g ch,q9 s.ob/\∀{Q:Exit->Fr->World->Prop},WL E.P false n l Q [⟨dst,op,ty,pos,after,none⟩] g w->WL E.P false n l Q [⟨dst,op,ty,pos,after,guard⟩] g w:=by
      unfold dG at hdg;cases guard with
      |none =>
       simp only[d4T,d5A]at hdg;obtain⟨rfl,rfl⟩:=hdg;exact⟨Z5.nil,hob,fun h=>h⟩
      |some jb =>
       obtain⟨j,b⟩:=jb;simp only at hdg;split at hdg
       . rename_i dj hdj;have h3:=j3 hdg;clear hdg;obtain⟨hb3,hdg⟩:=h3;simp only[d4U]at hb3;obtain⟨⟨_,hnj⟩,_⟩:=hb3;split at hdg
         . rename_i p dp hgp;simp only[d4T,d5A]at hdg;obtain⟨rfl,rfl⟩:=hdg;have hob2:p/\q9 s.ob:=hob;have e1:=(gprop_ok hR 8 dj b p dp hgp).1.1 hob2.1;exact⟨chain_ok hR 8 dj b e1,hob2.2,fun h=>a7q hdj hnj e1 h⟩
         . cases hdg
       . cases hdg
     obtain⟨hG,hob,hon⟩:=hgg;refine hon (fEff_ok hE hR hG hfr hs hob fun v ρ' Z' w' hr hy=>a2c ⟨rfl,v,rfl,ρ',Z',a.A6.length+1,?_⟩);have t:Tn ρ Z w ρ' Z' w':=hr.tn;have hM:=Mem.upC hmem hr.mem;refine⟨fun r e' hr'=>?_,⟨_,hmm,?_⟩,hj.tn.trans t,fun k s h=>t.rep (hj.sl k s h),fun p hp=>t.rep (hj.fx p hp),fun j e' hj' hD=>?_,hj.g⟩
     . rcases Nat.lt_trichotomy r a.A6.length with c|c|c
       . have h1:=hj.eff r e' hr';have hne:e'≠i:=fun e2=>by simp_all
         rw[Q7 hne,h1];omega
       . subst c;rw[hei]at hr';cases hr';rw[a2T];simp
       . have h1:=hj.eff r e' hr';have hne:e'≠i:=fun e2=>by subst e2;have:=c1h hF.up hr' hei;omega
         rw[Q7 hne,h1];omega
     . rw[d5x];cases dst with
       |none=>exact hM
       |some d=>exact hM
     . by_cases e2:j=i
       . subst e2;rw[he]at hj';cases hj';refine⟨hy,?_⟩;show e7 E.N E.T ρ' Z' w' (a05 V j v j) _
         rw[Z3];cases dst with
         |none=>exact .un
         |some d =>
          have:=hr.sl d s.v (by show lk ((d,s.v)::_) d=_;rw[K7,if_pos rfl]);rw[show R7 g (some d) v d=v from a4N]at this;exact this
       . rw[Q7 e2]at hD;exact(hj.ent j e' hj' hD).turn t hDi hD
   . cases hq
 . cases hq
def WA.quiet{o:Oper}{e:Ent E.N}{ob:List Prop}(hw:WA E l H i a)(ho:l[i]?=some o)(hq:a6V n fx lkd l ms H N9 i o a=some (ob,e)):WA E l H (i+1) ⟨a.E3++[e],a.A6,a.O6⟩:=by
 have hent:o.dst=e.dst/\∀jj dj b,e.g=some (jj,dj,b)->q8 l jj=some dj:=by
  unfold a6V at hq;split at hq
  . cases hq
  have h2:=j3 hq;clear hq;obtain⟨_,hq⟩:=h2;split at hq
  . grind
  . rename_i j b hg;split at hq
    . rename_i dj hdj;have h2:=j3 hq;clear hq;obtain⟨_,hq⟩:=h2;split at hq
      . rename_i p q d hs;simp only[d4T,d5A]at hq;obtain⟨_,rfl⟩:=hq;refine⟨?_,fun jj dj' b' h=>by simp_all⟩;unfold b2L at hs;grind
      . cases hq
    . cases hq
 refine⟨by simp[hw.len],fun j e' hj=>?_,fun e' h=>⟨by have:=(hw.eff e' h).1;omega,(hw.eff e' h).2⟩,hw.up,hw.b7D,hw.chain,hw.nx⟩;have hl:=hw.len;by_cases c:j<a.E3.length
 . have hj:(a.E3++[e])[j]?=some e':=hj;rw[d5l c]at hj;exact hw.ent j e' hj
 . have hj:(a.E3++[e])[j]?=some e':=hj;rw[d5d (by omega)]at hj;have:j-a.E3.length=0:=by have:=A5 hj;simp at this;omega
   rw[this]at hj;cases hj;have:j=i:=by omega
   subst this;exact⟨by rw[O9 ho];exact hent.1,hent.2⟩
def WA.put{o:Oper}{e:Ent E.N}(hw:WA E l H i a)(ho:l[i]?=some o)(hent:o.dst=e.dst/\∀jj dj b,e.g=some (jj,dj,b)->q8 l jj=some dj):WA E l H (i+1) ⟨a.E3++[e],a.A6,a.O6⟩:=by
 refine⟨by simp[hw.len],fun j e' hj=>?_,fun e' h=>⟨by have:=(hw.eff e' h).1;omega,(hw.eff e' h).2⟩,hw.up,hw.b7D,hw.chain,hw.nx⟩;have hl:=hw.len;by_cases c:j<a.E3.length
 . have hj:(a.E3++[e])[j]?=some e':=hj;rw[d5l c]at hj;exact hw.ent j e' hj
 . have hj:(a.E3++[e])[j]?=some e':=hj;rw[d5d (by omega)]at hj;have:j-a.E3.length=0:=by have:=A5 hj;simp at this;omega
   rw[this]at hj;cases hj;have:j=i:=by omega
   subst this;exact⟨by rw[O9 ho];exact hent.1,hent.2⟩
def WA.dead{o:Oper}{e:Ent E.N}(hw:WA E l H i a)(ho:l[i]?=some o)(hq:b1h n l ms i o a=some e):WA E l H (i+1) ⟨a.E3++[e],a.A6,a.O6⟩:=by refine hw.put ho ?_;unfold b1h at hq;grind
def WA.A6{o:Oper}{e:Ent E.N}{ob:List Prop}{T:List Nat}{mm:c7 E.N×Nat}(hw:WA E l H i a)(ho:l[i]?=some o)(hH:lk H i=some T)(hq:c1q n fx lkd l ms N9 i o a T=some (ob,e,mm)):WA E l H (i+1) ⟨a.E3++[e],a.A6++[i],a.O6++[mm]⟩:=by
 have hent:o.dst=e.dst/\e.g=none/\mm.2<=NX/\∃m0 new,a.O6[a.A6.length]?=some m0/\mm.1=new++without (E:=E) m0.1 T:=by
  unfold c1q at hq;split at hq
  . rename_i m0 hm0;have h2:=j3 hq;clear hq;obtain⟨_,hq⟩:=h2;split at hq
    case h_2=>cases hq
    split at hq
    . rename_i s hs;have h2:=j3 hq;clear hq;obtain⟨hn,hq⟩:=h2;simp only[d4T,d5A]at hq;obtain⟨rfl,rfl,rfl⟩:=hq;simp_all
    . cases hq
  . cases hq
 obtain⟨h1,h2,h3,m0,new,h4,h5⟩:=hent;have hl:=hw.len;have hml:=hw.b7D;refine⟨by simp[hw.len],fun j e' hj=>?_,fun e' h=>?_,?_,by simp[hml],fun r e' m m' he hm hm'=>?_,fun m h=>?_⟩
 . have hj:(a.E3++[e])[j]?=some e':=hj;by_cases c:j<a.E3.length
   . rw[d5l c]at hj;exact hw.ent j e' hj
   . rw[d5d (by omega)]at hj;have:j-a.E3.length=0:=by have:=A5 hj;simp at this;omega
     rw[this]at hj;cases hj;have:j=i:=by omega
     subst this;exact⟨by rw[O9 ho];exact h1,fun jj dj b h=>by simp_all⟩
 . have h:e'∈a.A6++[i]:=h;rw[d5t,d5a]at h;rcases h with h|rfl
   . exact⟨by have:=(hw.eff e' h).1;omega,(hw.eff e' h).2⟩
   simp_all
 . show(a.A6++[i]).Pairwise (· < ·)
   rw[d6O];refine⟨hw.up,d6X _ _,fun x hx y hy=>?_⟩;rw[d5a]at hy;subst hy;exact(hw.eff x hx).1
 . have he:(a.A6++[i])[r]?=some e':=he;have hm:(a.O6++[mm])[r]?=some m:=hm;have hm':(a.O6++[mm])[r+1]?=some m':=hm';by_cases c:r<a.A6.length
   . rw[d5l c]at he;rw[d5l (by omega)]at hm hm';exact hw.chain r e' m m' he hm hm'
   grind
 . have h:m∈a.O6++[mm]:=h;rw[d5t,d5a]at h;rcases h with h|rfl
   . exact hw.nx m h
   . exact h3
def dGo_ok(hE:c8 E)(hf:a1h fx l=true){K:DA E.N->Prop}:∀(r:List Oper)(i:Nat)(a:DA E.N),(∀x,r[x]?=l[i+x]?)->WA E l H i a->dGo n fx lkd l ms H N9 K i r a->∃F,WA E l H (i+r.length) F/\Up a F i/\a3y E.P n l ms (JF E C fx lkd N9 f0 F) f0 i r/\K F
 |[],i,a,_,hw,h=>⟨a,hw,⟨⟨[],by simp⟩,⟨[],by simp,fun e h=>by cases h⟩,⟨[],by simp⟩⟩,.nil,h⟩
 |o::r,i,a,hr,hw,h=>by
  have ho:l[i]?=some o:=by have:=hr 0;simpa using this.symm
  have hr':∀x,r[x]?=l[i+1+x]? := fun x=>by have:=hr (x+1);grind
  unfold dGo at h;rw[c6s]at h;split at h
  . rename_i ob a' hone;have⟨hob,hgo⟩:im (dHy (bit ms i) 0 a.E3) (q9 ob)/\dGo n fx lkd l ms H N9 K (i+1) r a':=by
     cases hb:ob.isEmpty with
     |true=>rw[hb,d5r]at h;rw[d8N.1 hb];exact⟨b2N fun _=>trivial,h⟩
     |false=>rw[hb,d5y]at h;exact⟨b2N fun hy=>b66 (X4 h.1 hy),h.2⟩
    unfold d2x at hone;split at hone
    . rename_i hH;split at hone
      . rename_i e hq;simp only[d4T,d5A]at hone;obtain⟨rfl,rfl⟩:=hone;obtain⟨F,hF,hu,hs,hK⟩:=dGo_ok hE hf r (i+1) _ hr' (hw.dead ho hq) hgo;have he:F.E3[i]?=some e:=hu.ent (by show(a.E3++[e])[i]?=_;rw[d5d (by have:=hw.len;omega),hw.len,d8O];rfl);have hu':Up a F i:=by
         obtain⟨⟨x,hx⟩,⟨y,hy,hy'⟩,hz⟩:=hu;exact⟨⟨[e]++x,by rw[hx];simp⟩,⟨y,hy,fun e h=>by grind⟩,hz⟩
        exact⟨F,by grind,hu',.cons (dead_ok hq hH hF hu' he) hs,hK⟩
      . split at hone
        . rename_i ob1 e hq;simp only[d4T,d5A]at hone;obtain⟨rfl,rfl⟩:=hone;obtain⟨F,hF,hu,hs,hK⟩:=dGo_ok hE hf r (i+1) _ hr' (hw.quiet ho hq) hgo;have he:F.E3[i]?=some e:=hu.ent (by show(a.E3++[e])[i]?=_;rw[d5d (by have:=hw.len;omega),hw.len,d8O];rfl);have hu':Up a F i:=by
           obtain⟨⟨x,hx⟩,⟨y,hy,hy'⟩,hz⟩:=hu;exact⟨⟨[e]++x,by rw[hx];simp⟩,⟨y,hy,fun e h=>by grind⟩,hz⟩
          exact⟨F,by grind,hu',.cons (quiet_ok hE hf hq hH hob hw hF hu' he) hs,hK⟩
        . cases hone
    . rename_i T hH;split at hone
      . rename_i ob1 e mm hq;simp only[d4T,d5A]at hone;obtain⟨rfl,rfl⟩:=hone;obtain⟨F,hF,hu,hs,hK⟩:=dGo_ok hE hf r (i+1) _ hr' (hw.A6 ho hH hq) hgo;have he:F.E3[i]?=some e:=hu.ent (by show(a.E3++[e])[i]?=_;rw[d5d (by have:=hw.len;omega),hw.len,d8O];rfl);have hei:F.A6[a.A6.length]?=some i:=hu.eff (by simp_all);have hmm:F.O6[a.A6.length+1]?=some mm:=hu.mem (by show(a.O6++[mm])[a.A6.length+1]?=_;rw[<- hw.b7D,d5d (d5m _),d8O];rfl);have hu':Up a F i:=by
         obtain⟨⟨x,hx⟩,⟨y,hy,hy'⟩,⟨z,hz⟩⟩:=hu;refine⟨⟨[e]++x,by rw[hx];simp⟩,⟨[i]++y,by rw[hy];simp,fun e h=>?_⟩,⟨[mm]++z,by rw[hz];simp⟩⟩;rw[d5t,d5a]at h;rcases h with h|h
         . omega
         . grind
        exact⟨F,by grind,hu',.cons (eff_ok hE hf hq hob hw hF hu' he hei hmm) hs,hK⟩
      . cases hone
  simp_all
def a3w{g g':Fr}:∀{ks:List Nat}{k:Nat},k∈ks->a5i g' (ks.map fun k=>(k,g k)) k=g k
 |x::r,k,h=>by
  show D5 (a5i g' (r.map fun k=>(k,g k))) x (g x) k=g k
  by_cases e:x=k
  . subst e;exact a4N
  . rw[a0F e];rcases d5k.1 h with h|h
    . omega
    . exact a3w h
def b1Q{g:Fr}:∀{ks:List Nat},Live g (ks.map fun k=>(k,g k))
 |[]=>trivial
 |_::_=>⟨rfl,b1Q⟩
def vcDraw_ok(hE:c8 E){id:Nat}{f:Fr}{K:E.St->Prop}{Q:Exit->Fr->World->Prop}(h:Rel E C fx lkd N9 ρ Z f w){H0:Hints}(hv:b4m n fx lkd l N9 H0 K)(hQ:∀st' ρ' Z' f' w',Rel E C fx lkd st' ρ' Z' f' w'->K st'->Q .normal f' w'):W E.P n (.region id l.toArray true) Q f w:=by
 unfold b4m at hv;cases hb:(R2 l && a8g l [] && a99 (b0o l) n l && a1h fx l && Nat.ble N9.nx NX)with
 |false=>simp_all
 |true =>
  rw[hb,d5r,c1i,b0t,b9D]at hv;rw[d4U,d4U]at hb;obtain⟨⟨ha,hf⟩,hn⟩:=hb;obtain⟨F,hF,hu,hs,hK⟩:=dGo_ok (C:=C) (f0:=f) hE hf l 0 _ (fun x=>by simp) ⟨rfl,fun j e h=>by simp at h,fun e h=>(by cases h),List.Pairwise.nil,rfl,fun r e m m' h=>by simp at h,fun m h=>by simp_all⟩ hv
  rw[d6I]at hF;refine b58 (JF E C fx lkd N9 f F) (b0o l) hE.mixed ha (a9I l) rfl (fun V=>⟨ρ,Z,0,fun r e _=>by simp,⟨_,hu.mem (j:=0) rfl,h.mem⟩,h.tn,h.sl,h.fx,fun j e _ hD=>(by cases hD),h.g⟩) hs fun D V g w' hD hJ hdone hkept=>?_;obtain⟨ρ',Z',k,hj⟩:=hJ;obtain⟨mk,hmk,hmem⟩:=hj.mem;have hk:k=F.A6.length:=by
   rcases d5B k F.A6.length with c|c
   . exfalso;obtain⟨e,he⟩:∃e,F.A6[k]?=some e:=⟨_,d5i c⟩;have h1:=(hF.eff e (d5c he)).1;have:=(hj.eff k e he).1 (hD e (by simp_all));omega
   . have:=A5 hmk;have:=hF.b7D;omega
  subst hk;unfold c9i at hK;rw[hmk]at hK;simp only at hK;have hlen:∀{j:Nat}{e:Ent E.N},F.E3[j]?=some e->Nat.blt j l.length=true:=fun{j e} he=>by have:=A5 he;rw[hF.len]at this;simp_all
  have hK:=X4 hK (b0v fun j e h1 _=>(hj.ent j e h1 (hD j (hlen h1))).1);have hg:Rel E C fx lkd ⟨a0E (fun _=>true) 0 F.E3++N9.slots.filter (fun p=>!(b0o l).elem p.1),[],mk.1,mk.2⟩ ρ' Z' g w':=by
   refine⟨fun k s hk=>?_,fun p hp=>?_,fun k j' b s hk=>(by cases hk),hmem,hj.tn,hj.g⟩
   . rcases b55 hk with hk|⟨_,hk⟩
     . obtain⟨j,e,h1,_,h3,rfl⟩:=a5k hk;have hg:=hdone j k (hlen h1) (by rw[(hF.ent j e h1).1];exact h3);have ho:=(hj.ent j e h1 (hD j (hlen h1))).2;unfold Ent.now;split
       . simp_all
       . exact .un
     . have⟨h1,h2⟩:=a98 (q:=fun t=>!(b0o l).elem t) hk;rw[hkept k (by simp_all)];exact hj.sl k s h2
   . rw[hkept p.1 ?_]
     . exact hj.fx p hp
     . cases hx:(b0o l).elem p.1 with
       |false=>rfl
       |true =>
        exfalso;have hx:=List.mem_of_elem_eq_true hx;unfold b0o at hx;rw[d7N]at hx;obtain⟨o,ho,hd⟩:=hx;unfold a1h at hf;rw[d5D]at hf;have:=hf o ho;rw[hd]at this;simp only[d7L]at this;exact a6l this p hp rfl
  generalize hst:(⟨a0E (fun _=>true) 0 F.E3++N9.slots.filter (fun p=>!(b0o l).elem p.1),[],mk.1,mk.2⟩:E.St)=stF at hg hK;refine⟨((stF.slots++fx).map (·.1)).map fun k=>(k,g k),b1Q,fun g'=>hQ stF ρ' Z' _ w' ?_ hK⟩;refine⟨fun k s hk=>?_,fun p hp=>?_,fun k j' b s hk=>?_,hg.mem,hg.tn,hg.g⟩
  . obtain⟨x,hx,_⟩:=x8 hk;rw[a3w (d6A.2 ⟨_,d5S _ (d5c hx),rfl⟩)];exact hg.sl k s hk
  . rw[a3w (d6A.2 ⟨p,d6H _ hp,rfl⟩)];exact hg.fx p hp
  . rw[<- hst]at hk;cases hk
def vcForce_ok(hE:c8 E){id:Nat}{f:Fr}{K:E.St->Prop}{Q:Exit->Fr->World->Prop}(h:Rel E C fx lkd N9 ρ Z f w)(hQ:∀st' ρ' Z' f' w',Rel E C fx lkd st' ρ' Z' f' w'->K st'->Q .normal f' w'):∀(fs:List Nat)(H0:Hints),a30 n fx lkd l N9 K fs H0->W E.P n (.region id l.toArray true) Q f w
 |[],H0,hv=>vcDraw_ok hE h (H0:=H0) hv hQ
 |i::r,H0,hv=>by
  unfold a30 at hv;split at hv
  . rename_i p _;by_cases hp:p
    . exact vcForce_ok hE h hQ r _ (hv.1 hp)
    . exact vcForce_ok hE h hQ r _ (hv.2 hp)
  . exact vcForce_ok hE h hQ r _ hv
end
section
variable{E:Env}{C:Ctx}{f fb:Fr}{w wb:World}{ρb ρ:p4}{Z Zb:Nat->Prop}{lkd:c7 E.N}{fx:n5 E.N}{st st':E.St}{inl:Inl E}{an:D3}
def rbS_ok{keep ids:List Nat}{Kα:Prop×Nat->Prop}{G:Prop×Nat->E.St->Prop}(h0:Rel E C fx lkd st ρb Zb fb wb)(h:Rel E (C.at ρb Zb wb) (s5 fx st keep++fx) (without st.items ids++lkd) st' ρ Z f w):∀(ss:List (List LV)) (p:ShP E.N ss),
  rbS E fx st (s5 fx st keep++fx) st' ss p Kα->c44 E fx st ss p G->∃new ρ2 a,Kα a/\G a new/\Rel E (C.at ρb Zb wb) (s5 fx st keep++fx) (without st.items ids++lkd) new ρ2 Z f w
 |[],_,hv,_=>hv.elim
 |vs::r,p,hv,hK=>by
  unfold rbS at hv;cases hb:fits E fx st (s5 fx st keep++fx) st' vs with
  |true=>rw[hb,d5r]at hv;exact rbP_ok h0 h hv hK.1
  |false=>rw[hb,d5y]at hv;exact rbS_ok h0 h r p.2 hv hK.2
def b8m(K:Ks E)(e:Exit)(st:E.St):Prop:=match e with
 |.normal=>K.n st
 |.ret=>K.r st
 |.exit i=>(match lk K.e i with|some k=>k st|none=>False)
 |_=>False
def QK(E:Env)(C:Ctx)(fx:n5 E.N)(lkd:c7 E.N)(K:Ks E):Exit->Fr->World->Prop:=fun e f w=>∃st ρ Z,Rel E C fx lkd st ρ Z f w/\b8m K e st
def c1W{α β:Type}{l:List (Nat×α)}{g:α->β}{i:Nat}:lk (l.map fun p=>(p.1,g p.2)) i=(lk l i).map g:=by
 induction l with
 |nil=>rfl
 |cons p r ih =>
  show(bif Nat.beq p.1 i then some (g p.2)else lk (r.map fun p=>(p.1,g p.2)) i)=(bif Nat.beq p.1 i then some p.2 else lk r i).map g
  grind
def Rel.g0(h:Rel E C fx lkd st ρ Z f w):Rel E C fx lkd ⟨st.slots,[],st.items,st.nx⟩ ρ Z f w:=⟨h.sl,h.fx,fun k j b s e=>(by cases e),h.mem,h.tn,h.g⟩
def b0m{keep ids:List Nat}{K:Ks E}{n:E.St->Prop}{e:Exit}(h0:Rel E C fx lkd st ρb Zb fb wb)(hn:e≠.normal)
  (h:QK E (C.at ρb Zb wb) (s5 fx st keep++fx) (without st.items ids++lkd) (a4A (s5 fx st keep) (without st.items ids) K n) e f w):QK E C fx lkd K e f w:=by
 obtain⟨st',ρ',Z',hr,he⟩:=h;have hl:=Rel.leave h0 hr;cases e with
 |normal=>simp_all
 |ret=>exact⟨_,_,_,hl,he⟩
 |exit i =>
  simp only[b8m,a4A]at he;rw[c1W]at he;cases hk:lk K.e i with
  |none=>simp_all
  |some k=>rw[hk]at he;exact⟨_,_,_,hl,by simp only[b8m,hk];exact he⟩
 |_=>exact he.elim
def a8q.mono{P:Program}{o:Oper}{g:Fr}{w:World}{R R':Value->World->Prop}(h:a8q P o g w R)(k:∀v w',R v w'->R' v w'):a8q P o g w R':=by
 rcases h with h|h|⟨K,a,h1,h2⟩
 . exact .inl fun w1 hs=>by grind
 . exact .inr (.inl fun w1 hs=>by grind)
 . exact .inr (.inr ⟨K,a,h1,h2.mono k⟩)
def evalB_ok{s:E.SV}{v:Value}(r:e7 E.N E.T ρ Z w v s):e7 E.N E.T ρ Z w v (c4X s):=by
 cases s with
 |bl p d =>
  cases r;show e7 E.N E.T ρ Z w _ (bif @decide p d then .tt else .ff)
  cases @decide p d with
  |true=>exact .tt
  |false=>exact .ff
 |_=>exact r
def evalS_ok:∀(ks:List Nat){st:E.St}{Z:Nat->Prop},Rel E C fx lkd st ρ Z f w->∃Z',Rel E C fx lkd (b6h ks st) ρ Z' f w
 |[],_,Z,h=>⟨Z,h⟩
 |s::r,st,Z,h=>by
  unfold b6h;split
  . rename_i id hv;split
    . rename_i v its hf;obtain⟨Z1,m1,t1,hr⟩:=frz1_ok h.mem hf;refine evalS_ok r (Z:=Z1) ⟨fun k s' hk=>?_,fun p hp=>t1.rep (h.fx p hp),fun k j b s' hk=>⟨fun e=>t1.rep ((h.gs k j b s' hk).1 e),(h.gs k j b s' hk).2⟩,m1,h.tn.trans t1,h.g⟩;rw[K7]at hk;by_cases e:s=k
      . subst e;rw[if_pos rfl]at hk;cases hk;exact hr _ (h.sl _ _ hv)
      . rw[if_neg e]at hk;exact t1.rep (h.sl k s' hk)
    . exact evalS_ok r h
  . rename_i v _ hv;refine evalS_ok r ⟨fun k s' hk=>?_,h.fx,h.gs,h.mem,h.tn,h.g⟩;rw[K7]at hk;by_cases e:s=k
    . subst e;rw[if_pos rfl]at hk;cases hk;exact evalB_ok (h.sl _ _ hv)
    . rw[if_neg e]at hk;exact h.sl k s' hk
  . exact evalS_ok r h
def behind_ok{id:Nat}{K:Ks E}{st:E.St}(h:Rel E C fx lkd st ρ Z f w)(hk:behind an id K.n st):QK E C fx lkd K .normal f w:=by
 unfold behind at hk;generalize an.join (2000000+id)=o at hk;cases o with
 |some a=>obtain⟨Z',h'⟩:=evalS_ok a.keep h;exact⟨_,ρ,Z',h',hk⟩
 |none=>exact⟨st,ρ,Z,h,hk⟩
def cutS_ok{ks:List Nat}{st:E.St}{k:E.St->Prop}(h:Rel E C fx lkd st ρ Z f w)(hk:b9V ks fx st k):∃st',Rel E C fx lkd st' ρ Z f w/\k st':=by
 unfold b9V at hk;cases hb:ks.isEmpty with
 |true=>grind
 |false =>
  rw[hb,d5y,b2k]at hk;refine⟨⟨s5 fx st ks,[],st.items,st.nx⟩,⟨fun k s hs=>?_,h.fx,fun k j b s e=>(by cases e),h.mem,h.tn,h.g⟩,hk⟩;have hs:lk (s5 fx st ks) k=some s:=hs;clear hk hb
  induction ks with
  |nil=>cases hs
  |cons a r ih =>
   have hs:lk ((a,w8 fx st a)::s5 fx st r) k=some s:=hs;rw[K7]at hs;by_cases e:a=k
   . rw[if_pos e]at hs;cases hs;subst e;exact h.slot a
   simp_all
def b7p{b:Bool}{p:Prop}(h:bif b then p else False):b=true/\p:=by simp_all
def a4P{i:Nat}:∀{l:List Oper}{k:Nat},i∈idxs l k↔k<=i/\i<k+l.length
 |[],k=>⟨fun h=>(by cases h),fun h=>absurd h.2 (by simp;omega)⟩
 |_::r,k=>by unfold idxs;rw[d5k,a4P,d5h];omega
def b1l{l:List Oper}{done:List Nat}:b7N l done=true↔∀i,i<l.length->done.elem i=true:=by unfold b7N;rw[d5D];exact⟨fun h i hi=>h i (a4P.2 (by omega)),fun h i hi=>h i (by have:=a4P.1 hi;omega)⟩
def b5m{f:Nat->Prop}{i:Nat}:∀{L:List Nat},cjF f L->i∈L->f i
 |[],_,h=>by cases h
 |[a],hf,h=>by cases d5a.1 h;exact hf
 |a::b::r,hf,h=>by
  rcases d5k.1 h with rfl|h
  . exact hf.1
  . exact b5m hf.2 h
def vcAny_ok(hE:c8 E)(hI:H6 E inl){id n:Nat}{l:List Oper}{C:Ctx}{fx:n5 E.N}{lkd:c7 E.N}{st:E.St}{ρ:p4}{Z:Nat->Prop}{f:Fr}{w:World}{K:E.St->Prop}{Q:Exit->Fr->World->Prop}(h:Rel E C fx lkd st ρ Z f w)
  (ha:R2 l=true) (hv:a6v n inl fx lkd l K l.length [] st) (hQ:∀st' ρ' Z' f' w',Rel E C fx lkd st' ρ' Z' f' w'->K st'->Q .normal f' w'):W E.P n (.region id l.toArray true) Q f w:=by
 refine a9X hE.mixed ha (fun D g w'=>∃k done st ρ Z,(∀j,D j=done.elem j)/\Rel E C fx lkd st ρ Z g w'/\a6v n inl fx lkd l K k done st) ⟨_,[],st,ρ,Z,fun j=>rfl,h,hv⟩ ?_ ?_
 . rintro D g w' ⟨k,done,st,ρ,Z,hD,hR,hv⟩ i o ho hDi hdep;have hil:i<l.length:=by
    rcases d5B i l.length with h|h
    . exact h
    . simp_all
   have hna:b7N l done=false:=by rw[<- d5E,b1l];intro hh;have:=hh i hil;rw[<- hD,hDi]at this;cases this
   cases k with
   |zero=>unfold a6v at hv;simp_all
   |succ k =>
    unfold a6v at hv;rw[hna,d5y]at hv;have hr:rdy l done i=true:=by
     unfold rdy;rw[ho];simp only[d4U,d6w,d5D,d5V];refine⟨by simp_all,fun e he=>?_⟩;cases hb:Region.binds .any e with
     |false=>simp_all
     |true=>simp_all
    have hi:=b5m hv (d5u.2 ⟨a4P.2 (by omega),hr⟩);rw[ho]at hi;refine vcOps_ok hE hI [o] st ρ Z g w' hR hi fun st' ρ' Z' f' w2 hr' _ hk=>⟨rfl,k,i::done,st',ρ',Z',fun j=>?_,hr',hk⟩;by_cases e:j=i
    . subst e;rw[a2T];simp
    . rw[Q7 e,hD,List.elem_cons];grind
 . rintro D g w' ⟨k,done,st,ρ,Z,hD,hR,hv⟩ hall;have hA:b7N l done=true:=b1l.2 fun i hi=>by simp_all
   cases k <;> (unfold a6v at hv;grind)
def vc_ok(hE:c8 E)(hI:H6 E inl):∀(c:Code)(C:Ctx)(fx:n5 E.N)(lkd:c7 E.N)(st:E.St)(K:Ks E)(ρ:p4)(Z:Nat->Prop)(f:Fr)(w:World),Rel E C fx lkd st ρ Z f w->vc inl an c fx lkd st K->W E.P an.n c (QK E C fx lkd K) f w:=by
 intro c
 induction c with
 |skip=>intro C fx lkd st K ρ Z f w h hv;exact c7g ⟨st,ρ,Z,h,hv⟩
 |ret=>intro C fx lkd st K ρ Z f w h hv;exact d2Y ⟨st,ρ,Z,h,hv⟩
 |exit i=>intro C fx lkd st K ρ Z f w h hv;exact c7L ⟨st,ρ,Z,h,hv⟩
 |region id l dr =>
  intro C fx lkd st K ρ Z f w h hv;simp only[vc]at hv;have e:l=l.toList.toArray:=by simp
  cases hb:(!dr || b4w l.toList)with
  |false =>
   rw[hb,d5y]at hv;have hdr:dr=true:=by
    cases dr with
    |true=>rfl
    |false=>grind
   subst hdr;split at hv
   . have h2:=b7p hv;have:=vcAny_ok (id:=id) (Q:=QK E C fx lkd K) hE hI h.g0 h2.1 h2.2 (fun st' ρ' Z' f' w' hr hk=>behind_ok hr hk);omega
   . have:=vcForce_ok (id:=id) (Q:=QK E C fx lkd K) hE h.g0 (fun st' ρ' Z' f' w' hr hk=>behind_ok hr hk) _ _ hv;omega
  |true =>
   rw[hb,d5r]at hv;have key:WL E.P dr an.n l.toList (QK E C fx lkd K) l.toList f w:=vcOps_ok hE hI l.toList _ ρ Z f w h.g0 hv (fun st' ρ' Z' f' w' hr _ hk=>behind_ok hr hk);cases dr with
   |false =>
    have:=c1R (id:=id) key;omega
   |true =>
    have hb2:a9Z l.toList=true:=by unfold b4w at hb;simp only[Bool.not_true,d8C,d4U]at hb;exact hb.1
    have:=a8d (id:=id) hE.mixed hb2 key;omega
 |seq a b iha ihb =>
  intro C fx lkd st K ρ Z f w h hv;simp only[vc]at hv;split at hv
  . refine c6f (a2s (iha C fx lkd st _ ρ Z f w h hv) fun e f' w' q=>?_);obtain⟨st',ρ',Z',hr,he⟩:=q;cases e with
    |normal=>exact ihb C fx lkd st' K ρ' Z' f' w' hr he
    |ret=>exact⟨st',ρ',Z',hr,he⟩
    |exit i=>exact⟨st',ρ',Z',hr,he⟩
    |_=>exact he.elim
  . rename_i j hj;obtain⟨J,hva,hvb⟩:=hv;refine c6f (a2s (iha _ _ _ _ _ ρ Z f w (h.enter j.keep (B4 E fx st j.vars)) hva) fun e f' w' q=>?_);cases e with
    |normal =>
     obtain⟨st',ρ',Z',hr,he⟩:=q;obtain⟨new,ρ2,x,hx,hk,hr2⟩:=rbP_ok h hr he hvb;exact ihb C fx lkd _ K ρ2 Z' f' w' (Rel.leave h hr2) (hk hx)
    |ret=>exact b0m h (by simp_all) q
    |exit i=>exact b0m h (by simp_all) q
    |_=>obtain⟨_,_,_,_,he⟩:=q;exact he.elim
 |cond o a b iha ihb =>
  intro C fx lkd st K ρ Z f w h hv;simp only[vc]at hv;have hr:=h.ev Z5.nil o;split at hv
  . rename_i e;rw[e]at hr;exact b2Y (by generalize Wk.ev f o=u at hr;cases hr;rfl) (iha C fx lkd st K ρ Z f w h hv)
  . rename_i e;rw[e]at hr;exact a9P (by generalize Wk.ev f o=u at hr;cases hr;rfl) (ihb C fx lkd st K ρ Z f w h hv)
  . rename_i p d e;rw[e]at hr;have e1:Wk.ev f o=.bool (@decide p d):=by generalize Wk.ev f o=u at hr;cases hr;rfl
    exact b4J e1 (fun hp=>iha C fx lkd st K ρ Z f w h (hv.1 (d5Q hp))) (fun hp=>ihb C fx lkd st K ρ Z f w h (hv.2 (d7i hp)))
  simp_all
 |block i c ih =>
  intro C fx lkd st K ρ Z f w h hv;refine c48 (a2s (ih C fx lkd st _ ρ Z f w h hv) fun e f' w' q=>?_);obtain⟨st',ρ',Z',hr,he⟩:=q;cases e with
  |normal=>exact⟨st',ρ',Z',hr,he⟩
  |ret=>exact⟨st',ρ',Z',hr,he⟩
  |exit j =>
   have he:(match(bif Nat.beq i j then some K.n else lk K.e j)with|some k=>k st'|none=>False):=he;show(bif Nat.beq j i then QK E C fx lkd K .normal f' w' else QK E C fx lkd K (.exit j) f' w')
   have hc:Nat.beq i j=Nat.beq j i:=by
    by_cases e:i=j
    . rw[e]
    . rw[a02 e,a02 (d6l e)]
   rw[hc]at he;cases hb:Nat.beq j i with
   |true=>rw[hb]at he;exact⟨st',ρ',Z',hr,he⟩
   |false=>rw[hb]at he;exact⟨st',ρ',Z',hr,he⟩
  |_=>exact he.elim
 |loop c ih =>
  intro C fx lkd st K ρ Z f w h hv;simp only[vc]at hv;split at hv
  . exact hv.elim
  . rename_i a ha;split at hv
    . rename_i n hk;refine b5E (fun k f' w'=>∃(st':E.St)(ρ':p4)(Z':Nat->Prop),Rel E C fx lkd st' ρ' Z' f' w'/\vcU (fun st n'=>b9V a.keep fx st fun st=>vc inl an c fx lkd st ⟨n',K.r,K.e⟩) k st') ⟨n,_,_,_,h.g0,hv⟩ ?_;rintro k f' w' ⟨st',ρ',Z',hr,hu⟩;cases k with
      |zero=>exact hu.elim
      |succ k =>
       obtain⟨st1,hr,hu⟩:=cutS_ok (k:=fun st=>vc inl an c fx lkd st ⟨vcU (fun st n'=>b9V a.keep fx st fun st=>vc inl an c fx lkd st ⟨n',K.r,K.e⟩) k,K.r,K.e⟩) hr hu;refine a2s (ih C fx lkd st1 _ ρ' Z' f' w' hr hu) fun e f2 w2 q=>?_;obtain⟨st2,ρ2,Z2,hr2,he⟩:=q;cases e with
       |normal=>exact⟨k,Nat.lt_succ_self k,st2,ρ2,Z2,hr2,he⟩
       |ret=>exact⟨st2,ρ2,Z2,hr2,he⟩
       |exit i=>exact⟨st2,ρ2,Z2,hr2,he⟩
       |_=>exact he.elim
    obtain⟨I,m,h0,hb⟩:=hv
    refine     b5E (fun k f' w' => ∃ (new : E.St) (ρ2 :   p4) (Z2 : Nat -> Prop) (im : Prop × Nat), (im.1 -> vc inl an c (   s5 fx st a.keep ++ fx) (without st.items (   B4 E fx st a.vars) ++ lkd) new
          (a4A (s5 fx st a.keep) (without st.items (B4 E fx st a.vars)) K (fun st'=>rbP E fx st (s5 fx st a.keep++fx) st' a.vars (a1m a.vars I m) (fun im'=>im'.1/\im'.2<im.2))))/\im.1/\im.2=k/\Rel E (C.at ρ Z w) (s5 fx st a.keep++fx) (without st.items (B4 E fx st a.vars)++lkd) new ρ2 Z2 f' w') ?_ ?_
    . obtain⟨new,ρ2,im,h1,h2,h3⟩:=rbP_ok h (h.enter a.keep (B4 E fx st a.vars)) h0 hb;grind
    . rintro k f' w' ⟨new,ρ2,Z2,im,hbody,hi,rfl,hr⟩;refine a2s (ih _ _ _ _ _ ρ2 Z2 f' w' hr (hbody hi)) fun e f2 w2 q=>?_;cases e with
      |normal =>
       obtain⟨st',ρ',Z',hr',he⟩:=q;obtain⟨new2,ρ3,im2,g1,g2,g3⟩:=rbP_ok h hr' he hb;exact⟨im2.2,g1.2,new2,ρ3,Z',im2,g2,g1.1,rfl,g3⟩
      |ret=>exact b0m h (by simp_all) q
      |exit i=>exact b0m h (by simp_all) q
      |_=>obtain⟨_,_,_,_,he⟩:=q;exact he.elim
 |_=>intro C fx lkd st K ρ Z f w h hv;exact hv.elim
end
section
variable{E:Env}{C:Ctx}{w:World}{ρ:p4}{Z:Nat->Prop}{its lkd:c7 E.N}{nx:Nat}{inl:Inl E}{an:D3}{fn:Func}{K:Nat}{args:List E.SV}{vs:List Value}
def b8y(E:Env)(C:Ctx)(ρ:p4)(Z:Nat->Prop)(w:World)(lkd:c7 E.N)(k:E.SV->c7 E.N->Nat->Prop)(v:Value)(w':World):Prop:=
 ∃ρ' Z' s its' nx',Mem E C ρ' Z' w' (its'++lkd) nx'/\Tn ρ Z w ρ' Z' w'/\e7 E.N E.T ρ' Z' w' v s/\k s its' nx'
def a1j(tmps:Array Value):ResultVar->Sem Value
 |.tmp t=>pure (tmps.getD t undef)
 |.cell a t=>do loadVar t (<- asAddr (tmps.getD a undef))
section
variable{P:Program}{tmps:Array Value}{v0 v1 v2:Value}{r0 r1 r2:ResultVar}
def b7F(h:fn.results=#[]):(results fn tmps).run P w=.ok (.tuple #[]) w:=results_none h _ _ _
def a9D(h:fn.results=#[r0])(h0:(a1j tmps r0).run P w=.ok v0 w):(results fn tmps).run P w=.ok v0 w:=by have e:results fn tmps=(do let vs <- fn.results.mapM (a1j tmps);pure (if h:vs.size=1 then vs[0]else .tuple vs)):=rfl;simp_all
def b71(h:fn.results=#[r0,r1])(h0:(a1j tmps r0).run P w=.ok v0 w)(h1:(a1j tmps r1).run P w=.ok v1 w):(results fn tmps).run P w=.ok (.tuple #[v0,v1]) w:=by have e:results fn tmps=(do let vs <- fn.results.mapM (a1j tmps);pure (if h:vs.size=1 then vs[0]else .tuple vs)):=rfl;simp_all
def b82(h:fn.results=#[r0,r1,r2])(h0:(a1j tmps r0).run P w=.ok v0 w)(h1:(a1j tmps r1).run P w=.ok v1 w)(h2:(a1j tmps r2).run P w=.ok v2 w):(results fn tmps).run P w=.ok (.tuple #[v0,v1,v2]) w:=by have e:results fn tmps=(do let vs <- fn.results.mapM (a1j tmps);pure (if h:vs.size=1 then vs[0]else .tuple vs)):=rfl;simp_all
def b7h{r3:ResultVar}{v3:Value}(h:fn.results=#[r0,r1,r2,r3])(h0:(a1j tmps r0).run P w=.ok v0 w)(h1:(a1j tmps r1).run P w=.ok v1 w)(h2:(a1j tmps r2).run P w=.ok v2 w)(h3:(a1j tmps r3).run P w=.ok v3 w):(results fn tmps).run P w=.ok (.tuple #[v0,v1,v2,v3]) w:=by have e:results fn tmps=(do let vs <- fn.results.mapM (a1j tmps);pure (if h:vs.size=1 then vs[0]else .tuple vs)):=rfl;simp_all
end
def b7C(P:Program)(fn:Func)(n:Nat)(f:Fr)(w:World)(v:Value):Prop:=∀a w1,Is a f n->F8 w w1->(results fn a.tmps).run P w1=.ok v w1
def d3K(P:Program)(fn:Func)(n:Nat)(R:Value->World->Prop):Exit->Fr->World->Prop
 |.ret,f,w=>∃v,b7C P fn n f w v/\R v w
 |.normal,f,w=>∃v,b7C P fn n f w v/\R v w
 |_,_,_=>False
def c83{P:Program}{c:Code}{n:Nat}{args:List Value}{R:Value->World->Prop}(hf:P.funcs[K]?=some fn)(hb:fn.body=some c)(hn:fn.ntmps=n)(hs:Nat.ble args.length n=true)(h:W P n c (d3K P fn n R) (nth args) w):G2 P K args w R:=
 b42 hf hb hn hs _ (fun e a w1 f w hf hd hv q=>by
  cases e with
  |ret=>obtain⟨v,h1,h2⟩:=q;exact⟨hd,v,h1 a w1 hf hv,v,w,rfl,hv,h2⟩
  |normal=>obtain⟨v,h1,h2⟩:=q;exact⟨hd,v,h1 a w1 hf hv,v,w,rfl,hv,h2⟩
  |_=>exact q.elim) h
def b36{P:Program}{T:TypeId}{b mm:Nat}{cs:List Value}(hA:∀w,(isAgg T).run P w=.ok true w)(hz:∀w,(sizeOf T).run P w=.ok mm w)(hl:cs.length=mm)(hc:Cells w b 0 cs):(loadVar T ⟨b,0,none⟩).run P w=.ok (.agg cs.toArray) w:=by have h:=Q6 (P:=P) hc cs.length 0 #[] (by omega);simp only[List.drop_zero,Array.empty_append]at h;subst hl;simp[loadVar,hA,hz,loadCells,h,go_sem]
def resS_ok{st:E.St}{f:Fr}{n:Nat}{fx:n5 E.N}{r:ResultVar}{s:E.SV}(h:Rel E C fx lkd st ρ Z f w)(e:a4V st r=some s):∃v,e7 E.N E.T ρ Z w v s/\∀a w1,Is a f n->F8 w w1->(a1j a.tmps r).run E.P w1=.ok v w1:=by
 cases r with
 |tmp t =>
  exact⟨f t,h.sl t s e,fun a w1 hi hs=>by simp only[a1j];rw[hi.get];rfl⟩
 |cell a0 T =>
  simp only[a4V]at e;split at e
  . rename_i id off hl;split at e
    . rename_i Ty cells hi;split at e
      . rename_i m hA hz;have⟨h1,h2⟩:=j3 e;simp only[d4T]at h2;subst h2;simp only[d4U]at h1;have e0:=d4W h1.1;have e1:=d4W h1.2;subst e0;have hr:=h.sl a0 _ hl;obtain⟨j,hj,_⟩:=x8 hi;obtain⟨L,cs,hL,hbs,ho,hrep⟩:=h.mem.holds (p5 (l2:=lkd) hj);have hL:ρ id=some L:=hL;have hp:f a0=.pointer (some ⟨L.b,0,none⟩):=by
         generalize f a0=u at hr;cases hr with|ref hL'=>simp_all
        refine⟨.agg cs.toArray,hrep,fun a w1 hi' hs=>?_⟩;have hc:Cells w1 L.b 0 cs:=Cells.sim ho.all hs;have:=b36 (P:=E.P) (w:=w1) (mm:=m) (a36 hA) (fun w=>M8 hz w) (by rw[hrep.len];exact e1.symm) hc;simp only[a1j];rw[hi'.get,hp];rw[d4X];simp only[asAddr,d5O,d4V];exact this
      . cases e
    . cases e
  . cases e
def vcFun_ok(hE:c8 E)(hI:H6 E inl)(hf:E.P.funcs[K]?=some fn){k:E.SV->c7 E.N->Nat->Prop}(hv:j4 inl an fn args its lkd nx k)(hm:Mem E C ρ Z w (its++lkd) nx)(hg:E.G.is Z w)(ha:e7 E.N E.T ρ Z w (.tuple vs.toArray) (.F5 args)):G2 E.P K vs w (b8y E C ρ Z w lkd k):=by
 unfold j4 at hv;split at hv
 . rename_i c hc;cases hb:Nat.ble args.length fn.ntmps with
   |false=>simp_all
   |true =>
    rw[hb,d5r]at hv;have hle:Nat.ble vs.length fn.ntmps=true:=by rw[a4b ha];exact hb
    have h0:Rel E (C.at ρ Z w) [] lkd ⟨number 0 args,[],its,nx⟩ ρ Z (nth vs) w:=⟨fun k s e=>a62 (n:=0) ha k s (by simpa using e),fun p hp=>(by cases hp),fun k j b s e=>(by cases e),hm.down,Tn.refl _ _ _,hg⟩;have hw:=vc_ok (an:=⟨fn.ntmps,an.loop,an.join⟩) hE hI c _ _ _ _ _ ρ Z (nth vs) w h0 hv;refine c83 hf hc rfl hle (a2s hw fun e f' w' q=>?_);obtain⟨st,ρ',Z',hr,he⟩:=q;have fin:(match c30 fn st with|some v=>k v st.items st.nx|none=>False)->∃v,b7C E.P fn fn.ntmps f' w' v/\b8y E C ρ Z w lkd k v w':=fun hk=>by
     split at hk
     . rename_i s hs;have key:∃v,e7 E.N E.T ρ' Z' w' v s/\b7C E.P fn fn.ntmps f' w' v:=by
        unfold c30 at hs;split at hs
        . rename_i e0;cases hs;exact⟨_,.M0,fun a w1 hi hs=>b7F (by simp_all)⟩
        . rename_i r e0;obtain⟨v,h1,h2⟩:=resS_ok (n:=fn.ntmps) hr hs;exact⟨v,h1,fun a w1 hi hs=>a9D (by grind) (h2 a w1 hi hs)⟩
        . rename_i r1 r2 e0;split at hs
          . rename_i a b ha hb;cases hs;obtain⟨v1,h1,g1⟩:=resS_ok (n:=fn.ntmps) hr ha;obtain⟨v2,h2,g2⟩:=resS_ok (n:=fn.ntmps) hr hb;exact⟨.tuple #[v1,v2],.I8 (cs:=[v2]) h1 (.I8 (cs:=[]) h2 .M0),fun a w1 hi hs=>b71 (by grind) (g1 a w1 hi hs) (g2 a w1 hi hs)⟩
          . cases hs
        . rename_i r1 r2 r3 e0;split at hs
          . rename_i a b c ha hb hc;cases hs;obtain⟨v1,h1,g1⟩:=resS_ok (n:=fn.ntmps) hr ha;obtain⟨v2,h2,g2⟩:=resS_ok (n:=fn.ntmps) hr hb;obtain⟨v3,h3,g3⟩:=resS_ok (n:=fn.ntmps) hr hc;exact⟨.tuple #[v1,v2,v3],.I8 (cs:=[v2,v3]) h1 (.I8 (cs:=[v3]) h2 (.I8 (cs:=[]) h3 .M0)),fun a w1 hi hs=>b82 (by grind) (g1 a w1 hi hs) (g2 a w1 hi hs) (g3 a w1 hi hs)⟩
          . cases hs
        . rename_i r1 r2 r3 r4 e0;split at hs
          . rename_i a b c d ha hb hc hd;cases hs;obtain⟨v1,h1,g1⟩:=resS_ok (n:=fn.ntmps) hr ha;obtain⟨v2,h2,g2⟩:=resS_ok (n:=fn.ntmps) hr hb;obtain⟨v3,h3,g3⟩:=resS_ok (n:=fn.ntmps) hr hc;obtain⟨v4,h4,g4⟩:=resS_ok (n:=fn.ntmps) hr hd;exact⟨.tuple #[v1,v2,v3,v4],.I8 (cs:=[v2,v3,v4]) h1 (.I8 (cs:=[v3,v4]) h2 (.I8 (cs:=[v4]) h3 (.I8 (cs:=[]) h4 .M0))),fun a w1 hi hs=>b7h (by grind) (g1 a w1 hi hs) (g2 a w1 hi hs) (g3 a w1 hi hs) (g4 a w1 hi hs)⟩
          . cases hs
        . cases hs
       obtain⟨v,h1,h2⟩:=key;exact⟨v,h2,ρ',Z',s,st.items,st.nx,Mem.upC hm hr.mem,hr.tn,h1,hk⟩
     simp_all
    cases e with
    |normal=>exact fin he
    |ret=>exact fin he
    |exit i=>exact he.elim
    |_=>exact he.elim
 simp_all
def a4S(ρ:p4)(Z:Nat->Prop)(w:World):Ctx:=⟨ρ,Z,w,[],w⟩
def b35{nx:Nat}(hfr:∀i,nx<=i->ρ i=none)(hz:∀b,Z b->b<w.heap.size):Mem E (a4S ρ Z w) ρ Z w [] nx:=
 ⟨Wl.Sep.nil hz,hfr,fun _ _ h=>h,fun _ h=>h,fun _ h=>.inl h⟩
def b8y.pure{k:E.SV->c7 E.N->Nat->Prop}{v:Value}{w':World}(h:b8y E (a4S ρ Z w) ρ Z w [] k v w'):∃ρ' Z' s its' nx',Ext [] w w'/\Mem E (a4S ρ Z w) ρ' Z' w' its' nx'/\Tn ρ Z w ρ' Z' w'/\e7 E.N E.T ρ' Z' w' v s/\k s its' nx':=by obtain⟨ρ',Z',s,its',nx',hm,ht,hr,hk⟩:=h;rw[d5C]at hm;exact⟨ρ',Z',s,its',nx',hm.sep.ext,hm,ht,hr,hk⟩
end
section
variable{E:Env}{C:Ctx}{w:World}{ρ:p4}{Z:Nat->Prop}{its:c7 E.N}{nx:Nat}{inl:Inl E}{an:D3}{fn:Func}{K:Nat}{args:List E.SV}{vs:List Value}
def a2q(E:Env):(k:VK)->k.den E.N->List (Item E.N)
 |.acc t,x=>[.ac t x]
 |_,_=>[]
def a06(E:Env)(nx:Nat)(k:VK)(x:k.den E.N):E.SV:=(fl1 E nx k x).1
def a2G(k:VK)(x:k.den E.N):(fl1 E nx k x).2.1=number nx (a2q E k x)/\(fl1 E nx k x).2.2=nx+(a2q E k x).length:=by cases k <;> exact⟨rfl,rfl⟩
def b8T{N:B8}:SV N->Bool
 |.int _ _=>true
 |.byte _=>true
 |.bl _ _=>true
 |.str _=>true
 |_=>false
def b8q{v:Value}{s:E.SV}(hb:b8T s=true)(h:e7 E.N E.T ρ Z w v s):e7 E.N E.T (fun _=>none) (fun _=>False) w v s:=by
 cases s with
 |int k x=>cases h with|int h=>exact .int h
 |byte x=>cases h;exact .byte
 |bl p d=>cases h;exact .bl
 |str x=>cases h with|str h=>exact .str h
 |_=>cases hb
def a9J:∀{ls:List E.SV}{cs:List Value},ls.all b8T=true->e8 E.N E.T ρ Z w cs ls->e8 E.N E.T (fun _=>none) (fun _=>False) w cs ls
 |[],cs,_,h=>by have:=e8.A1 h;subst this;exact e8.nil
 |s::r,cs,hb,h=>by obtain⟨v,t,rfl,h1,hp,h2⟩:=e8.cons_inv h;rw[d6S,d4U]at hb;exact e7.R8 (b8q hb.1 h1) hp (a9J hb.2 h2)
def bare(E:Env):(k:VK)->k.den E.N->Prop
 |.int _,_=>True
 |.byte,_=>True
 |.bool,_=>True
 |.str,_=>True
 |.err,e=>e=.nil∨∃n,e=.no n
 |.val t,x=>∃y ls,E.ty t=some y/\y.sv x=.agg ls/\ls.all b8T=true
 |_,_=>False
def a16{k:VK}{x:k.den E.N}{v:Value}(hb:bare E k x)(h:e7 E.N E.T ρ Z w v (a06 E nx k x)):e7 E.N E.T (fun _=>none) (fun _=>False) w v (a06 E nx k x):=by
 cases k with
 |int k=>cases h with|int h=>exact .int h
 |byte=>cases h;exact .byte
 |bool=>change e7 E.N E.T ρ Z w v (I4 x)at h;cases h;exact .bl
 |str=>cases h with|str h=>exact .str h
 |err =>
  cases h with
  |err h =>
   rcases hb with rfl|⟨n,rfl⟩
   . cases h;exact .err .nil
   . cases h with|no h=>exact .err (.no h)
 |val t =>
  obtain⟨y,ls,e1,e2,e3⟩:=hb;have e:a06 E nx (.val t) x=.agg ls:=by unfold a06 fl1;simp only[e1,e2]
  rw[e]at h ⊢;obtain⟨cs,rfl,hl⟩:=h.E5;exact a9J e3 hl
 |_=>exact hb.elim
def c05{k:VK}{x:k.den E.N}{s:E.SV}{i:Nat}(h:a1R E [k] (fun y=>y=x) s its i):rb1 E its k s=some x:=by unfold a1R parts at h;simp only[G7]at h;grind
def c5n{k1 k2:VK}{x1:k1.den E.N}{x2:k2.den E.N}{s:E.SV}{i:Nat}(h:a1R E [k1,k2] (fun y z=>y=x1/\z=x2) s its i):∃s1 s2,s=.F5 [s1,s2]/\rb1 E its k1 s1=some x1/\rb1 E its k2 s2=some x2:=by
 have one:∀u:E.SV,(match G7 E its [k1,k2] [u] (fun y z=>y=x1/\z=x2)with|some p=>p|none=>False)->False:=fun u h=>by simp only[G7]at h;grind
 unfold a1R at h;cases s with
 |F5 vs =>
  match vs,h with
  |[],h=>exact h.elim
  |[u],h=>exact(one u h).elim
  |[s1,s2],h =>
   simp only[parts,G7]at h;grind
  |s1::s2::s3::r,h =>
   simp only[parts,G7]at h;grind
 |_=>exact(one _ h).elim
def d2g{k1 k2 k3:VK}{x1:k1.den E.N}{x2:k2.den E.N}{x3:k3.den E.N}{s:E.SV}{i:Nat}(h:a1R E [k1,k2,k3] (fun y z u=>y=x1/\z=x2/\u=x3) s its i):∃s1 s2 s3,s=.F5 [s1,s2,s3]/\rb1 E its k1 s1=some x1/\rb1 E its k2 s2=some x2/\rb1 E its k3 s3=some x3:=by
 have one:∀u:E.SV,(match G7 E its [k1,k2,k3] [u] (fun y z u=>y=x1/\z=x2/\u=x3)with|some p=>p|none=>False)->False:=fun u h=>by simp only[G7]at h;grind
 unfold a1R at h;cases s with
 |F5 vs =>
  match vs,h with
  |[],h=>exact h.elim
  |[u],h=>exact(one u h).elim
  |[s1,s2],h =>
   simp only[parts,G7]at h;grind
  |[s1,s2,s3],h =>
   simp only[parts,G7]at h;grind
  |s1::s2::s3::s4::r,h =>
   simp only[parts,G7]at h;grind
 |_=>exact(one _ h).elim
def kc{V C:Prop}(h:V)(e:@Eq Prop V C):C:=Eq.mp e h
def I1(hE:c8 E)(hI:H6 E inl)(hf:E.P.funcs[K]?=some fn){k:VK}{x:k.den E.N}{ob:List Prop}(hb:bare E k x)(hv:j4 inl an fn args [] [] 0 (a1R E [k] (fun y=>y=x)))(n:Nat):A4 E K args ⟨ob,[],a06 E n k x,[]⟩:=fun D w vs hD hg ha =>
 (vcFun_ok (C:=a4S (fun _=>none) D w) hE hI hf hv (b35 (nx:=0) (fun _ _=>rfl) hD) hg ha).mono fun v w' h=>by obtain⟨ρ',Z',s,its',nx',hx,hm,ht,hr,hk⟩:=h.pure;obtain⟨ρ3,os',_,_,_,hr3,_⟩:=rb1_ok (lkd:=[]) (n2:=n) (ρ2:=fun _=>none) (os:=[]) (new:=[]) (by simpa using hm) hr (c05 hk) (fun _ _=>rfl) .nil;exact⟨hx,a16 hb hr3,trivial⟩
def b23{v:Value}{s1 s2:E.SV}(h:e7 E.N E.T ρ Z w v (.F5 [s1,s2])):∃v1 v2,v=.tuple #[v1,v2]/\e7 E.N E.T ρ Z w v1 s1/\e7 E.N E.T ρ Z w v2 s2:=by
 obtain⟨cs,rfl⟩:=e7.a2I h;obtain⟨v1,r,rfl,h1,h⟩:=e7.w4 h;obtain⟨v2,r,rfl,h2,h⟩:=e7.w4 h;have:r=[]:=by generalize e:Value.tuple r.toArray=u at h;cases h with|M0=>simpa using e
 grind
def c1T{v:Value}{s1 s2 s3:E.SV}(h:e7 E.N E.T ρ Z w v (.F5 [s1,s2,s3])):∃v1 v2 v3,v=.tuple #[v1,v2,v3]/\e7 E.N E.T ρ Z w v1 s1/\e7 E.N E.T ρ Z w v2 s2/\e7 E.N E.T ρ Z w v3 s3:=by
 obtain⟨cs,rfl⟩:=e7.a2I h;obtain⟨v1,r,rfl,h1,h⟩:=e7.w4 h;obtain⟨v2,r,rfl,h2,h⟩:=e7.w4 h;obtain⟨v3,r,rfl,h3,h⟩:=e7.w4 h;have:r=[]:=by generalize e:Value.tuple r.toArray=u at h;cases h with|M0=>simpa using e
 grind
def c7z{v1 v2:Value}{s1 s2:E.SV}(h1:e7 E.N E.T ρ Z w v1 s1)(h2:e7 E.N E.T ρ Z w v2 s2):e7 E.N E.T ρ Z w (.tuple #[v1,v2]) (.F5 [s1,s2]):=.I8 (cs:=[v2]) h1 (.I8 (cs:=[]) h2 .M0)
def d3G{v1 v2 v3:Value}{s1 s2 s3:E.SV}(h1:e7 E.N E.T ρ Z w v1 s1)(h2:e7 E.N E.T ρ Z w v2 s2)(h3:e7 E.N E.T ρ Z w v3 s3):e7 E.N E.T ρ Z w (.tuple #[v1,v2,v3]) (.F5 [s1,s2,s3]):=.I8 (cs:=[v2,v3]) h1 (c7z h2 h3)
def c4C(hE:c8 E)(hI:H6 E inl)(hf:E.P.funcs[K]?=some fn){k1 k2:VK}{x1:k1.den E.N}{x2:k2.den E.N}{ob:List Prop}(hb1:bare E k1 x1)(hb2:bare E k2 x2)(hv:j4 inl an fn args [] [] 0 (a1R E [k1,k2] (fun y z=>y=x1/\z=x2)))(n:Nat):A4 E K args ⟨ob,[],.F5 [a06 E n k1 x1,a06 E n k2 x2],[]⟩:=fun D w vs hD hg ha =>
 (vcFun_ok (C:=a4S (fun _=>none) D w) hE hI hf hv (b35 (nx:=0) (fun _ _=>rfl) hD) hg ha).mono fun v w' h=>by obtain⟨ρ',Z',s,its',nx',hx,hm,ht,hr,hk⟩:=h.pure;obtain⟨s1,s2,rfl,e1,e2⟩:=c5n hk;obtain⟨v1,v2,rfl,h1,h2⟩:=b23 hr;obtain⟨_,_,_,_,_,r1,_⟩:=rb1_ok (lkd:=[]) (n2:=n) (ρ2:=fun _=>none) (os:=[]) (new:=[]) (by simpa using hm) h1 e1 (fun _ _=>rfl) .nil;obtain⟨_,_,_,_,_,r2,_⟩:=rb1_ok (lkd:=[]) (n2:=n) (ρ2:=fun _=>none) (os:=[]) (new:=[]) (by simpa using hm) h2 e2 (fun _ _=>rfl) .nil;exact⟨hx,c7z (a16 hb1 r1) (a16 hb2 r2),trivial⟩
def c2L{k:VK}{x:k.den E.N}(h:a2q E k x=[])(n:Nat):fl1 E n k x=(a06 E nx k x,[],n):=by
 cases k with
 |acc t=>cases h
 |_=>rfl
def b3T{k:VK}{s:E.SV}{l:List Nat}(h:l=X5 k s++List.filterMap id ([]:List (Option Nat))):l.Nodup:=by rw[h];unfold X5;grind
def b0J{os:List (Option Nat)}{new:c7 E.N}{n2:Nat}{ρ' ρ2:p4}{Z':Nat->Prop}{w':World}{its':c7 E.N}{nx':Nat}(hm:Mem E (a4S (fun _=>none) Z w) ρ' Z' w' its' nx')(ht:V4 E [] ρ' Z' w' its' ρ2 os new)(hnd:(os.filterMap id).Nodup)(hfr:∀i,n2<=i->ρ2 i=none) :
  Sep [] w Z' w' (u7 E.N E.T ρ2 [] new):=by
 have:=Mem.b02 (lkd:=[]) (by simpa using hm) (fun _ h=>by cases h) ht hnd hfr (fun _ _ h=>by cases h);simpa[a4S]using this.sep
def d1d(hE:c8 E)(hI:H6 E inl)(hf:E.P.funcs[K]?=some fn){k:VK}{x:k.den E.N}{ob:List Prop}(hp:args.all F7=true)(hv:j4 inl an fn args [] [] 0 (a1R E [k] (fun y=>y=x))):P8 E.P E.N E.T E.G K args nx ⟨ob,[],a06 E nx k x,a2q E k x⟩:=
 ⟨fun ρ Z w vs hfr hz hg ha=>(vcFun_ok (C:=a4S (fun _=>none) Z w) hE hI hf hv (b35 (fun _ _=>rfl) hz) hg (L0 hp ha _)).mono fun v w' h=>by
  obtain⟨ρ',Z',s,its',nx',hx,hm,ht,hr,hk⟩:=h.pure;obtain⟨ρ3,os,t1,f1,s1,r1,o1⟩:=rb1_ok (lkd:=[]) (n2:=nx) (ρ2:=ρ) (os:=[]) (new:=[]) (by simpa using hm) hr (c05 hk) hfr .nil;rw[(a2G k x).1,d5C]at t1;rw[(a2G k x).2]at f1;refine⟨ρ3,Z',s1,f1,hm.zge,fun b hb=>?_,r1,b0J hm t1 (b3T o1) f1,trivial⟩;rcases hm.zle b hb with h|h|h
  . exact .inl h
  . cases h
  . exact .inr h⟩
def c3C{os:List (Option Nat)}{new:c7 E.N}{n2:Nat}{ρ' ρ2:p4}{Z':Nat->Prop}{w':World}{its':c7 E.N}{nx':Nat}{C:Ctx}{k:VK}{x:k.den E.N}{v:Value}{s:E.SV}(hm:Mem E C ρ' Z' w' its' nx')(hu:e7 E.N E.T ρ' Z' w' v s)(h:rb1 E its' k s=some x)(hn:a2q E k x=[])(hfr:∀i,n2<=i->ρ2 i=none)(ht:V4 E C.B0 ρ' Z' w' its' ρ2 os new)(hnd:(os.filterMap id).Nodup) :
  ∃ρ3 os',V4 E C.B0 ρ' Z' w' its' ρ3 os' new/\(∀i,n2<=i->ρ3 i=none)/\(∀i L,ρ2 i=some L->ρ3 i=some L)/\e7 E.N E.T ρ3 Z' w' v (a06 E nx k x)/\(os'.filterMap id).Nodup:=by
 obtain⟨ρ3,os',t,f,s1,r,o⟩:=rb1_ok (lkd:=[]) (by simpa using hm) hu h hfr ht;rw[c2L (nx:=nx) hn n2]at t f r;refine⟨ρ3,os',by simpa using t,f,s1,r,?_⟩;rw[o];cases k with
 |acc t=>cases hn
 |_=>exact hnd
def c7u(hE:c8 E)(hI:H6 E inl)(hf:E.P.funcs[K]?=some fn){k1 k2:VK}{x1:k1.den E.N}{x2:k2.den E.N}{ob:List Prop}(h2:a2q E k2 x2=[])(hp:args.all F7=true)(hv:j4 inl an fn args [] [] 0 (a1R E [k1,k2] (fun y z=>y=x1/\z=x2))) :
  P8 E.P E.N E.T E.G K args nx ⟨ob,[],.F5 [a06 E nx k1 x1,a06 E nx k2 x2],a2q E k1 x1⟩:=
 ⟨fun ρ Z w vs hfr hz hg ha=>(vcFun_ok (C:=a4S (fun _=>none) Z w) hE hI hf hv (b35 (fun _ _=>rfl) hz) hg (L0 hp ha _)).mono fun v w' h=>by
  obtain⟨ρ',Z',s,its',nx',hx,hm,ht,hr,hk⟩:=h.pure;obtain⟨s1,s2,rfl,e1,e2⟩:=c5n hk;obtain⟨v1,v2,rfl,g1,g2⟩:=b23 hr;obtain⟨ρ3,os,t1,f1,b1,r1,o1⟩:=rb1_ok (lkd:=[]) (n2:=nx) (ρ2:=ρ) (os:=[]) (new:=[]) (by simpa using hm) g1 e1 hfr .nil;rw[(a2G k1 x1).1,d5C]at t1;rw[(a2G k1 x1).2]at f1;obtain⟨ρ4,os2,t2,f2,b2,r2,nd2⟩:=c3C (nx:=nx) hm g2 e2 h2 f1 t1 (b3T o1);refine⟨ρ4,Z',G5 b1 b2,f2,hm.zge,fun b hb=>?_,c7z (e7.sub r1 b2) r2,b0J hm t2 nd2 f2,trivial⟩;rcases hm.zle b hb with h|h|h
  . exact .inl h
  . cases h
  . exact .inr h⟩
end
section
variable{N:B8}{T:N6}{ρ:p4}{Z:Nat->Prop}{w:World}{cs cs':List Value}{ls ls':List (SV N)}
def e8.split(n:Nat)(h:e8 N T ρ Z w cs ls):e8 N T ρ Z w (cs.take n) (ls.take n)/\e8 N T ρ Z w (cs.drop n) (ls.drop n):=by
 induction n generalizing cs ls with
 |zero=>exact⟨by simpa using e8.nil,by simpa using h⟩
 |succ n ih =>
  cases ls with
  |nil=>obtain rfl:=e8.A1 h;simp_all
  |cons s r =>
   obtain⟨v,rr,rfl,h1,hp,h2⟩:=e8.cons_inv h;obtain⟨a,b⟩:=ih h2;exact⟨e8.cons h1 hp a,b⟩
def pb{α:Type}(f:SV N->Option α):List (SV N)->Option α
 |[s]=>f s
 |_=>none
def a1O(N:B8)(t:Nat):SV N->Option (List (N.U t))
 |.M9=>some []
 |.sl t' l=>if h:t'=t then some (U9 h l)else none
 |_=>none
def c4r{t:Nat}{v:Value}{s:SV N}{l:List (N.U t)}(h:e7 N T ρ Z w v s)(e:a1O N t s=some l):(p7 (N.tb t).r).rd Z w [v] l:=by
 cases h with
 |M9=>simp[a1O]at e;subst e;exact a1w
 |sl h =>
  simp only[a1O]at e;split at e
  . rename_i ht;subst ht;simp[U9]at e;simp_all
  . cases e
 |_=>simp[a1O]at e
def b03{α:Type}{f:SV N->Option α}{x:α}{r:Rd α}(hr:∀(v:Value)(s:SV N),e7 N T ρ Z w v s->f s=some x->r.rd Z w [v] x)(h:e8 N T ρ Z w cs ls)(e:pb f ls=some x):r.rd Z w cs x:=by
 unfold pb at e;split at e
 . obtain⟨v,rfl,h1,_⟩:=e8.a68 h;grind
 . cases e
def c6S{x:Int}(h:e8 N T ρ Z w cs ls)(e:pb a6Q ls=some x):E8.rd Z w cs x:=b03 (fun v s h e=>by have⟨a,b⟩:=b1C h e;rw[a];exact⟨rfl,b⟩) h e
def c3Q{x:Bool}(h:e8 N T ρ Z w cs ls)(e:pb asB ls=some x):a2B.rd Z w cs x:=b03 (r:=a2B) (fun v s h e=>by obtain rfl:=c0H h e;rfl) h e
def c7h{x:z6}(h:e8 N T ρ Z w cs ls)(e:pb asS ls=some x):a0b.rd Z w cs x:=b03 (r:=a0b) (fun v s h e=>by have⟨a,b⟩:=b8J h e;rw[a];exact⟨rfl,b⟩) h e
def a13{t:Nat}{x:List (N.U t)}(h:e8 N T ρ Z w cs ls)(e:pb (a1O N t) ls=some x):(p7 (N.tb t).r).rd Z w cs x:=b03 (r:=p7 (N.tb t).r) (fun v s h e=>c4r h e) h e
def a0Y{t:Nat}{x:List (N.U t)}(h:(p7 (N.tb t).r).rd Z w cs x):e8 N T ρ Z w cs [.sl t x]:=by
 have hl:=Rd.len _ h;have hp:=Rd.plain _ h
 match cs,hl with
 |[v],_ =>
  simp only[d6S,List.all_nil,Bool.and_true]at hp;exact e8.one (.sl h) hp
end
def a7G{α:Type}(K:Nat)(x:α)(f:Nat->Option α):Nat->Option α:=fun k=>bif Nat.beq k K then some x else f k
def Env.B3(E:Env)(K:Nat)(C:List E.SV->Option (Q1 E.N)):Env:={ E with M5:=a7G K (fun a _=>(C a).map fun q=>⟨q.ob,q.hy,q.v,[]⟩) E.M5,U0:=fun k=>bif Nat.beq k K then true else E.U0 k }
def Env.a0K(E:Env)(K:Nat)(C:List E.SV->Nat->Option (CR E.N)):Env:={ E with M5:=a7G K C E.M5,U0:=fun k=>bif Nat.beq k K then false else E.U0 k }
def Env.z7(E:Env)(K:Nat)(fn:Func):Env:={ E with inl:=a7G K fn E.inl }
def Env.c3H(E:Env)(K:Nat)(o:WC E.N):Env:={ E with wrc:=a7G K o E.wrc }
def Env.a1N(E:Env)(K:Nat)(o:FC E.N):Env:={ E with fnc:=a7G K o E.fnc }
def Env.c43(E:Env)(K:Nat)(C:List E.SV->c7 E.N->Option (Q1 E.N)):Env:={ E with roc:=a7G K C E.roc }
def Env.c3f(E:Env)(t:Nat)(o:MO E.P E.N E.T t):Env:={ E with mp:=fun u=>if h:u=t then some (h ▸ o)else E.mp u }
section
variable{E:Env}{K:Nat}
def c8.c3f(h:c8 E){t:Nat}(o:MO E.P E.N E.T t):c8 (E.c3f t o):=⟨h.mixed,h.zob,h.call,h.inl,h.M5,h.U0,h.obc,h.wrc,h.a5n,h.fnc,h.a5m,h.roc,h.yl⟩
abbrev a0y(P:Program)(K:Nat):Prop:=∀xs w,(callFunc K xs).run P w=.ok (.enter K xs) w
def Q8{α:Type}{x y:α}{f:Nat->Option α}{k:Nat}(h:a7G K x f k=some y):(k=K/\y=x)∨f k=some y:=by
 unfold a7G at h;cases hb:Nat.beq k K with
 |true=>simp_all
 |false=>simp_all
def Y8{α:Type}{x:α}{f:Nat->Option α}{k:Nat}(h:(a7G K x f k).isSome=true):k=K∨(f k).isSome=true:=by
 obtain⟨y,hy⟩:=Option.isSome_iff_exists.1 h;rcases Q8 hy with⟨e,_⟩|e
 all_goals simp_all
def A4.M5{args:List E.SV}{c:CR E.N}{nx:Nat}(h:A4 E K args c)(hi:c.its=[])(hp:args.all F7=true):P8 E.P E.N E.T E.G K args nx c:=
 ⟨fun ρ Z w vs hfr hz hg ha=>(h Z w vs hz hg (L0 hp ha _)).mono fun v w' ⟨x,r,hy⟩=>⟨ρ,Z,fun _ _ h=>h,by simp_all,fun _ h=>h,fun _ h=>.inl h,e7.bare r,by rw[hi];exact⟨x,fun b hb=>by have:=hz b hb;have:=x.size;omega,fun k t h=>by simp[u7,number]at h,fun j k s t h=>by simp[u7,number]at h⟩,hy⟩⟩
def c8.B3(h:c8 E){C:List E.SV->Option (Q1 E.N)}(hc:a0y E.P K)(ok:∀args q,C args=some q->q9 q.ob->A4 E K args ⟨q.ob,q.hy,q.v,[]⟩):c8 (E.B3 K C):=by
 refine⟨h.mixed,h.zob,fun k hk=>?_,h.inl,fun k f args nx c hf hr hp ho=>?_,fun k f args nx c hf hl hr hi ho=>?_,h.obc,h.wrc,h.a5n,h.fnc,h.a5m,h.roc,h.yl⟩
 . by_cases e:k=K
   . subst e;exact hc
   . refine h.call k ?_;simp only[d5V]at hk ⊢;rcases hk with((hk|hk)|hk)|hk
     . rcases Y8 hk with e'|e'
       . omega
       . exact .inl (.inl (.inl e'))
     . exact .inl (.inl (.inr hk))
     . exact .inl (.inr hk)
     . exact .inr hk
 . rcases Q8 hf with⟨e1,e2⟩|hf
   . rw[e2]at hr;obtain⟨q,hq,e3⟩:=d5g.1 hr;subst e3;rw[e1];exact(ok args q hq ho).M5 rfl hp
   . exact h.M5 k f args nx c hf hr hp ho
 . rcases Q8 hf with⟨e1,e2⟩|hf'
   . rw[e2]at hr;obtain⟨q,hq,e3⟩:=d5g.1 hr;subst e3;rw[e1];exact ok args q hq ho
   . by_cases e:k=K
     . have hf:a7G K (fun a _=>(C a).map fun q=>(⟨q.ob,q.hy,q.v,[]⟩:CR E.N)) E.M5 k=some f:=hf;unfold a7G at hf;rw[e,d7h,d5r]at hf;have e2:=d6g hf;rw[<- e2]at hr;obtain⟨q,hq,e3⟩:=d5g.1 hr;subst e3;rw[e];exact ok args q hq ho
     . refine h.U0 k f args nx c hf' ?_ hr hi ho;have hl:(bif Nat.beq k K then true else E.U0 k)=true:=hl;simp_all
def c8.a0K(h:c8 E){C:List E.SV->Nat->Option (CR E.N)}(hc:a0y E.P K)(ok:∀args nx c,C args nx=some c->args.all F7=true->q9 c.ob->P8 E.P E.N E.T E.G K args nx c):c8 (E.a0K K C):=by
 refine⟨h.mixed,h.zob,fun k hk=>?_,h.inl,fun k f args nx c hf hr hp ho=>?_,fun k f args nx c hf hl hr hi ho=>?_,h.obc,h.wrc,h.a5n,h.fnc,h.a5m,h.roc,h.yl⟩
 . by_cases e:k=K
   . subst e;exact hc
   . refine h.call k ?_;simp only[d5V]at hk ⊢;rcases hk with((hk|hk)|hk)|hk
     . rcases Y8 hk with e'|e'
       . omega
       . exact .inl (.inl (.inl e'))
     . exact .inl (.inl (.inr hk))
     . exact .inl (.inr hk)
     . exact .inr hk
 . rcases Q8 hf with⟨e1,e2⟩|hf
   . rw[e2]at hr;rw[e1];exact ok args nx c hr hp ho
   . exact h.M5 k f args nx c hf hr hp ho
 . have hl:(bif Nat.beq k K then false else E.U0 k)=true:=hl;have e:k≠K:=fun e=>by simp_all
   rw[a02 e,d5y]at hl;rcases Q8 hf with⟨e',_⟩|hf'
   . omega
   . exact h.U0 k f args nx c hf' hl hr hi ho
def c8.z7(h:c8 E){fn:Func}(hc:a0y E.P K)(hf:E.P.funcs[K]?=some fn):c8 (E.z7 K fn):=by
 refine⟨h.mixed,h.zob,fun k hk=>?_,fun k g hg=>?_,h.M5,h.U0,h.obc,h.wrc,h.a5n,h.fnc,h.a5m,h.roc,h.yl⟩
 . by_cases e:k=K
   . subst e;exact hc
   . refine h.call k ?_;simp only[d5V]at hk ⊢;rcases hk with((hk|hk)|hk)|hk
     . exact .inl (.inl (.inl hk))
     . exact .inl (.inl (.inr hk))
     . rcases Y8 hk with e'|e'
       all_goals simp_all
     . exact .inr hk
 . rcases Q8 hg with⟨rfl,rfl⟩|hg
   . exact hf
   . exact h.inl k g hg
def c8.c3H(h:c8 E){o:WC E.N}(hc:a0y E.P K)(ok:∀a x r,o.C a x=some r->q9 r.ob->c28 E K o a x r):c8 (E.c3H K o):=by
 refine⟨h.mixed,h.zob,fun k hk=>?_,h.inl,h.M5,h.U0,h.obc,fun k o' a x r ho hr hob=>?_,h.a5n,h.fnc,h.a5m,h.roc,h.yl⟩
 . by_cases e:k=K
   . subst e;exact hc
   . refine h.call k ?_;simp only[d5V]at hk ⊢;rcases hk with((hk|hk)|hk)|hk
     . exact .inl (.inl (.inl hk))
     . exact .inl (.inl (.inr hk))
     . exact .inl (.inr hk)
     . rcases Y8 hk with e'|e'
       . omega
       . exact .inr e'
 . rcases Q8 ho with⟨e1,e2⟩|ho
   . cases e2;rw[e1];exact ok a x r hr hob
   . exact h.wrc k o' a x r ho hr hob
def c8.a1N(h:c8 E){o:FC E.N}(hc:a0y E.P K)(ok:∀args its r,o.C args its=some r->q9 r.ob->M6 E.P E.N E.T E.G K args its (2*its.length) (fun k=>q9 r.hy->k r.v r.its r.n)):c8 (E.a1N K o):=by
 refine⟨h.mixed,h.zob,h.call,h.inl,h.M5,h.U0,h.obc,h.wrc,fun k hk=>?_,fun k o' args its r ho hr hob=>?_,h.a5m,h.roc,h.yl⟩
 . rcases Y8 hk with e|e
   . subst e;exact hc
   . exact h.a5n k e
 . rcases Q8 ho with⟨e1,e2⟩|ho
   . cases e2;rw[e1];exact ok args its r hr hob
   . exact h.fnc k o' args its r ho hr hob
def c8.c43(h:c8 E){C:List E.SV->c7 E.N->Option (Q1 E.N)}(hc:a0y E.P K)(ok:∀args its q,C args its=some q->q9 q.ob->b9h E.P E.N E.T E.G K args its q):c8 (E.c43 K C):=by
 refine⟨h.mixed,h.zob,h.call,h.inl,h.M5,h.U0,h.obc,h.wrc,h.a5n,h.fnc,fun k hk=>?_,fun k C' args its q ho hr hob=>?_,h.yl⟩
 . rcases Y8 hk with e|e
   . subst e;exact hc
   . exact h.a5m k e
 . rcases Q8 ho with⟨e1,e2⟩|ho
   . cases e2;rw[e1];exact ok args its q hr hob
   . exact h.roc k C' args its q ho hr hob
end
def o6.num:o6->Option Int
 |.nil=>none
 |.no n=>some n
 |.fault _ n=>some n
 |.w _ _ e=>e.num
 |.p _ _ n=>some n
def o6.is(e:o6)(n:Int):Prop:=e.num=some n
instance (e:o6) (n:Int):Decidable (e.is n):=by unfold o6.is;infer_instance
def o6.nr(e:o6):Int:=match e with
 |.nil=>0
 |e=>match e.num with|some n=>if 1<=n/\n<=16 then n else -1|none=>-1
def c5i{E:Env}{inl:Inl E}{an:D3}{fn:Func}{K:Nat}{args:List E.SV}(hE:c8 E)(hI:H6 E inl)(hf:E.P.funcs[K]?=some fn){k1 k2 k3:VK}{x1:k1.den E.N}{x2:k2.den E.N}{x3:k3.den E.N}{ob:List Prop}(hb1:bare E k1 x1)(hb2:bare E k2 x2)(hb3:bare E k3 x3)(hv:j4 inl an fn args [] [] 0 (a1R E [k1,k2,k3] (fun y z u=>y=x1/\z=x2/\u=x3)))(n:Nat):A4 E K args ⟨ob,[],.F5 [a06 E n k1 x1,a06 E n k2 x2,a06 E n k3 x3],[]⟩:=fun D w vs hD hg ha =>
 (vcFun_ok (C:=a4S (fun _=>none) D w) hE hI hf hv (b35 (nx:=0) (fun _ _=>rfl) hD) hg ha).mono fun v w' h=>by obtain⟨ρ',Z',s,its',nx',hx,hm,ht,hr,hk⟩:=h.pure;obtain⟨s1,s2,s3,rfl,e1,e2,e3⟩:=d2g hk;obtain⟨v1,v2,v3,rfl,h1,h2,h3⟩:=c1T hr;obtain⟨_,_,_,_,_,r1,_⟩:=rb1_ok (lkd:=[]) (n2:=n) (ρ2:=fun _=>none) (os:=[]) (new:=[]) (by simpa using hm) h1 e1 (fun _ _=>rfl) .nil;obtain⟨_,_,_,_,_,r2,_⟩:=rb1_ok (lkd:=[]) (n2:=n) (ρ2:=fun _=>none) (os:=[]) (new:=[]) (by simpa using hm) h2 e2 (fun _ _=>rfl) .nil;obtain⟨_,_,_,_,_,r3,_⟩:=rb1_ok (lkd:=[]) (n2:=n) (ρ2:=fun _=>none) (os:=[]) (new:=[]) (by simpa using hm) h3 e3 (fun _ _=>rfl) .nil;exact⟨hx,d3G (a16 hb1 r1) (a16 hb2 r2) (a16 hb3 r3),trivial⟩
def a8L{w w':World}{e:TypeId}{v:Value}{n:Nat}{xs:List Value}{B:List Nat}(h:w.ownsRowF 0 e 1 v n xs)(x:Ext B w w')(hB:∀k,v.ownBlock=some k->k ∉ B):w'.ownsRowF 0 e 1 v n xs:=by
 refine⟨h.1,?_⟩;rcases h.2 with h0|⟨g,cap,cur,fz,rfl,h1,h2,h3⟩
 . exact .inl h0
 . exact .inr ⟨g,cap,cur,fz,rfl,h1,x.get (hB g rfl) h2,h3⟩
def c2v(b:Nat)(v:Value):List Nat:=b::v.ownBlock.toList
def c66(T e b:Nat)(w:World)(x:z6)(F:List Nat):Prop:=
 ∃p v,(p=.pointer none∨p=.pointer (some ⟨b,0,none⟩))/\w.heap[b]?=some (.cells #[p,v] T (0,0))/\w.ownsRowF 0 e 1 v x.length (Lib.byteCells x)/\v.ownBlock≠some b/\F=c2v b v
def bld(T e b:Nat):Ob z6 where
 is:=fun _ w x F=>c66 T e b w x F
 I3:=fun{x F} Z Z' B w w' h ext hB _=>by
  obtain⟨p,v,hp,hb,ho,hne,rfl⟩:=h;have hbl:b<w.heap.size:=by
   rcases d5B b w.heap.size with h|h
   . exact h
   . simp_all
  have nb:b ∉ B:=fun hm=>by have:=hB b hm (.inl (by simp[c2v]));omega
  refine⟨p,v,hp,ext.get nb hb,a8L ho ext fun k hk hm=>?_,hne,rfl⟩;have:=hB k hm (.inl (by simp[c2v,hk]));have:=(ho.lt k hk).2;omega
 lt:=fun{Z w x F} h b' hb'=>by
  obtain⟨p,v,hp,hb,ho,hne,rfl⟩:=h;rcases d5k.1 hb' with rfl|hm
  . grind
  . have:v.ownBlock=some b':=by simpa using hm
    exact(ho.lt b' this).2
def c0g{T e b:Nat}{w:World}(h:Q5 w b T [.pointer none,.slice none 0 0]):c66 T e b w [] [b]:=
 ⟨.pointer none,.slice none 0 0,.inl rfl,h,World.ownsRowF_nil w 0 e 1,by simp[Value.ownBlock],by simp[c2v,Value.ownBlock]⟩
section
open Go.Lib
variable{P:Program}(w:World)
end
def b3y(N:B8):List VK->Type
 |[]=>Unit
 |k::r=>k.den N×b3y N r
def eqs(N:B8):(ks:List VK)->b3y N ks->List Prop->I9 N Prop ks
 |[],_,ps=>cjl ps
 |_::r,X,ps=>fun x=>eqs N r X.2 (ps++[x=X.1])
section
variable{E:Env}{C:Ctx}{w w':World}{ρ ρ':p4}{Z Z':Nat->Prop}{its lkd:c7 E.N}{nx:Nat}{inl:Inl E}
def c1z{v:Value}{s:E.SV}(h:e7 E.N E.T (fun _=>none) Z w v s):e7 E.N E.T ρ Z w v s:=e7.sub h (fun _ _ h=>by cases h)
def a9t{cs:List Value}{ss:List E.SV}(hp:ss.all F7=true)(h:e8 E.N E.T ρ Z w cs ss)(ρ':p4):e8 E.N E.T ρ' Z w cs ss:=by
 induction ss generalizing cs with
 |nil=>obtain rfl:=e8.A1 h;exact e8.nil
 |cons s ss ih =>
  obtain⟨v,r,rfl,h1,hv,h2⟩:=e8.cons_inv h;simp only[d6S,d4U]at hp;exact e8.cons (a9k hp.1 h1 ρ') hv (ih hp.2 h2)
def a7A{j id S:Nat}{cells:List E.SV}:∀{vs vs':List E.SV}{its its':c7 E.N},a4O its vs=some (vs',its')->its[j]?=some (id,.own S cells)->its'[j]?=some (id,.own S cells)
 |[],vs',its,its',h,hj=>by simp[a4O]at h;simp_all
 |v::r,vs',its,its',h,hj=>by
  have other:(match a4O its r with|some (r',its')=>some (v::r',its')|none=>none)=some (vs',its')->its'[j]?=some (id,.own S cells):=fun h=>by
   split at h
   . rename_i r' its1 hr;simp only[d4T,d5A]at h;obtain⟨rfl,rfl⟩:=h;exact a7A hr hj
   . cases h
  cases v with
  |acc id2 =>
   simp only[a4O]at h;split at h
   . rename_i t l hi;split at h
     . rename_i r' its1 hr;simp only[d4T,d5A]at h;obtain⟨rfl,rfl⟩:=h;obtain⟨i,hi1,hu,_⟩:=x8 hi;refine a7A hr ?_;grind
     . cases h
   . split at h
     . rename_i r' its1 hr;simp only[d4T,d5A]at h;obtain⟨rfl,rfl⟩:=h;exact a7A hr hj
     . cases h
   . cases h
  |ref=>cases h
  |el=>cases h
  |sub=>cases h
  |clo=>cases h
  |yld=>cases h
  |mp=>cases h
  |agg=>cases h
  |F5=>cases h
  |_=>exact other h
def c01(n:Nat)(s:E.SV):Option (List E.SV):=match n with
 |1=>some [s]
 |_=>(match s with|.F5 vs=>some vs|_=>none)
def a9g{N:B8}(n:Nat)(vs:List (SV N)):SV N:=match n with
 |1=>vs.headD .un
 |_=>.F5 vs
def d4R(E:Env)(S m n:Nat)(ks:List VK)(Q:I9 E.N Prop ks):E.SV->c7 E.N->Nat->Prop:=fun s its _=>match lk its 0,c01 n s with
 |some (.own S' cells),some ars=>bif Nat.beq S' S && Nat.beq cells.length m then(match frz its (cells++ars)with
  |some (vs,its')=>(match G7 E its' ks vs Q with|some p=>p|none=>False)
  |none=>False)else False
 |_,_=>False
def tell(E:Env):(ks:List VK)->b3y E.N ks->List E.SV
 |[],_=>[]
 |k::r,X=>a06 E 0 k X.1::tell E r X.2
def b2m:∀(ks:List VK)(X:b3y E.N ks),(tell E ks X).length=ks.length
 |[],_=>rfl
 |_::r,X=>by simp[tell,b2m r X.2]
def b9d:VK->Bool
 |.acc _=>false
 |_=>true
def b0c:∀{ps qs:List Prop},cjl (ps++qs)->cjl ps/\cjl qs
 |[],_,h=>⟨trivial,h⟩
 |[p],[],h=>⟨h,trivial⟩
 |[p],q::r,h=>⟨h.1,h.2⟩
 |p::q::r,qs,h=>by have:=b0c (ps:=q::r) h.2;exact⟨⟨h.1,this.1⟩,this.2⟩
def eqs_ok(its:c7 E.N):∀(ks:List VK)(vs:List E.SV)(X:b3y E.N ks)(ps:List Prop)(p:Prop),G7 E its ks vs (eqs E.N ks X ps)=some p->p->cjl ps/\vs.length=ks.length /\
  ∀{ρ:p4}{Z:Nat->Prop}{w:World}{C:Ctx}{nx:Nat}{us:List Value},Mem E C ρ Z w its nx->ks.all b9d=true->(us.length=vs.length/\∀(i:Nat)(u:Value)(s:E.SV),us[i]?=some u->vs[i]?=some s->e7 E.N E.T ρ Z w u s)->∀(i:Nat)(u:Value)(s:E.SV),us[i]?=some u->(tell E ks X)[i]?=some s->e7 E.N E.T (fun _=>none) Z w u s
 |[],[],X,ps,p,h,hp=>by have h:=d6g (show some (cjl ps)=some p from h);simp_all
 |[],_::_,X,ps,p,h,hp=>by cases h
 |_::_,[],X,ps,p,h,hp=>by cases h
 |k::ks,v::vs,X,ps,p,h,hp=>by
  simp only[G7]at h;split at h
  . rename_i x hx;obtain⟨h1,h2,h3⟩:=eqs_ok its ks vs X.2 (ps++[x=X.1]) p h hp;obtain⟨h4,h5⟩:=b0c h1;have h5:x=X.1:=h5;subst h5;refine⟨h4,by simp[h2],fun{ρ Z w C nx us} hm hk hlr i u s hu hs=>?_⟩;obtain⟨hl,hr⟩:=hlr;simp only[d6S,d4U]at hk;cases us with
    |nil=>simp at hu
    |cons u0 us =>
     cases i with
     |zero =>
      simp only[d7e,d4T,tell]at hu hs;subst hu;subst hs;have r0:=hr 0 u0 v rfl rfl;obtain⟨ρ3,os',_,f,_,r1,_⟩:=rb1_ok (lkd:=[]) (n2:=0) (ρ2:=fun _=>none) (os:=[]) (new:=[]) (by simpa using hm) r0 hx (fun _ _=>rfl) .nil;have e2:(fl1 E 0 k X.1).2.2=0:=by cases k <;> first|rfl|(cases hk.1)
      have e3:ρ3=fun _=>none:=by funext i;exact f i (by omega)
      rw[e3]at r1;exact r1
     |succ i =>
      exact h3 (us:=us) hm hk.2 ⟨by simpa using hl,fun i u s hu hs=>hr (i+1) u s hu hs⟩ i u s hu hs
  . cases h
def b9a{n:Nat}{s:E.SV}{ars:List E.SV}{v:Value}(h:c01 n s=some ars)(r:e7 E.N E.T ρ Z w v s):∃us:List Value,us.length=ars.length/\(∀(i:Nat)(u:Value)(s:E.SV),us[i]?=some u->ars[i]?=some s->e7 E.N E.T ρ Z w u s) /\
  ∀{ρ':p4}{Z':Nat->Prop}{w':World}{ss:List E.SV},ss.length=ars.length->(∀(i:Nat)(u:Value)(s:E.SV),us[i]?=some u->ss[i]?=some s->e7 E.N E.T ρ' Z' w' u s)->e7 E.N E.T ρ' Z' w' v (a9g n ss):=by
 by_cases e:n=1
 . subst e;simp only[c01,d4T]at h;subst h;refine⟨[v],rfl,fun i u s' hu hs=>?_,fun{ρ' Z' w' ss} hl hr=>?_⟩
   . grind
   . match ss,hl with
     |[s'],_=>exact hr 0 v s' rfl rfl
 . have h':∃vs,s=.F5 vs/\ars=vs:=by
     unfold c01 at h;split at h
     . omega
     . grind
   obtain⟨vs,rfl,rfl⟩:=h';obtain⟨cs,rfl⟩:=e7.a2I r;obtain⟨g1,g2⟩:=b0O.get r;refine⟨cs,g1,g2,fun{ρ' Z' w' ss} hl hr=>?_⟩;have:a9g n ss=.F5 ss:=by
    unfold a9g;split
    . omega
    . rfl
   rw[this];exact b0O.b19 (by rw[g1,hl]) hr
def c4o(E:Env)(n:Nat)(ks:List VK)(Q:I9 E.N Prop ks):E.SV->c7 E.N->Nat->Prop:=fun s its _=>match c01 n s with
 |some ars=>(match frz its ars with
  |some (vs,its')=>(match G7 E its' ks vs Q with|some p=>p|none=>False)
  |none=>False)
 |none=>False
def d3m(hE:c8 E)(hI:H6 E inl){K n:Nat}{fn:Func}{an:D3}(hf:E.P.funcs[K]?=some fn){ks:List VK}{X:b3y E.N ks}{args:List E.SV}{ob:List Prop}(hk:ks.all b9d=true)(hp:args.all F7=true)
  (hv:j4 inl an fn args [] [] 0 (c4o E n ks (eqs E.N ks X []))):P8 E.P E.N E.T E.G K args nx ⟨ob,[],a9g n (tell E ks X),[]⟩:=
 ⟨fun ρ Z w vs hfr hz hg ha=>(vcFun_ok (C:=a4S (fun _=>none) Z w) hE hI hf hv (b35 (fun _ _=>rfl) hz) hg (L0 hp ha _)).mono fun v w' h=>by
  obtain⟨ρ',Z',s,its',nx',hx,hm,ht,hr,hk'⟩:=h.pure;unfold c4o at hk';split at hk'
  . rename_i ars has;split at hk'
    . rename_i vs' its2 hfz;split at hk'
      . rename_i p hrb;obtain⟨us,u1,u2,u3⟩:=b9a has hr;obtain⟨Z2,m2,t2,he⟩:=frz_ok (lkd:=[]) (by simpa using hm) hfz;rw[d5C]at m2;obtain⟨_,hlen,hget⟩:=eqs_ok its2 ks vs' X [] p hrb hk';have hvl:vs'.length=ars.length:=he.1;have all:us.length=vs'.length/\∀(i:Nat)(u:Value)(s:E.SV),us[i]?=some u->vs'[i]?=some s->e7 E.N E.T ρ' Z2 w' u s:=by
         refine⟨by rw[hvl,u1],fun i u s' hu hs=>?_⟩;have hil:i<ars.length:=by rw[<- hvl];exact A5 hs
         exact he.2 i _ s' (d5i hil) hs u (u2 i u _ hu (d5i hil))
        have fin:=hget m2 hk all;refine⟨ρ,Z2,fun _ _ h=>h,fun i hi=>hfr i (by omega),m2.zge,fun b hb=>?_,c1z (u3 (by rw[b2m,<- hlen,hvl]) fun i u s' hu hs=>fin i u s' hu hs),?_,trivial⟩
        . rcases m2.zle b hb with h|h|h
          . exact .inl h
          . cases h
          . exact .inr h
        . exact⟨m2.sep.ext,m2.sep.zlt,fun k t h=>by simp[u7,number]at h,fun j k s t h=>by simp[u7,number]at h⟩
      simp_all
    simp_all
  simp_all⟩
def A4.conv{K:Nat}{args args':List E.SV}{c:CR E.N}(h:A4 E K args' c)(ha:∀(D:Nat->Prop)(w:World)(vs:List Value),e7 E.N E.T (fun _=>none) D w (.tuple vs.toArray) (.F5 args)->e7 E.N E.T (fun _=>none) D w (.tuple vs.toArray) (.F5 args')):A4 E K args c:=
 fun D w vs hD hg hr=>h D w vs hD hg (ha D w vs hr)
def b07{N:B8}:SV N->Option Bool
 |.tt=>some true
 |.ff=>some false
 |.bl p d=>some (@decide p d)
 |_=>none
def a3M{s:E.SV}{b:Bool}{v:Value}(h:b07 s=some b)(r:e7 E.N E.T ρ Z w v s):e7 E.N E.T ρ Z w v (I4 b):=by
 have hb:∀y:Bool,Value.bool y=.bool (@decide (y=true) inferInstance):=fun y=>by simp_all
 cases r with
 |tt=>cases h;rw[hb true];exact .bl
 |ff=>cases h;rw[hb false];exact .bl
 | @bl p d=>cases h;rw[hb (@decide p d)];exact .bl
 |_=>cases h
end
def HZ(E:Env)(inl:Inl E)(an:D3)(fn:Func)(args:List E.SV)(n:Nat)(ks:List VK)(X:b3y E.N ks):Prop:=j4 inl an fn args [] [] 0 (c4o E n ks (eqs E.N ks X []))
def d4k{E:Env}{inl:Inl E}{nx K n:Nat}{fn:Func}{an:D3}{ks:List VK}{X:b3y E.N ks}{args:List E.SV}{ob:List Prop}(hE:c8 E)(hI:H6 E inl)(hf:E.P.funcs[K]?=some fn)(hk:ks.all b9d=true)(hp:args.all F7=true)
  (hv:HZ E inl an fn args n ks X):P8 E.P E.N E.T E.G K args nx ⟨ob,[],a9g n (tell E ks X),[]⟩:=d3m hE hI hf hk hp hv
section
variable{E:Env}{C:Ctx}{ρ:p4}{Z:Nat->Prop}{w:World}{its lkd:c7 E.N}{nx:Nat}{inl:Inl E}
def b0D(E:Env)(its:c7 E.N):n5 E.N:=its.filterMap fun p=>match p.2 with|.own _ _=>some (200+p.1,.ref p.1 0)|.ob _ _ _=>some (200+p.1,.ref p.1 0)|_=>none
def N9(E:Env)(its:c7 E.N)(nx:Nat):E.St:=⟨b0D E its,[],its,nx⟩
def c8n(n:Nat)(s:E.SV):Option (List E.SV):=match n with
 |1=>some [s]
 |_=>(match s with|.F5 vs=>bif Nat.beq vs.length n then some vs else none|_=>none)
def c7I(E:Env)(its0:c7 E.N)(nx0 n:Nat)(ss:List (List LV))(P:ShP E.N ss):E.SV->c7 E.N->Nat->Prop:=fun s its nx=>match c8n n s with
 |some vs=>rbS E [] (N9 E its0 nx0) [] ⟨number 0 vs++b0D E its0,[],its,nx⟩ ss P (fun im=>im.1)
 |none=>False
def a3p(E:Env)(n:Nat)(st:E.St):E.SV:=match n with
 |1=>w8 [] st 0
 |n=>.F5 (U6 E st n 0)
def b8u{vs:List E.SV}{r:n5 E.N}:∀(i k:Nat)(s:E.SV),lk (number i vs++r) k=some s->(∃j,k=i+j/\vs[j]?=some s)∨((∀j,j<vs.length->k≠i+j)/\lk r k=some s):=by
 induction vs with
 |nil=>intro i k s h;exact .inr ⟨fun j hj=>by simp at hj,h⟩
 |cons v vs ih =>
  intro i k s h;have h:(bif Nat.beq i k then some v else lk (number (i+1) vs++r) k)=some s:=h;cases hb:Nat.beq i k with
  |true =>
   simp_all
  |false =>
   rw[hb,d5y]at h;have hne:i≠k:=fun e=>by simp_all
   rcases ih (i+1) k s h with⟨j,e,hj⟩|⟨h1,h2⟩
   . exact .inl ⟨j+1,by omega,by simp_all⟩
   . refine .inr ⟨fun j hj=>?_,h2⟩;cases j with
     |zero=>omega
     |succ j=>have:=h1 j (by simp_all);omega
def gen_ok(hE:c8 E)(hI:H6 E inl){K n:Nat}{fn:Func}{an:D3}(hf:E.P.funcs[K]?=some fn)(hn:Nat.ble n 200=true){args:List E.SV}{ss:List (List LV)}{P:ShP E.N ss}{S:PT E.N}
  (hv:j4 inl an fn args its [] nx (c7I E its nx n ss P)) (hS:∀k,S k->c44 E [] (N9 E its nx) ss P (fun im new=>im.1->k (a3p E n new) new.items new.nx)):M6 E.P E.N E.T E.G K args its nx S:=by
 intro k hk ρ Z w vs B hfr hsep hg ha;have hn:=d5X hn
 let C:Ctx:=⟨ρ,Z,w,B,w⟩
 have hm:Mem E C ρ Z w (its++[]) nx:=⟨by grind,hfr,fun _ _ h=>h,fun _ h=>h,fun _ h=>.inl h⟩;refine(vcFun_ok hE hI hf hv hm hg ha).mono fun v w' ⟨ρ',Z',s,its',nx',hm',ht,hr,hp⟩=>?_;unfold c7I at hp;split at hp
 . rename_i vs' hvs
   let fb:Fr:=fun k=>match ρ (k-200)with|some L=>.pointer (some ⟨L.b,0,none⟩)|none=>Go.undef
   have hb:∀k s,lk (b0D E its) k=some s->∃i L,k=200+i/\s=.ref i 0/\ρ i=some L:=fun k s h=>by obtain⟨j,hj,_⟩:=x8 h;obtain⟨p,hp,e⟩:=d7N.1 (d5c hj);obtain⟨j2,hj2⟩:=d5T hp;have hh:=hm.holds (p5 (l2:=[]) hj2);obtain⟨L,hL⟩:=(S6 hh).1;grind
   have hfb:∀i L,ρ i=some L->fb (200+i)=.pointer (some ⟨L.b,0,none⟩):=fun i L h=>by grind
   have h0:Rel E C [] [] (N9 E its nx) ρ Z fb w:=⟨fun k s h=>by obtain⟨i,L,rfl,rfl,hL⟩:=hb k s h;rw[hfb i L hL];exact .ref hL,fun p hp=>(by cases hp),fun k j b s e=>(by cases e),hm,Tn.refl _ _ _,hg⟩
   -- the answers
   have hans:∃us:List Value,us.length=vs'.length/\vs'.length<=200/\(∀(i:Nat)(u:Value)(s:E.SV),us[i]?=some u->vs'[i]?=some s->e7 E.N E.T ρ' Z' w' u s) /\
     ∀(f:Fr)(new:E.St)(ρ2:p4),(∀i u,us[i]?=some u->f i=u)->(∀i,i<vs'.length->e7 E.N E.T ρ2 Z' w' (f i) (w8 [] new i))->e7 E.N E.T ρ2 Z' w' v (a3p E n new):=by
    by_cases e:n=1
    . subst e;simp only[c8n,d4T]at hvs;subst hvs;refine⟨[v],rfl,(by simp),fun i u s hu hs=>?_,fun f new ρ2 h1 h2=>?_⟩
      . grind
      . have:=h2 0 (by simp);rw[h1 0 v rfl]at this;exact this
    . have h':∃vs,s=.F5 vs/\vs'=vs/\vs.length=n:=by
        unfold c8n at hvs;split at hvs
        . omega
        . split at hvs
          . rename_i vs;have⟨h1,h2⟩:=j3 hvs;simp_all
          . cases hvs
      obtain⟨vs2,rfl,rfl,hl⟩:=h';obtain⟨cs,rfl⟩:=e7.a2I hr;obtain⟨g1,g2⟩:=b0O.get hr;refine⟨cs,g1,by omega,g2,fun f new ρ2 h1 h2=>?_⟩;have:a3p E n new=.F5 (U6 E new n 0):=by
       unfold a3p;split
       . omega
       . rfl
      rw[this];refine b0O.b19 (by rw[g1,hl,a2k]) fun i u s hu hs=>?_;obtain⟨a,b⟩:=a1T n 0 i s hs;grind
   obtain⟨us,u1,u200,u2,u3⟩:=hans
   let f':Fr:=fun k=>match us[k]? with|some u=>u|none=>fb k
   have hf1:∀i u,us[i]?=some u->f' i=u:=fun i u h=>by grind
   have hf2:∀i,us.length<=i->f' i=fb i:=fun i h=>by grind
   let st1:E.St:=⟨number 0 vs'++b0D E its,[],its',nx'⟩
   have hwo:without its (its.map (·.1))=[]:=by unfold without;rw[List.filter_eq_nil_iff];intro p hp;have:(its.map (·.1)).elem p.1=true:=d7Q (d6A.2 ⟨p,hp,rfl⟩);rw[this];simp
   have h1:Rel E (C.at ρ Z w) (s5 [] (N9 E its nx) []++[]) (without (N9 E its nx).items (its.map (·.1))++[]) st1 ρ' Z' f' w':=by
    refine⟨fun k s h=>?_,fun p hp=>(by cases hp),fun k j b s e=>(by cases e),?_,ht,hg⟩
    . rcases b8u 0 k s h with⟨j,rfl,hj⟩|⟨h1,h2⟩
      . grind
      . obtain⟨i,L,rfl,rfl,hL⟩:=hb k s h2;rw[hf2 _ (by omega),hfb i L hL];exact .ref (ht.rho _ _ hL)
    . show Mem E _ ρ' Z' w' (its'++(without its (its.map (·.1))++[])) nx'
      rw[hwo];exact hm'
   obtain⟨new,ρ2,a,ha1,hG,hrel⟩:=rbS_ok (keep:=[]) (ids:=its.map (·.1)) h0 h1 ss P hp (hS k hk);have hmn:Mem E (C.at ρ Z w) ρ2 Z' w' (new.items++(without its (its.map (·.1))++[])) new.nx:=hrel.mem;rw[hwo,d5C,d5C]at hmn;refine⟨ρ2,Z',a3p E n new,new.items,new.nx,hmn.sep,hmn.fr,hmn.ge,hmn.zge,hmn.zle,u3 f' new ρ2 hf1 (fun i hi=>?_),hG ha1⟩;have:=hrel.slot i;exact this
 simp_all
end
section
variable{N:B8}{T:N6}{ρ:p4}{Z:Nat->Prop}{w:World}{P:Program}{G:a1s}{K nx:Nat}{c:CR N}
def P8.a3O{a b:List (SV N)}(h:P8 P N T G K b nx c)(hw:∀ρ Z w v,e7 N T ρ Z w v (.F5 a)->e7 N T ρ Z w v (.F5 b)):P8 P N T G K a nx c:=
 ⟨fun ρ Z w vs h1 h2 h3 h4=>h.run ρ Z w vs h1 h2 h3 (hw ρ Z w _ h4)⟩
end
def vTc(N:B8):List TK->Type
 |[]=>Unit
 |.v k::r=>k.den N×vTc N r
 |.to _::r=>vTc N r
 |.a0n::r=>vTc N r
 |.any::r=>vTc N r
def vTp(N:B8):List TP->Type
 |[]=>Unit
 |.own _ _ ks::r=>vTc N ks×vTp N r
 |.ob _ k::r=>N.O k×vTp N r
def vC(N:B8):List LV->Type
 |[]=>Unit
 |.slot _ k::r=>k.den N×vC N r
 |.tree _ ps::r=>vTp N ps×vC N r
 |_::_=>Unit
def a1C{N:B8}{α:Type}:(ks:List TK)->tcD N α ks->vTc N ks->α
 |[],f,_=>f
 |.v _::r,f,X=>a1C r (f X.1) X.2
 |.to _::r,f,X=>a1C r f X
 |.a0n::r,f,X=>a1C r f X
 |.any::r,f,X=>a1C r f X
def a0N{N:B8}{α:Type}:(ps:List TP)->tpD N α ps->vTp N ps->α
 |[],f,_=>f
 |.own _ _ ks::r,f,X=>a0N r (a1C ks f X.1) X.2
 |.ob _ _::r,f,X=>a0N r (f X.1) X.2
def a4v{N:B8}{α:Type}(d:α):(vs:List LV)->Cur N α vs->vC N vs->α
 |[],f,_=>f
 |.slot _ _::r,f,X=>a4v d r (f X.1) X.2
 |.tree _ ps::r,f,X=>a4v d r (a0N ps f X.1) X.2
 |_::_,_,_=>d
def b40{N:B8}{γ:Type}:(ks:List TK)->vTc N ks->List Prop->(List Prop->γ)->tcD N γ ks
 |[],_,ps,K=>K ps
 |.v _::r,X,ps,K=>fun y=>b40 r X.2 (ps++[y=X.1]) K
 |.to _::r,X,ps,K=>b40 r X ps K
 |.a0n::r,X,ps,K=>b40 r X ps K
 |.any::r,X,ps,K=>b40 r X ps K
def b4U{N:B8}{γ:Type}:(ps:List TP)->vTp N ps->List Prop->(List Prop->γ)->tpD N γ ps
 |[],_,qs,K=>K qs
 |.own _ _ ks::r,X,qs,K=>b40 ks X.1 qs (fun qs=>b4U r X.2 qs K)
 |.ob _ _::r,X,qs,K=>fun y=>b4U r X.2 (qs++[y=X.1]) K
def eqC{N:B8}:(vs:List LV)->vC N vs->List Prop->Cur N Prop vs
 |[],_,ps=>cjl ps
 |.slot _ _::r,X,ps=>fun y=>eqC r X.2 (ps++[y=X.1])
 |.tree _ qs::r,X,ps=>b4U qs X.1 ps (fun ps=>eqC r X.2 ps)
 |v::r,_,ps=>a0x (cjl ps) (v::r)
def a0Q(E:Env)(nm:List Nat):(ks:List TK)->Nat->c7 E.N->List E.SV->vTc E.N ks->Nat×c7 E.N×List E.SV
 |[],nx,its,acc,_=>(nx,its,acc)
 |.v k::r,nx,its,acc,X=>a0Q E nm r (fl1 E nx k X.1).2.2 ((fl1 E nx k X.1).2.1++its) (acc++[(fl1 E nx k X.1).1]) X.2
 |.to j::r,nx,its,acc,X=>a0Q E nm r nx its (acc++[.ref (nm.getD j 0) 0]) X
 |.a0n::r,nx,its,acc,X=>a0Q E nm r nx its (acc++[.M5 (.pointer none)]) X
 |.any::r,nx,its,acc,X=>a0Q E nm r nx its (acc++[.un]) X
def a5E(E:Env)(nm:List Nat):(ps:List TP)->Nat->Nat->c7 E.N->vTp E.N ps->Nat×c7 E.N
 |[],_,nx,its,_=>(nx,its)
 |.own _ T ks::r,i,nx,its,X=>a5E E nm r (i+1) (a0Q E nm ks nx its [] X.1).1 ((nm.getD i 0,.own T (a0Q E nm ks nx its [] X.1).2.2)::(a0Q E nm ks nx its [] X.1).2.1) X.2
 |.ob _ k::r,i,nx,its,X=>a5E E nm r (i+1) (nx+1) ((nm.getD i 0,.ob k nx X.1)::its) X.2
def b2e(E:Env)(fx:n5 E.N)(st:E.St):(vs:List LV)->vC E.N vs->E.St->E.St
 |[],_,new=>new
 |.slot s k::r,X,new=>b2e E fx st r X.2 ⟨(s,(fl1 E new.nx k X.1).1)::new.slots,[],(fl1 E new.nx k X.1).2.1++new.items,(fl1 E new.nx k X.1).2.2⟩
 |.tree ss ps::r,X,new=>b2e E fx st r X.2 ⟨(ss.map fun p=>(p.1,.ref ((tnm new.nx 0 (a0V fx st ps)).getD p.2 0) 0))++new.slots,[],(a5E E (tnm new.nx 0 (a0V fx st ps)) ps 0 (new.nx+ps.length) new.items X.1).2,(a5E E (tnm new.nx 0 (a0V fx st ps)) ps 0 (new.nx+ps.length) new.items X.1).1⟩
 |_::_,_,new=>new
section
variable{E:Env}{fx:n5 E.N}{st:E.St}
def a2r{nm:List Nat}{α:Type}{G:α->Nat->c7 E.N->List E.SV->Prop}:∀(ks:List TK)(f:tcD E.N α ks)(nx:Nat)(its:c7 E.N)(acc:List E.SV),(∀Y,G (a1C ks f Y) (a0Q E nm ks nx its acc Y).1 (a0Q E nm ks nx its acc Y).2.1 (a0Q E nm ks nx its acc Y).2.2)->a4h E nm ks nx its acc f G
 |[],f,nx,its,acc,h=>h ()
 |.v k::r,f,nx,its,acc,h=>fun x=>a2r r (f x) _ _ _ fun Y=>h (x,Y)
 |.to j::r,f,nx,its,acc,h=>a2r r f _ _ _ h
 |.a0n::r,f,nx,its,acc,h=>a2r r f _ _ _ h
 |.any::r,f,nx,its,acc,h=>a2r r f _ _ _ h
def a7k{nm:List Nat}{α:Type}{G:α->Nat->c7 E.N->Prop}:∀(ps:List TP)(f:tpD E.N α ps)(i nx:Nat)(its:c7 E.N),(∀Y,G (a0N ps f Y) (a5E E nm ps i nx its Y).1 (a5E E nm ps i nx its Y).2)->a7r E nm ps i nx its f G
 |[],f,i,nx,its,h=>h ()
 |.own _ T ks::r,f,i,nx,its,h=>a2r ks f nx its [] fun Y=>a7k r _ _ _ _ fun Z=>h (Y,Z)
 |.ob _ k::r,f,i,nx,its,h=>fun x=>a7k r (f x) _ _ _ fun Z=>h (x,Z)
def a43{α:Type}{d:α}{G:α->E.St->Prop}:∀(vs:List LV)(f:Cur E.N α vs)(new:E.St),a3R vs=true->(∀Y,G (a4v d vs f Y) (b2e E fx st vs Y new))->Q2 E fx st vs f new G
 |[],f,new,_,h=>h ()
 |.slot s k::r,f,new,ho,h=>fun x=>a43 r (f x) _ ho fun Y=>h (x,Y)
 |.tree ss ps::r,f,new,ho,h=>a7k ps f 0 _ _ fun Y=>a43 r _ _ ho fun Z=>h (Y,Z)
 |.own _ _::_,_,_,ho,_=>by cases ho
 |.ob _ _::_,_,_,ho,_=>by cases ho
 |.cont _ _::_,_,_,ho,_=>by cases ho
 |.unr _::_,_,_,ho,_=>by cases ho
end
section
variable{N:B8}
def a15{α β γ:Type}{g:α->β->γ}:∀(ks:List TK)(a:tcD N α ks)(b:tcD N β ks)(Y:vTc N ks),a1C ks (a9c g ks a b) Y=g (a1C ks a Y) (a1C ks b Y)
 |[],_,_,_=>rfl
 |.v k::r,a,b,Y=>a15 r (a Y.1) (b Y.1) Y.2
 |.to _::r,a,b,Y=>a15 r a b Y
 |.a0n::r,a,b,Y=>a15 r a b Y
 |.any::r,a,b,Y=>a15 r a b Y
def a4U{α β γ:Type}{g:α->β->γ}:∀(ps:List TP)(a:tpD N α ps)(b:tpD N β ps)(Y:vTp N ps),a0N ps (b3n g ps a b) Y=g (a0N ps a Y) (a0N ps b Y)
 |[],_,_,_=>rfl
 |.own _ _ ks::r,a,b,Y =>
  have e:=a15 (g:=b3n g r) ks (show tcD N (tpD N α r) ks from a) (show tcD N (tpD N β r) ks from b) Y.1
  (congrArg (fun z=>a0N r z Y.2) e).trans (a4U r _ _ Y.2)
 |.ob _ _::r,a,b,Y=>a4U r (a Y.1) (b Y.1) Y.2
def a7o{α β:Type}{d:α}{e:β}:∀(vs:List LV)(a:Cur N α vs)(b:Cur N β vs)(Y:vC N vs),a3R vs=true->a4v (d,e) vs (a1m vs a b) Y=(a4v d vs a Y,a4v e vs b Y)
 |[],_,_,_,_=>rfl
 |.slot s k::r,a,b,Y,ho=>a7o r (a Y.1) (b Y.1) Y.2 ho
 |.tree ss ps::r,a,b,Y,ho =>
  have h:=a4U (g:=a1m r) ps (show tpD N (Cur N α r) ps from a) (show tpD N (Cur N β r) ps from b) Y.1
  (congrArg (fun z=>a4v (d,e) r z Y.2) h).trans (a7o r _ _ Y.2 ho)
 |.own _ _::_,_,_,_,ho=>by cases ho
 |.ob _ _::_,_,_,_,ho=>by cases ho
 |.cont _ _::_,_,_,_,ho=>by cases ho
 |.unr _::_,_,_,_,ho=>by cases ho
def b6Z:∀{l:List Prop},cjl l->∀p∈l,p
 |[],_,p,hp=>by cases hp
 |[q],h,p,hp=>by rw[d5a.1 hp];exact h
 |q::r::l,h,p,hp=>by
  rcases d5k.1 hp with e|hp
  . rw[e];exact h.1
  . exact b6Z h.2 p hp
def a2t{γ:Type}:∀(ks:List TK)(X Y:vTc N ks)(ps:List Prop)(K:List Prop->γ),∃l:List Prop,a1C ks (b40 ks X ps K) Y=K (ps++l)/\((∀p∈l,p)->Y=X)
 |[],_,_,ps,K=>⟨[],by rw[d5C];rfl,fun _=>rfl⟩
 |.v k::r,X,Y,ps,K=>by obtain⟨l,h1,h2⟩:=a2t r X.2 Y.2 (ps++[Y.1=X.1]) K;exact⟨(Y.1=X.1)::l,by rw[d8P];exact h1,fun h=>d7R (h _ (d5P ..)) (h2 fun p hp=>h p (d5v _ hp))⟩
 |.to _::r,X,Y,ps,K=>a2t r X Y ps K
 |.a0n::r,X,Y,ps,K=>a2t r X Y ps K
 |.any::r,X,Y,ps,K=>a2t r X Y ps K
def a6u{γ:Type}:∀(qs:List TP)(X Y:vTp N qs)(ps:List Prop)(K:List Prop->γ),∃l:List Prop,a0N qs (b4U qs X ps K) Y=K (ps++l)/\((∀p∈l,p)->Y=X)
 |[],_,_,ps,K=>⟨[],by rw[d5C];rfl,fun _=>rfl⟩
 |.own _ _ ks::r,X,Y,ps,K=>by
  obtain⟨l1,h1,h2⟩:=a2t ks X.1 Y.1 ps (fun ps=>b4U r X.2 ps K);obtain⟨l2,h3,h4⟩:=a6u r X.2 Y.2 (ps++l1) K;refine⟨l1++l2,?_,fun h=>d7R (h2 fun p hp=>h p (d5S _ hp)) (h4 fun p hp=>h p (d6H _ hp))⟩;show a0N r (a1C ks (b40 ks X.1 ps (fun ps=>b4U r X.2 ps K)) Y.1) Y.2=_
  simp_all
 |.ob _ _::r,X,Y,ps,K=>by obtain⟨l,h1,h2⟩:=a6u r X.2 Y.2 (ps++[Y.1=X.1]) K;exact⟨(Y.1=X.1)::l,by rw[d8P];exact h1,fun h=>d7R (h _ (d5P ..)) (h2 fun p hp=>h p (d5v _ hp))⟩
def a9Q:∀(vs:List LV)(X Y:vC N vs)(ps:List Prop),a3R vs=true->∃l:List Prop,a4v False vs (eqC vs X ps) Y=cjl (ps++l)/\((∀p∈l,p)->Y=X)
 |[],_,_,ps,_=>⟨[],by rw[d5C];rfl,fun _=>rfl⟩
 |.slot s k::r,X,Y,ps,ho=>by obtain⟨l,h1,h2⟩:=a9Q r X.2 Y.2 (ps++[Y.1=X.1]) ho;exact⟨(Y.1=X.1)::l,by rw[d8P];exact h1,fun h=>d7R (h _ (d5P ..)) (h2 fun p hp=>h p (d5v _ hp))⟩
 |.tree ss qs::r,X,Y,ps,ho=>by
  obtain⟨l1,h1,h2⟩:=a6u qs X.1 Y.1 ps (fun ps=>eqC r X.2 ps);obtain⟨l2,h3,h4⟩:=a9Q r X.2 Y.2 (ps++l1) ho;refine⟨l1++l2,?_,fun h=>d7R (h2 fun p hp=>h p (d5S _ hp)) (h4 fun p hp=>h p (d6H _ hp))⟩;show a4v False r (a0N qs (b4U qs X.1 ps (fun ps=>eqC r X.2 ps)) Y.1) Y.2=_
  simp_all
 |.own _ _::_,_,_,_,ho=>by cases ho
 |.ob _ _::_,_,_,_,ho=>by cases ho
 |.cont _ _::_,_,_,_,ho=>by cases ho
 |.unr _::_,_,_,_,ho=>by cases ho
end
section
variable{E:Env}{fx:n5 E.N}{st:E.St}
def c45{vs:List LV}{X:vC E.N vs}{ps:List Prop}{m:Cur E.N Nat vs}{new:E.St}{K:E.St->Prop}(ho:a3R vs=true)(h:cjl ps->K (b2e E fx st vs X new)):Q2 E fx st vs (a1m vs (eqC vs X ps) m) new (fun im new'=>im.1->K new'):=
 a43 (d:=(False,0)) vs _ new ho fun Y=>by rw[a7o _ _ _ _ ho];intro hc;obtain⟨l,e,hl⟩:=a9Q vs X Y ps ho;have hc:a4v False vs (eqC vs X ps) Y:=hc;rw[e]at hc;obtain⟨h1,h2⟩:=b0c hc;have:=hl (b6Z h2);simp_all
def RS(N:B8):List (List LV)->Type
 |[]=>Unit
 |vs::r=>(List Prop×vC N vs)×RS N r
def shP{N:B8}:(ss:List (List LV))->RS N ss->ShP N ss
 |[],_=>()
 |vs::r,R=>((eqC vs R.1.2 R.1.1,a0x 0 vs),shP r R.2)
def stC(E:Env)(its:c7 E.N)(nx:Nat)(vs:List LV)(X:vC E.N vs):E.St:=b2e E [] (N9 E its nx) vs X ⟨[],[],[],nx⟩
def c4k(E:Env)(its:c7 E.N)(nx n:Nat):(ss:List (List LV))->RS E.N ss->PT E.N
 |[],_,_=>True
 |[vs],R,k=>cjl R.1.1->k (a3p E n (stC E its nx vs R.1.2)) (stC E its nx vs R.1.2).items (stC E its nx vs R.1.2).nx
 |vs::v2::r,R,k=>(cjl R.1.1->k (a3p E n (stC E its nx vs R.1.2)) (stC E its nx vs R.1.2).items (stC E its nx vs R.1.2).nx)/\c4k E its nx n (v2::r) R.2 k
def b8h{its:c7 E.N}{nx n:Nat}{vs:List LV}:∀{r:List (List LV)}{R:RS E.N (vs::r)}{k:E.SV->c7 E.N->Nat->Prop},c4k E its nx n (vs::r) R k->(cjl R.1.1->k (a3p E n (stC E its nx vs R.1.2)) (stC E its nx vs R.1.2).items (stC E its nx vs R.1.2).nx)/\c4k E its nx n r R.2 k
 |[],_,_,h=>⟨h,trivial⟩
 |_::_,_,_,h=>h
def b1T{its:c7 E.N}{nx n:Nat}{k:E.SV->c7 E.N->Nat->Prop}:∀(ss:List (List LV)) (R:RS E.N ss),ss.all a3R=true->c4k E its nx n ss R k->c44 E [] (N9 E its nx) ss (shP ss R) (fun im new=>im.1->k (a3p E n new) new.items new.nx)
 |[],_,_,_=>trivial
 |vs::r,R,ho,h=>by simp only[d6S,d4U]at ho;obtain⟨h1,h2⟩:=b8h h;exact⟨c45 ho.1 fun hp=>h1 hp,b1T r R.2 ho.2 h2⟩
def b4O(E:Env)(obs:List Prop)(its:c7 E.N)(nx n:Nat)(vs:List LV)(X:vC E.N vs):FR E.N:=⟨obs,[],a3p E n (stC E its nx vs X),(stC E its nx vs X).items,(stC E its nx vs X).nx⟩
variable{inl:Inl E}
def fc_ok(hE:c8 E)(hI:H6 E inl){K n:Nat}{fn:Func}{an:D3}(hf:E.P.funcs[K]?=some fn)(hn:Nat.ble n 200=true){args:List E.SV}{its:c7 E.N}{nx:Nat}{vs:List LV}{X:vC E.N vs}{obs:List Prop}(ho:a3R vs=true)
  (hv:j4 inl an fn args its [] nx (c7I E its nx n [vs] (shP [vs] (([],X),())))):M6 E.P E.N E.T E.G K args its nx (fun k=>q9 (b4O E obs its nx n vs X).hy->k (b4O E obs its nx n vs X).v (b4O E obs its nx n vs X).its (b4O E obs its nx n vs X).n):=
 gen_ok hE hI hf hn hv fun k hk=>b1T [vs] (([],X),()) (by simp[ho]) fun _=>hk trivial
structure GD(N:B8) where
 fz:List Nat
 ss:List (List LV)
 C:GC N
def c2n(E:Env)(M:Nat->Option (GD E.N))(inl:Inl E):Inl E:=fun K args its lkd nx k=>match M K with
 |none=>inl K args its lkd nx k
 |some o=>(match b0Z (E:=E) ⟨o.fz,o.ss,fun _ _=>none⟩ args its nx with
  |none=>inl K args its lkd nx k
  |some (a,i,m)=>bif (E.inl K).isSome && distinct (reach i 60 (a.flatMap a6U) [])then
   (match a81 (a1u (G0 i (reach i 60 (a.flatMap a6U) [])) 0) a,b7R i (a1u (G0 i (reach i 60 (a.flatMap a6U) [])) 0) 0 (reach i 60 (a.flatMap a6U) [])with
   |some a',some i'=>(match o.C a' i' with
    |some S=>S (fun s it n=>match c1o (a5A (G0 i (reach i 60 (a.flatMap a6U) [])) m) s,a9n (a5A (G0 i (reach i 60 (a.flatMap a6U) [])) m) it with
     |some s',some it'=>k s' (it'++without i (reach i 60 (a.flatMap a6U) [])) (m+(n-(G0 i (reach i 60 (a.flatMap a6U) [])).length))
     |_,_=>False)
    |none=>inl K args its lkd nx k)
   |_,_=>False)else False)
def inlH_ok{M:Nat->Option (GD E.N)}(hM:∀K o args its S,M K=some o->o.C args its=some S->M6 E.P E.N E.T E.G K args its (2*its.length) S)(hI:H6 E inl):H6 E (c2n E M inl):=by
 intro K args its lkd nx k hv;unfold c2n at hv;split at hv
 . exact hI K args its lkd nx k hv
 . rename_i o hC;split at hv
   . exact hI K args its lkd nx k hv
   . rename_i a i m hA;cases hb:((E.inl K).isSome && distinct (reach i 60 (a.flatMap a6U) []))with
     |false=>simp_all
     |true =>
      rw[hb,d5r]at hv;simp only[d4U]at hb;obtain⟨hin,hd⟩:=hb;refine⟨hin,fun C ρ Z w vs hm hg ha0=>?_⟩;obtain⟨ρ1,Z1,m1,t1,a1⟩:=fcArgs_ok hg hm hA ha0;split at hv
      . rename_i a' i' ha hi;split at hv
        . rename_i S hS;exact(b6o hd ha hi (hM K o a' i' S hC hS) hv m1 (a1s.turn hg t1) a1).mono fun v w' ⟨ρ',Z',s,its',nx',q1,q2,q3,q4⟩=>⟨ρ',Z',s,its',nx',q1,t1.trans q2,q3,q4⟩
        . exact(hI K args its lkd nx k hv).2 C ρ Z w vs hm hg ha0
      simp_all
def a1G(E:Env)(H:Nat->Option (GD E.N))(an:Nat->D3):Nat->Inl E
 |0=>c2n E H (fun _ _ _ _ _ _=>False)
 |n+1=>c2n E H (fun K args its lkd nx k=>match E.inl K with|some fn=>j4 (a1G E H an n) (an K) fn args its lkd nx k|none=>False)
def inlHN_ok(hE:c8 E){H:Nat->Option (GD E.N)}(hH:∀K o args its S,H K=some o->o.C args its=some S->M6 E.P E.N E.T E.G K args its (2*its.length) S)(an:Nat->D3):∀m,H6 E (a1G E H an m)
 |0=>inlH_ok hH fun _ _ _ _ _ _ h=>h.elim
 |m+1=>inlH_ok hH fun K args its lkd nx k h=>by
  have h:(match E.inl K with|some fn=>j4 (a1G E H an m) (an K) fn args its lkd nx k|none=>False):=h;split at h
  . rename_i fn hf;exact⟨by rw[hf];rfl,fun C ρ Z w vs hm hg ha=>vcFun_ok hE (inlHN_ok hE hH an m) (hE.inl K fn hf) h hm hg ha⟩
  simp_all
def noH{N:B8}:Nat->Option (GD N):=fun _=>none
def noH_ok{P:Program}{N:B8}{T:N6}{G:a1s}:∀K o args its S,(noH:Nat->Option (GD N)) K=some o->o.C args its=some S->M6 P N T G K args its (2*its.length) S:=fun _ _ _ _ _ h=>by cases h
end
structure Cl(P:Program) where
 J:Nat->(Nat->Prop)->World->List Int->List Nat->Prop
 I3:∀{b:Nat}{xs:List Int}{F:List Nat},It.W9 ⟨F,[],fun Z w=>J b Z w xs F⟩
 lt:∀{b:Nat}{Z:Nat->Prop}{w:World}{xs:List Int}{F:List Nat},J b Z w xs F->∀b∈F,b<w.heap.size
 pre:List Int->Int->Prop
 res:List Int->Int->Bool
 step:∀(Z:Nat->Prop)(w:World)(b:Nat)(F:List Nat)(xs:List Int)(t:Int),(∀b,Z b->b<w.heap.size)->(∀b∈F,¬Z b)->J b Z w xs F->pre xs t->c6 t ->
  a0w P b [.int .i64 t] w (fun v w'=>v=.bool (res xs t)/\∃F',J b Z w' (xs++[t]) F'/\b4j w w' F F')
abbrev ClX(P:Program):=Cl P×List Int
def obY(P:Program)(b:Nat):Ob (ClX P) where
 is:=fun Z w x F=>x.1.J b Z w x.2 F
 I3:=fun{x}=>x.1.I3
 lt:=fun{_ _ x _} h=>x.1.lt h
def ClX.pre{P:Program}(x:ClX P)(t:Int):Prop:=x.1.pre x.2 t
def ClX.res{P:Program}(x:ClX P)(t:Int):Bool:=x.1.res x.2 t
def ClX.put{P:Program}(x:ClX P)(t:Int):ClX P:=(x.1,x.2++[t])
def ClX.bl{N:B8}{T:N6}{ρ:p4}{Z:Nat->Prop}{w:World}{b:Bool}:e7 N T ρ Z w (.bool b) (I4 b):=by have h:e7 N T ρ Z w (.bool (decide (b=true))) (I4 b):=.bl;simp_all
def c8B{N:B8}{T:N6}{ρ:p4}{Z:Nat->Prop}{w:World}{cs:List Value}(h:e7 N T ρ Z w (.tuple cs.toArray) (.F5 [])):cs=[]:=by generalize e:Value.tuple cs.toArray=u at h;cases h with|M0=>simpa using e
section
variable{E:Env}{K t i:Nat}{x:E.N.U t}{cells:List E.SV}{ars:List E.SV}{its:c7 E.N}{ob:List Prop}{v:E.SV}
def c4b{w:World}{b T:Nat}{cs:List Value}{D:Nat->Prop}(ho:Q5 w b T cs)(hD:D b)(hr:(E.N.tb t).r.rd D w cs x):(p7 (E.N.tb t).r).rd D w [.slice (some ⟨b,0,none⟩) [x].length 1] [x]:=
 ⟨by simp_all,_,_,rfl,⟨fun h=>(by cases h),d5m _⟩,fun i hi=>by
  have hi:i<1:=hi;have e:i=0:=by omega
  subst e;refine⟨_,_,_,rfl,hD,Q5.cells ho _ cs [] ?_,hr⟩;simp_all⟩
end
end Go.Rx
section
namespace Go.Wl
open Go Go.Wk
section
variable{α β:Type}
def Rd.q(r:Rd α)(s:Rd β):Rd (α×β) where
 sz:=r.sz+s.sz
 rd D w cs x:=∃c d,cs=c++d/\r.rd D w c x.1/\s.rd D w d x.2
 len:=fun⟨c,d,e,h,k⟩=>by rw[e,d4Y,r.len h,s.len k]
 mono:=fun⟨c,d,e,h,k⟩ a b z=>⟨c,d,e,r.mono h a b z,s.mono k a b z⟩
 plain:=fun⟨c,d,e,h,k⟩=>by rw[e,List.all_append,r.plain h,s.plain k];rfl
def Rd.of(r:Rd β)(f:α->β):Rd α where
 sz:=r.sz
 rd D w cs x:=r.rd D w cs (f x)
 len h:=r.len h
 mono h:=r.mono h
 plain h:=r.plain h
end
end Go.Wl
namespace Go.Rx
open Go Go.Wk Go.Wl
structure TQ(N:B8)(T:N6){α:Type}(r:Rd α) where
 n:Nat
 sv:α->List (SV N)
 bk:List (SV N)->Option α
 sv_ok:∀{ρ:p4}{Z:Nat->Prop}{w:World}{cs:List Value}{x:α},r.rd Z w cs x->e8 N T ρ Z w cs (sv x)
 bk_ok:∀{ρ:p4}{Z:Nat->Prop}{w:World}{cs:List Value}{s:List (SV N)}{x:α},e8 N T ρ Z w cs s->bk s=some x->r.rd Z w cs x
 hy:α->List Prop
 hy_ok:∀{Z:Nat->Prop}{w:World}{cs:List Value}{x:α},r.rd Z w cs x->∀p∈hy x,p
section
variable{N:B8}{T:N6}{α β:Type}
def TQ.q{r:Rd α}{s:Rd β}(a:TQ N T r)(b:TQ N T s):TQ N T (r.q s) where
 n:=a.n+b.n
 sv x:=a.sv x.1++b.sv x.2
 bk l:=(a.bk (l.take a.n)).bind fun x=>(b.bk (l.drop a.n)).bind fun y=>some (x,y)
 sv_ok:=fun⟨c,d,e,h,k⟩=>by rw[e];exact e8.app (a.sv_ok h) (b.sv_ok k)
 bk_ok {_ _ _ cs _ _} h e:=by obtain⟨x,e1,e⟩:=d5j.1 e;obtain⟨y,e2,e⟩:=d5j.1 e;cases e;have g:=e8.split a.n h;exact⟨cs.take a.n,cs.drop a.n,(d7j _ _).symm,a.bk_ok g.1 e1,b.bk_ok g.2 e2⟩
 hy x:=a.hy x.1++b.hy x.2
 hy_ok:=fun⟨c,d,e,h,k⟩ p hp=>(d5t.1 hp).elim (a.hy_ok h p) (b.hy_ok k p)
def TQ.of{r:Rd β}(a:TQ N T r)(f:α->β)(g:β->α)(hg:∀y,f (g y)=y):TQ N T (r.of f) where
 n:=a.n
 sv x:=a.sv (f x)
 bk l:=(a.bk l).map g
 sv_ok h:=a.sv_ok h
 bk_ok {_ _ _ _ _ x} h e:=by
  obtain⟨y,e1,e⟩:=d5g.1 e;subst e;show r.rd _ _ _ (f (g y))
  rw[hg];exact a.bk_ok h e1
 hy x:=a.hy (f x)
 hy_ok h:=a.hy_ok h
def tI:TQ N T E8:=⟨1,fun x=>[.int .i64 x],pb a6Q,b99,c6S,fun x=>[c6 x],fun h p hp=>by rw[d5a]at hp;subst hp;exact h.2⟩
def tB:TQ N T a2B:=⟨1,fun x=>[I4 x],pb asB,b6r,c3Q,fun _=>[],by intros;contradiction⟩
def tS:TQ N T a0b:=⟨1,fun x=>[.str x],pb asS,c1u,c7h,fun _=>[],by intros;contradiction⟩
def tL(t:Nat):TQ N T (p7 (N.tb t).r):=⟨1,fun x=>[.sl t x],pb (a1O N t),a0Y,a13,fun _=>[],by intros;contradiction⟩
def TQ.z{r:Rd α}(a:TQ N T r):TQ N T r:={ a with hy:=fun _=>[],hy_ok:=by intros;contradiction }
def TQ.y{t:Nat}(p:TQ N T (N.tb t).r):TyI N T t where
 sv x:=.agg (p.sv x)
 bk s:=p.bk (leaves s)
 sv_ok h:=p.sv_ok h
 bk_ok h e:=p.bk_ok h e
 hy:=p.hy
 hy_ok h:=p.hy_ok h
end
end Go.Rx
end
namespace Go.Re
structure Dy where
 Year:Int
 Month:Int
 Date:Int
 deriving DecidableEq,Inhabited
structure Tm where
 Day:Dy
 Hour:Int
 Min:Int
 D8:Int
 o7:Bool
 UTC:Bool
 deriving DecidableEq,Inhabited
structure Nt where
 N:Int
 Day:Int
 deriving DecidableEq,Inhabited
structure Rl where
 l6:Int
 Interval:Int
 Count:Int
 e9:List Tm
 Month:List Int
 q7:List Int
 l9:List Int
 j9:List Int
 w9:List Nt
 Hour:List Int
 Minute:List Int
 Second:List Int
 y6:List Int
 v8:Int
 deriving DecidableEq,Inhabited
def E1(y m:Int):Int:=
 if y<1∨9999<y then 0 else
 if m=2 then(if y%4=0/\(y%100≠0∨y%400=0)then 29 else 28)else
 if m=1∨m=3∨m=5∨m=7∨m=8∨m=10∨m=12 then 31 else
 if m=4∨m=6∨m=9∨m=11 then 30 else 0
def G8(d:Dy):Prop:=1<=d.Date/\d.Date<=E1 d.Year d.Month
instance:DecidablePred G8:=fun d=>inferInstanceAs (Decidable (_/\_))
def D6(d:Dy):Bool:=decide (G8 d)
def v7(y:Int):Int:=365*(y-1)+(y-1) / 4-(y-1) / 100+(y-1) / 400
def T7(y m:Int):Int:=
 if m<=1 then 0 else if m=2 then 31 else
 (if y%4=0/\(y%100≠0∨y%400=0)then 1 else 0) +
 (if m=3 then 59 else if m=4 then 90 else if m=5 then 120 else if m=6 then 151 else if m=7 then 181 else if m=8 then 212 else if m=9 then 243 else if m=10 then 273 else if m=11 then 304 else 334)
def M3(d:Dy):Int:=v7 d.Year+T7 d.Year d.Month+d.Date
def u9(d:Dy):Int:=if G8 d then M3 d else 0
def J0(y m d:Int):Int:=
 if m<3 then 365*(y-1)+(y-1) / 4-(y-1) / 100+(y-1) / 400+(153*(m+12-3)+2) / 5+d-306
 else 365*y+y / 4-y / 100+y / 400+(153*(m-3)+2) / 5+d-306
def G8.ym{d:Dy}(h:G8 d):1<=d.Year/\d.Year<=9999/\1<=d.Month/\d.Month<=12/\1<=d.Date/\d.Date<=31:=by
 obtain⟨h1,h2⟩:=h;unfold E1 at h2
 (repeat' split at h2) <;> omega
def a6K{y m:Int}(h0:1<=y)(h1:y<=9999)(m0:1<=m)(m1:m<=12):E1 y m=T7 y (m+1)-T7 y m∨m=12/\E1 y m=31:=by
 have hm:m=1∨m=2∨m=3∨m=4∨m=5∨m=6∨m=7∨m=8∨m=9∨m=10∨m=11∨m=12:=by omega
 unfold E1 T7;rw[if_neg (by omega)];rcases hm with rfl|rfl|rfl|rfl|rfl|rfl|rfl|rfl|rfl|rfl|rfl|rfl <;> simp <;> split <;> omega
def a2R{y m d:Int}(m0:1<=m)(m1:m<=12):J0 y m d=v7 y+T7 y m+d:=by
 have hm:m=1∨m=2∨m=3∨m=4∨m=5∨m=6∨m=7∨m=8∨m=9∨m=10∨m=11∨m=12:=by omega
 unfold J0 v7 T7;by_cases hl:y%4=0/\(y%100≠0∨y%400=0)
 . rw[if_pos hl];rcases hm with rfl|rfl|rfl|rfl|rfl|rfl|rfl|rfl|rfl|rfl|rfl|rfl <;> simp <;> omega
 . rw[if_neg hl];rcases hm with rfl|rfl|rfl|rfl|rfl|rfl|rfl|rfl|rfl|rfl|rfl|rfl <;> simp <;> omega
def a1z(y:Int):v7 (y+1)=v7 y+(if y%4=0/\(y%100≠0∨y%400=0)then 366 else 365):=by unfold v7;split <;> omega
def E9{a b:Int}(h:a<=b):v7 a<=v7 b:=by unfold v7;omega
def b3X(y m:Int):0<=T7 y m/\T7 y m<=335:=by
 unfold T7
 (repeat' split) <;> omega
def a3H{d:Dy}(h:G8 d):v7 d.Year<M3 d/\M3 d<=v7 (d.Year+1):=by
 obtain⟨y0,y1,m0,m1,d0,d1⟩:=h.ym;have h2:=h.2;obtain⟨c0,c1⟩:=b3X d.Year d.Month;refine⟨by unfold M3;omega,?_⟩;rw[a1z];unfold M3;have hm:d.Month=1∨d.Month=2∨d.Month=3∨d.Month=4∨d.Month=5∨d.Month=6∨d.Month=7∨d.Month=8∨d.Month=9∨d.Month=10∨d.Month=11∨d.Month=12:=by omega
 unfold E1 at h2;unfold T7;generalize d.Month=m at *;generalize d.Year=y at *;generalize d.Date=t at *;rw[if_neg (by omega)]at h2;by_cases hl:y%4=0/\(y%100≠0∨y%400=0)
 . rw[if_pos hl]at h2 ⊢;rw[if_pos hl];rcases hm with rfl|rfl|rfl|rfl|rfl|rfl|rfl|rfl|rfl|rfl|rfl|rfl <;> simp at h2 ⊢ <;> omega
 . rw[if_neg hl]at h2 ⊢;rw[if_neg hl];rcases hm with rfl|rfl|rfl|rfl|rfl|rfl|rfl|rfl|rfl|rfl|rfl|rfl <;> simp at h2 ⊢ <;> omega
def b0w{y m:Int}(h0:1<=y)(h1:y<=9999)(m0:1<=m)(m1:m<=12):28<=E1 y m:=by
 unfold E1;rw[if_neg (by omega)]
 (repeat' split) <;> omega
def a3X{y a b:Int}(h0:1<=y)(h1:y<=9999)(ha:1<=a)(hb:b<=12)(h:a<b):T7 y a+E1 y a<=T7 y b:=by
 rcases a6K h0 h1 ha (by omega:a<=12)with e|⟨e,_⟩
 . rw[e];have up:∀j:Nat,a+1+j<=12->T7 y (a+1)<=T7 y (a+1+j):=fun j=>by
    induction j with
    |zero=>intro _;rw[show a+1+((0:Nat):Int)=a+1 by omega];exact d5o _
    |succ j ih =>
     intro hj;have h2:=ih (by omega);have h3:=b0w h0 h1 (m:=a+1+j) (by omega) (by omega);rcases a6K h0 h1 (m:=a+1+j) (by omega) (by omega)with e|⟨e,_⟩
     . rw[show a+1+((j+1:Nat):Int)=a+1+j+1 by omega];omega
     . omega
   have:=up (b-(a+1)).toNat (by omega);rw[show a+1+((b-(a+1)).toNat:Int)=b by omega]at this;omega
 . omega
def wdS(n:Int):Int:=(n+6)%7
def c4p{a b:Dy}(ha:G8 a)(hb:G8 b)(h:M3 a=M3 b):a=b:=by
 obtain⟨a0,a1⟩:=a3H ha;obtain⟨b0,b1⟩:=a3H hb;obtain⟨y0,y1,m0,m1,d0,d1⟩:=ha.ym;obtain⟨y0',y1',m0',m1',d0',d1'⟩:=hb.ym;have ey:a.Year=b.Year:=by
  rcases d7d a.Year b.Year with hl|hl|hl
  . have:=E9 (show a.Year+1<=b.Year by omega);omega
  . exact hl
  . have:=E9 (show b.Year+1<=a.Year by omega);omega
 have a2:=ha.2;have b2:=hb.2;unfold M3 at h;rw[ey]at h a2;have em:a.Month=b.Month:=by
  rcases d7d a.Month b.Month with hl|hl|hl
  . have:=a3X (y:=b.Year) y0' y1' m0 m1' hl;omega
  . exact hl
  . have:=a3X (y:=b.Year) y0' y1' m0' m1 hl;omega
 rw[em]at h;have ed:a.Date=b.Date:=by omega
 cases a;cases b;simp only at ey em ed;rw[ey,em,ed]
def oh(N:Int):Int:=min (N%146097 / 36524) 3
def o2(N:Int):Int:=N%146097-oh N*36524
def oo(N:Int):Int:=min (o2 N%1461 / 365) 3
def o4(N:Int):Int:=o2 N%1461-oo N*365
def oy(N:Int):Int:=400*(N / 146097)+100*oh N+4*(o2 N / 1461)+oo N
def om(N:Int):Int:=(5*o4 N+2) / 153
def ofN(N:Int):Dy:=
 if 12<om N+3 then⟨oy N+1,om N+3-12,o4 N-(153*om N+2) / 5+1⟩else⟨oy N,om N+3,o4 N-(153*om N+2) / 5+1⟩
def d4H(N:Int):(0<=oh N/\oh N<=3)/\(0<=o2 N/\o2 N<=36524)/\(0<=oo N/\oo N<=3)/\(0<=o4 N/\o4 N<=365)/\0<=om N/\om N<=11:=by
 have h1:0<=oh N/\oh N<=3:=by unfold oh;omega
 have h2:0<=o2 N/\o2 N<=36524:=by unfold o2 oh;omega
 have h3:0<=oo N/\oo N<=3:=by unfold oo;omega
 have h4:0<=o4 N/\o4 N<=365:=by unfold o4 oo;omega
 exact⟨h1,h2,h3,h4,by unfold om;omega⟩
def A7(n:Int):Dy:=if n<1∨3652059<n then⟨0,0,0⟩else ofN (n+305)
def ofN_ok{n:Int}(h0:1<=n)(h1:n<=3652059):G8 (ofN (n+305))/\M3 (ofN (n+305))=n:=by
 have hd:∀y m t:Int,1<=m->m<=12->M3 ⟨y,m,t⟩=J0 y m t:=fun y m t a b=>(a2R a b).symm;unfold ofN oy om o4 oo o2 oh;generalize eN:n+305=N;generalize e1:N%146097=r1;generalize eq:N / 146097=q;generalize eh:min (r1 / 36524) 3=h;generalize e2:r1-h*36524=r2;generalize ef:r2 / 1461=f;generalize e3:r2%1461=r3;generalize eo:min (r3 / 365) 3=o;generalize e4:r3-o*365=r4;have b1:0<=r1/\r1<146097:=by omega
 have bh:0<=h/\h<=3:=by omega
 have b2:0<=r2/\r2<=36524/\(h<3->r2<36524):=by
  have hc:h=0∨h=1∨h=2∨h=3:=by omega
  rcases hc with rfl|rfl|rfl|rfl <;> omega
 have bf:0<=f/\f<=24:=by omega
 have b3:0<=r3/\r3<1461:=by omega
 have bo:0<=o/\o<=3:=by omega
 have b4:0<=r4/\r4<=365/\(r4=365->o=3/\r3=1460):=by
  have hc:o=0∨o=1∨o=2∨o=3:=by omega
  rcases hc with rfl|rfl|rfl|rfl <;> omega
 generalize em:(5*r4+2) / 153=m;have bm:0<=m/\m<=11:=by omega
 have hY:(400*q+100*h+4*f+o) / 4=100*q+25*h+f:=by omega
 have hY1:(400*q+100*h+4*f+o) / 100=4*q+h:=by omega
 have hY4:(400*q+100*h+4*f+o) / 400=q:=by omega
 have eN2:N=146097*q+r1:=by omega
 have er2:r2=1461*f+r3:=by omega
 have hc:∀t,365*(400*q+100*h+4*f+o)+(400*q+100*h+4*f+o) / 4-(400*q+100*h+4*f+o) / 100+(400*q+100*h+4*f+o) / 400+t-306=146097*q+36524*h+1461*f+365*o+t-306:=fun t=>by rw[hY,hY1,hY4];omega
 have hq:0<=q/\q<=25:=by omega
 have bd:1<=r4-(153*m+2) / 5+1:=by omega
 by_cases h12:12<m+3
 . rw[if_pos h12];have hm:m=10∨m=11:=by omega
   refine⟨⟨bd,?_⟩,?_⟩
   . show r4-(153*m+2) / 5+1<=E1 (400*q+100*h+4*f+o+1) (m+3-12)
     have hy:1<=400*q+100*h+4*f+o+1:=by omega
     have hy2:400*q+100*h+4*f+o+1<=9999:=by omega
     unfold E1;rw[if_neg (by omega)];rcases hm with rfl|rfl
     . simp;omega
     . simp;split
       . omega
       . rename_i hl;by_cases h5:r4=365
         . exfalso;obtain⟨o3,r60⟩:=b4.2.2 h5;apply hl;by_cases hf:f=24
           . have:h=3:=by omega
             omega
           . omega
         . omega
   . rw[hd _ _ _ (by omega) (by omega)];unfold J0;rw[if_pos (by omega),show 400*q+100*h+4*f+o+1-1=400*q+100*h+4*f+o by omega,show m+3-12+12-3=m by omega,hY,hY1,hY4];omega
 . rw[if_neg h12];refine⟨⟨bd,?_⟩,?_⟩
   . show r4-(153*m+2) / 5+1<=E1 (400*q+100*h+4*f+o) (m+3)
     have hy:1<=400*q+100*h+4*f+o:=by omega
     have hy2:400*q+100*h+4*f+o<=9999:=by omega
     have hm:m=0∨m=1∨m=2∨m=3∨m=4∨m=5∨m=6∨m=7∨m=8∨m=9:=by omega
     unfold E1;rw[if_neg (by omega)];rcases hm with rfl|rfl|rfl|rfl|rfl|rfl|rfl|rfl|rfl|rfl <;> simp <;> omega
   . rw[hd _ _ _ (by omega) (by omega)];unfold J0;rw[if_neg (by omega),show m+3-3=m by omega,hY,hY1,hY4];omega
def of_ok{n:Int}(h0:1<=n)(h1:n<=3652059):G8 (A7 n)/\M3 (A7 n)=n:=by unfold A7;rw[if_neg (by omega)];exact ofN_ok h0 h1
def of_eq{d:Dy}{n:Int}(h:G8 d)(hn:M3 d=n)(h0:1<=n)(h1:n<=3652059):d=A7 n:=by obtain⟨a,b⟩:=of_ok h0 h1;exact c4p h a (hn.trans b.symm)
def a03{d:Dy}(h:G8 d):1<=M3 d/\M3 d<=3652059:=by
 obtain⟨a0,a1⟩:=a3H h;obtain⟨y0,y1,_⟩:=h.ym;have h1:=E9 (show(1:Int)<=d.Year by omega);have h2:=E9 (show d.Year+1<=10000 by omega);have e1:v7 1=0:=by decide
 have e2:v7 10000=3652059:=by decide
 omega
def c8e{d:Dy}(h:G8 d):A7 (M3 d)=d:=(of_eq h rfl (a03 h).1 (a03 h).2).symm
def I2{d:Dy}:D6 d=true↔G8 d:=d5M
def ydS(d:Dy):Int:=if G8 d then M3 d-v7 d.Year else 0
def I7(y f:Int):Int:=v7 y+4-(wdS (v7 y+4)-f+7)%7
def wkY(n f:Int):Int:=if I7 ((A7 n).Year+1) f<=n then(A7 n).Year+1 else if n<I7 (A7 n).Year f then(A7 n).Year-1 else(A7 n).Year
def R3(n f:Int):Int×Int:=if((n<1∨3652059<n)∨f<0)∨6<f then(0,0)else(wkY n f,(n-I7 (wkY n f) f) / 7+1)
def a0g(y f:Int):Int:=if((y<1∨9999<y)∨f<0)∨6<f then 0 else(I7 (y+1) f-I7 y f) / 7
def a2u(y f:Int):v7 y+4-6<=I7 y f/\I7 y f<=v7 y+4:=by unfold I7;generalize v7 y+4=a;omega
def R4{y:Int}(h0:0<=y)(h1:y<=10000):-366<=v7 y/\v7 y<=3652059:=by
 have a0:=E9 h0;have a1:=E9 h1;have a2:v7 0=-366:=by decide
 have a3:v7 10000=3652059:=by decide
 omega
def a1k(t:Tm):Prop:=G8 t.Day/\(0<=t.Hour/\t.Hour<=23)/\(0<=t.Min/\t.Min<=59)/\(0<=t.D8/\t.D8<=59)/\¬(t.o7=true/\(((t.Hour≠0∨t.Min≠0)∨t.D8≠0)∨t.UTC=true))
instance:DecidablePred a1k:=fun t=>inferInstanceAs (Decidable (_/\_))
def p9(t:Tm):Bool:=decide (a1k t)
def A8{t:Tm}:p9 t=true↔a1k t:=d5M
def Z6(t:Tm):Int:=(M3 t.Day-1)*86400+t.Hour*3600+t.Min*60+t.D8
def b8(t:Tm):Int:=if a1k t then Z6 t else -1
def a2h{t:Tm}(h:a1k t):0<=Z6 t/\Z6 t<3652059*86400:=by obtain⟨hd,hh,hm,hs,_⟩:=h;have:=a03 hd;unfold Z6;omega
def L4(n:Int)(like:Tm):Tm:=
 if n<0∨(like.o7=true/\(like.UTC=true∨n%86400≠0))∨3652059<n / 86400+1 then⟨⟨0,0,0⟩,0,0,0,false,false⟩
 else⟨A7 (n / 86400+1),n%86400 / 3600,n%86400 / 60%60,n%86400%60,like.o7,like.UTC⟩
def tm0{a b:Int}:a.tmod b=0↔a%b=0:=by rw[<- Int.dvd_iff_tmod_eq_zero,<- Int.dvd_iff_emod_eq_zero]
def a3Q(y:Int):Int:=if y%4=0/\(y%100≠0∨y%400=0)then 366 else 365
def b7L{y m:Int}(m0:1<=m)(m1:m<=12)(h0:1<=y)(h1:y<=9999)(m2:m<12):T7 y (m+1)=T7 y m+E1 y m:=by
 rcases a6K h0 h1 m0 m1 with e|⟨e,_⟩
 . omega
 . omega
def b8M(y:Int):v7 (y+1)=v7 y+T7 y 12+31:=by
 rw[a1z];unfold T7;by_cases hl:y%4=0/\(y%100≠0∨y%400=0)
 . rw[if_pos hl,if_pos hl];simp;omega
 . rw[if_neg hl,if_neg hl];simp;omega
def d1V(y:Int):T7 y 1=0:=by unfold T7;rw[if_pos (by decide)]
open Go Go.Rx Go.Wk Go.Wl
structure Ls where
 wd:z6
 lo:Int
 hi:Int
 both:Bool
 deriving Inhabited
def dLs:Rd Ls where
 sz:=5
 rd:=fun _ _ cs x=>∃c,cs=[sv x.wd,c,.int .i64 x.lo,.int .i64 x.hi,.bool x.both]/\D7 c=true/\x.wd.length<=9223372036854775807/\InI x.lo/\InI x.hi
 len:=fun⟨_,e,_⟩=>by rw[e];rfl
 mono:=fun h _ _ _=>h
 plain:=fun⟨_,e,h,_⟩=>by rw[e];simp only[d6S,List.all_nil,h];rfl
structure Lk where
 b9:Rl
 start:Tm
 day:Int
 deriving DecidableEq,Inhabited
end Go.Re
section
namespace Go.Fo
open Go Go.Wk Go.Wl
structure Dec where
 w:z6->Nat
 pos:∀s,s≠[]->1<=w s
 le:∀s,w s<=s.length
 four:∀s,w s<=4
variable(D:Dec)
def ends(c:UInt8):Bool:=c == 10 || c == 13
end Go.Fo
end
section
namespace Go.Fo
open Go Go.Wk Go.Wl
structure Row where
 At:Int
 Text:z6
 deriving Inhabited,DecidableEq
def nl(c:UInt8):Bool:=c != 10
def hd(s:z6):z6:=s.takeWhile nl
def tl(s:z6):z6:=(s.dropWhile nl).drop 1
def c4F(s:z6):Prop:=ix s 0=32∨ix s 0=9
instance (s:z6):Decidable (c4F s):=by unfold c4F;infer_instance
def lay(e:z6)(c:UInt8):List z6->z6
 |[]=>[]
 |p::ps=>p++e++ps.flatMap (fun q=>c::q++e)
variable(D:Dec)
end Go.Fo
end
namespace Go.Fo
open Go Go.Wk Go.Wl
def c47(out:List Row)(t:z6):List Row:=out.set (out.length-1) ⟨(ix out ((out.length:Int)-1)).At,t⟩
def cur(out:List Row)(long:z6)(o:Bool):List Row:=if o=true then c47 out long else out
end Go.Fo
namespace Go.Li
open Go Go.Wk Go.Wl
structure Param where
 Name:z6
 p6:List z6
 deriving Inhabited,DecidableEq
structure K8 where
 E4:z6
 Name:z6
 Params:List Param
 Value:z6
 deriving Inhabited,DecidableEq
end Go.Li
namespace Go.Qu
open Go Go.Wk Go.Wl Go.Re Go.Li
structure E6 where
 Time:Tm
 D9:z6
 deriving DecidableEq,Inhabited
structure Alm where
 Action:z6
 S9:Int
 Extra:List K8
 deriving DecidableEq,Inhabited
structure Obv where
 Name:z6
 Start:Tm
 a8P:Int
 To:Int
 b9:List Rl
 deriving DecidableEq,Inhabited
structure V7 where
 ID:z6
 E2:List Obv
 deriving DecidableEq,Inhabited
structure Q4 where
 Start:E6
 End:List E6
 Span:List Int
 b9:List Rl
 o5:List E6
 l5:List E6
 p8:List E6
 w6:List Alm
 Extra:List K8
 deriving DecidableEq,Inhabited
structure F3 where
 Kind:z6
 UID:z6
 c9:List V7
 Main:Q4
 Over:List Q4
 Extra:List K8
 deriving DecidableEq,Inhabited
structure Ins where
 Start:Tm
 End:Tm
 l7:Tm
 Over:Bool
 deriving DecidableEq,Inhabited
def a1L(t:Tm):List Value:=[.int .i64 t.Day.Year,.int .i64 t.Day.Month,.int .i64 t.Day.Date,.int .i64 t.Hour,.int .i64 t.Min,.int .i64 t.D8,.bool t.o7,.bool t.UTC]
def Q3(t:Tm):Value:=.agg (a1L t).toArray
def okT(t:Tm):Prop:=InI t.Day.Year/\InI t.Day.Month/\InI t.Day.Date/\InI t.Hour/\InI t.Min/\InI t.D8
def prM(e:MapEntry):Value×Value:=(e.key,e.val)
def b6w(w:World)(b:Nat)(x:List (Tm×Bool)):Prop:=∃es clk,w.heap[b]?=some (.map es clk)/\(es.toList.map prM=x.map fun p=>(Q3 p.1,Value.bool p.2))/\∀p∈x,okT p.1
def d4E(b:Nat):Ob (List (Tm×Bool)) where
 is:=fun _ w x F=>F=[b]/\b6w w b x
 I3:=fun Z Z' B w w' h e hB _=>by obtain⟨hF,es,clk,hh,hp⟩:=h;refine⟨hF,es,clk,e.get (fun hm=>?_) hh,hp⟩;have h1:=hB b hm (.inl (by rw[hF];simp));have h2:=T5 hh;omega
 lt:=fun h b hb=>by obtain⟨hF,es,clk,hh,hp⟩:=h;rw[hF,d5a]at hb;subst hb;exact T5 hh
def getM:List (Tm×Bool)->Tm->Bool
 |[],_=>false
 |p::r,t=>if t=p.1 then p.2 else getM r t
def a3e:List (Tm×Bool)->Tm->Bool->List (Tm×Bool)
 |[],t,v=>[(t,v)]
 |p::r,t,v=>if t=p.1 then(t,v)::r else p::a3e r t v
end Go.Qu
namespace Go.Proofs.YtapnoejokajcoaaGreatDoor
open Go Go.Wk Go.Wl Go.Rx Go.Re Go.Li Go.Qu
def dDy:Rd Dy:=(E8.q (E8.q E8)).of fun x=>(x.Year,x.Month,x.Date)
def dTm:Rd Tm:=(dDy.q (E8.q (E8.q (E8.q (a2B.q a2B))))).of fun x=>(x.Day,x.Hour,x.Min,x.D8,x.o7,x.UTC)
def dNt:Rd Nt:=(E8.q E8).of fun x=>(x.N,x.Day)
def dRl:Rd Rl:=(E8.q (E8.q (E8.q ((p7 dTm).q ((p7 E8).q ((p7 E8).q ((p7 E8).q ((p7 E8).q ((p7 dNt).q ((p7 E8).q ((p7 E8).q ((p7 E8).q ((p7 E8).q E8))))))))))))).of fun x=>(x.l6,x.Interval,x.Count,x.e9,x.Month,x.q7,x.l9,x.j9,x.w9,x.Hour,x.Minute,x.Second,x.y6,x.v8)
def dLk:Rd Lk:=(dRl.q (dTm.q E8)).of fun x=>(x.b9,x.start,x.day)
def a8k:Rd Param:=(a0b.q (p7 a0b)).of fun x=>(x.Name,x.p6)
def b4H:Rd K8:=(a0b.q (a0b.q ((p7 a8k).q a0b))).of fun x=>(x.E4,x.Name,x.Params,x.Value)
def b0e:Rd E6:=(dTm.q a0b).of fun x=>(x.Time,x.D9)
def c04:Rd Alm:=(a0b.q (E8.q (p7 b4H))).of fun x=>(x.Action,x.S9,x.Extra)
def b9t:Rd Obv:=(a0b.q (dTm.q (E8.q (E8.q (p7 dRl))))).of fun x=>(x.Name,x.Start,x.a8P,x.To,x.b9)
def b9Z:Rd V7:=(a0b.q (p7 b9t)).of fun x=>(x.ID,x.E2)
def b7c:Rd Q4:=(b0e.q ((p7 b0e).q ((p7 E8).q ((p7 dRl).q ((p7 b0e).q ((p7 b0e).q ((p7 b0e).q ((p7 c04).q (p7 b4H))))))))).of fun x=>(x.Start,x.End,x.Span,x.b9,x.o5,x.l5,x.p8,x.w6,x.Extra)
def c6V:Rd F3:=(a0b.q (a0b.q ((p7 b9Z).q (b7c.q ((p7 b7c).q (p7 b4H)))))).of fun x=>(x.Kind,x.UID,x.c9,x.Main,x.Over,x.Extra)
def b8A:Rd Ins:=(dTm.q (dTm.q (dTm.q a2B))).of fun x=>(x.Start,x.End,x.l7,x.Over)
def d2i:Rd Unit where
 sz:=0
 rd:=fun _ _ _ _=>False
 len:=fun h=>h.elim
 mono:=fun h _ _ _=>h
 plain:=fun h=>h.elim
def c8K(_:Nat):Ob Unit where
 is:=fun _ _ _ _=>False
 I3:=fun Z Z' B w w' h _ _ _=>h
 lt:=fun h=>h.elim
def U:B8 where
 tb:=fun|3=>⟨Int,E8,inferInstance⟩|4=>⟨Bool,a2B,inferInstance⟩|5=>⟨UInt8,U7,inferInstance⟩|9=>⟨z6,a0b,inferInstance⟩|22=>⟨List V7,(p7 b9Z),inferInstance⟩|24=>⟨Dy,dDy,inferInstance⟩|26=>⟨Tm,dTm,inferInstance⟩|28=>⟨E6,b0e,inferInstance⟩|29=>⟨List E6,(p7 b0e),inferInstance⟩|30=>⟨List Int,(p7 E8),inferInstance⟩|31=>⟨List Rl,(p7 dRl),inferInstance⟩|32=>⟨List Alm,(p7 c04),inferInstance⟩|33=>⟨List K8,(p7 b4H),inferInstance⟩|35=>⟨Q4,b7c,inferInstance⟩|36=>⟨List Q4,(p7 b7c),inferInstance⟩|38=>⟨F3,c6V,inferInstance⟩|48=>⟨Ins,b8A,inferInstance⟩|61=>⟨List Tm,(p7 dTm),inferInstance⟩|62=>⟨List Nt,(p7 dNt),inferInstance⟩|64=>⟨Rl,dRl,inferInstance⟩|84=>⟨List Param,(p7 a8k),inferInstance⟩|86=>⟨K8,b4H,inferInstance⟩|90=>⟨List Obv,(p7 b9t),inferInstance⟩|92=>⟨V7,b9Z,inferInstance⟩|101=>⟨Obv,b9t,inferInstance⟩|128=>⟨List z6,(p7 a0b),inferInstance⟩|130=>⟨Param,a8k,inferInstance⟩|136=>⟨Alm,c04,inferInstance⟩|203=>⟨Lk,dLk,inferInstance⟩|240=>⟨Nt,dNt,inferInstance⟩|234=>⟨Ls,dLs,inferInstance⟩|_=>⟨Unit,d2i,⟨()⟩⟩
 oj:=fun|0=>⟨ClX Tryz.prog,obY Tryz.prog⟩|1=>⟨z6,bld 257 5⟩|2=>⟨List (Tm×Bool),d4E⟩|_=>⟨Unit,c8K⟩
def eT:N6:=⟨67,0,0,fun t=>bif Nat.beq t 205 then some 1 else none,fun t=>bif Nat.beq t 195 then some 197 else bif Nat.beq t 105 then some 107 else none,fun t=>Nat.beq t 197 || false⟩
def c0x{t S:Nat}(h:eT.wp t=some S):(t=105/\S=107)∨(t=195/\S=197):=by
 have h:(bif Nat.beq t 195 then some 197 else bif Nat.beq t 105 then some 107 else none)=some S:=h;cases hb0:Nat.beq t 195 with
 |true=>rw[hb0,d5r]at h;cases h;exact .inr (⟨d4W hb0,rfl⟩)
 |false =>
  rw[hb0,d5y]at h;cases hb1:Nat.beq t 105 with
  |true=>rw[hb1,d5r]at h;cases h;exact .inl ⟨d4W hb1,rfl⟩
  |false =>
   rw[hb1,d5y]at h;cases h
def c6x{t k:Nat}(h:eT.wr t=some k):(t=205/\k=1):=by
 have h:(bif Nat.beq t 205 then some 1 else none)=some k:=h;cases hb0:Nat.beq t 205 with
 |true=>rw[hb0,d5r]at h;cases h;exact⟨d4W hb0,rfl⟩
 |false =>
  rw[hb0,d5y]at h;cases h
def y3:TyI U eT 3 where
 sv:=fun(x:Int)=>.int .i64 x
 bk:=a6Q
 sv_ok:=b99
 bk_ok:=c6X
 hy:=fun(x:Int)=>[c6 x]
 hy_ok:=fun{_ _ _ x} h p hp=>by have h:E8.rd _ _ _ x:=h;simp only[d5a]at hp;subst hp;exact h.2
def y4:TyI U eT 4 where
 sv:=fun(x:Bool)=>I4 x
 bk:=asB
 sv_ok:=fun{_ _ _ _ x} h=>b6r (x:=x) h
 bk_ok:=c4u
def y5:TyI U eT 5 where
 sv:=fun(x:UInt8)=>.byte x
 bk:=asY
 sv_ok:=c3s
 bk_ok:=c3F
 by8:=some ⟨rfl⟩
def y9:TyI U eT 9 where
 sv:=fun(x:z6)=>.str x
 bk:=asS
 sv_ok:=c1u
 bk_ok:=c6P
def y22:TyI U eT 22 where
 sv:=fun(x:List V7)=>.sl 92 x
 bk:=fun s=>pb (a1O U 92) (leaves s)
 sv_ok:=a0Y (N:=U) (t:=92)
 bk_ok:=a13 (N:=U) (t:=92)
def c9Y:TQ U eT dDy:=(tI.q (tI.q tI)).of _ (fun y=>⟨y.1,y.2.1,y.2.2⟩) fun _=>rfl
def y24:TyI U eT 24:=TQ.y c9Y
def b0T:TQ U eT dTm:=(c9Y.q (tI.q (tI.q (tI.q (tB.q tB))))).of _ (fun y=>⟨y.1,y.2.1,y.2.2.1,y.2.2.2.1,y.2.2.2.2.1,y.2.2.2.2.2⟩) fun _=>rfl
def y26:TyI U eT 26:=TQ.y b0T
def c9L:TQ U eT b0e:=TQ.z ((b0T.q tS).of _ (fun y=>⟨y.1,y.2⟩) fun _=>rfl)
def y28:TyI U eT 28:=TQ.y c9L
def y29:TyI U eT 29 where
 sv:=fun(x:List E6)=>.sl 28 x
 bk:=fun s=>pb (a1O U 28) (leaves s)
 sv_ok:=a0Y (N:=U) (t:=28)
 bk_ok:=a13 (N:=U) (t:=28)
def y30:TyI U eT 30 where
 sv:=fun(x:List Int)=>.sl 3 x
 bk:=fun s=>pb (a1O U 3) (leaves s)
 sv_ok:=a0Y (N:=U) (t:=3)
 bk_ok:=a13 (N:=U) (t:=3)
def y31:TyI U eT 31 where
 sv:=fun(x:List Rl)=>.sl 64 x
 bk:=fun s=>pb (a1O U 64) (leaves s)
 sv_ok:=a0Y (N:=U) (t:=64)
 bk_ok:=a13 (N:=U) (t:=64)
def y32:TyI U eT 32 where
 sv:=fun(x:List Alm)=>.sl 136 x
 bk:=fun s=>pb (a1O U 136) (leaves s)
 sv_ok:=a0Y (N:=U) (t:=136)
 bk_ok:=a13 (N:=U) (t:=136)
def y33:TyI U eT 33 where
 sv:=fun(x:List K8)=>.sl 86 x
 bk:=fun s=>pb (a1O U 86) (leaves s)
 sv_ok:=a0Y (N:=U) (t:=86)
 bk_ok:=a13 (N:=U) (t:=86)
def d05:TQ U eT b7c:=TQ.z ((c9L.q ((tL 28).q ((tL 3).q ((tL 64).q ((tL 28).q ((tL 28).q ((tL 28).q ((tL 136).q (tL 86))))))))).of _ (fun y=>⟨y.1,y.2.1,y.2.2.1,y.2.2.2.1,y.2.2.2.2.1,y.2.2.2.2.2.1,y.2.2.2.2.2.2.1,y.2.2.2.2.2.2.2.1,y.2.2.2.2.2.2.2.2⟩) fun _=>rfl)
def y35:TyI U eT 35:=TQ.y d05
def y36:TyI U eT 36 where
 sv:=fun(x:List Q4)=>.sl 35 x
 bk:=fun s=>pb (a1O U 35) (leaves s)
 sv_ok:=a0Y (N:=U) (t:=35)
 bk_ok:=a13 (N:=U) (t:=35)
def c93:TQ U eT c6V:=TQ.z ((tS.q (tS.q ((tL 92).q (d05.q ((tL 35).q (tL 86)))))).of _ (fun y=>⟨y.1,y.2.1,y.2.2.1,y.2.2.2.1,y.2.2.2.2.1,y.2.2.2.2.2⟩) fun _=>rfl)
def y38:TyI U eT 38:=TQ.y c93
def d4A:TQ U eT b8A:=TQ.z ((b0T.q (b0T.q (b0T.q tB))).of _ (fun y=>⟨y.1,y.2.1,y.2.2.1,y.2.2.2⟩) fun _=>rfl)
def y48:TyI U eT 48:=TQ.y d4A
def y61:TyI U eT 61 where
 sv:=fun(x:List Tm)=>.sl 26 x
 bk:=fun s=>pb (a1O U 26) (leaves s)
 sv_ok:=a0Y (N:=U) (t:=26)
 bk_ok:=a13 (N:=U) (t:=26)
def y62:TyI U eT 62 where
 sv:=fun(x:List Nt)=>.sl 240 x
 bk:=fun s=>pb (a1O U 240) (leaves s)
 sv_ok:=a0Y (N:=U) (t:=240)
 bk_ok:=a13 (N:=U) (t:=240)
def d0N:TQ U eT dRl:=(tI.q (tI.q (tI.q ((tL 26).q ((tL 3).q ((tL 3).q ((tL 3).q ((tL 3).q ((tL 240).q ((tL 3).q ((tL 3).q ((tL 3).q ((tL 3).q tI))))))))))))).of _ (fun y=>⟨y.1,y.2.1,y.2.2.1,y.2.2.2.1,y.2.2.2.2.1,y.2.2.2.2.2.1,y.2.2.2.2.2.2.1,y.2.2.2.2.2.2.2.1,y.2.2.2.2.2.2.2.2.1,y.2.2.2.2.2.2.2.2.2.1,y.2.2.2.2.2.2.2.2.2.2.1,y.2.2.2.2.2.2.2.2.2.2.2.1,y.2.2.2.2.2.2.2.2.2.2.2.2.1,y.2.2.2.2.2.2.2.2.2.2.2.2.2⟩) fun _=>rfl
def y64:TyI U eT 64:=TQ.y d0N
def y84:TyI U eT 84 where
 sv:=fun(x:List Param)=>.sl 130 x
 bk:=fun s=>pb (a1O U 130) (leaves s)
 sv_ok:=a0Y (N:=U) (t:=130)
 bk_ok:=a13 (N:=U) (t:=130)
def d3q:TQ U eT b4H:=(tS.q (tS.q ((tL 130).q tS))).of _ (fun y=>⟨y.1,y.2.1,y.2.2.1,y.2.2.2⟩) fun _=>rfl
def y86:TyI U eT 86:=TQ.y d3q
def y90:TyI U eT 90 where
 sv:=fun(x:List Obv)=>.sl 101 x
 bk:=fun s=>pb (a1O U 101) (leaves s)
 sv_ok:=a0Y (N:=U) (t:=101)
 bk_ok:=a13 (N:=U) (t:=101)
def d3y:TQ U eT b9Z:=(tS.q (tL 101)).of _ (fun y=>⟨y.1,y.2⟩) fun _=>rfl
def y92:TyI U eT 92:=TQ.y d3y
def d0E:TQ U eT b9t:=TQ.z ((tS.q (b0T.q (tI.q (tI.q (tL 64))))).of _ (fun y=>⟨y.1,y.2.1,y.2.2.1,y.2.2.2.1,y.2.2.2.2⟩) fun _=>rfl)
def b7b:TyI U eT 101:=TQ.y d0E
def d4o:TyI U eT 128 where
 sv:=fun(x:List z6)=>.sl 9 x
 bk:=fun s=>pb (a1O U 9) (leaves s)
 sv_ok:=a0Y (N:=U) (t:=9)
 bk_ok:=a13 (N:=U) (t:=9)
def d1l:TQ U eT a8k:=(tS.q (tL 9)).of _ (fun y=>⟨y.1,y.2⟩) fun _=>rfl
def d3s:TyI U eT 130:=TQ.y d1l
def d2V:TQ U eT c04:=TQ.z ((tS.q (tI.q (tL 86))).of _ (fun y=>⟨y.1,y.2.1,y.2.2⟩) fun _=>rfl)
def b9r:TyI U eT 136:=TQ.y d2V
def c8L:TQ U eT dLk:=TQ.z ((d0N.q (b0T.q tI)).of _ (fun y=>⟨y.1,y.2.1,y.2.2⟩) fun _=>rfl)
def c3g:TyI U eT 203:=TQ.y c8L
def d0J:TQ U eT dNt:=(tI.q tI).of _ (fun y=>⟨y.1,y.2⟩) fun _=>rfl
def d4m:TyI U eT 240:=TQ.y d0J
def d3P:TyI U eT 234 where
 sv:=fun(x:Ls)=>.agg [.str x.wd,.un,.int .i64 x.lo,.int .i64 x.hi,I4 x.both]
 bk:=fun _=>none
 sv_ok:=fun{_ _ _ _ x} h=>by have h:dLs.rd _ _ _ x:=h;obtain⟨c,rfl,hp,h1,h2,h3⟩:=h;exact e8.cons (.str h1) rfl (e8.cons .un hp (e8.cons (.int fun _=>h2) rfl (e8.cons (.int fun _=>h3) rfl (e8.cons ClX.bl rfl e8.nil))))
 bk_ok:=fun _ h=>by cases h
def tyU:∀t,Option (TyI U eT t)
 |3=>some y3
 |4=>some y4
 |5=>some y5
 |9=>some y9
 |22=>some y22
 |24=>some y24
 |26=>some y26
 |28=>some y28
 |29=>some y29
 |30=>some y30
 |31=>some y31
 |32=>some y32
 |33=>some y33
 |35=>some y35
 |36=>some y36
 |38=>some y38
 |48=>some y48
 |61=>some y61
 |62=>some y62
 |64=>some y64
 |84=>some y84
 |86=>some y86
 |90=>some y90
 |92=>some y92
 |101=>some b7b
 |128=>some d4o
 |130=>some d3s
 |136=>some b9r
 |203=>some c3g
 |240=>some d4m
 |234=>some d3P
 |_=>none
end Go.Proofs.YtapnoejokajcoaaGreatDoor
