/- 8 texts, one behind the other. -/
import Derived.Test.YtadgfmmmdhlljaaGreatDoorK3
import Derived.Test.YtadgfmmmdhlljaaGreatDoorK1
import Derived.Test.YtadgfmmmdhlljaaGreatDoorChecked
import Derived.Shelf.Unicode.DecodeSlow
set_option linter.unusedVariables false
set_option linter.unusedSimpArgs false
set_option maxRecDepth 100000
section
namespace Go.Rx
open Go Go.Wk Go.Wl
def Vals (N : Uni) : List VK -> Type
 | []=>Unit
 | k :: r=>k.den N × Vals N r
def eqs (N : Uni) : (ks : List VK) -> Vals N ks -> List Prop -> cellsDen N Prop ks
 | [],_,ps=>cjl ps
 | _ :: r,X,ps=>fun x=>eqs N r X.2 (ps ++ [x = X.1])
structure MR (N : Uni) where
 ob : List Prop
 hy : List Prop
 r : SV N
 cells : List (SV N)
structure MC (N : Uni) where
 S : Nat
 C : List (SV N) -> List (SV N) -> Option (MR N)
def MutOK (P : Program) (N : Uni) (T : ErrT) (G : Glob) (K S : Nat) (args cells : List (SV N)) (r : MR N) : Prop :=
 ∀ (Z : Nat -> Prop) (w : World) (vs : List Value) (b : Nat) (cs : List Value),(∀ b,Z b -> b < w.heap.size) -> ¬ Z b -> G.is Z w -> Rep N T (fun _=>none) Z w (.tuple vs.toArray) (.tup args) -> Own w b S cs -> RepL N T (fun _=>none) Z w cs cells ->
  CallR P K (.pointer (some ⟨b,0,none⟩) :: vs) w (fun v w'=>∃ (Z' : Nat -> Prop) (cs' : List Value),Ext [b] w w' /\ (∀ b,Z b -> Z' b) /\ (∀ b',Z' b' -> Z b' ∨ (w.heap.size <= b' /\ b' < w'.heap.size)) /\ ¬ Z' b /\ Own w' b S cs' /\ RepL N T (fun _=>none) Z' w' cs' r.cells /\ Rep N T (fun _=>none) Z' w' v r.r /\ allP r.hy)
def inlM (E : Env) (M : Nat -> Option (MC E.N)) (inl : Inl E) : Inl E:=fun K args its lkd nx k=>match M K with
 | none=>inl K args its lkd nx k
 | some o=>(match args with
  | .ref id off :: rest=>bif Nat.beq off 0 && rest.all pureS && (E.inl K).isSome then (match lk its id with
   | some (.own S cells)=>bif Nat.beq S o.S && cells.all pureS then (match o.C rest cells with
    | some r=>cj r.ob (im r.hy (k r.r (upd1 its id (.own S r.cells)) nx))
    | none=>False) else False
   | _=>False) else False
  | _=>False)
section
variable {E : Env} {C : Ctx} {w w' : World} {ρ ρ' : Env1} {Z Z' : Nat -> Prop} {its lkd : Items E.N} {nx : Nat} {inl : Inl E}
theorem none_sub {v : Value} {s : E.SV} (h : Rep E.N E.T (fun _=>none) Z w v s) : Rep E.N E.T ρ Z w v s:=Rep.sub h (fun _ _ h=>by cases h)
theorem none_subL {cs : List Value} {ss : List E.SV} (h : RepL E.N E.T (fun _=>none) Z w cs ss) : RepL E.N E.T ρ Z w cs ss:=none_sub (s:=.agg ss) h
theorem pureL_rep {cs : List Value} {ss : List E.SV} (hp : ss.all pureS = true) (h : RepL E.N E.T ρ Z w cs ss) (ρ' : Env1) : RepL E.N E.T ρ' Z w cs ss:=by
 induction ss generalizing cs with
 | nil=>obtain rfl:=RepL.nil_inv h; exact RepL.nil
 | cons s ss ih =>
  obtain ⟨v,r,rfl,h1,hv,h2⟩:=RepL.cons_inv h
  simp only [List.all_cons,Bool.and_eq_true] at hp
  exact RepL.cons (pureS_rep hp.1 h1 ρ') hv (ih hp.2 h2)
theorem Mem.mut {j id : Nat} {i i' : Item E.N} (hm : Mem E C ρ Z w its nx) (hj : its[j]? = some (id,i)) (e : Ext (foot E.N ρ id i) w w') (hZ : ∀ b,Z b -> Z' b) (hZ' : ∀ b,Z' b -> Z b ∨ (w.heap.size <= b /\ b < w'.heap.size)) (hh : Go.Rx.holds E.N E.T ρ id Z' w' i') (hF : foot E.N ρ id i' = foot E.N ρ id i) : Mem E C ρ Z' w' (its.set j (id,i')) nx /\ Tn ρ Z w ρ Z' w':=by
 have ok:=hm.sep.ok j _ (toIts_at hj)
 have hs:=Wl.Sep.updZ hm.sep j (toIts_at hj) (t':=toIt E.N E.T ρ C.B0 id i') e hh toIt_stab (fun b hb=>by
  have hb : b ∈ foot E.N ρ id i:=by rw [<- hF]; exact hb
  have hlt:=ok.lt b hb
  refine ⟨.inl hb,by have:=e.size; omega,fun hz=>?_⟩
  rcases hZ' b hz with h | h
  . exact ok.notZ b hb h
  . omega) hZ hZ' rfl
 refine ⟨⟨?_,hm.fr,hm.ge,fun b hb=>hZ b (hm.zge b hb),fun b hb=>?_⟩,fun _ _ h=>h,fun b h _=>hZ b h,_,e,fun b hb hz=>absurd hz (ok.notZ b hb)⟩
 . have : (toIts E.N E.T ρ C.B0 its).set j (toIt E.N E.T ρ C.B0 id i') = toIts E.N E.T ρ C.B0 (its.set j (id,i')):=by simp [toIts,List.map_set]
   rw [<- this]; exact hs
 . rcases hZ' b hb with h | h
   . exact hm.zle b h
   . exact .inr (.inr (by have:=hm.sep.ext.size; omega))
theorem inlM_ok {M : Nat -> Option (MC E.N)} (hM : ∀ K o args cells r,M K = some o -> o.C args cells = some r -> allP r.ob -> MutOK E.P E.N E.T E.G K o.S args cells r) (hI : InlOK E inl) : InlOK E (inlM E M inl):=by
 intro K args its lkd nx k hv
 unfold inlM at hv
 split at hv
 . exact hI K args its lkd nx k hv
 . rename_i o ho
   split at hv
   . rename_i id off rest
     cases hb : (Nat.beq off 0 && rest.all pureS && (E.inl K).isSome) with
     | false=>rw [hb,cond_false] at hv; exact hv.elim
     | true =>
      rw [hb,cond_true] at hv
      simp only [Bool.and_eq_true] at hb
      obtain ⟨⟨h0,hp⟩,hin⟩:=hb
      have h0:=Nat.eq_of_beq_eq_true h0
      subst h0
      refine ⟨hin,fun C ρ Z w vs hm hg ha=>?_⟩
      split at hv
      . rename_i S cells hi
        cases hb : (Nat.beq S o.S && cells.all pureS) with
        | false=>rw [hb,cond_false] at hv; exact hv.elim
        | true =>
         rw [hb,cond_true] at hv
         simp only [Bool.and_eq_true] at hb
         obtain ⟨hS,hpc⟩:=hb
         have hS:=Nat.eq_of_beq_eq_true hS
         subst hS
         split at hv
         . rename_i r hr
           obtain ⟨hob,hv⟩:=cj_ob hv
           obtain ⟨j,hj,hu,_⟩:=lk_mem hi
           have hjg:=its_get (l2:=lkd) hj
           obtain ⟨L,cs,hL,hbs,hown,hrep⟩:=hm.holds hjg
           have hL : ρ id = some L:=hL
           obtain ⟨v1,vr,hvs,hv1,hvr⟩:=Rep.tup_cons ha
           have hv1' : v1 = .pointer (some ⟨L.b,0,none⟩):=by
            cases hv1 with
            | ref hL'=>rw [hL] at hL'; cases hL'; rfl
           subst hv1'
           have hF : foot E.N ρ id (.own o.S cells) = [L.b]:=by rw [foot_own hL,hbs]
           have nz : ¬ Z L.b:=(hm.sep.ok j _ (toIts_at hjg)).notZ L.b (by show L.b ∈ foot E.N ρ id (.own o.S cells); rw [hF]; simp)
           have run:=hM K o rest cells r ho hr hob Z w vr L.b cs hm.sep.zlt nz hg (pureT_rep hp hvr _) hown (pureL_rep hpc hrep _)
           rw [<- hvs] at run
           refine run.mono fun v w' ⟨Z',cs',x,hz1,hz2,_,ho',hc',hr',hy⟩=>?_
           have ⟨m1,t1⟩:=Mem.mut (i':=.own o.S r.cells) hm hjg (by rw [hF]; exact x) hz1 hz2 ⟨L,cs',hL,hbs,ho',none_subL hc'⟩ (by rw [foot_own hL,foot_own hL])
           rw [List.set_append_left _ _ (lt_get hj),<- hu] at m1
           exact ⟨ρ,Z',r.r,_,nx,m1,t1,none_sub hr',im_hy hv hy⟩
         . exact hv.elim
      . exact hv.elim
   . exact hv.elim
theorem frz0_own {j id S : Nat} {cells : List E.SV} : ∀ {vs vs' : List E.SV} {its its' : Items E.N},frz0 its vs = some (vs',its') -> its[j]? = some (id,.own S cells) -> its'[j]? = some (id,.own S cells)
 | [],vs',its,its',h,hj=>by
  simp [frz0] at h; obtain ⟨rfl,rfl⟩:=h; exact hj
 | v :: r,vs',its,its',h,hj=>by
  have other : (match frz0 its r with | some (r',its')=>some (v :: r',its') | none=>none) = some (vs',its') -> its'[j]? = some (id,.own S cells):=fun h=>by
   split at h
   . rename_i r' its1 hr
     simp only [Option.some.injEq,Prod.mk.injEq] at h
     obtain ⟨rfl,rfl⟩:=h
     exact frz0_own hr hj
   . cases h
  cases v with
  | acc id2 =>
   simp only [frz0] at h
   split at h
   . rename_i t l hi
     split at h
     . rename_i r' its1 hr
       simp only [Option.some.injEq,Prod.mk.injEq] at h
       obtain ⟨rfl,rfl⟩:=h
       obtain ⟨i,hi1,hu,_⟩:=lk_mem hi
       refine frz0_own hr ?_
       rw [hu,List.getElem?_set_ne (fun e=>by subst e; rw [hi1] at hj; cases hj)]
       exact hj
     . cases h
   . split at h
     . rename_i r' its1 hr
       simp only [Option.some.injEq,Prod.mk.injEq] at h
       obtain ⟨rfl,rfl⟩:=h
       exact frz0_own hr hj
     . cases h
   . cases h
  | ref=>cases h
  | el=>cases h
  | sub=>cases h
  | clo=>cases h
  | agg=>cases h
  | tup=>cases h
  | _=>exact other h
theorem frz1_own {j id S : Nat} {cells : List E.SV} {v v' : E.SV} {its its' : Items E.N} (h : frz1 its v = some (v',its')) (hj : its[j]? = some (id,.own S cells)) : its'[j]? = some (id,.own S cells):=by
 have other : (match frz0 its [v] with | some ([v'],its')=>some (v',its') | _=>none) = some (v',its') -> its'[j]? = some (id,.own S cells):=fun h=>by
  split at h
  . rename_i u its1 hf
    simp only [Option.some.injEq,Prod.mk.injEq] at h
    obtain ⟨rfl,rfl⟩:=h
    exact frz0_own hf hj
  . cases h
 cases v with
 | agg vs =>
  simp only [frz1] at h
  split at h
  . rename_i vs' its1 hf
    simp only [Option.some.injEq,Prod.mk.injEq] at h
    obtain ⟨rfl,rfl⟩:=h
    exact frz0_own hf hj
  . cases h
 | _=>exact other h
theorem frz_own {j id S : Nat} {cells : List E.SV} : ∀ {vs vs' : List E.SV} {its its' : Items E.N},frz its vs = some (vs',its') -> its[j]? = some (id,.own S cells) -> its'[j]? = some (id,.own S cells)
 | [],vs',its,its',h,hj=>by
  simp [frz] at h; obtain ⟨rfl,rfl⟩:=h; exact hj
 | v :: r,vs',its,its',h,hj=>by
  unfold frz at h
  split at h
  . rename_i v' its1 h1
    split at h
    . rename_i r' its2 h2
      simp only [Option.some.injEq,Prod.mk.injEq] at h
      obtain ⟨rfl,rfl⟩:=h
      exact frz_own h2 (frz1_own h1 hj)
    . cases h
  . cases h
def ansV (n : Nat) (s : E.SV) : Option (List E.SV):=match n with
 | 1=>some [s]
 | _=>(match s with | .tup vs=>some vs | _=>none)
def tellA {N : Uni} (n : Nat) (vs : List (SV N)) : SV N:=match n with
 | 1=>vs.headD .un
 | _=>.tup vs
def resM (E : Env) (S m n : Nat) (ks : List VK) (Q : cellsDen E.N Prop ks) : E.SV -> Items E.N -> Nat -> Prop:=fun s its _=>match lk its 0,ansV n s with
 | some (.own S' cells),some ars=>bif Nat.beq S' S && Nat.beq cells.length m then (match frz its (cells ++ ars) with
  | some (vs,its')=>(match rbCells E its' ks vs Q with | some p=>p | none=>False)
  | none=>False) else False
 | _,_=>False
def tell (E : Env) : (ks : List VK) -> Vals E.N ks -> List E.SV
 | [],_=>[]
 | k :: r,X=>rvOf E 0 k X.1 :: tell E r X.2
theorem tell_len : ∀ (ks : List VK) (X : Vals E.N ks),(tell E ks X).length = ks.length
 | [],_=>rfl
 | _ :: r,X=>by simp [tell,tell_len r X.2]
def noAcc : VK -> Bool
 | .acc _=>false
 | _=>true
theorem cjl_app : ∀ {ps qs : List Prop},cjl (ps ++ qs) -> cjl ps /\ cjl qs
 | [],_,h=>⟨trivial,h⟩
 | [p],[],h=>⟨h,trivial⟩
 | [p],q :: r,h=>⟨h.1,h.2⟩
 | p :: q :: r,qs,h=>by
  have:=cjl_app (ps:=q :: r) h.2
  exact ⟨⟨h.1,this.1⟩,this.2⟩
theorem eqs_ok (its : Items E.N) : ∀ (ks : List VK) (vs : List E.SV) (X : Vals E.N ks) (ps : List Prop) (p : Prop),rbCells E its ks vs (eqs E.N ks X ps) = some p -> p -> cjl ps /\ vs.length = ks.length /\
  ∀ {ρ : Env1} {Z : Nat -> Prop} {w : World} {C : Ctx} {nx : Nat} {us : List Value},Mem E C ρ Z w its nx -> ks.all noAcc = true -> (us.length = vs.length /\ ∀ (i : Nat) (u : Value) (s : E.SV),us[i]? = some u -> vs[i]? = some s -> Rep E.N E.T ρ Z w u s) -> ∀ (i : Nat) (u : Value) (s : E.SV),us[i]? = some u -> (tell E ks X)[i]? = some s -> Rep E.N E.T (fun _=>none) Z w u s
 | [],[],X,ps,p,h,hp=>by
  have h:=Option.some.inj (show some (cjl ps) = some p from h)
  subst h
  exact ⟨hp,rfl,fun _ _ _ i u s _ hs=>by simp [tell] at hs⟩
 | [],_ :: _,X,ps,p,h,hp=>by cases h
 | _ :: _,[],X,ps,p,h,hp=>by cases h
 | k :: ks,v :: vs,X,ps,p,h,hp=>by
  simp only [rbCells] at h
  split at h
  . rename_i x hx
    obtain ⟨h1,h2,h3⟩:=eqs_ok its ks vs X.2 (ps ++ [x = X.1]) p h hp
    obtain ⟨h4,h5⟩:=cjl_app h1
    have h5 : x = X.1:=h5
    subst h5
    refine ⟨h4,by simp [h2],fun {ρ Z w C nx us} hm hk hlr i u s hu hs=>?_⟩
    obtain ⟨hl,hr⟩:=hlr
    simp only [List.all_cons,Bool.and_eq_true] at hk
    cases us with
    | nil=>simp at hu
    | cons u0 us =>
     cases i with
     | zero =>
      simp only [List.getElem?_cons_zero,Option.some.injEq,tell] at hu hs
      subst hu; subst hs
      have r0:=hr 0 u0 v rfl rfl
      obtain ⟨ρ3,os',_,f,_,r1,_⟩:=rb1_ok (lkd:=[]) (n2:=0) (ρ2:=fun _=>none) (os:=[]) (new:=[]) (by simpa using hm) r0 hx (fun _ _=>rfl) .nil
      have e2 : (fl1 E 0 k X.1).2.2 = 0:=by cases k <;> first | rfl | (cases hk.1)
      have e3 : ρ3 = fun _=>none:=by funext i; exact f i (by omega)
      rw [e3] at r1; exact r1
     | succ i =>
      exact h3 (us:=us) hm hk.2 ⟨by simpa using hl,fun i u s hu hs=>hr (i + 1) u s hu hs⟩ i u s hu hs
  . cases h
theorem RepL.of_get {cs : List Value} {ss : List E.SV} (hl : cs.length = ss.length) (hp : cs.all plain1 = true) (h : ∀ (i : Nat) (u : Value) (s : E.SV),cs[i]? = some u -> ss[i]? = some s -> Rep E.N E.T ρ Z w u s) : RepL E.N E.T ρ Z w cs ss:=by
 induction ss generalizing cs with
 | nil =>
  have : cs = []:=List.eq_nil_of_length_eq_zero (by simpa using hl)
  subst this; exact RepL.nil
 | cons s ss ih =>
  cases cs with
  | nil=>simp at hl
  | cons c cs =>
   simp only [List.all_cons,Bool.and_eq_true] at hp
   exact RepL.cons (h 0 c s rfl rfl) hp.1 (ih (by simpa using hl) hp.2 fun i u s hu hs=>h (i + 1) u s hu hs)
theorem RepT.of_get {cs : List Value} {ss : List E.SV} (hl : cs.length = ss.length) (h : ∀ (i : Nat) (u : Value) (s : E.SV),cs[i]? = some u -> ss[i]? = some s -> Rep E.N E.T ρ Z w u s) : Rep E.N E.T ρ Z w (.tuple cs.toArray) (.tup ss):=by
 induction ss generalizing cs with
 | nil =>
  have : cs = []:=List.eq_nil_of_length_eq_zero (by simpa using hl)
  subst this; exact .tup0
 | cons s ss ih =>
  cases cs with
  | nil=>simp at hl
  | cons c cs=>exact .tup1 (h 0 c s rfl rfl) (ih (by simpa using hl) fun i u s hu hs=>h (i + 1) u s hu hs)
theorem RepT.get {cs : List Value} {ss : List E.SV} (h : Rep E.N E.T ρ Z w (.tuple cs.toArray) (.tup ss)) : cs.length = ss.length /\ ∀ (i : Nat) (u : Value) (s : E.SV),cs[i]? = some u -> ss[i]? = some s -> Rep E.N E.T ρ Z w u s:=by
 induction ss generalizing cs with
 | nil =>
  generalize e : Value.tuple cs.toArray = u at h
  cases h with | tup0 => have : cs = [] := by simpa using e
                         subst this; exact ⟨rfl,fun i u s _ hs=>by simp at hs⟩
 | cons s ss ih =>
  obtain ⟨v,r,rfl,h1,h2⟩:=Rep.tup_cons h
  obtain ⟨i1,i2⟩:=ih h2
  refine ⟨by simp [i1],fun i u s' hu hs=>?_⟩
  cases i with
  | zero=>simp at hu hs; subst hu; subst hs; exact h1
  | succ i=>exact i2 i u s' hu hs
theorem ansV_get {n : Nat} {s : E.SV} {ars : List E.SV} {v : Value} (h : ansV n s = some ars) (r : Rep E.N E.T ρ Z w v s) : ∃ us : List Value,us.length = ars.length /\ (∀ (i : Nat) (u : Value) (s : E.SV),us[i]? = some u -> ars[i]? = some s -> Rep E.N E.T ρ Z w u s) /\
  ∀ {ρ' : Env1} {Z' : Nat -> Prop} {w' : World} {ss : List E.SV},ss.length = ars.length -> (∀ (i : Nat) (u : Value) (s : E.SV),us[i]? = some u -> ss[i]? = some s -> Rep E.N E.T ρ' Z' w' u s) -> Rep E.N E.T ρ' Z' w' v (tellA n ss):=by
 by_cases e : n = 1
 . subst e
   simp only [ansV,Option.some.injEq] at h
   subst h
   refine ⟨[v],rfl,fun i u s' hu hs=>?_,fun {ρ' Z' w' ss} hl hr=>?_⟩
   . cases i with
     | zero=>simp at hu hs; subst hu; subst hs; exact r
     | succ i=>simp at hu
   . match ss,hl with
     | [s'],_=>exact hr 0 v s' rfl rfl
 . have h' : ∃ vs,s = .tup vs /\ ars = vs:=by
     unfold ansV at h
     split at h
     . exact absurd rfl e
     . split at h
       . cases h; exact ⟨_,rfl,rfl⟩
       . cases h
   obtain ⟨vs,rfl,rfl⟩:=h'
   obtain ⟨cs,rfl⟩:=Rep.tup_inv r
   obtain ⟨g1,g2⟩:=RepT.get r
   refine ⟨cs,g1,g2,fun {ρ' Z' w' ss} hl hr=>?_⟩
   have : tellA n ss = .tup ss:=by
    unfold tellA
    split
    . exact absurd rfl e
    . rfl
   rw [this]
   exact RepT.of_get (by rw [g1,hl]) hr
theorem mut_ok (hE : EnvOK E) (hI : InlOK E inl) {K S m n : Nat} {fn : Func} {an : Ann} (hf : E.P.funcs[K]? = some fn) {ks : List VK} {X : Vals E.N ks} {args cells : List E.SV} {ob : List Prop} (hk : ks.all noAcc = true)
  (hv : vcFun inl an fn (.ref 0 0 :: args) [(0,.own S cells)] [] 1 (resM E S m n ks (eqs E.N ks X []))) : MutOK E.P E.N E.T E.G K S args cells ⟨ob,[],tellA n ((tell E ks X).drop m),(tell E ks X).take m⟩:=by
 intro Z w vs b cs hzl hzb hg ha hown hcells
 let ρ0 : Env1:=rset (fun _=>none) 0 ⟨b,none,0,0,[b]⟩
 have hρ0 : ρ0 0 = some ⟨b,none,0,0,[b]⟩:=rset_self
 have hlt : b < w.heap.size:=hown.lt
 have hm : Mem E ⟨ρ0,Z,w,[b],w⟩ ρ0 Z w ([(0,.own S cells)] ++ []) 1:=by
  refine ⟨⟨Ext.refl _ _,hzl,fun k t hk=>?_,fun j k s t hj hk hne=>?_⟩,fun i hi=>by show rset _ _ _ _ = none; unfold rset; rw [if_neg (by omega)],fun _ _ h=>h,fun _ h=>h,fun _ h=>.inl h⟩
  . cases k with
    | succ k=>simp [toIts] at hk
    | zero =>
     simp [toIts] at hk
     subst hk
     have hF : foot E.N ρ0 0 (.own S cells) = [b]:=foot_own hρ0
     refine ⟨⟨_,cs,hρ0,rfl,hown,none_subL hcells⟩,toIt_stab,fun x hx=>?_,fun x hx=>?_,fun x hx=>?_,fun x hx=>hx⟩
     all_goals
      have hx : x ∈ foot E.N ρ0 0 (.own S cells):=hx
      rw [hF] at hx
     . rw [List.mem_singleton.1 hx]; exact hlt
     . rw [List.mem_singleton.1 hx]; exact hzb
     . exact .inl hx
  . simp [toIts] at hj hk
    rcases j with _ | j <;> rcases k with _ | k <;> simp at hj hk
    exact absurd rfl hne
 have ha' : Rep E.N E.T ρ0 Z w (.tuple (Value.pointer (some ⟨b,0,none⟩) :: vs).toArray) (.tup (.ref 0 0 :: args)):=.tup1 (.ref hρ0) (none_sub ha)
 refine (vcFun_ok hE hI hf hv hm hg ha').mono fun v w' ⟨ρ',Z',s,its',nx',hm',ht,hr,hpost⟩=>?_
 rw [List.append_nil] at hm'
 unfold resM at hpost
 split at hpost
 . rename_i S' cells' ars hl has
   cases hb : (Nat.beq S' S && Nat.beq cells'.length m) with
   | false=>rw [hb,cond_false] at hpost; exact hpost.elim
   | true =>
    rw [hb,cond_true] at hpost
    simp only [Bool.and_eq_true] at hb
    obtain ⟨hS,hmm⟩:=hb
    have hS:=Nat.eq_of_beq_eq_true hS
    have hmm:=Nat.eq_of_beq_eq_true hmm
    subst hS hmm
    split at hpost
    . rename_i vs' its2 hfz
      split at hpost
      . rename_i p hrb
        obtain ⟨us,u1,u2,u3⟩:=ansV_get has hr
        obtain ⟨j,hj,_⟩:=lk_mem hl
        obtain ⟨L,cs',hL,hbs,hown',hrep'⟩:=hm'.holds hj
        have hL : ρ' 0 = some L:=hL
        have hLb : L = ⟨b,none,0,0,[b]⟩:=by have:=hm'.ge 0 _ hρ0; rw [hL] at this; cases this; rfl
        subst hLb
        obtain ⟨Z2,m2,t2,he⟩:=frz_ok (lkd:=[]) (by simpa using hm') hfz
        rw [List.append_nil] at m2
        have hcl:=hrep'.len
        obtain ⟨_,hlen,hget⟩:=eqs_ok its2 ks vs' X [] p hrb hpost
        have hvl : vs'.length = (cells' ++ ars).length:=he.1
        have all : (cs' ++ us).length = vs'.length /\ ∀ (i : Nat) (u : Value) (s : E.SV),(cs' ++ us)[i]? = some u -> vs'[i]? = some s -> Rep E.N E.T ρ' Z2 w' u s:=by
         refine ⟨by rw [hvl,List.length_append,List.length_append,hcl,u1],fun i u s' hu hs=>?_⟩
         have hil : i < (cells' ++ ars).length:=by rw [<- hvl]; exact lt_get hs
         obtain ⟨s0,hs0⟩ : ∃ s0,(cells' ++ ars)[i]? = some s0:=⟨_,List.getElem?_eq_getElem hil⟩
         refine he.2 i s0 s' hs0 hs u ?_
         by_cases hi : i < cells'.length
         . rw [List.getElem?_append_left hi] at hs0
           rw [List.getElem?_append_left (by omega)] at hu
           obtain ⟨u',hu',hr',_⟩:=hrep'.get i s0 hs0
           rw [hu] at hu'; cases hu'; exact hr'
         . rw [List.getElem?_append_right (by omega)] at hs0 hu
           rw [hcl] at hu
           exact u2 _ u s0 hu hs0
        have fin:=hget m2 hk all
        have htl:=tell_len (E:=E) ks X
        have hkl : ks.length = cells'.length + ars.length:=by rw [<- hlen,hvl,List.length_append]
        have hz3 : ∀ b',Z2 b' -> Z b' ∨ (w.heap.size <= b' /\ b' < w'.heap.size):=fun b' hb'=>by
         have h1:=m2.sep.zlt b' hb'
         rcases m2.zle b' hb' with h | h | h
         . exact .inl h
         . simp at h; subst h
           exfalso
           have:=(m2.sep.ok j _ (toIts_at (frz_own hfz hj))).notZ b' (by show b' ∈ foot E.N ρ' 0 (.own S' cells'); rw [foot_own hL]; simp)
           exact this hb'
         . exact .inr ⟨h,h1⟩
        refine ⟨Z2,cs',by simpa using m2.sep.ext,m2.zge,hz3,fun hb'=>?_,hown',?_,?_,trivial⟩
        . rcases hz3 b hb' with h | h
          . exact hzb h
          . omega
        . refine RepL.of_get (by rw [List.length_take,htl,hcl]; omega) hrep'.plain fun i u s' hu hs=>?_
          have hi : i < cells'.length:=by rw [<- hcl]; exact lt_get hu
          rw [List.getElem?_take_of_lt hi] at hs
          exact fin i u s' (by rw [List.getElem?_append_left (by omega)]; exact hu) hs
        . refine u3 (by rw [List.length_drop,htl]; omega) fun i u s' hu hs=>?_
          rw [List.getElem?_drop] at hs
          exact fin (cells'.length + i) u s' (by rw [List.getElem?_append_right (by omega),hcl]; simpa using hu) hs
      . exact hpost.elim
    . exact hpost.elim
 . exact hpost.elim
def resZ (E : Env) (n : Nat) (ks : List VK) (Q : cellsDen E.N Prop ks) : E.SV -> Items E.N -> Nat -> Prop:=fun s its _=>match ansV n s with
 | some ars=>(match frz its ars with
  | some (vs,its')=>(match rbCells E its' ks vs Q with | some p=>p | none=>False)
  | none=>False)
 | none=>False
theorem conZ (hE : EnvOK E) (hI : InlOK E inl) {K n : Nat} {fn : Func} {an : Ann} (hf : E.P.funcs[K]? = some fn) {ks : List VK} {X : Vals E.N ks} {args : List E.SV} {ob : List Prop} (hk : ks.all noAcc = true) (hp : args.all pureS = true)
  (hv : vcFun inl an fn args [] [] 0 (resZ E n ks (eqs E.N ks X []))) : ConOK E.P E.N E.T E.G K args nx ⟨ob,[],tellA n (tell E ks X),[]⟩ :=
 ⟨fun ρ Z w vs hfr hz hg ha=>(vcFun_ok (C:=ctx0 (fun _=>none) Z w) hE hI hf hv (mem0 (fun _ _=>rfl) hz) hg (pureT_rep hp ha _)).mono fun v w' h=>by
  obtain ⟨ρ',Z',s,its',nx',hx,hm,ht,hr,hk'⟩:=h.pure
  unfold resZ at hk'
  split at hk'
  . rename_i ars has
    split at hk'
    . rename_i vs' its2 hfz
      split at hk'
      . rename_i p hrb
        obtain ⟨us,u1,u2,u3⟩:=ansV_get has hr
        obtain ⟨Z2,m2,t2,he⟩:=frz_ok (lkd:=[]) (by simpa using hm) hfz
        rw [List.append_nil] at m2
        obtain ⟨_,hlen,hget⟩:=eqs_ok its2 ks vs' X [] p hrb hk'
        have hvl : vs'.length = ars.length:=he.1
        have all : us.length = vs'.length /\ ∀ (i : Nat) (u : Value) (s : E.SV),us[i]? = some u -> vs'[i]? = some s -> Rep E.N E.T ρ' Z2 w' u s:=by
         refine ⟨by rw [hvl,u1],fun i u s' hu hs=>?_⟩
         have hil : i < ars.length:=by rw [<- hvl]; exact lt_get hs
         exact he.2 i _ s' (List.getElem?_eq_getElem hil) hs u (u2 i u _ hu (List.getElem?_eq_getElem hil))
        have fin:=hget m2 hk all
        refine ⟨ρ,Z2,fun _ _ h=>h,fun i hi=>hfr i (by simpa using hi),m2.zge,fun b hb=>?_,none_sub (u3 (by rw [tell_len,<- hlen,hvl]) fun i u s' hu hs=>fin i u s' hu hs),?_,trivial⟩
        . rcases m2.zle b hb with h | h | h
          . exact .inl h
          . cases h
          . exact .inr h
        . exact ⟨m2.sep.ext,m2.sep.zlt,fun k t h=>by simp [toIts,number] at h,fun j k s t h=>by simp [toIts,number] at h⟩
      . exact hk'.elim
    . exact hk'.elim
  . exact hk'.elim⟩
def inlMN (E : Env) (M : Nat -> Option (MC E.N)) (an : Nat -> Ann) : Nat -> Inl E
 | 0=>inlM E M (fun _ _ _ _ _ _=>False)
 | n + 1=>inlM E M (fun K args its lkd nx k=>match E.inl K with | some fn=>vcFun (inlMN E M an n) (an K) fn args its lkd nx k | none=>False)
theorem inlMN_ok (hE : EnvOK E) {M : Nat -> Option (MC E.N)} (hM : ∀ K o args cells r,M K = some o -> o.C args cells = some r -> allP r.ob -> MutOK E.P E.N E.T E.G K o.S args cells r) (an : Nat -> Ann) : ∀ m,InlOK E (inlMN E M an m)
 | 0=>inlM_ok hM fun _ _ _ _ _ _ h=>h.elim
 | m + 1=>inlM_ok hM fun K args its lkd nx k h=>by
  have h : (match E.inl K with | some fn=>vcFun (inlMN E M an m) (an K) fn args its lkd nx k | none=>False):=h
  split at h
  . rename_i fn hf
    exact ⟨by rw [hf]; rfl,fun C ρ Z w vs hm hg ha=>vcFun_ok hE (inlMN_ok hE hM an m) (hE.inl K fn hf) h hm hg ha⟩
  . exact h.elim
def noM {N : Uni} : Nat -> Option (MC N):=fun _=>none
theorem noM_ok {P : Program} {N : Uni} {T : ErrT} {G : Glob} : ∀ K o args cells r,(noM : Nat -> Option (MC N)) K = some o -> o.C args cells = some r -> allP r.ob -> MutOK P N T G K o.S args cells r:=fun _ _ _ _ _ h=>by cases h
theorem addM_ok {P : Program} {N : Uni} {T : ErrT} {G : Glob} {M : Nat -> Option (MC N)} {K : Nat} {o : MC N} (h : ∀ args cells r,o.C args cells = some r -> allP r.ob -> MutOK P N T G K o.S args cells r) (hM : ∀ K o args cells r,M K = some o -> o.C args cells = some r -> allP r.ob -> MutOK P N T G K o.S args cells r) : ∀ K' o' args cells r,addF K o M K' = some o' -> o'.C args cells = some r -> allP r.ob -> MutOK P N T G K' o'.S args cells r:=fun K' o' args cells r e hr ho=>by
 rcases addF_inv e with ⟨e1,e2⟩ | e
 . subst e1; subst e2; exact h args cells r hr ho
 . exact hM K' o' args cells r e hr ho
theorem LendOK.conv {K : Nat} {args args' : List E.SV} {c : CR E.N} (h : LendOK E K args' c) (ha : ∀ (D : Nat -> Prop) (w : World) (vs : List Value),Rep E.N E.T (fun _=>none) D w (.tuple vs.toArray) (.tup args) -> Rep E.N E.T (fun _=>none) D w (.tuple vs.toArray) (.tup args')) : LendOK E K args c :=
 fun D w vs hD hg hr=>h D w vs hD hg (ha D w vs hr)
def boolOf {N : Uni} : SV N -> Option Bool
 | .tt=>some true
 | .ff=>some false
 | .bl p d=>some (@decide p d)
 | _=>none
theorem boolOf_rep {s : E.SV} {b : Bool} {v : Value} (h : boolOf s = some b) (r : Rep E.N E.T ρ Z w v s) : Rep E.N E.T ρ Z w v (blB b):=by
 have hb : ∀ y : Bool,Value.bool y = .bool (@decide (y = true) inferInstance):=fun y=>by cases y <;> rfl
 cases r with
 | tt=>cases h; rw [hb true]; exact .bl
 | ff=>cases h; rw [hb false]; exact .bl
 | @bl p d=>cases h; rw [hb (@decide p d)]; exact .bl
 | _=>cases h
end
end Go.Rx
end
section
namespace Go.Fo
open Go Go.Wk Go.Wl
structure Dec where
 w : Str -> Nat
 pos : ∀ s,s ≠ [] -> 1 <= w s
 le : ∀ s,w s <= s.length
 four : ∀ s,w s <= 4
variable (D : Dec)
theorem Dec.drop_lt {s : Str} (h : s ≠ []) : (s.drop (D.w s)).length < s.length:=by
 have:=D.pos s h; have:=D.le s
 rw [List.length_drop]; omega
theorem Dec.take_len (s : Str) : (s.take (D.w s)).length = D.w s:=by
 rw [List.length_take]; exact Nat.min_eq_left (D.le s)
def rowGo (left : Int) (row : Str) : Str :=
 if h : row = [] then [13,10]
 else if left < D.w row then [13,10,32] ++ row.take (D.w row) ++ rowGo (74 - D.w row) (row.drop (D.w row))
 else row.take (D.w row) ++ rowGo (left - D.w row) (row.drop (D.w row))
termination_by row.length
decreasing_by all_goals exact D.drop_lt h
def linesG (cur : Str) (row : Str) : List Str :=
 if h : row = [] then [cur]
 else if 75 < (cur.length : Int) + D.w row then cur :: linesG (32 :: row.take (D.w row)) (row.drop (D.w row))
 else linesG (cur ++ row.take (D.w row)) (row.drop (D.w row))
termination_by row.length
decreasing_by all_goals exact D.drop_lt h
def cat (l : List Str) : Str:=l.flatMap (· ++ [13,10])
theorem cat_cons (a : Str) (l : List Str) : cat (a :: l) = a ++ [13,10] ++ cat l:=rfl
theorem cat_app (a b : List Str) : cat (a ++ b) = cat a ++ cat b:=by simp [cat]
theorem rowGo_nil (left : Int) : rowGo D left [] = [13,10]:=by rw [rowGo]; simp
theorem rowGo_new {left : Int} {row : Str} (h : row ≠ []) (hl : left < D.w row) : rowGo D left row = [13,10,32] ++ row.take (D.w row) ++ rowGo D (74 - D.w row) (row.drop (D.w row)):=by rw [rowGo,dif_neg h,if_pos hl]
theorem rowGo_on {left : Int} {row : Str} (h : row ≠ []) (hl : ¬ left < D.w row) : rowGo D left row = row.take (D.w row) ++ rowGo D (left - D.w row) (row.drop (D.w row)):=by rw [rowGo,dif_neg h,if_neg hl]
theorem linesG_nil (cur : Str) : linesG D cur [] = [cur]:=by rw [linesG]; simp
theorem linesG_new {cur row : Str} (h : row ≠ []) (hl : 75 < (cur.length : Int) + D.w row) : linesG D cur row = cur :: linesG D (32 :: row.take (D.w row)) (row.drop (D.w row)):=by rw [linesG,dif_neg h,if_pos hl]
theorem linesG_on {cur row : Str} (h : row ≠ []) (hl : ¬ 75 < (cur.length : Int) + D.w row) : linesG D cur row = linesG D (cur ++ row.take (D.w row)) (row.drop (D.w row)):=by rw [linesG,dif_neg h,if_neg hl]
theorem cat_lines : ∀ (n : Nat) (cur row : Str),row.length <= n -> cat (linesG D cur row) = cur ++ rowGo D (75 - cur.length) row
 | n,cur,row,hn=>by
  by_cases h : row = []
  . subst h; rw [linesG_nil,rowGo_nil]; simp [cat]
  . have hd:=D.drop_lt h
    cases n with
    | zero=>omega
    | succ n =>
     by_cases hl : 75 < (cur.length : Int) + D.w row
     . rw [linesG_new D h hl,rowGo_new D h (by omega),cat_cons,cat_lines n _ _ (by omega)]
       have e : (75 : Int) - ((32 :: row.take (D.w row)).length : Nat) = 74 - D.w row:=by rw [List.length_cons,D.take_len]; omega
       rw [e]; simp
     . rw [linesG_on D h hl,rowGo_on D h (by omega),cat_lines n _ _ (by omega)]
       have e : (75 : Int) - ((cur ++ row.take (D.w row)).length : Nat) = 75 - cur.length - D.w row:=by rw [List.length_append,D.take_len]; omega
       rw [e]; simp
theorem cat_row (row : Str) : cat (linesG D [] row) = rowGo D 75 row:=by
 have:=cat_lines D row.length [] row (Nat.le_refl _)
 simpa using this
def ends (c : UInt8) : Bool:=c == 10 || c == 13
def rMay (s : Str) : Int:=if 5000 < s.length then 4 else if s.any ends = true then 11 else if s = [] ∨ ix s 0 = 32 ∨ ix s 0 = 9 then 11 else 0
theorem rMay_cases (s : Str) : rMay s = 0 ∨ rMay s = 4 ∨ rMay s = 11:=by
 unfold rMay; split
 . simp
 . split
   . simp
   . split <;> simp
theorem rMay_ok {s : Str} (h : rMay s = 0) : s.length <= 5000 /\ s ≠ [] /\ ix s 0 ≠ 32 /\ ix s 0 ≠ 9 /\ ∀ c ∈ s,c ≠ 10 /\ c ≠ 13:=by
 unfold rMay at h
 split at h
 . cases h
 . split at h
   . cases h
   . rename_i h1 h2
     split at h
     . cases h
     . rename_i h3
       refine ⟨by omega,fun e=>h3 (.inl e),fun e=>h3 (.inr (.inl e)),fun e=>h3 (.inr (.inr e)),fun c hc=>⟨fun e=>h2 (List.any_eq_true.2 ⟨c,hc,by subst e; rfl⟩),fun e=>h2 (List.any_eq_true.2 ⟨c,hc,by subst e; rfl⟩)⟩⟩
def foldG (b : Str) (i : Int) : List Str -> Str × Int × Int
 | []=>(b,0,0)
 | r :: rs=>if rMay r = 0 then foldG (b ++ rowGo D 75 r) (i + 1) rs else ([],rMay r,i + 1)
def foldS (l : List Str) : Str × Int × Int:=foldG D [] 0 l
theorem foldG_ok {b : Str} {i : Int} {l : List Str} (h : ∀ r ∈ l,rMay r = 0) : foldG D b i l = (b ++ l.flatMap (rowGo D 75),0,0):=by
 induction l generalizing b i with
 | nil=>simp [foldG]
 | cons r rs ih =>
  rw [foldG,if_pos (h r (by simp)),ih (fun x hx=>h x (by simp [hx]))]
  simp
end Go.Fo
end
section
namespace Go.Fo
open Go Go.Wk Go.Wl
structure Row where
 At : Int
 Text : Str
 deriving Inhabited,DecidableEq
def trimR (l : Str) : Str:=if l.getLast? = some 13 then l.dropLast else l
def nl (c : UInt8) : Bool:=c != 10
def hd (s : Str) : Str:=s.takeWhile nl
def tl (s : Str) : Str:=(s.dropWhile nl).drop 1
theorem tl_lt {s : Str} (h : s ≠ []) : (tl s).length < s.length:=by
 unfold tl
 have h1 : (s.dropWhile nl).length <= s.length:=(List.dropWhile_sublist nl).length_le
 rw [List.length_drop]
 have : 0 < s.length:=List.length_pos_iff.2 h
 omega
def linesOf (s : Str) : List Str :=
 if h : s = [] then [] else (if (10 : UInt8) ∈ s then trimR (hd s) else s) :: linesOf (tl s)
termination_by s.length
decreasing_by exact tl_lt h
theorem linesOf_nil : linesOf [] = []:=by rw [linesOf]; simp
theorem linesOf_cons {s : Str} (h : s ≠ []) : linesOf s = (if (10 : UInt8) ∈ s then trimR (hd s) else s) :: linesOf (tl s):=by rw [linesOf,dif_neg h]
theorem hd_line {l r : Str} (h : ∀ c ∈ l,c ≠ 10) : hd (l ++ 10 :: r) = l /\ tl (l ++ 10 :: r) = r:=by
 have h1 : ∀ c ∈ l,nl c = true:=fun c hc=>by simp [nl,h c hc]
 unfold hd tl
 rw [List.takeWhile_append_of_pos h1,List.dropWhile_append_of_pos h1]
 simp [List.takeWhile,List.dropWhile,nl]
theorem linesOf_line {l r : Str} (h : ∀ c ∈ l,c ≠ 10) : linesOf (l ++ 10 :: r) = trimR l :: linesOf r:=by
 rw [linesOf_cons (by simp),if_pos (by simp),(hd_line h).1,(hd_line h).2]
theorem hd_none {s : Str} (h : ∀ c ∈ s,c ≠ 10) : tl s = []:=by
 have h1 : ∀ c ∈ s,nl c = true:=fun c hc=>by simp [nl,h c hc]
 have : s.dropWhile nl = []:=by
  rw [<- List.append_nil s,List.dropWhile_append_of_pos h1]; rfl
 unfold tl; rw [this]; rfl
theorem trimR_cr {l : Str} : trimR (l ++ [13]) = l:=by simp [trimR]
theorem trimR_no {l : Str} (h : ∀ c ∈ l,c ≠ 13) : trimR l = l:=by
 unfold trimR
 rw [if_neg]
 intro e
 exact h 13 (List.mem_of_getLast? e) rfl
def spTab (s : Str) : Prop:=ix s 0 = 32 ∨ ix s 0 = 9
instance (s : Str) : Decidable (spTab s):=by unfold spTab; infer_instance
def lastAdd (out : List Row) (t : Str) : List Row:=out.dropLast ++ [⟨(out.getLastD default).At,(out.getLastD default).Text ++ t⟩]
def uTop (at_ : Int) (out : List Row) : Except (Int × Int) (List Row × Bool) :=
 if 5000 < (out.getLastD default).Text.length then .error (4,at_) else if 1000 < out.length then .error (5,at_) else .ok (out,true)
def uStep (at_ : Int) (l : Str) (out : List Row) (o : Bool) : Except (Int × Int) (List Row × Bool) :=
 if l = [] then .ok (out,false)
 else if spTab l then (if o = true then uTop at_ (lastAdd out (l.drop 1)) else .error (11,at_))
 else uTop at_ (out ++ [⟨at_,l⟩])
def uGo : List Str -> Int -> List Row -> Bool -> Except (Int × Int) (List Row)
 | [],_,out,_=>.ok out
 | l :: ls,at_,out,o=>match uStep at_ l out o with
  | .error e=>.error e
  | .ok p=>uGo ls (at_ + 1) p.1 p.2
def unfoldS (s : Str) : Except (Int × Int) (List Row):=uGo (linesOf s) 1 [] false
theorem uGo_ok {l : Str} {ls : List Str} {at_ : Int} {out out' : List Row} {o o' : Bool} (h : uStep at_ l out o = .ok (out',o')) : uGo (l :: ls) at_ out o = uGo ls (at_ + 1) out' o':=by rw [uGo,h]
theorem uGo_err {l : Str} {ls : List Str} {at_ : Int} {out : List Row} {o : Bool} {e : Int × Int} (h : uStep at_ l out o = .error e) : uGo (l :: ls) at_ out o = .error e:=by rw [uGo,h]
theorem uTop_in {at_ : Int} {out out' : List Row} {o : Bool} (h : uTop at_ out = .ok (out',o)) : out' = out /\ o = true /\ (out.getLastD default).Text.length <= 5000 /\ out.length <= 1000:=by
 unfold uTop at h
 split at h
 . cases h
 . split at h
   . cases h
   . cases h; exact ⟨rfl,rfl,by omega,by omega⟩
def lay (e : Str) (c : UInt8) : List Str -> Str
 | []=>[]
 | p :: ps=>p ++ e ++ ps.flatMap (fun q=>c :: q ++ e)
def good (ps : List Str) : Prop:=∃ p qs,ps = p :: qs /\ p ≠ [] /\ ¬ spTab p /\ (∀ q ∈ ps,∀ c ∈ q,c ≠ 10 /\ c ≠ 13) /\ ps.flatten.length <= 5000
def isEnd (e : Str) : Prop:=e = [10] ∨ e = [13,10]
theorem linesOf_piece {e p r : Str} (he : isEnd e) (h : ∀ c ∈ p,c ≠ 10 /\ c ≠ 13) : linesOf (p ++ e ++ r) = p :: linesOf r:=by
 rcases he with rfl | rfl
 . rw [show p ++ [10] ++ r = p ++ 10 :: r by simp,linesOf_line (fun c hc=>(h c hc).1),trimR_no (fun c hc=>(h c hc).2)]
 . rw [show p ++ [13,10] ++ r = (p ++ [13]) ++ 10 :: r by simp,linesOf_line (fun c hc=>by
     rcases List.mem_append.1 hc with hc | hc
     . exact (h c hc).1
     . simp at hc; subst hc; decide),trimR_cr]
theorem getLastD_snoc {α : Type} {l : List α} {x d : α} : (l ++ [x]).getLastD d = x:=by simp
theorem uGo_more {e : Str} {c : UInt8} (he : isEnd e) (hc : c = 32 ∨ c = 9) (qs : List Str) : ∀ (r : Str) (at_ : Int) (out : List Row) (a : Int) (t : Str),(∀ q ∈ qs,∀ x ∈ q,x ≠ 10 /\ x ≠ 13) -> (t ++ qs.flatten).length <= 5000 -> out.length < 1000 ->
  uGo (linesOf (qs.flatMap (fun q=>c :: q ++ e) ++ r)) at_ (out ++ [⟨a,t⟩]) true = uGo (linesOf r) (at_ + qs.length) (out ++ [⟨a,t ++ qs.flatten⟩]) true:=by
 induction qs with
 | nil=>intro r at_ out a t _ _ _; simp
 | cons q qs ih =>
  intro r at_ out a t h1 h2 h3
  have hq : ∀ x ∈ c :: q,x ≠ 10 /\ x ≠ 13:=fun x hx=>by
   rcases List.mem_cons.1 hx with rfl | hx
   . rcases hc with rfl | rfl <;> decide
   . exact h1 q (by simp) x hx
  have e1 : (q :: qs).flatMap (fun q=>c :: q ++ e) ++ r = (c :: q) ++ e ++ (qs.flatMap (fun q=>c :: q ++ e) ++ r):=by simp
  rw [e1,linesOf_piece he hq]
  have hsp : spTab (c :: q):=by rcases hc with rfl | rfl; (exact .inl rfl); (exact .inr rfl)
  have hl : ((t ++ q).length : Int) <= 5000:=by
   have : (t ++ (q :: qs).flatten).length = (t ++ q).length + qs.flatten.length:=by simp; omega
   omega
  have hs : uStep at_ (c :: q) (out ++ [⟨a,t⟩]) true = .ok (out ++ [⟨a,t ++ q⟩],true):=by
   unfold uStep
   rw [if_neg (by simp),if_pos hsp,if_pos rfl]
   have : lastAdd (out ++ [⟨a,t⟩]) ((c :: q).drop 1) = out ++ [⟨a,t ++ q⟩]:=by simp [lastAdd]
   rw [this]; unfold uTop
   rw [getLastD_snoc,if_neg (by simp only; omega),if_neg (by simp only [List.length_append,List.length_singleton]; omega)]
  rw [uGo_ok hs,ih _ _ _ _ _ (fun q' hq'=>h1 q' (by simp [hq'])) (by simpa using h2) h3]
  simp only [List.length_cons,List.flatten_cons,List.append_assoc]
  congr 1
  omega
theorem uGo_row {e : Str} {c : UInt8} (he : isEnd e) (hc : c = 32 ∨ c = 9) {ps : List Str} (hg : good ps) (r : Str) (at_ : Int) (out : List Row) (o : Bool) (h3 : out.length < 1000) :
  uGo (linesOf (lay e c ps ++ r)) at_ out o = uGo (linesOf r) (at_ + ps.length) (out ++ [⟨at_,ps.flatten⟩]) true:=by
 obtain ⟨p,qs,rfl,h0,hsp,hch,hl⟩:=hg
 have e1 : lay e c (p :: qs) ++ r = p ++ e ++ (qs.flatMap (fun q=>c :: q ++ e) ++ r):=by simp [lay]
 rw [e1,linesOf_piece he (hch p (by simp))]
 have hl1 : (p.length : Int) <= 5000:=by
  have : (p :: qs).flatten.length = p.length + qs.flatten.length:=by simp
  omega
 have hs : uStep at_ p out o = .ok (out ++ [⟨at_,p⟩],true):=by
  unfold uStep
  rw [if_neg h0,if_neg hsp]; unfold uTop
  rw [getLastD_snoc,if_neg (by simp only; omega),if_neg (by simp only [List.length_append,List.length_singleton]; omega)]
 rw [uGo_ok hs,uGo_more he hc qs r (at_ + 1) out at_ p (fun q hq=>hch q (by simp [hq])) (by simpa using hl) h3]
 simp only [List.length_cons,List.flatten_cons]
 congr 1
 omega
def rowsAt : Int -> List (List Str) -> List Row
 | _,[]=>[]
 | at_,ps :: r=>⟨at_,ps.flatten⟩ :: rowsAt (at_ + ps.length) r
theorem uGo_rows {e : Str} {c : UInt8} (he : isEnd e) (hc : c = 32 ∨ c = 9) (rs : List (List Str)) : ∀ (at_ : Int) (out : List Row) (o : Bool),(∀ ps ∈ rs,good ps) -> out.length + rs.length <= 1000 ->
  uGo (linesOf (rs.flatMap (lay e c))) at_ out o = .ok (out ++ rowsAt at_ rs):=by
 induction rs with
 | nil=>intro at_ out o _ _; simp [linesOf_nil,uGo,rowsAt]
 | cons ps rs ih =>
  intro at_ out o h1 h2
  rw [List.length_cons] at h2
  rw [List.flatMap_cons,uGo_row he hc (h1 ps (by simp)) _ _ _ _ (by omega),ih _ _ _ (fun q hq=>h1 q (by simp [hq])) (by simp only [List.length_append,List.length_singleton]; omega)]
  simp [rowsAt]
theorem unfold_rows {e : Str} {c : UInt8} (he : isEnd e) (hc : c = 32 ∨ c = 9) (rs : List (List Str)) (h1 : ∀ ps ∈ rs,good ps) (h2 : rs.length <= 1000) : unfoldS (rs.flatMap (lay e c)) = .ok (rowsAt 1 rs):=by
 unfold unfoldS
 rw [uGo_rows he hc rs 1 [] false h1 (by simpa using h2)]; rfl
theorem rowsAt_len : ∀ (rs : List (List Str)) (at_ : Int),(rowsAt at_ rs).length = rs.length
 | [],_=>rfl
 | _ :: r,at_=>by simp [rowsAt,rowsAt_len r]
theorem rowsAt_text : ∀ (rs : List (List Str)) (at_ : Int),(rowsAt at_ rs).map Row.Text = rs.map List.flatten
 | [],_=>rfl
 | _ :: r,at_=>by simp [rowsAt,rowsAt_text r]
theorem rowsAt_rise : ∀ (rs : List (List Str)) (at_ : Int),(∀ ps ∈ rs,ps ≠ []) -> (∀ x ∈ rowsAt at_ rs,at_ <= x.At) /\ (rowsAt at_ rs).Pairwise (fun x y=>x.At < y.At)
 | [],_,_=>⟨fun _ h=>(by cases h),.nil⟩
 | ps :: r,at_,h=>by
  have h0 : 0 < ps.length:=List.length_pos_iff.2 (h ps (by simp))
  obtain ⟨h1,h2⟩:=rowsAt_rise r (at_ + ps.length) (fun q hq=>h q (by simp [hq]))
  refine ⟨fun x hx=>?_,?_⟩
  . rcases List.mem_cons.1 hx with rfl | hx
    . exact Int.le_refl _
    . have:=h1 x hx; omega
  . exact List.Pairwise.cons (fun y hy=>by have:=h1 y hy; show at_ < _; omega) h2
variable (D : Dec)
theorem lines_pieces : ∀ (n : Nat) (cur row : Str),row.length <= n -> ∃ (a : Str) (ps : List Str),linesG D cur row = (cur ++ a) :: ps.map (32 :: ·) /\ a ++ ps.flatten = row /\ (row ≠ [] -> cur.length + 4 <= 75 -> a ≠ [])
 | n,cur,row,hn=>by
  by_cases h : row = []
  . subst h; exact ⟨[],[],by rw [linesG_nil]; simp,by simp,fun h=>absurd rfl h⟩
  . have hd:=D.drop_lt h
    cases n with
    | zero=>omega
    | succ n =>
     by_cases hl : 75 < (cur.length : Int) + D.w row
     . obtain ⟨a,ps,h1,h2,_⟩:=lines_pieces n (32 :: row.take (D.w row)) (row.drop (D.w row)) (by omega)
       refine ⟨[],(row.take (D.w row) ++ a) :: ps,?_,?_,fun _ hc=>?_⟩
       . rw [linesG_new D h hl,h1]; simp
       . rw [List.nil_append,List.flatten_cons,List.append_assoc,h2,List.take_append_drop]
       . have:=D.four row; omega
     . obtain ⟨a,ps,h1,h2,_⟩:=lines_pieces n (cur ++ row.take (D.w row)) (row.drop (D.w row)) (by omega)
       refine ⟨row.take (D.w row) ++ a,ps,?_,?_,fun _ _=>?_⟩
       . rw [linesG_on D h hl,h1]; simp
       . rw [List.append_assoc,h2,List.take_append_drop]
       . have h1:=D.take_len row; have h2:=D.pos row h
         intro e
         have:=congrArg List.length e
         rw [List.length_append] at this
         simp only [List.length_nil] at this
         omega
theorem ix_head {a b : Str} (h : a ≠ []) : ix (a ++ b) 0 = ix a 0:=by
 cases a with
 | nil=>exact absurd rfl h
 | cons x r=>rfl
theorem row_pieces {row : Str} (h : rMay row = 0) : ∃ ps,good ps /\ rowGo D 75 row = lay [13,10] 32 ps /\ ps.flatten = row:=by
 obtain ⟨hl,h0,h1,h2,hch⟩:=rMay_ok h
 obtain ⟨a,ps,e1,e2,e3⟩:=lines_pieces D row.length [] row (Nat.le_refl _)
 have ha:=e3 h0 (by simp)
 refine ⟨a :: ps,⟨a,ps,rfl,ha,?_,?_,by rw [List.flatten_cons,e2]; omega⟩,?_,by rw [List.flatten_cons,e2]⟩
 . unfold spTab
   rw [<- e2,ix_head ha] at h1 h2
   rintro (h | h)
   . exact h1 h
   . exact h2 h
 . intro q hq c hc
   refine hch c ?_
   rw [<- e2]
   rcases List.mem_cons.1 hq with rfl | hq
   . exact List.mem_append_left _ hc
   . exact List.mem_append_right _ (List.mem_flatten.2 ⟨q,hq,hc⟩)
 . rw [<- cat_row,e1]; simp [cat,lay,List.flatMap_map]
theorem rows_pieces : ∀ {l : List Str},(∀ r ∈ l,rMay r = 0) -> ∃ rs : List (List Str),(∀ ps ∈ rs,good ps) /\ l.flatMap (rowGo D 75) = rs.flatMap (lay [13,10] 32) /\ rs.map List.flatten = l
 | [],_=>⟨[],fun _ h=>(by cases h),rfl,rfl⟩
 | r :: l,h=>by
  obtain ⟨ps,h1,h2,h3⟩:=row_pieces D (h r (by simp))
  obtain ⟨rs,g1,g2,g3⟩:=rows_pieces (l:=l) (fun x hx=>h x (by simp [hx]))
  refine ⟨ps :: rs,fun q hq=>?_,by simp [h2,g2],by simp [h3,g3]⟩
  rcases List.mem_cons.1 hq with rfl | hq
  . exact h1
  . exact g1 q hq
theorem unfold_fold {l : List Str} (h : ∀ r ∈ l,rMay r = 0) (hl : l.length <= 1000) : ∃ out,unfoldS (l.flatMap (rowGo D 75)) = .ok out /\ out.map Row.Text = l /\ (∀ x ∈ out,1 <= x.At) /\ out.Pairwise (fun x y=>x.At < y.At):=by
 obtain ⟨rs,h1,h2,h3⟩:=rows_pieces D h
 have hn : rs.length = l.length:=by rw [<- h3]; simp
 have hr:=rowsAt_rise rs 1 (fun ps hps=>by obtain ⟨p,qs,rfl,_⟩:=h1 ps hps; simp)
 exact ⟨rowsAt 1 rs,by rw [h2]; exact unfold_rows (.inr rfl) (.inl rfl) rs h1 (by omega),by rw [rowsAt_text,h3],hr.1,hr.2⟩
end Go.Fo
end
section
namespace Go.Fo
open Go Go.Wk Go.Wl
theorem ix_drop {α : Type} [Inhabited α] {l : List α} {i : Int} (h0 : 0 <= i) (h1 : i < l.length) : l.drop i.toNat = ix l i :: l.drop (i + 1).toNat:=by
 have h : i.toNat < l.length:=by omega
 rw [ix_get h,List.drop_eq_getElem_cons h]
 congr 2; omega
theorem drop_all {α : Type} {l : List α} {i : Int} (h : (l.length : Int) <= i) : l.drop i.toNat = []:=List.drop_eq_nil_of_le (by omega)
def lastSet (out : List Row) (t : Str) : List Row:=out.set (out.length - 1) ⟨(ix out ((out.length : Int) - 1)).At,t⟩
theorem snoc {α : Type} {out : List α} (h : out ≠ []) : ∃ a x,out = a ++ [x]:=⟨out.dropLast,out.getLast h,(List.dropLast_concat_getLast h).symm⟩
theorem ix_last {α : Type} [Inhabited α] {a : List α} {x : α} : ix (a ++ [x]) (((a ++ [x]).length : Int) - 1) = x:=by
 have e : (((a ++ [x]).length : Int) - 1).toNat = a.length:=by rw [List.length_append,List.length_singleton]; omega
 rw [ix_get (by rw [e]; simp)]
 simp [e]
theorem lastSet_snoc {a : List Row} {x : Row} {t : Str} : lastSet (a ++ [x]) t = a ++ [⟨x.At,t⟩]:=by
 unfold lastSet
 rw [ix_last]
 simp [List.length_append]
theorem lastAdd_snoc {a : List Row} {x : Row} {t : Str} : lastAdd (a ++ [x]) t = a ++ [⟨x.At,x.Text ++ t⟩]:=by simp [lastAdd]
theorem lastSet_len (out : List Row) (t : Str) : (lastSet out t).length = out.length:=by simp [lastSet]
def cur (out : List Row) (long : Str) (o : Bool) : List Row:=if o = true then lastSet out long else out
end Go.Fo
end
section
namespace Go.Li
open Go Go.Wk Go.Wl
structure Param where
 Name : Str
 Values : List Str
 deriving Inhabited,DecidableEq
structure Prp where
 Group : Str
 Name : Str
 Params : List Param
 Value : Str
 deriving Inhabited,DecidableEq
end Go.Li
end
section
namespace Go.Co
open Go Go.Wk Go.Wl Go.Li
structure CRow where
 At : Int
 P : Prp
 deriving Inhabited,DecidableEq
inductive Comp where
 | mk (Name : Str) (Props : List Prp) (Comps : List Comp)
instance : Inhabited Comp:=⟨⟨[],[],[]⟩⟩
def Comp.Name : Comp -> Str
 | .mk n _ _=>n
def Comp.Props : Comp -> List Prp
 | .mk _ p _=>p
def Comp.Comps : Comp -> List Comp
 | .mk _ _ c=>c
theorem Comp.eta (c : Comp) : Comp.mk c.Name c.Props c.Comps = c:=by cases c; rfl
section
variable (dP : Rd Prp)
def dC1 (r : Rd Comp) : Rd Comp where
 sz:=3
 rd:=fun D w cs x=>∃ c0 c1 c2,cs = c0 ++ (c1 ++ c2) /\ dStr.rd D w c0 x.Name /\ (dSlice dP).rd D w c1 x.Props /\ (dSlice r).rd D w c2 x.Comps
 len:=fun ⟨c0,c1,c2,e,h0,h1,h2⟩=>by rw [e]; simp only [List.length_append,Rd.len _ h0,Rd.len _ h1,Rd.len _ h2]; rfl
 mono:=fun ⟨c0,c1,c2,e,h0,h1,h2⟩ a b c=>⟨c0,c1,c2,e,Rd.mono _ h0 a b c,Rd.mono _ h1 a b c,Rd.mono _ h2 a b c⟩
 plain:=fun ⟨c0,c1,c2,e,h0,h1,h2⟩=>by rw [e]; simp only [List.all_append,Rd.plain _ h0,Rd.plain _ h1,Rd.plain _ h2]; rfl
def dC0 : Rd Comp where
 sz:=3
 rd:=fun _ _ _ _=>False
 len:=fun h=>h.elim
 mono:=fun h _ _ _=>h
 plain:=fun h=>h.elim
def dCo : Nat -> Rd Comp
 | 0=>dC0
 | n + 1=>dC1 dP (dCo n)
theorem dCo_sz : ∀ n,(dCo dP n).sz = 3
 | 0=>rfl
 | _ + 1=>rfl
theorem slice_imp {α : Type} {r s : Rd α} (hz : r.sz = s.sz) {D : Nat -> Prop} {w : World} (h : ∀ cs x,r.rd D w cs x -> s.rd D w cs x) {cs : List Value} {l : List α} (k : (dSlice r).rd D w cs l) : (dSlice s).rd D w cs l:=by
 obtain ⟨hl,A,cap,e,h0,hc⟩:=k
 refine ⟨hl,A,cap,e,h0,fun i hi=>?_⟩
 obtain ⟨b,o,c,e1,hb,hcell,hr⟩:=hc i hi
 exact ⟨b,o,c,e1,hb,by rw [<- hz]; exact hcell,h _ _ hr⟩
theorem dCo_up : ∀ (n : Nat) {D : Nat -> Prop} {w : World} {cs : List Value} {x : Comp},(dCo dP n).rd D w cs x -> (dCo dP (n + 1)).rd D w cs x
 | 0,_,_,_,_,h=>False.elim h
 | n + 1,D,w,cs,x,h=>by
  obtain ⟨c0,c1,c2,e,h0,h1,h2⟩:=(show (dC1 dP (dCo dP n)).rd D w cs x from h)
  exact ⟨c0,c1,c2,e,h0,h1,slice_imp (by rw [dCo_sz,dCo_sz]) (fun _ _ h=>dCo_up n h) h2⟩
theorem dCo_le {n m : Nat} (h : n <= m) {D : Nat -> Prop} {w : World} {cs : List Value} {x : Comp} (k : (dCo dP n).rd D w cs x) : (dCo dP m).rd D w cs x:=by
 induction h with
 | refl=>exact k
 | step _ ih=>exact dCo_up dP _ ih
def dComp : Rd Comp where
 sz:=3
 rd:=fun D w cs x=>∃ n,(dCo dP n).rd D w cs x
 len:=fun ⟨n,h⟩=>by rw [Rd.len _ h,dCo_sz]
 mono:=fun ⟨n,h⟩ a b c=>⟨n,Rd.mono _ h a b c⟩
 plain:=fun ⟨n,h⟩=>Rd.plain _ h
theorem all_n {l : List Comp} {P : Nat -> Nat -> Prop} (up : ∀ i n m,n <= m -> P i n -> P i m) : ∀ k : Nat,(∀ i,i < k -> ∃ n,P i n) -> ∃ n,∀ i,i < k -> P i n
 | 0,_=>⟨0,fun i h=>absurd h (Nat.not_lt_zero i)⟩
 | k + 1,h=>by
  obtain ⟨n,hn⟩:=all_n (l:=l) up k fun i hi=>h i (by omega)
  obtain ⟨m,hm⟩:=h k (by omega)
  refine ⟨max n m,fun i hi=>?_⟩
  by_cases e : i = k
  . subst e; exact up _ _ _ (Nat.le_max_right _ _) hm
  . exact up _ _ _ (Nat.le_max_left _ _) (hn i (by omega))
theorem dComps_iff {D : Nat -> Prop} {w : World} {cs : List Value} {l : List Comp} : (dSlice (dComp dP)).rd D w cs l ↔ ∃ n,(dSlice (dCo dP n)).rd D w cs l:=by
 constructor
 . rintro ⟨hl,A,cap,e,h0,hc⟩
   obtain ⟨n,hn⟩:=all_n (l:=l) (P:=fun i n=>∀ h : i < l.length,∃ b o c,A = some ⟨b,o,none⟩ /\ D b /\ Cells w b (o + i * 3) c /\ (dCo dP n).rd D w c l[i])
    (fun i n m hnm h hi=>by obtain ⟨b,o,c,h1,h2,h3,h4⟩:=h hi; exact ⟨b,o,c,h1,h2,h3,dCo_le dP hnm h4⟩) l.length
    (fun i hi=>by obtain ⟨b,o,c,h1,h2,h3,n,h4⟩:=hc i hi; exact ⟨n,fun _=>⟨b,o,c,h1,h2,h3,h4⟩⟩)
   exact ⟨n,hl,A,cap,e,h0,fun i hi=>by rw [dCo_sz]; exact hn i hi hi⟩
 . rintro ⟨n,h⟩
   exact slice_imp (s:=dComp dP) (dCo_sz dP n) (fun _ _ h=>⟨n,h⟩) h
theorem dComp_iff {D : Nat -> Prop} {w : World} {cs : List Value} {x : Comp} : (dComp dP).rd D w cs x ↔ ∃ c0 c1 c2,cs = c0 ++ (c1 ++ c2) /\ dStr.rd D w c0 x.Name /\ (dSlice dP).rd D w c1 x.Props /\ (dSlice (dComp dP)).rd D w c2 x.Comps:=by
 constructor
 . rintro ⟨n,h⟩
   cases n with
   | zero=>exact False.elim h
   | succ n =>
    obtain ⟨c0,c1,c2,e,h0,h1,h2⟩:=(show (dC1 dP (dCo dP n)).rd D w cs x from h)
    exact ⟨c0,c1,c2,e,h0,h1,(dComps_iff dP).2 ⟨n,h2⟩⟩
 . rintro ⟨c0,c1,c2,e,h0,h1,h2⟩
   obtain ⟨n,h2⟩:=(dComps_iff dP).1 h2
   exact ⟨n + 1,c0,c1,c2,e,h0,h1,h2⟩
end
end Go.Co
end
section
namespace Go.Proofs.YtadgfmmmdhlljaaGreatDoor
open Go Go.Wk Go.Wl Go.Rx Go.Fo Go.Li Go.Co
def dRow : Rd Row where
 sz:=2
 rd:=fun D w cs x=>∃ c0 c1,cs = c0 ++ (c1) /\ dInt.rd D w c0 x.At /\ dStr.rd D w c1 x.Text
 len:=fun ⟨c0,c1,e,h0,h1⟩=>by rw [e]; simp only [List.length_append,Rd.len _ h0,Rd.len _ h1]; rfl
 mono:=fun ⟨c0,c1,e,h0,h1⟩ a b c=>⟨c0,c1,e,Rd.mono _ h0 a b c,Rd.mono _ h1 a b c⟩
 plain:=fun ⟨c0,c1,e,h0,h1⟩=>by rw [e]; simp only [List.all_append,Rd.plain _ h0,Rd.plain _ h1]; rfl
def dParam : Rd Param where
 sz:=2
 rd:=fun D w cs x=>∃ c0 c1,cs = c0 ++ (c1) /\ dStr.rd D w c0 x.Name /\ (dSlice dStr).rd D w c1 x.Values
 len:=fun ⟨c0,c1,e,h0,h1⟩=>by rw [e]; simp only [List.length_append,Rd.len _ h0,Rd.len _ h1]; rfl
 mono:=fun ⟨c0,c1,e,h0,h1⟩ a b c=>⟨c0,c1,e,Rd.mono _ h0 a b c,Rd.mono _ h1 a b c⟩
 plain:=fun ⟨c0,c1,e,h0,h1⟩=>by rw [e]; simp only [List.all_append,Rd.plain _ h0,Rd.plain _ h1]; rfl
def dPrp : Rd Prp where
 sz:=4
 rd:=fun D w cs x=>∃ c0 c1 c2 c3,cs = c0 ++ (c1 ++ (c2 ++ (c3))) /\ dStr.rd D w c0 x.Group /\ dStr.rd D w c1 x.Name /\ (dSlice dParam).rd D w c2 x.Params /\ dStr.rd D w c3 x.Value
 len:=fun ⟨c0,c1,c2,c3,e,h0,h1,h2,h3⟩=>by rw [e]; simp only [List.length_append,Rd.len _ h0,Rd.len _ h1,Rd.len _ h2,Rd.len _ h3]; rfl
 mono:=fun ⟨c0,c1,c2,c3,e,h0,h1,h2,h3⟩ a b c=>⟨c0,c1,c2,c3,e,Rd.mono _ h0 a b c,Rd.mono _ h1 a b c,Rd.mono _ h2 a b c,Rd.mono _ h3 a b c⟩
 plain:=fun ⟨c0,c1,c2,c3,e,h0,h1,h2,h3⟩=>by rw [e]; simp only [List.all_append,Rd.plain _ h0,Rd.plain _ h1,Rd.plain _ h2,Rd.plain _ h3]; rfl
def dNone : Rd Unit where
 sz:=0
 rd:=fun _ _ _ _=>False
 len:=fun h=>h.elim
 mono:=fun h _ _ _=>h
 plain:=fun h=>h.elim
def obNone (_ : Nat) : Ob Unit where
 is:=fun _ _ _ _=>False
 stab:=fun Z Z' B w w' h _ _ _=>h
 lt:=fun h=>h.elim
def U : Uni where
 tb:=fun | 3=>⟨Int,dInt,inferInstance⟩ | 5=>⟨UInt8,dByte,inferInstance⟩ | 9=>⟨Str,dStr,inferInstance⟩ | 44=>⟨List Str,(dSlice dStr),inferInstance⟩ | 55=>⟨Row,dRow,inferInstance⟩ | 56=>⟨List Param,(dSlice dParam),inferInstance⟩ | 58=>⟨Prp,dPrp,inferInstance⟩ | 110=>⟨Param,dParam,inferInstance⟩ | 40=>⟨Comp,dComp dPrp,inferInstance⟩ | _=>⟨Unit,dNone,⟨()⟩⟩
 oj:=fun | 0=>⟨Str,bld 80 5⟩ | 1=>⟨Option Str,bldO 80 5⟩ | _=>⟨Unit,obNone⟩
def eT : ErrT:=⟨47,71,75,fun t=>bif Nat.beq t 134 then some 0 else none⟩
theorem wr_inv {t k : Nat} (h : eT.wr t = some k) : (t = 134 /\ k = 0):=by
 have h : (bif Nat.beq t 134 then some 0 else none) = some k:=h
 cases hb0 : Nat.beq t 134 with
 | true=>rw [hb0,cond_true] at h; cases h; exact ⟨Nat.eq_of_beq_eq_true hb0,rfl⟩
 | false =>
  rw [hb0,cond_false] at h
  cases h
def y3 : TyI U eT 3 where
 sv:=fun (x : Int)=>.int .i64 x
 bk:=asI64
 sv_ok:=sv_int
 bk_ok:=bk_int
 hy:=fun (x : Int)=>[in64 x]
 hy_ok:=fun {_ _ _ x} h p hp=>by
  have h : dInt.rd _ _ _ x:=h
  simp only [List.mem_singleton] at hp; subst hp; exact h.2
def y5 : TyI U eT 5 where
 sv:=fun (x : UInt8)=>.byte x
 bk:=asY
 sv_ok:=sv_byte
 bk_ok:=bk_byte
 by8:=some ⟨rfl⟩
def y9 : TyI U eT 9 where
 sv:=fun (x : Str)=>.str x
 bk:=asS
 sv_ok:=sv_str
 bk_ok:=bk_str
def y44 : TyI U eT 44 where
 sv:=fun (x : List Str)=>.sl 9 x
 bk:=fun s=>pb (asLN U 9) (leaves s)
 sv_ok:=sv_sl (N:=U) (t:=9)
 bk_ok:=pb_sl (N:=U) (t:=9)
def y55k (ls : List (SV U)) : Option Row :=
 (pb asI64 (ls.take 1)).bind fun x0 =>
 (pb asS ((ls.drop 1))).bind fun x1 =>
 some ⟨x0,x1⟩
theorem y55r {ρ : Env1} {Z : Nat -> Prop} {w : World} {cs : List Value} {ls : List (SV U)} {x : Row} (h : RepL U eT ρ Z w cs ls) (e : y55k ls = some x) : dRow.rd Z w cs x:=by
 unfold y55k at e
 obtain ⟨x0,e0,e⟩:=Option.bind_eq_some_iff.1 e
 obtain ⟨x1,e1,e⟩:=Option.bind_eq_some_iff.1 e
 cases e
 have g1:=RepL.split 1 h
 exact ⟨(cs.take 1),(cs.drop 1),by simp only [List.take_append_drop],pb_int g1.1 e0,pb_str g1.2 e1⟩
def y55 : TyI U eT 55 where
 sv:=fun (x : Row)=>.agg ([.int .i64 x.At] ++ ([.str x.Text]))
 bk:=fun s=>y55k (leaves s)
 sv_ok:=fun {ρ Z w cs x} h=>by
  obtain ⟨c0,c1,e,h0,h1⟩:=(show dRow.rd Z w cs x from h)
  subst e
  exact RepL.app (sv_int h0) (sv_str h1)
 bk_ok:=y55r
 hy:=fun (x : Row)=>[in64 x.At]
 hy_ok:=fun {Z w cs x} h p hp=>by
  obtain ⟨c0,c1,e,h0,h1⟩:=(show dRow.rd Z w cs x from h)
  simp only [List.mem_singleton] at hp; subst hp; exact h0.2
def y56 : TyI U eT 56 where
 sv:=fun (x : List Param)=>.sl 110 x
 bk:=fun s=>pb (asLN U 110) (leaves s)
 sv_ok:=sv_sl (N:=U) (t:=110)
 bk_ok:=pb_sl (N:=U) (t:=110)
def y58k (ls : List (SV U)) : Option Prp :=
 (pb asS (ls.take 1)).bind fun x0 =>
 (pb asS ((ls.drop 1).take 1)).bind fun x1 =>
 (pb (asLN U 110) (((ls.drop 1).drop 1).take 1)).bind fun x2 =>
 (pb asS ((((ls.drop 1).drop 1).drop 1))).bind fun x3 =>
 some ⟨x0,x1,x2,x3⟩
theorem y58r {ρ : Env1} {Z : Nat -> Prop} {w : World} {cs : List Value} {ls : List (SV U)} {x : Prp} (h : RepL U eT ρ Z w cs ls) (e : y58k ls = some x) : dPrp.rd Z w cs x:=by
 unfold y58k at e
 obtain ⟨x0,e0,e⟩:=Option.bind_eq_some_iff.1 e
 obtain ⟨x1,e1,e⟩:=Option.bind_eq_some_iff.1 e
 obtain ⟨x2,e2,e⟩:=Option.bind_eq_some_iff.1 e
 obtain ⟨x3,e3,e⟩:=Option.bind_eq_some_iff.1 e
 cases e
 have g1:=RepL.split 1 h
 have g2:=RepL.split 1 g1.2
 have g3:=RepL.split 1 g2.2
 exact ⟨(cs.take 1),((cs.drop 1).take 1),(((cs.drop 1).drop 1).take 1),(((cs.drop 1).drop 1).drop 1),by simp only [List.take_append_drop],pb_str g1.1 e0,pb_str g2.1 e1,pb_sl (N:=U) (t:=110) g3.1 e2,pb_str g3.2 e3⟩
def y58 : TyI U eT 58 where
 sv:=fun (x : Prp)=>.agg ([.str x.Group] ++ ([.str x.Name] ++ ([.sl 110 x.Params] ++ ([.str x.Value]))))
 bk:=fun s=>y58k (leaves s)
 sv_ok:=fun {ρ Z w cs x} h=>by
  obtain ⟨c0,c1,c2,c3,e,h0,h1,h2,h3⟩:=(show dPrp.rd Z w cs x from h)
  subst e
  exact RepL.app (sv_str h0) (RepL.app (sv_str h1) (RepL.app (sv_sl (N:=U) (t:=110) h2) (sv_str h3)))
 bk_ok:=y58r
def y110k (ls : List (SV U)) : Option Param :=
 (pb asS (ls.take 1)).bind fun x0 =>
 (pb (asLN U 9) ((ls.drop 1))).bind fun x1 =>
 some ⟨x0,x1⟩
theorem y110r {ρ : Env1} {Z : Nat -> Prop} {w : World} {cs : List Value} {ls : List (SV U)} {x : Param} (h : RepL U eT ρ Z w cs ls) (e : y110k ls = some x) : dParam.rd Z w cs x:=by
 unfold y110k at e
 obtain ⟨x0,e0,e⟩:=Option.bind_eq_some_iff.1 e
 obtain ⟨x1,e1,e⟩:=Option.bind_eq_some_iff.1 e
 cases e
 have g1:=RepL.split 1 h
 exact ⟨(cs.take 1),(cs.drop 1),by simp only [List.take_append_drop],pb_str g1.1 e0,pb_sl (N:=U) (t:=9) g1.2 e1⟩
def y110 : TyI U eT 110 where
 sv:=fun (x : Param)=>.agg ([.str x.Name] ++ ([.sl 9 x.Values]))
 bk:=fun s=>y110k (leaves s)
 sv_ok:=fun {ρ Z w cs x} h=>by
  obtain ⟨c0,c1,e,h0,h1⟩:=(show dParam.rd Z w cs x from h)
  subst e
  exact RepL.app (sv_str h0) (sv_sl (N:=U) (t:=9) h1)
 bk_ok:=y110r
def y40k (ls : List (SV U)) : Option Comp :=
 (pb asS (ls.take 1)).bind fun x0 =>
 (pb (asLN U 58) ((ls.drop 1).take 1)).bind fun x1 =>
 (pb (asLN U 40) ((ls.drop 1).drop 1)).bind fun x2 =>
 some (.mk x0 x1 x2)
theorem y40r {ρ : Env1} {Z : Nat -> Prop} {w : World} {cs : List Value} {ls : List (SV U)} {x : Comp} (h : RepL U eT ρ Z w cs ls) (e : y40k ls = some x) : (dComp dPrp).rd Z w cs x:=by
 unfold y40k at e
 obtain ⟨x0,e0,e⟩:=Option.bind_eq_some_iff.1 e
 obtain ⟨x1,e1,e⟩:=Option.bind_eq_some_iff.1 e
 obtain ⟨x2,e2,e⟩:=Option.bind_eq_some_iff.1 e
 cases e
 have g1:=RepL.split 1 h
 have g2:=RepL.split 1 g1.2
 exact (dComp_iff dPrp).2 ⟨(cs.take 1),((cs.drop 1).take 1),((cs.drop 1).drop 1),by simp only [List.take_append_drop],pb_str g1.1 e0,pb_sl (N:=U) (t:=58) g2.1 e1,pb_sl (N:=U) (t:=40) g2.2 e2⟩
def y40 : TyI U eT 40 where
 sv:=fun (x : Comp)=>.agg ([.str x.Name] ++ ([.sl 58 x.Props] ++ ([.sl 40 x.Comps])))
 bk:=fun s=>y40k (leaves s)
 sv_ok:=fun {ρ Z w cs x} h=>by
  obtain ⟨c0,c1,c2,e,h0,h1,h2⟩:=(dComp_iff dPrp).1 (show (dComp dPrp).rd Z w cs x from h)
  subst e
  exact RepL.app (sv_str h0) (RepL.app (sv_sl (N:=U) (t:=58) h1) (sv_sl (N:=U) (t:=40) h2))
 bk_ok:=y40r
def tyU : ∀ t,Option (TyI U eT t)
 | 3=>some y3
 | 5=>some y5
 | 9=>some y9
 | 44=>some y44
 | 55=>some y55
 | 56=>some y56
 | 58=>some y58
 | 110=>some y110
 | 40=>some y40
 | _=>none
end Go.Proofs.YtadgfmmmdhlljaaGreatDoor
end
section
namespace Go.Proofs.YtadgfmmmdhlljaaGreatDoor
open Go Go.Wk Go.Wl Go.Rx Go.Fo Go.Li Go.Co 
def errTypeV : Value:=.iface 116 (.agg #[.pointer (some ⟨4,26,none⟩)])
def Gl : Glob where
 is:=fun Z w=>(Z 0 /\ Z 1 /\ Z 2) /\ 2 < w.heap.size /\ Lib.Utf8Tabs 1 2 w /\ w.cell? ⟨0,0,none⟩ = some errTypeV
 stab:=fun {Z Z' B w w'} ⟨⟨z0,z1,z2⟩,hs,ht,he⟩ x hB hZ=>by
  have k : ∀ b,b <= 2 -> Z b -> w'.heap[b]? = w.heap[b]? := fun b hb hz=>x.block b (by omega) (fun hm=>by have:=hB b hm hz; omega)
  have c : ∀ b o,b <= 2 -> Z b -> w'.cell? ⟨b,o,none⟩ = w.cell? ⟨b,o,none⟩:=fun b o hb hz=>by unfold World.cell?; rw [k b hb hz]
  exact ⟨⟨hZ 0 z0 (by omega),hZ 1 z1 (by omega),hZ 2 z2 (by omega)⟩,Nat.lt_of_lt_of_le hs x.size,⟨fun i hi=>by rw [c 1 i (by omega) z1]; exact ht.1 i hi,fun i hi=>by rw [c 2 _ (by omega) z2,c 2 _ (by omega) z2]; exact ht.2 i hi⟩,by rw [c 0 0 (by omega) z0]; exact he⟩
def zobU (t : Nat) : Option ((k : Nat) × U.O k):=bif Nat.beq t 80 then some ⟨0,([] : Str)⟩ else none
noncomputable def E0 : Env:=⟨Tryz.prog,U,eT,tyU,zobU,fun _=>none,fun _=>false,fun _=>none,fun _=>none,Gl,fun _=>none,fun _=>false⟩
theorem E0_ok : EnvOK E0:=by
 refine ⟨by kernel_rfl,fun t k x h=>?_,fun K h=>?_,fun K fn h=>?_,fun K f args nx c h=>?_,fun K f args nx c h=>?_,fun K o x args r h=>?_,fun K o a x r h=>?_⟩
 . have h : zobU t = some ⟨k,x⟩:=h
   unfold zobU at h
   cases hb : Nat.beq t 80 with
   | false=>rw [hb] at h; cases h
   | true =>
    rw [hb] at h
    cases h
    have e:=Nat.eq_of_beq_eq_true hb
    subst e
    exact ⟨.agg #[.pointer none,.slice none 0 0],by kernel_rfl,fun Z w b ho=>bld_zero ho⟩
 . cases h
 . cases h
 . cases h
 . cases h
 . cases h
 . cases h
end Go.Proofs.YtadgfmmmdhlljaaGreatDoor
end
