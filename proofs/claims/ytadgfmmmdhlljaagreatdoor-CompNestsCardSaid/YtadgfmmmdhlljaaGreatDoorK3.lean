/- 16 texts, one behind the other. -/
import Derived.Test.YtadgfmmmdhlljaaGreatDoorK2
import Derived.Lib.FrozenHead
import Derived.Lib.UnsafeStr
set_option linter.unusedVariables false
set_option linter.unusedSimpArgs false
set_option maxRecDepth 100000
section
namespace Go.Rx
open Go Go.Wk Go.Wl
section
variable {E : Env} {C : Ctx} {n : Nat} {ops : List Oper} {Q : Exit -> Fr -> World -> Prop} {rest : List Oper} {f : Fr} {w w' : World} {d : Nat}
variable {ty T T' : TypeId} {pos : String} {after : Array Edge} {x y z : Operand} {a b : Int} {ρ ρ' : Env1} {Z Z' : Nat -> Prop} {its its' lkd : Items E.N} {nx : Nat} {s : S1 E.N}
variable {fx : Slots E.N} {st : E.St}
structure Rel (E : Env) (C : Ctx) (fx : Slots E.N) (lkd : Items E.N) (st : E.St) (ρ : Env1) (Z : Nat -> Prop) (f : Fr) (w : World) : Prop where
 sl : ∀ k s,lk st.slots k = some s -> Rep E.N E.T ρ Z w (f k) s
 fx : ∀ p ∈ fx,Rep E.N E.T ρ Z w (f p.1) p.2
 gs : ∀ k j b s,lk st.gs k = some (j,b,s) -> (f j = .bool b -> Rep E.N E.T ρ Z w (f k) s) /\ (f j ≠ .bool b -> f k = undef)
 mem : Mem E C ρ Z w (st.items ++ lkd) st.nx
 tn : Tn C.ρ0 C.Z0 C.w1 ρ Z w
 g : E.G.is C.Z0 C.w1
theorem Glob.turn {G : Glob} (h : G.is Z w) (t : Tn ρ Z w ρ' Z' w') : G.is Z' w':=by
 obtain ⟨B,x,hB⟩:=t.ext
 exact G.stab h x hB t.z
theorem Rel.glob (h : Rel E C fx lkd st ρ Z f w) : E.G.is Z w:=Glob.turn h.g h.tn
theorem nrm_ok {v : Value} {s : E.SV} (hm : Mem E C ρ Z w its nx) (h : Rep E.N E.T ρ Z w v s) : Rep E.N E.T ρ Z w v (nrm its s):=by
 cases s with
 | acc id =>
  simp only [nrm]
  split
  . rename_i t l hi
    obtain ⟨L,hL,hn,hr⟩:=hm.at hi
    cases h with
    | acc hL'=>rw [hL] at hL'; cases hL'; exact .sl hr
  . exact h
 | _=>exact h
theorem lk_none {β : Type} {l : List (Nat × β)} {d : Nat} (h : lk l d = none) : ∀ p ∈ l,d ≠ p.1:=by
 induction l with
 | nil=>intro p hp; cases hp
 | cons q r ih =>
  unfold lk at h
  cases hb : Nat.beq q.1 d with
  | true=>rw [hb,cond_true] at h; cases h
  | false =>
   rw [hb,cond_false] at h
   intro p hp
   rcases List.mem_cons.1 hp with rfl | hp
   . intro e; rw [e,Nat.beq_refl] at hb; cases hb
   . exact ih h p hp
theorem Rel.slot (h : Rel E C fx lkd st ρ Z f w) (k : Nat) : Rep E.N E.T ρ Z w (f k) (slotOf fx st k):=by
 unfold slotOf
 split
 . rename_i v hv; exact h.sl k v hv
 . split
   . rename_i v hv; obtain ⟨i,hi,_⟩:=lk_mem hv; exact h.fx (k,v) (List.mem_of_getElem? hi)
   . exact .un
def AllG (f : Fr) (ch : List (Nat × Bool)) : Prop:=∀ j w,gmem ch j w = true -> f j = .bool w
theorem AllG.nil : AllG f []:=fun j w h=>by simp [gmem] at h
theorem Rel.ev (h : Rel E C fx lkd st ρ Z f w) {ch : List (Nat × Bool)} (hc : AllG f ch) (o : Operand) : Rep E.N E.T ρ Z w (ev f o) (evS fx lkd st ch o):=by
 cases o with
 | tmp t =>
  show Rep E.N E.T ρ Z w (f t) _
  simp only [evS]
  split
  . rename_i j b v hv
    cases hg : gmem ch j b with
    | true=>exact nrm_ok h.mem ((h.gs t j b v hv).1 (hc j b hg))
    | false=>exact .un
  . exact nrm_ok h.mem (h.slot t)
 | const v=>exact cst_rep
 | global g=>exact .con rfl
 | func K=>exact .fn
theorem lk_cons {β : Type} {l : List (Nat × β)} {d k : Nat} {v : β} : lk ((d,v) :: l) k = if d = k then some v else lk l k:=by
 show (bif Nat.beq d k then some v else lk l k) = _
 by_cases e : d = k
 . rw [if_pos e,e,Nat.beq_refl,cond_true]
 . rw [if_neg e,beq_ne e,cond_false]
theorem upd_ne {d k : Nat} {v : Value} (h : d ≠ k) : upd f d v k = f k:=by rw [upd_eq,if_neg (Ne.symm h)]
theorem upd_same {d : Nat} {v : Value} : upd f d v d = v:=by rw [upd_eq,if_pos rfl]
theorem gs_free {gs : List (Nat × Nat × Bool × E.SV)} {d : Nat} (h : (gs.all fun p=>!Nat.beq p.2.1 d) = true) {k j : Nat} {b : Bool} {s : E.SV} (hk : lk gs k = some (j,b,s)) : j ≠ d:=by
 obtain ⟨i,hi,_⟩:=lk_mem hk
 rw [List.all_eq_true] at h
 have:=h _ (List.mem_of_getElem? hi)
 intro e; subst e
 simp [Nat.beq_refl] at this
theorem free_some {d : Nat} (h : free n fx st (some d) = true) : Nat.blt d n = true /\ lk fx d = none /\ lk st.gs d = none /\ (st.gs.all fun p=>!Nat.beq p.2.1 d) = true:=by
 simp only [free,Bool.and_eq_true,Option.isNone_iff_eq_none] at h
 exact ⟨h.1.1.1,h.1.1.2,h.1.2,h.2⟩
theorem Rel.put {d : Option Nat} {v : Value} {s : E.SV} {items : Items E.N} {nx : Nat} (h : Rel E C fx lkd st ρ Z f w) (hf : free n fx st d = true) (t : Tn ρ Z w ρ' Z' w') (hm : Mem E C ρ' Z' w' (items ++ lkd) nx) (hv : Rep E.N E.T ρ' Z' w' v s) :
  Rel E C fx lkd (put ⟨st.slots,st.gs,items,nx⟩ d s) ρ' Z' (putF f d v) w':=by
 cases d with
 | none=>exact ⟨fun k s hk=>t.rep (h.sl k s hk),fun p hp=>t.rep (h.fx p hp),fun k j b s hk=>⟨fun e=>t.rep ((h.gs k j b s hk).1 e),(h.gs k j b s hk).2⟩,hm,h.tn.trans t,h.g⟩
 | some d =>
  obtain ⟨_,h2,h3,h4⟩:=free_some hf
  refine ⟨fun k s' hk=>?_,fun p hp=>?_,fun k j b s' hk=>?_,hm,h.tn.trans t,h.g⟩
  . show Rep E.N E.T ρ' Z' w' (upd f d v k) s'
    have hk : lk ((d,s) :: st.slots) k = some s':=hk
    rw [lk_cons] at hk
    by_cases e : d = k
    . rw [if_pos e] at hk; cases hk; subst e; rw [upd_same]; exact hv
    . rw [if_neg e] at hk; rw [upd_ne e]; exact t.rep (h.sl k s' hk)
  . show Rep E.N E.T ρ' Z' w' (upd f d v p.1) p.2
    rw [upd_ne (lk_none h2 p hp)]; exact t.rep (h.fx p hp)
  . have hk : lk st.gs k = some (j,b,s'):=hk
    have e : d ≠ k:=fun e=>by subst e; rw [h3] at hk; cases hk
    have e2 : d ≠ j:=Ne.symm (gs_free h4 hk)
    show (upd f d v j = _ -> Rep E.N E.T ρ' Z' w' (upd f d v k) s') /\ (upd f d v j ≠ _ -> upd f d v k = _)
    rw [upd_ne e,upd_ne e2]
    exact ⟨fun e=>t.rep ((h.gs k j b s' hk).1 e),(h.gs k j b s' hk).2⟩
theorem Rel.put0 {d : Option Nat} {v : Value} {s : E.SV} (h : Rel E C fx lkd st ρ Z f w) (hf : free n fx st d = true) (hv : Rep E.N E.T ρ Z w v s) : Rel E C fx lkd (Rx.put st d s) ρ Z (putF f d v) w:=by
 have:=h.put hf (Tn.refl ρ Z w) h.mem hv
 exact this
theorem cj_ob {ps : List Prop} {r : Prop} (h : cj ps r) : allP ps /\ r:=by
 induction ps with
 | nil=>exact ⟨trivial,h⟩
 | cons p ps ih=>exact ⟨⟨h.1,(ih h.2).1⟩,(ih h.2).2⟩
theorem im_hy {ps : List Prop} {r : Prop} (h : im ps r) (hp : allP ps) : r:=by
 induction ps with
 | nil=>exact h
 | cons p ps ih=>exact ih (h hp.1) hp.2
theorem pickG_ok {m : Bool} {ch : List (Nat × Bool)} {c : Operand} {s : E.SV} (h : Rel E C fx lkd st ρ Z f w) (hc : AllG f ch) {ya yb : Operand} (hp : pickG fx lkd st ch c ya yb = some s) (hn : Nat.blt d n = true) (K : ∀ v,Rep E.N E.T ρ Z w v s -> WL E.P m n ops Q rest (upd f d v) w) :
  WL E.P m n ops Q (⟨some d,.pick c ya yb,ty,pos,after,none⟩ :: rest) f w:=by
 cases c with
 | tmp j =>
  simp only [pickG] at hp
  have he:=h.ev hc (.tmp j)
  split at hp
  . rename_i p dp hpp
    have hv:=he.boolv hpp
    refine S_pick hv hn ?_
    split at hp
    . rename_i t
      split at hp
      . rename_i j' b v hg
        have ⟨h1,h2⟩:=bif_some hp
        simp only [Bool.and_eq_true] at h1
        obtain ⟨e1,e2⟩:=h1
        have e1:=Nat.eq_of_beq_eq_true e1
        subst e1; subst e2
        split at h2
        . rename_i q dq hq
          simp only [Option.some.injEq] at h2; subst h2
          have hgs:=h.gs t j true v hg
          have hv' : f j = .bool (@decide p dp):=hv
          have e : (if @decide p dp = true then Wk.ev f (.tmp t) else Wk.ev f (.const (.bool false))) = .bool (decide (p /\ q)):=by
           by_cases hpp : p
           . rw [if_pos (by simp [hpp])]
             have hr:=hgs.1 (by rw [hv']; simp [hpp])
             show f t = _
             rw [hr.boolv hq]; simp [hpp]
           . rw [if_neg (by simp [hpp])]
             show Value.bool false = _
             simp [hpp]
          rw [e]; exact K _ .bl
        . cases h2
      . cases hp
    . rename_i t
      split at hp
      . rename_i j' b v hg
        have ⟨h1,h2⟩:=bif_some hp
        simp only [Bool.and_eq_true,Bool.not_eq_true'] at h1
        obtain ⟨e1,e2⟩:=h1
        have e1:=Nat.eq_of_beq_eq_true e1
        subst e1; subst e2
        split at h2
        . rename_i q dq hq
          simp only [Option.some.injEq] at h2; subst h2
          have hgs:=h.gs t j false v hg
          have hv' : f j = .bool (@decide p dp):=hv
          have e : (if @decide p dp = true then Wk.ev f (.const (.bool true)) else Wk.ev f (.tmp t)) = .bool (decide (p ∨ q)):=by
           by_cases hpp : p
           . rw [if_pos (by simp [hpp])]
             show Value.bool true = _
             simp [hpp]
           . rw [if_neg (by simp [hpp])]
             have hr:=hgs.1 (by rw [hv']; simp [hpp])
             show f t = _
             rw [hr.boolv hq]; simp [hpp]
          rw [e]; exact K _ .bl
        . cases h2
      . cases hp
    . cases hp
  . cases hp
 | _=>cases hp
theorem stepG_ok {m : Bool} {ch : List (Nat × Bool)} {op : Op} {q : Q1 E.N} (h : Rel E C fx lkd st ρ Z f w) (hc : AllG f ch) (hs : stepG fx lkd st ch op = some q) (ho : allP q.ob) (hn : Nat.blt d n = true) (K : KQ E m n ops Q rest f w d ρ Z q) :
  WL E.P m n ops Q (⟨some d,op,ty,pos,after,none⟩ :: rest) f w:=by
 unfold stepG at hs
 split at hs
 . rename_i v hp
   cases op with
   | pick c a b=>exact pickG_ok h hc hp hn (fun v hv=>K.q0 hs hv)
   | _=>cases hp
 . exact stepQ_ok h.mem (fun o=>h.ev hc o) hs ho hn K
theorem Mem.join {new : Items E.N} {nx' : Nat} (hm : Mem E C ρ Z w its nx) (hρ : ∀ i L,ρ i = some L -> ρ' i = some L) (hfr : ∀ i,nx' <= i -> ρ' i = none) (hz : ∀ b,Z b -> Z' b) (hz' : ∀ b,Z' b -> Z b ∨ w.heap.size <= b) (hs : Sep [] w Z' w' (toIts E.N E.T ρ' [] new)) : Mem E C ρ' Z' w' (new ++ its) nx' /\ Tn ρ Z w ρ' Z' w':=by
 have x:=hs.ext
 have hold : ∀ {k : Nat} {p : Nat × Item E.N},its[k]? = some p -> Go.Rx.holds E.N E.T ρ' p.1 Z' w' p.2 /\ (∀ b ∈ foot E.N ρ' p.1 p.2,b ∈ foot E.N ρ p.1 p.2):=fun {k p} hp=>by
  have h1 : Go.Rx.holds E.N E.T ρ p.1 Z' w' p.2:=toIt_stab (B0:=C.B0) Z Z' [] w w' (hm.holds hp) x (fun _ h=>by cases h) hz
  have h2:=holds_sub hρ h1
  exact ⟨h2.1,fun b hb=>by rw [<- h2.2]; exact hb⟩
 have oldF : ∀ {k : Nat} {p : Nat × Item E.N},its[k]? = some p -> ∀ b ∈ foot E.N ρ p.1 p.2,b < w.heap.size /\ ¬ Z b /\ (b ∈ C.B0 ∨ C.w0.heap.size <= b):=fun {k p} hp b hb=>by
  have ok:=hm.sep.ok k _ (toIts_at hp)
  exact ⟨ok.lt b hb,ok.notZ b hb,ok.org b hb⟩
 have newF : ∀ {k : Nat} {p : Nat × Item E.N},new[k]? = some p -> Go.Rx.holds E.N E.T ρ' p.1 Z' w' p.2 /\ ∀ b ∈ foot E.N ρ' p.1 p.2,b < w'.heap.size /\ ¬ Z' b /\ w.heap.size <= b:=fun {k p} hp=>by
  have ok:=hs.ok k _ (toIts_at hp)
  exact ⟨ok.holds,fun b hb=>⟨ok.lt b hb,ok.notZ b hb,by
   rcases ok.org b hb with h | h
   . cases h
   . exact h⟩⟩
 have w0le:=hm.sep.ext.size
 refine ⟨⟨⟨hm.sep.ext.trans x (fun b hb=>.inl hb) (fun b hb=>by cases hb),hs.zlt,fun k t hk=>?_,fun j k s t hj hk hne b hb hb'=>?_⟩,hfr,fun i L e=>hρ _ _ (hm.ge i L e),fun b h=>hz b (hm.zge b h),fun b h=>?_⟩,⟨hρ,fun b h _=>hz b h,[],x,fun _ h=>by cases h⟩⟩
 . obtain ⟨p,hp,rfl⟩:=toIts_get hk
   by_cases hlt : k < new.length
   . rw [List.getElem?_append_left hlt] at hp
     obtain ⟨h1,h2⟩:=newF hp
     exact ⟨h1,toIt_stab,fun b hb=>(h2 b hb).1,fun b hb=>(h2 b hb).2.1,fun b hb=>.inr (by have:=(h2 b hb).2.2; omega),fun b hb=>hb⟩
   . rw [List.getElem?_append_right (by omega)] at hp
     obtain ⟨h1,h2⟩:=hold hp
     exact ⟨h1,toIt_stab,fun b hb=>by have:=(oldF hp b (h2 b hb)).1; have:=x.size; omega,fun b hb hZ=>by
      have o:=oldF hp b (h2 b hb)
      rcases hz' b hZ with h | h
      . exact o.2.1 h
      . omega,fun b hb=>(oldF hp b (h2 b hb)).2.2,fun b hb=>hb⟩
 . obtain ⟨p,hp,rfl⟩:=toIts_get hj
   obtain ⟨q,hq,rfl⟩:=toIts_get hk
   have hb : b ∈ foot E.N ρ' p.1 p.2:=hb
   have hb' : b ∈ foot E.N ρ' q.1 q.2:=hb'
   by_cases h1 : j < new.length
   . rw [List.getElem?_append_left h1] at hp
     by_cases h2 : k < new.length
     . rw [List.getElem?_append_left h2] at hq
       exact hs.apart j k _ _ (toIts_at hp) (toIts_at hq) hne b hb hb'
     . rw [List.getElem?_append_right (by omega)] at hq
       have:=((newF hp).2 b hb).2.2
       have:=(oldF hq b ((hold hq).2 b hb')).1
       omega
   . rw [List.getElem?_append_right (by omega)] at hp
     by_cases h2 : k < new.length
     . rw [List.getElem?_append_left h2] at hq
       have:=((newF hq).2 b hb').2.2
       have:=(oldF hp b ((hold hp).2 b hb)).1
       omega
     . rw [List.getElem?_append_right (by omega)] at hq
       exact hm.sep.apart _ _ _ _ (toIts_at hp) (toIts_at hq) (by omega) b ((hold hp).2 b hb) ((hold hq).2 b hb')
 . rcases hz' b h with h | h
   . exact hm.zle b h
   . exact .inr (.inr (by omega))
theorem tupRep {e : Operand -> E.SV} (he : ∀ o,Rep E.N E.T ρ Z w (Wk.ev f o) (e o)) : ∀ (l : List Operand),Rep E.N E.T ρ Z w (.tuple (l.map (Wk.ev f)).toArray) (.tup (l.map e))
 | []=>.tup0
 | o :: l=>.tup1 (he o) (tupRep he l)
theorem tupApp {cs c2 : List Value} {ss s2 : List E.SV} (h : Rep E.N E.T ρ Z w (.tuple cs.toArray) (.tup ss)) (h2 : RepL E.N E.T ρ Z w c2 s2) : Rep E.N E.T ρ Z w (.tuple (cs ++ c2).toArray) (.tup (ss ++ s2)):=by
 induction ss generalizing cs with
 | nil =>
  have : cs = []:=by
   generalize e : Value.tuple cs.toArray = u at h
   cases h with
   | tup0=>simpa using e
  subst this
  show Rep E.N E.T ρ Z w (.tuple c2.toArray) (.tup s2)
  clear h
  induction s2 generalizing c2 with
  | nil=>have:=RepL.nil_inv h2; subst this; exact .tup0
  | cons s r ih=>obtain ⟨v,rr,rfl,h1,_,h3⟩:=RepL.cons_inv h2; exact .tup1 h1 (ih h3)
 | cons s ss ih=>obtain ⟨v,r,rfl,h1,h3⟩:=Rep.tup_cons h; exact .tup1 h1 (ih h3)
theorem callee_ok {e : Operand -> E.SV} (he : ∀ o,Rep E.N E.T ρ Z w (Wk.ev f o) (e o)) {c : Call} {K : Nat} {args : List E.SV} (h : callee e c = some (K,args)) : ∃ z xs Ts cap,c = ⟨.value z,xs,Ts⟩ /\ Wk.ev f z = .func (.func K) #[] cap /\ Rep E.N E.T ρ Z w (.tuple (xs.toList.map (Wk.ev f) ++ cap.toList).toArray) (.tup args):=by
 obtain ⟨cal,xs,Ts⟩:=c
 unfold callee at h
 cases cal with
 | value z =>
  simp only at h
  have hz:=he z
  generalize hv : Wk.ev f z = vz at hz
  split at h
  . rename_i K' hk
    simp only [Option.some.injEq,Prod.mk.injEq] at h
    obtain ⟨rfl,rfl⟩:=h
    rw [hk] at hz
    cases hz with
    | fn=>exact ⟨z,xs,Ts,#[],rfl,hv,by simpa using tupRep he xs.toList⟩
  . rename_i K' cs hk
    simp only [Option.some.injEq,Prod.mk.injEq] at h
    obtain ⟨rfl,rfl⟩:=h
    rw [hk] at hz
    cases hz with
    | clo hr=>exact ⟨z,xs,Ts,_,rfl,hv,tupApp (tupRep he xs.toList) hr⟩
  . cases h
 | _=>cases h
theorem S_callA {z : Operand} {xs : Array Operand} {Ts : Array TypeId} {cap : Array Value} {K0 : Nat} {d : Option Nat} {R : Value -> World -> Prop} (hv : Wk.ev f z = .func (.func K0) #[] cap) (hK : ∀ ars w,(callFunc K0 ars).run E.P w = .ok (.enter K0 ars) w)
  (hc : CallR E.P K0 (xs.toList.map (Wk.ev f) ++ cap.toList) w R) (hn : ∀ d',d = some d' -> Nat.blt d' n = true) (K : ∀ v w',R v w' -> WL E.P false n ops Q rest (putF f d v) w') : WL E.P false n ops Q (⟨d,.call ⟨.value z,xs,Ts⟩,ty,pos,after,none⟩ :: rest) f w:=by
 have key : ∀ w1,Sim w w1 -> (execOp (Wk.ev f) ⟨d,.call ⟨.value z,xs,Ts⟩,ty,pos,after,none⟩).run E.P w1 = .ok (.enter K0 (xs.toList.map (Wk.ev f) ++ cap.toList).toArray) w1:=fun w1 _=>by
  have : xs.map (Wk.ev f) ++ cap = (xs.toList.map (Wk.ev f) ++ cap.toList).toArray:=by apply Array.ext'; simp
  simp [execOp,resolve,Deferred.ofValue,invoke,hv,go_sem,hK,<- this]
 cases d with
 | none=>exact WL_enterN rfl rfl key hc K
 | some d=>exact WL_enter rfl rfl (hn d rfl) key hc K
theorem pureS_rep {v : Value} {s : E.SV} (hp : pureS s = true) (h : Rep E.N E.T ρ Z w v s) (ρ' : Env1) : Rep E.N E.T ρ' Z w v s:=by
 have one : ∀ {v : Value} {s : E.SV},(match s with | .int _ _=>true | .byte _=>true | .tt=>true | .ff=>true | .bl _ _=>true | .str _=>true | .con _=>true | .nils=>true | .sl _ _=>true | .err _=>true | .fn _=>true | _=>false) = true -> Rep E.N E.T ρ Z w v s -> Rep E.N E.T ρ' Z w v s:=fun {v s} hp h=>by
  cases h with
  | int h=>exact .int h
  | byte=>exact .byte
  | tt=>exact .tt
  | ff=>exact .ff
  | bl=>exact .bl
  | str h=>exact .str h
  | con h=>exact .con h
  | nils=>exact .nils
  | sl h=>exact .sl h
  | err h=>exact .err h
  | fn=>exact .fn
  | _=>cases hp
 cases s with
 | agg vs =>
  have ⟨cs,e,h2⟩:=Rep.agg_inv h
  subst e
  clear h
  rename RepL E.N E.T ρ Z w cs vs=>h
  simp only [pureS] at hp
  show RepL E.N E.T ρ' Z w cs vs
  induction vs generalizing cs with
  | nil=>have:=RepL.nil_inv h; subst this; exact RepL.nil
  | cons s r ih =>
   obtain ⟨u,rr,rfl,h1,hpl,h2⟩:=RepL.cons_inv h
   simp only [List.all_cons,Bool.and_eq_true] at hp
   refine Rep.agg1 (one ?_ h1) hpl (ih hp.2 rr h2)
   have:=hp.1
   cases s <;> first | rfl | cases this
 | un=>cases hp
 | undef=>cases hp
 | ref=>cases hp
 | acc=>cases hp
 | el=>cases hp
 | fel=>cases hp
 | sub=>cases hp
 | tup=>cases hp
 | ifc=>cases hp
 | clo=>cases hp
 | _=>exact one rfl h
theorem pureT_rep {cs : List Value} {ss : List E.SV} (hp : ss.all pureS = true) (h : Rep E.N E.T ρ Z w (.tuple cs.toArray) (.tup ss)) (ρ' : Env1) : Rep E.N E.T ρ' Z w (.tuple cs.toArray) (.tup ss):=by
 induction ss generalizing cs with
 | nil =>
  generalize e : Value.tuple cs.toArray = u at h ⊢
  cases h with | tup0=>exact .tup0
 | cons s ss ih =>
  obtain ⟨v,r,rfl,h1,h2⟩:=Rep.tup_cons h
  simp only [List.all_cons,Bool.and_eq_true] at hp
  exact .tup1 (pureS_rep hp.1 h1 ρ') (ih hp.2 h2)
def seen (Z : Nat -> Prop) (w : World) (F : List Nat) : Nat -> Prop:=fun b=>b < w.heap.size /\ b ∉ F
theorem lent_ok {F : List Nat} {cs : List Value} {ss : List E.SV} (hm : Mem E C ρ Z w its nx) (hF : ∀ b ∈ F,¬ Z b) (hA : ∀ id t l,lk its id = some (.ac t l) -> ∀ b ∈ foot E.N ρ id (.ac t l),b ∉ F) (h : Rep E.N E.T ρ Z w (.tuple cs.toArray) (.tup ss)) : Rep E.N E.T ρ (seen Z w F) w (.tuple cs.toArray) (.tup (ss.map (lent its))):=by
 have hZ : ∀ b,Z b -> b < w.heap.size -> seen Z w F b:=fun b hz hb=>⟨hb,fun hm=>hF b hm hz⟩
 have up : ∀ {v : Value} {s : E.SV},Rep E.N E.T ρ Z w v s -> Rep E.N E.T ρ (seen Z w F) w v s:=fun h=>h.stab (Ext.refl [] w) (fun _ h=>by cases h) hZ (fun _ _ h=>h)
 have one : ∀ {v : Value} {s : E.SV},Rep E.N E.T ρ Z w v s -> Rep E.N E.T ρ (seen Z w F) w v (lent0 its s):=fun {v s} h1=>by
  cases s with
  | acc id =>
   simp only [lent0]
   split
   . rename_i t l hi
     obtain ⟨L,hL,hn,hl,hac⟩:=hm.at hi
     cases h1 with
     | acc hL' =>
      rw [hL] at hL'; cases hL'
      have hrd:=Ac.rd hac hl
      refine .sl (Rd.weak _ hrd fun b hb hlt=>?_)
      rcases hb with h | h
      . exact hZ b h hlt
      . exact ⟨hlt,hA id t l hi b (by rw [foot_ac hL]; exact h)⟩
   . exact up h1
  | sub id t lo n =>
   simp only [lent0]
   split
   . rename_i t' l hi
     cases hb : Nat.beq t t' with
     | false=>rw [cond_false]; exact up h1
     | true =>
      rw [cond_true]
      have e:=Nat.eq_of_beq_eq_true hb
      subst e
      obtain ⟨L,hL,hn,hl,hac⟩:=hm.at hi
      cases h1 with
      | subs hL' l0 n0 l1 hc hA' =>
       rw [hL] at hL'; cases hL'
       have hrd:=Ac.rd hac hl
       rw [hn] at hrd
       have hs:=slice_rd (a:=lo.toNat) (b:=lo.toNat + n.toNat) hrd (by omega) (by omega)
       rw [Nat.add_sub_cancel_left] at hs
       rw [hc,hA']
       refine .sl (Rd.weak _ hs fun b hb hlt=>?_)
       rcases hb with h | h
       . exact hZ b h hlt
       . exact ⟨hlt,hA id t l hi b (by rw [foot_ac hL]; exact h)⟩
   . exact up h1
  | _=>exact up h1
 have many : ∀ {vs : List E.SV} {us : List Value},RepL E.N E.T ρ Z w us vs -> RepL E.N E.T ρ (seen Z w F) w us (vs.map (lent0 its)):=fun {vs}=>by
  induction vs with
  | nil=>intro us h; obtain rfl:=RepL.nil_inv h; exact RepL.nil
  | cons s vs ih=>intro us h; obtain ⟨v,r,rfl,h1,hp,h2⟩:=RepL.cons_inv h; exact RepL.cons (one h1) hp (ih h2)
 induction ss generalizing cs with
 | nil =>
  generalize e : Value.tuple cs.toArray = u at h ⊢
  cases h with | tup0=>exact .tup0
 | cons s ss ih =>
  obtain ⟨v,r,rfl,h1,h2⟩:=Rep.tup_cons h
  refine .tup1 ?_ (ih h2)
  cases s with
  | agg vs =>
   obtain ⟨us,rfl,hr⟩:=Rep.agg_inv h1
   exact many hr
  | _=>exact one h1
end
end Go.Rx
end
section
namespace Go.Rx
open Go Go.Wk Go.Wl
def InlOK (E : Env) (inl : Inl E) : Prop :=
 ∀ (K : Nat) (args : List E.SV) (its lkd : Items E.N) (nx : Nat) (k : E.SV -> Items E.N -> Nat -> Prop),inl K args its lkd nx k -> (E.inl K).isSome = true /\
  ∀ (C : Ctx) (ρ : Env1) (Z : Nat -> Prop) (w : World) (vs : List Value),Mem E C ρ Z w (its ++ lkd) nx -> E.G.is Z w -> Rep E.N E.T ρ Z w (.tuple vs.toArray) (.tup args) ->
   CallR E.P K vs w (fun v w'=>∃ ρ' Z' s its' nx',Mem E C ρ' Z' w' (its' ++ lkd) nx' /\ Tn ρ Z w ρ' Z' w' /\ Rep E.N E.T ρ' Z' w' v s /\ k s its' nx')
section
variable {E : Env} {C : Ctx} {n : Nat} {ops : List Oper} {Q : Exit -> Fr -> World -> Prop} {rest : List Oper} {f : Fr} {w w' : World}
variable {ty T T' : TypeId} {pos : String} {after : Array Edge} {x y z : Operand} {a b : Int} {ρ ρ' : Env1} {Z Z' : Nat -> Prop} {its its' lkd : Items E.N} {nx : Nat} {s : S1 E.N}
variable {fx : Slots E.N} {st : E.St} {inl : Inl E}
theorem Mem.ext0 (hm : Mem E C ρ Z w its nx) (x : Ext [] w w') : Mem E C ρ Z w' its nx /\ Tn ρ Z w ρ Z w':=by
 have:=hm.join (new:=[]) (ρ':=ρ) (Z':=Z) (nx':=nx) (fun _ _ h=>h) hm.fr (fun _ h=>h) (fun _ h=>.inl h) ⟨x,fun b hb=>by have:=hm.sep.zlt b hb; have:=x.size; omega,fun k t h=>by simp [toIts] at h,fun j k s t h=>by simp [toIts] at h⟩
 exact this
theorem Rep.bare {v : Value} {s : E.SV} (h : Rep E.N E.T (fun _=>none) (fun _=>False) w v s) : Rep E.N E.T ρ Z w v s:=h.stab (Ext.refl [] w) (fun _ h=>by cases h) (fun _ h _=>h.elim) (fun _ _ h=>by cases h)
abbrev KR (E : Env) (C : Ctx) (m : Bool) (n : Nat) (ops : List Oper) (Q : Exit -> Fr -> World -> Prop) (rest : List Oper) (fx : Slots E.N) (lkd : Items E.N) (f : Fr) (d : Option Nat) (k : E.St -> Prop) : Prop :=
 ∀ st' ρ' Z' v w',Rel E C fx lkd st' ρ' Z' (putF f d v) w' -> k st' -> WL E.P m n ops Q rest (putF f d v) w'
theorem free_blt {d : Option Nat} (h : free n fx st d = true) : ∀ d',d = some d' -> Nat.blt d' n = true:=fun d' e=>by subst e; exact (free_some h).1
theorem lend_run (hE : EnvOK E) {K : Nat} {Cf : List E.SV -> Nat -> Option (CR E.N)} {r : CR E.N} {args : List E.SV} {vs : List Value} (hm : Mem E C ρ Z w its nx) (hc : E.con K = some Cf) (hl : E.lend K = true) (hr : Cf (args.map (lent its)) nx = some r) (hi : r.its.isEmpty = true) (hp : (args.map (lent its)).all pureS = true) (ho : allP r.ob) (hg : E.G.is Z w)
  (hv : Rep E.N E.T ρ Z w (.tuple vs.toArray) (.tup args)) : CallR E.P K vs w (fun v w'=>Ext [] w w' /\ Rep E.N E.T (fun _=>none) (fun _=>False) w' v r.r /\ allP r.hy):=by
 have h1:=lent_ok (F:=[]) hm (fun _ h=>by cases h) (fun _ _ _ _ _ _ h=>by cases h) hv
 exact hE.lend K Cf _ _ r hc hl hr (List.isEmpty_iff.1 hi) ho (seen Z w []) w vs (fun b hb=>hb.1) (E.G.stab hg (Ext.refl [] w) (fun _ h=>by cases h) (fun b hz hb=>⟨hb,fun h=>by cases h⟩)) (pureT_rep hp h1 _)
theorem vcCall_ok (hE : EnvOK E) (hI : InlOK E inl) {ch : List (Nat × Bool)} {d : Option Nat} {c : Call} {k : E.St -> Prop} (h : Rel E C fx lkd st ρ Z f w) (hG : AllG f ch) (hf : free n fx st d = true) (hv : vcCall inl fx lkd st ch d c k) (K : KR E C false n ops Q rest fx lkd f d k) :
  WL E.P false n ops Q (⟨d,.call c,ty,pos,after,none⟩ :: rest) f w:=by
 unfold vcCall at hv
 split at hv
 . exact hv.elim
 . rename_i K0 args hcal
   obtain ⟨z,xs,Ts,cap,rfl,hz,hargs⟩:=callee_ok (fun o=>h.ev hG o) hcal
   have hn:=free_blt hf
   split at hv
   . rename_i Cf hcon
     have hK:=hE.call K0 (by rw [hcon]; rfl)
     cases hl : E.lend K0 with
     | true =>
      rw [hl,cond_true] at hv
      unfold vcLend at hv
      rw [hcon] at hv
      simp only at hv
      split at hv
      . rename_i r hr
        cases hb : (r.its.isEmpty && (args.map (lent (st.items ++ lkd))).all pureS) with
        | false=>rw [hb,cond_false] at hv; exact hv.elim
        | true =>
         rw [hb,cond_true] at hv
         simp only [Bool.and_eq_true] at hb
         obtain ⟨ho,hv⟩:=cj_ob hv
         refine S_callA hz hK (lend_run hE h.mem hcon hl hr hb.1 hb.2 ho h.glob hargs) hn fun v w' ⟨x,hr',hy⟩=>?_
         obtain ⟨m1,t1⟩:=h.mem.ext0 x
         exact K _ _ _ _ _ (h.put hf t1 m1 (Rep.bare hr')) (im_hy hv hy)
      . exact hv.elim
     | false =>
      rw [hl,cond_false] at hv
      split at hv
      . rename_i args' its hfz
        obtain ⟨Z1,hm1,t1,he⟩:=frz_ok h.mem hfz
        unfold vcCon at hv
        rw [hcon] at hv
        simp only at hv
        split at hv
        . rename_i r hr
          cases hpu : args'.all pureS with
          | false=>rw [hpu] at hv; exact hv.elim
          | true =>
          rw [hpu,cond_true] at hv
          obtain ⟨ho,hv⟩:=cj_ob hv
          have ok:=(hE.con K0 Cf args' st.nx r hcon hr hpu ho).run ρ Z1 w _ hm1.fr hm1.sep.zlt (Glob.turn h.glob t1) (he.tup hargs)
          refine S_callA hz hK ok hn fun v w' ⟨ρ',Z',hρ,hfr,hzz,hz',hrep,hsep,hy⟩=>?_
          have ⟨m2,t2⟩:=hm1.join hρ hfr hzz hz' hsep
          rw [<- List.append_assoc] at m2
          exact K _ _ _ _ _ (h.put hf (t1.trans t2) m2 hrep) (im_hy hv hy)
        . exact hv.elim
      . exact hv.elim
   . split at hv
     . rename_i o hobc
       have hK:=hE.call K0 (by rw [hobc]; simp)
       unfold vcObc at hv
       split at hv
       . rename_i v0 args0
         split at hv
         . rename_i id off
           cases hb : (Nat.beq off 0 && (args0.map (lent (st.items ++ lkd))).all pureS) with
           | false=>rw [hb,cond_false] at hv; exact hv.elim
           | true =>
            rw [hb,cond_true] at hv
            simp only [Bool.and_eq_true] at hb
            have hoff:=Nat.eq_of_beq_eq_true hb.1
            subst hoff
            split at hv
            . rename_i k' fid xx hi
              split at hv
              . rename_i hk
                obtain ⟨ok0,oC⟩:=o
                simp only at hk
                subst hk
                split at hv
                . rename_i r hr
                  obtain ⟨ho,hv⟩:=cj_ob hv
                  obtain ⟨j,hj,hu,_⟩:=lk_mem hi
                  obtain ⟨L,Lf,hL,hLf,hob⟩:=h.mem.holds (its_get (l2:=lkd) hj)
                  have hL : ρ id = some L:=hL
                  have hjg:=its_get (l2:=lkd) hj
                  have okj:=h.mem.sep.ok j _ (toIts_at hjg)
                  have hF : (toIt E.N E.T ρ C.B0 id (.ob k' fid xx)).F = Lf.bs:=by show foot E.N ρ id (.ob k' fid xx) = _; exact foot_ob hLf
                  obtain ⟨v1,vr,hvs,hv1,hvr⟩:=Rep.tup_cons hargs
                  have hv1' : v1 = .pointer (some ⟨L.b,0,none⟩):=by
                   cases hv1 with
                   | ref hL'=>rw [hL] at hL'; cases hL'; rfl
                  subst hv1'
                  have hA : ∀ id2 t l,lk (st.items ++ lkd) id2 = some (.ac t l) -> ∀ b ∈ foot E.N ρ id2 (.ac t l),b ∉ Lf.bs:=fun id2 t l hi2 b hb hb'=>by
                   obtain ⟨j2,hj2,_⟩:=lk_mem hi2
                   have hne : j2 ≠ j:=fun e=>by subst e; rw [hjg] at hj2; cases hj2
                   exact h.mem.sep.apart j2 j _ _ (toIts_at hj2) (toIts_at hjg) hne b hb (by show b ∈ (toIt E.N E.T ρ C.B0 id (.ob k' fid xx)).F; rw [hF]; exact hb')
                  have hlv:=pureT_rep (ρ':=fun _=>none) hb.2 (lent_ok (F:=Lf.bs) h.mem (fun b hb hz=>okj.notZ b (by show b ∈ (toIt E.N E.T ρ C.B0 id (.ob k' fid xx)).F; rw [hF]; exact hb) hz) hA hvr)
                  have run:=hE.obc K0 _ xx _ r hobc hr ho Z (seen Z w Lf.bs) w vr L.b Lf.bs h.mem.sep.zlt (fun b hb=>hb.1) (fun b hb=>⟨okj.notZ b (by show b ∈ (toIt E.N E.T ρ C.B0 id (.ob k' fid xx)).F; rw [hF]; exact hb),fun hs=>hs.2 hb⟩) hob (E.G.stab h.glob (Ext.refl [] w) (fun _ h=>by cases h) (fun b hz hb=>⟨hb,fun hm=>okj.notZ b (by show b ∈ (toIt E.N E.T ρ C.B0 id (.ob k' fid xx)).F; rw [hF]; exact hm) hz⟩)) hlv
                  rw [<- hvs] at run
                  refine S_callA hz hK run hn fun v w' ⟨F',hob',⟨x,hF'⟩,hrep,hy⟩=>?_
                  have lt':=((E.N.oj k').ob L.b).lt hob'
                  have hs1:=Wl.Sep.upd h.mem.tn (j + 1) (t:=toIt E.N E.T ρ C.B0 id (.ob k' fid xx)) (t':=⟨F',C.B0,fun Z w=>((E.N.oj k').ob L.b).is Z w r.x F'⟩) (by rw [List.getElem?_cons_succ]; exact toIts_at hjg) (by rw [hF]; exact x) hob' (fun Z1 Z2 B w1 w2 h1 x1 hB hz1=>((E.N.oj k').ob L.b).stab Z1 Z2 B w1 w2 h1 x1 hB hz1) (fun b hb=>⟨by rw [hF]; exact hF' b hb,lt' b hb⟩) rfl
                  have hjt : j < (toIts E.N E.T ρ C.B0 (st.items ++ lkd)).length:=by simpa [toIts] using lt_get hjg
                  have hρ:=rset_sub (L:=⟨0,none,0,0,F'⟩) (h.mem.fr st.nx (Nat.le_refl _))
                  have t2:=tn_of (Z:=Z) (w:=w) (ρ:=ρ) (ρ':=rset ρ st.nx ⟨0,none,0,0,F'⟩) (k:=0) hs1 (by simp) hρ
                  have hs2 : Sep C.B0 C.w0 Z w' ((toIts E.N E.T ρ C.B0 (st.items ++ lkd)).set j ⟨F',C.B0,fun Z w=>((E.N.oj k').ob L.b).is Z w r.x F'⟩):=septn (u:=tnI Z w) (by simpa using hs1)
                  have m1 : Mem E C (rset ρ st.nx ⟨0,none,0,0,F'⟩) Z w' ((st.items ++ lkd).set j (id,.ob k' st.nx r.x)) (st.nx + 1):=by
                   refine ⟨Sep.conv hs2 (by simp [toIts]) fun k s s' hk hk'=>?_,fun i hi=>by unfold rset; rw [if_neg (by omega)]; exact h.mem.fr i (by omega),fun i L' e=>hρ _ _ (h.mem.ge i L' e),h.mem.zge,h.mem.zle⟩
                   obtain ⟨p',hp',rfl⟩:=toIts_get hk'
                   by_cases e : k = j
                   . subst e
                     rw [List.getElem?_set_self hjt] at hk
                     rw [List.getElem?_set_self (lt_get hjg)] at hp'
                     cases hk; cases hp'
                     exact ⟨⟨L,_,hρ _ _ hL,rset_self,hob'⟩,toIt_stab,fun b hb=>by
                      have hb : b ∈ foot E.N (rset ρ st.nx ⟨0,none,0,0,F'⟩) id (.ob k' st.nx r.x):=hb
                      rw [foot_ob rset_self] at hb; exact hb,rfl⟩
                   . rw [List.getElem?_set_ne (Ne.symm e)] at hk hp'
                     obtain ⟨p,hp,rfl⟩:=toIts_get hk
                     rw [hp] at hp'; cases hp'
                     exact like_sub hρ (hs2.at k (t:=toIt E.N E.T ρ C.B0 p'.1 p'.2) (by rw [List.getElem?_set_ne (Ne.symm e)]; exact toIts_at hp))
                  rw [List.set_append_left _ _ (lt_get hj),<- hu] at m1
                  exact K _ _ _ _ _ (h.put hf t2 m1 (Rep.bare hrep)) (im_hy hv hy)
                . exact hv.elim
              . exact hv.elim
            . exact hv.elim
         . exact hv.elim
       . exact hv.elim
     . split at hv
       . rename_i o hwrc
         have hK:=hE.call K0 (by rw [hwrc]; simp)
         unfold vcWrc at hv
         split at hv
         . rename_i v0 T id off
           cases hb : (Nat.beq off 0 && Nat.beq T o.T && pureS (lent (st.items ++ lkd) v0)) with
           | false=>rw [hb,cond_false] at hv; exact hv.elim
           | true =>
            rw [hb,cond_true] at hv
            simp only [Bool.and_eq_true] at hb
            have hoff:=Nat.eq_of_beq_eq_true hb.1.1
            have hT:=Nat.eq_of_beq_eq_true hb.1.2
            subst hoff hT
            split at hv
            . rename_i S x hi
              cases hS : Nat.beq S o.S with
              | false=>rw [hS,cond_false] at hv; exact hv.elim
              | true =>
               rw [hS,cond_true] at hv
               have hS:=Nat.eq_of_beq_eq_true hS
               subst hS
               split at hv
               . rename_i r hr
                 obtain ⟨ho,hv⟩:=cj_ob hv
                 obtain ⟨j,hj,hu,_⟩:=lk_mem hi
                 have hjg:=its_get (l2:=lkd) hj
                 obtain ⟨L,cs,hL,hbs,hown,hrep⟩:=h.mem.holds hjg
                 have hL : ρ id = some L:=hL
                 obtain ⟨cv,cr,rfl,hcv,_,hcr⟩:=RepL.cons_inv hrep
                 obtain rfl:=RepL.nil_inv hcr
                 obtain ⟨rfl,hxI⟩ : cv = .int .i64 x /\ InI x:=by cases hcv with | int h=>exact ⟨rfl,h rfl⟩
                 obtain ⟨v1,vr,hvs,hv1,hvr⟩:=Rep.tup_cons hargs
                 obtain ⟨v2,vr2,hvr2,hv2,hvr3⟩:=Rep.tup_cons hvr
                 have hnil : vr2 = []:=by
                  generalize e : Value.tuple vr2.toArray = u at hvr3
                  cases hvr3 with | tup0=>simpa using e
                 have hv2' : v2 = .iface o.T (.pointer (some ⟨L.b,0,none⟩)):=by
                  cases hv2 with
                  | ifc h=>cases h with | ref hL'=>rw [hL] at hL'; cases hL'; rfl
                 subst hnil hv2' hvr2
                 have okj:=h.mem.sep.ok j _ (toIts_at hjg)
                 have hF : (toIt E.N E.T ρ C.B0 id (.own o.S [.int .i64 x])).F = [L.b]:=by show foot E.N ρ id (.own o.S [.int .i64 x]) = _; rw [foot_own hL,hbs]
                 have hnz : ∀ b ∈ [L.b],¬ Z b:=fun b hb=>okj.notZ b (by rw [hF]; exact hb)
                 have hA : ∀ id2 t l,lk (st.items ++ lkd) id2 = some (.ac t l) -> ∀ b ∈ foot E.N ρ id2 (.ac t l),b ∉ [L.b]:=fun id2 t l hi2 b hb hb'=>by
                  obtain ⟨j2,hj2,_⟩:=lk_mem hi2
                  have hne : j2 ≠ j:=fun e=>by subst e; rw [hjg] at hj2; cases hj2
                  exact h.mem.sep.apart j2 j _ _ (toIts_at hj2) (toIts_at hjg) hne b hb (by rw [hF]; exact hb')
                 have hlv:=pureT_rep (ρ':=fun _=>none) (ss:=[lent (st.items ++ lkd) v0]) (by simp [hb.2]) (lent_ok (cs:=[v1]) (ss:=[v0]) (F:=[L.b]) h.mem (fun b hb hz=>hnz b hb hz) hA (.tup1 (cs:=[]) hv1 .tup0))
                 obtain ⟨u1,ur,hu1,hl1,_⟩:=Rep.tup_cons hlv
                 obtain ⟨rfl,rfl⟩ : v1 = u1 /\ [] = ur:=by cases hu1; exact ⟨rfl,rfl⟩
                 have run:=hE.wrc K0 o _ x r hwrc hr ho (seen Z w [L.b]) w v1 L.b (fun b hb=>hb.1) (fun hs=>hs.2 (by simp)) (E.G.stab h.glob (Ext.refl [] w) (fun _ h=>by cases h) (fun b hz hb=>⟨hb,fun hm=>hnz b hm hz⟩)) hl1 hown hxI
                 rw [<- hvs] at run
                 refine S_callA hz hK run hn fun v w' ⟨x',hown',hrx,hrep',hy⟩=>?_
                 have hs1:=Wl.Sep.upd h.mem.tn (j + 1) (t:=toIt E.N E.T ρ C.B0 id (.own o.S [.int .i64 x])) (t':=iOwn L.b o.S [.int .i64 r.x] C.B0) (w':=w') (by rw [List.getElem?_cons_succ]; exact toIts_at hjg) (by rw [hF]; exact x') hown' sOwn (fun b hb=>⟨.inl (by rw [hF]; exact hb),by have:=hown'.lt; simp at hb; omega⟩) rfl
                 have hjt : j < (toIts E.N E.T ρ C.B0 (st.items ++ lkd)).length:=by simpa [toIts] using lt_get hjg
                 have t1:=tn_of (Z:=Z) (w:=w) (ρ:=ρ) (ρ':=ρ) (k:=0) hs1 (by simp) (fun _ _ h=>h)
                 have hs2 : Sep C.B0 C.w0 Z w' ((toIts E.N E.T ρ C.B0 (st.items ++ lkd)).set j (iOwn L.b o.S [.int .i64 r.x] C.B0)):=septn (u:=tnI Z w) (by simpa using hs1)
                 have m1:=h.mem.turn (i':=.own o.S [.int .i64 r.x]) hjg hs2 ⟨L,_,hL,hbs,hs2.at j (t:=iOwn L.b o.S [.int .i64 r.x] C.B0) (by rw [List.getElem?_set_self hjt]),RepL.cons (.int fun _=>hrx) rfl RepL.nil⟩ (fun b hb=>by rw [foot_own hL,hbs] at hb; exact hb)
                 rw [List.set_append_left _ _ (lt_get hj),<- hu] at m1
                 exact K _ _ _ _ _ (h.put hf t1 m1 (Rep.bare hrep')) (im_hy hv hy)
               . exact hv.elim
            . exact hv.elim
         . exact hv.elim
       . obtain ⟨hi,hrun⟩:=hI _ _ _ _ _ _ hv
         have hK:=hE.call K0 (by rw [hi]; simp)
         refine S_callA hz hK (hrun C ρ Z w _ h.mem h.glob hargs) hn fun v w' ⟨ρ',Z',s,its',nx',hm',t',hr,hk⟩=>?_
         exact K _ _ _ _ _ (h.put hf t' hm' hr) hk
theorem vcOp_ok {q : Bool} (hE : EnvOK E) (hI : InlOK E inl) {d : Option Nat} {op : Op} {k : E.St -> Prop} (h : Rel E C fx lkd st ρ Z f w) (hf : free n fx st d = true) (hv : vcOp q inl fx lkd st d op ty k) (K : KR E C q n ops Q rest fx lkd f d k) :
  WL E.P q n ops Q (⟨d,op,ty,pos,after,none⟩ :: rest) f w:=by
 unfold vcOp at hv
 split at hv
 . rename_i a hs
   cases d with
   | none=>exact hv.elim
   | some d =>
    obtain ⟨ho,hv⟩:=cj_ob (show cj a.ob (im a.hy (k (put st (some d) a.v))) from hv)
    exact stepG_ok h AllG.nil hs ho (free_some hf).1 fun v hr hy=>K _ _ _ _ _ (h.put0 hf hr) (im_hy hv hy)
 . cases q with
   | true=>exact hv.elim
   | false =>
    rw [cond_false] at hv
    split at hv
    . rename_i s hs
      cases hd : okD op d with
      | false=>rw [hd] at hv; exact hv.elim
      | true =>
       rw [hd,cond_true] at hv
       obtain ⟨ho,hv⟩:=cj_ob hv
       refine stepE_ok hE h.mem (fun o=>h.ev AllG.nil o) hs ho ?_ fun v ρ' Z' w' m1 t1 hr hy=>K _ _ _ _ _ (h.put hf t1 m1 hr) (im_hy hv hy)
       have hb:=free_blt hf
       cases op with
       | store T a x =>
        cases d with
        | none=>rfl
        | some d=>cases hd
       | _ =>
        cases d with
        | none=>cases hd
        | some d=>exact ⟨d,rfl,hb d rfl⟩
    . split at hv
      . rename_i c hc
        cases op with
        | call c'=>simp only [opCall,Option.some.injEq] at hc; subst hc; exact vcCall_ok hE hI h AllG.nil hf hv K
        | _=>cases hc
      . exact hv.elim
end
end Go.Rx
end
section
namespace Go.Rx
open Go Go.Wk Go.Wl
section
variable {E : Env} {C : Ctx} {n : Nat} {ops : List Oper} {Q : Exit -> Fr -> World -> Prop} {rest : List Oper} {f : Fr} {w w' : World}
variable {ty T T' : TypeId} {pos : String} {after : Array Edge} {x y z : Operand} {a b : Int} {ρ ρ' : Env1} {Z Z' : Nat -> Prop} {its its' lkd : Items E.N} {nx : Nat} {s : S1 E.N}
variable {fx : Slots E.N} {st : E.St} {inl : Inl E}
theorem undef_ne {b : Bool} : (undef : Value) ≠ .bool b:=fun h=>by cases h
theorem chain_ok (h : Rel E C fx lkd st ρ Z f w) : ∀ (m j : Nat) (b : Bool),f j = .bool b -> AllG f (chain st.gs m j b)
 | 0,_,_,_=>AllG.nil
 | m + 1,j,b,e=>fun k c hk=>by
  simp only [chain,gmem,List.any_cons,Bool.or_eq_true,Bool.and_eq_true] at hk
  rcases hk with ⟨h1,h2⟩ | hk
  . have h1:=Nat.eq_of_beq_eq_true h1
    subst h1
    have : b = c:=by simpa using h2
    subst this; exact e
  . split at hk
    . rename_i j' b' v hg
      have hgs:=h.gs j j' b' v hg
      have e' : f j' = .bool b':=by
       by_cases e2 : f j' = .bool b'
       . exact e2
       . rw [hgs.2 e2] at e; exact absurd e undef_ne
      exact chain_ok h m j' b' e' k c hk
    . simp at hk
theorem gprop_ok (h : Rel E C fx lkd st ρ Z f w) : ∀ (m j : Nat) (b : Bool) (p : Prop) (d : Decidable p),gprop fx st m j b = some ⟨p,d⟩ -> (p ↔ f j = .bool b) /\ (¬ p -> f j = .bool (!b) ∨ f j = undef)
 | 0,_,_,_,_,e=>by cases e
 | m + 1,j,b,p,d,e=>by
  unfold gprop at e
  split at e
  . rename_i j' b' v hg
    have hgs:=h.gs j j' b' v hg
    split at e
    . rename_i p1 d1 q1 e1 hp1 hq1
      have ih:=gprop_ok h m j' b' q1 e1 hq1
      cases b with
      | true =>
       rw [cond_true] at e; cases e
       by_cases hq : q1
       . have hr:=(hgs.1 (ih.1.1 hq)).boolv hp1
         rw [hr]
         by_cases hp : p1 <;> simp [hq,hp]
       . have hu:=hgs.2 (fun e=>hq (ih.1.2 e))
         rw [hu]
         exact ⟨⟨fun h=>absurd h.1 hq,fun h=>absurd h undef_ne⟩,fun _=>.inr rfl⟩
      | false =>
       rw [cond_false] at e; cases e
       by_cases hq : q1
       . have hr:=(hgs.1 (ih.1.1 hq)).boolv hp1
         rw [hr]
         by_cases hp : p1 <;> simp [hq,hp]
       . have hu:=hgs.2 (fun e=>hq (ih.1.2 e))
         rw [hu]
         exact ⟨⟨fun h=>absurd h.1 hq,fun h=>absurd h undef_ne⟩,fun _=>.inr rfl⟩
    . cases e
  . split at e
    . rename_i p1 d1 hp1
      have hr:=(h.slot j).boolv hp1
      cases b with
      | true=>rw [cond_true] at e; cases e; rw [hr]; by_cases hp : p <;> simp [hp]
      | false=>rw [cond_false] at e; cases e; rw [hr]; by_cases hp : p1 <;> simp [hp]
    . cases e
theorem Rel.guarded {d dj : Nat} {b : Bool} {v : Value} {s : E.SV} (h : Rel E C fx lkd st ρ Z f w) (hf : free n fx st (some d) = true) (hd : d ≠ dj) (t : Tn ρ Z w ρ Z' w') (hm : Mem E C ρ Z' w' (st.items ++ lkd) st.nx) (hv : (f dj = .bool b -> Rep E.N E.T ρ Z' w' v s) /\ (f dj ≠ .bool b -> v = undef)) :
  Rel E C fx lkd ⟨(d,.un) :: st.slots,(d,dj,b,s) :: st.gs,st.items,st.nx⟩ ρ Z' (upd f d v) w':=by
 obtain ⟨_,h2,h3,h4⟩:=free_some hf
 refine ⟨fun k s' hk=>?_,fun p hp=>?_,fun k j c s' hk=>?_,hm,h.tn.trans t,h.g⟩
 . rw [lk_cons] at hk
   by_cases e : d = k
   . rw [if_pos e] at hk; cases hk; exact .un
   . rw [if_neg e] at hk; rw [upd_ne e]; exact t.rep (h.sl k s' hk)
 . rw [upd_ne (lk_none h2 p hp)]; exact t.rep (h.fx p hp)
 . rw [lk_cons] at hk
   by_cases e : d = k
   . rw [if_pos e] at hk; cases hk; subst e
     rw [upd_same,upd_ne hd]; exact hv
   . rw [if_neg e] at hk
     have e2 : d ≠ j:=Ne.symm (gs_free h4 hk)
     rw [upd_ne e,upd_ne e2]
     exact ⟨fun e=>t.rep ((h.gs k j c s' hk).1 e),(h.gs k j c s' hk).2⟩
theorem imp_all {p : Prop} {l : List Prop} (hp : p) (h : allP (imp p l)) : allP l:=by
 induction l with
 | nil=>trivial
 | cons q l ih=>exact ⟨h.1 hp,ih h.2⟩
theorem imp_of {p : Prop} {l : List Prop} (h : p -> allP l) : allP (imp p l):=by
 induction l with
 | nil=>trivial
 | cons q l ih=>exact ⟨fun hp=>(h hp).1,ih fun hp=>(h hp).2⟩
theorem Rel.knows {dj : Nat} {b : Bool} (h : Rel E C fx lkd st ρ Z f w) (e : f dj = .bool b) : Rel E C fx lkd (Rx.put st (some dj) (bif b then .tt else .ff)) ρ Z f w:=by
 refine ⟨fun k s' hk=>?_,h.fx,h.gs,h.mem,h.tn,h.g⟩
 have hk : lk ((dj,bif b then SV.tt else SV.ff) :: st.slots) k = some s':=hk
 rw [lk_cons] at hk
 by_cases e2 : dj = k
 . rw [if_pos e2] at hk; cases hk; subst e2; rw [e]
   cases b
   . exact .ff
   . exact .tt
 . rw [if_neg e2] at hk; exact h.sl k s' hk
theorem lk_app2 {β : Type} {a b : List (Nat × β)} {k : Nat} {x : β} (h : lk (a ++ b) k = some x) : lk a k = some x ∨ lk b k = some x:=by
 induction a with
 | nil=>exact .inr h
 | cons p a ih =>
  have h : (bif Nat.beq p.1 k then some p.2 else lk (a ++ b) k) = some x:=h
  show (bif Nat.beq p.1 k then some p.2 else lk a k) = some x ∨ _
  cases hb : Nat.beq p.1 k with
  | true=>rw [hb,cond_true] at h; left; rw [cond_true]; exact h
  | false=>rw [hb,cond_false] at h; rw [cond_false]; exact ih h
theorem lk_in2 {β : Type} {a : List (Nat × β)} {k : Nat} {x : β} (h : lk a k = some x) : (k,x) ∈ a:=by
 obtain ⟨i,hi,_⟩:=lk_mem h
 exact List.mem_of_getElem? hi
theorem lk_filter2 {β : Type} {l : List (Nat × β)} {g : Nat -> Bool} {k : Nat} {x : β} (h : lk (l.filter fun p=>g p.1) k = some x) : g k = true /\ lk l k = some x:=by
 induction l with
 | nil=>cases h
 | cons p l ih =>
  show _ /\ (bif Nat.beq p.1 k then some p.2 else lk l k) = some x
  rw [List.filter_cons] at h
  by_cases hg : g p.1 = true
  . rw [if_pos hg] at h
    have h : (bif Nat.beq p.1 k then some p.2 else lk (l.filter fun p=>g p.1) k) = some x:=h
    cases hb : Nat.beq p.1 k with
    | true =>
     rw [hb,cond_true] at h
     rw [cond_true]
     have:=Nat.eq_of_beq_eq_true hb
     exact ⟨by rw [<- this]; exact hg,h⟩
    | false=>rw [hb,cond_false] at h; rw [cond_false]; exact ih h
  . rw [if_neg hg] at h
    obtain ⟨h1,h2⟩:=ih h
    cases hb : Nat.beq p.1 k with
    | true =>
     have:=Nat.eq_of_beq_eq_true hb
     rw [this] at hg; exact absurd h1 hg
    | false=>rw [cond_false]; exact ⟨h1,h2⟩
theorem Rel.settle {dj : Nat} {b : Bool} (h : Rel E C fx lkd st ρ Z f w) (e : f dj = .bool b) : Rel E C fx lkd (Rx.settle st dj b) ρ Z f w:=by
 refine ⟨fun k s' hk=>?_,h.fx,fun k j c s' hk=>?_,h.mem,h.tn,h.g⟩
 . rcases lk_app2 hk with hk | hk
   . have hm:=lk_in2 hk
     rw [List.mem_filterMap] at hm
     obtain ⟨p,_,hp⟩:=hm
     split at hp
     . rename_i j w' v hl
       cases hb : Nat.beq j dj with
       | false=>rw [hb,cond_false] at hp; cases hp
       | true =>
        rw [hb,cond_true] at hp
        have hj:=Nat.eq_of_beq_eq_true hb
        subst hj
        simp only [Option.some.injEq,Prod.mk.injEq] at hp
        obtain ⟨rfl,rfl⟩:=hp
        have g:=h.gs p.1 j w' v hl
        by_cases hw : w' = b
        . subst hw
          rw [beq_self_eq_true,cond_true]; exact g.1 e
        . have : (w' == b) = false:=by simpa using hw
          rw [this,cond_false,g.2 (by rw [e]; intro x; cases x; exact hw rfl)]
          exact .undef
     . cases hp
   . exact h.sl k s' hk
 . have hk : lk (st.gs.filter (fun p=>match lk st.gs p.1 with | some (j,_,_)=>!Nat.beq j dj | none=>false)) k = some (j,c,s'):=hk
   exact h.gs k j c s' (lk_filter2 (g:=fun k=>match lk st.gs k with | some (j,_,_)=>!Nat.beq j dj | none=>false) hk).2
theorem free_settle {dj : Nat} {b : Bool} {d : Option Nat} (h : free n fx st d = true) : free n fx (settle st dj b) d = true:=by
 cases d with
 | none=>rfl
 | some d =>
  unfold free at h ⊢
  simp only [Bool.and_eq_true] at h ⊢
  obtain ⟨⟨⟨h1,h2⟩,h3⟩,h4⟩:=h
  refine ⟨⟨⟨h1,h2⟩,?_⟩,?_⟩
  . cases hl : lk (settle st dj b).gs d with
    | none=>rfl
    | some x =>
     have hl : lk (st.gs.filter (fun p=>match lk st.gs p.1 with | some (j,_,_)=>!Nat.beq j dj | none=>false)) d = some x:=hl
     have:=(lk_filter2 (g:=fun k=>match lk st.gs k with | some (j,_,_)=>!Nat.beq j dj | none=>false) hl).2
     rw [this] at h3; cases h3
  . rw [List.all_eq_true] at h4 ⊢
    intro p hp
    exact h4 p (List.mem_filter.1 hp).1
theorem free_put {dj : Nat} {s : E.SV} {d : Option Nat} (h : free n fx st d = true) : free n fx (put st (some dj) s) d = true:=by
 cases d with
 | none=>rfl
 | some d=>exact h
theorem off_ok {q : Bool} {j dj : Nat} {b : Bool} {d : Option Nat} {op : Op} {k : E.St -> Prop} (hj : dstAt ops j = some dj) (hnj : Nat.blt dj n = true) (h : Rel E C fx lkd st ρ Z f w) (hf : free n fx st d = true) (hq : q = true -> d.isSome = true) (e : f dj = .bool (!b) ∨ f dj = undef) (hk : k (put st d .undef)) (K : KR E C q n ops Q rest fx lkd f d k) :
  WL E.P q n ops Q (⟨d,op,ty,pos,after,some (j,b)⟩ :: rest) f w:=by
 have hr:=h.put0 (v:=undef) hf .undef
 cases d with
 | some d =>
  have hn:=(free_some hf).1
  rcases e with e | e
  . exact WL_off hj hnj hn e (K _ _ _ _ _ hr hk)
  . exact WL_off0 hj hnj hn e (K _ _ _ _ _ hr hk)
 | none =>
  cases q with
  | true=>exact absurd (hq rfl) (by simp)
  | false =>
   rcases e with e | e
   . exact WL_offN hj hnj e (K _ _ _ _ _ hr hk)
   . exact WL_offN0 hj hnj e (K _ _ _ _ _ hr hk)
theorem vcGuard_ok {e0 q : Bool} (hE : EnvOK E) (hI : InlOK E inl) {j dj : Nat} {b : Bool} {d : Option Nat} {op : Op} {k : E.St -> Prop} (hj : dstAt ops j = some dj) (hnj : Nat.blt dj n = true) (h : Rel E C fx lkd st ρ Z f w) (hf : free n fx st d = true) (hq : q = true -> d.isSome = true) (hv : vcGuard n e0 q inl fx lkd st dj b d op ty k) (K : KR E C q n ops Q rest fx lkd f d k) :
  WL E.P q n ops Q (⟨d,op,ty,pos,after,some (j,b)⟩ :: rest) f w:=by
 unfold vcGuard at hv
 split at hv
 . rename_i p a d' hs
   replace hs : gSel q fx lkd st dj b d op = some (p,a,d'):=by
    cases e0 with
    | true=>cases hs
    | false=>exact hs
   unfold gSel at hs
   split at hs
   . rename_i p1 dp a1 d1 hg ho1
     cases hb : Nat.beq d1 dj with
     | true=>rw [hb] at hs; cases hs
     | false =>
      rw [hb,cond_false] at hs; cases hs
      have hne : d' ≠ dj:=fun e=>by subst e; rw [Nat.beq_refl] at hb; cases hb
      obtain ⟨ho,hv⟩:=cj_ob hv
      obtain ⟨g1,g2⟩:=gprop_ok h 8 dj b p dp hg
      by_cases hp : p
      . have e:=g1.1 hp
        have ho:=imp_all hp ho
        have hc:=chain_ok h 8 dj b e
        refine WL_on hj hnj e ?_
        unfold gOp at ho1
        split at ho1
        . rename_i a2 hs2
          simp only [Option.some.injEq] at ho1; subst ho1
          exact stepG_ok h hc hs2 ho (free_some hf).1 fun v hr hy=>K _ _ _ _ _ (h.guarded hf hne (Tn.refl _ _ _) h.mem ⟨fun _=>hr,fun e'=>absurd e e'⟩) (im_hy hv (imp_of fun _=>hy))
        . cases q with
          | true=>cases ho1
          | false =>
           rw [cond_false] at ho1
           split at ho1
           . rename_i c hc2
             cases op with
             | call c' =>
              simp only [opCall,Option.some.injEq] at hc2; subst hc2
              unfold gCall at ho1
              split at ho1
              . rename_i K0 args hcal
                obtain ⟨z,xs,Ts,cap,rfl,hz,hargs⟩:=callee_ok (fun o=>h.ev hc o) hcal
                have ⟨hl,ho2⟩:=bif_some ho1
                split at ho2
                . rename_i Cf hcon
                  split at ho2
                  . rename_i r hr
                    have ⟨hb2,ho3⟩:=bif_some ho2
                    simp only [Option.some.injEq] at ho3; subst ho3
                    simp only [Bool.and_eq_true] at hb2
                    refine S_callA hz (hE.call K0 (by rw [hcon]; rfl)) (lend_run hE h.mem hcon hl hr hb2.1 hb2.2 ho h.glob hargs) (free_blt hf) fun v w' ⟨x,hr',hy⟩=>?_
                    obtain ⟨m1,t1⟩:=h.mem.ext0 x
                    exact K _ _ _ _ _ (h.guarded hf hne t1 m1 ⟨fun _=>Rep.bare hr',fun e'=>absurd e e'⟩) (im_hy hv (imp_of fun _=>hy))
                  . cases ho2
                . cases ho2
              . cases ho1
             | _=>cases hc2
           . cases ho1
      . have e:=g2 hp
        have hr:=h.guarded (v:=undef) (s:=a.v) (b:=b) hf hne (Tn.refl _ _ _) h.mem ⟨fun e'=>absurd (g1.2 e') hp,fun _=>rfl⟩
        have hk:=im_hy hv (imp_of fun hp'=>absurd hp' hp)
        rcases e with e | e
        . exact WL_off hj hnj (free_some hf).1 e (K _ _ _ _ _ hr hk)
        . exact WL_off0 hj hnj (free_some hf).1 e (K _ _ _ _ _ hr hk)
   . cases hs
 . cases hb : ((lk st.gs dj).isNone && !q) with
   | false=>rw [hb] at hv; exact hv.elim
   | true =>
    rw [hb,cond_true] at hv
    split at hv
    . rename_i p dp hp
      have hr:=(h.slot dj).boolv hp
      by_cases hpp : p
      . have e : f dj = .bool true:=by rw [hr]; simp [hpp]
        have hk:=hv.1 hpp
        have h2:=(h.settle e).knows e
        cases b with
        | true=>rw [cond_true] at hk; exact WL_on hj hnj e (vcOp_ok hE hI h2 (free_put (free_settle hf)) hk K)
        | false=>rw [cond_false] at hk; exact off_ok hj hnj h2 (free_put (free_settle hf)) hq (.inl e) hk K
      . have e : f dj = .bool false:=by rw [hr]; simp [hpp]
        have hk:=hv.2 hpp
        have h2:=(h.settle e).knows e
        cases b with
        | true=>rw [cond_true] at hk; exact off_ok hj hnj h2 (free_put (free_settle hf)) hq (.inl e) hk K
        | false=>rw [cond_false] at hk; exact WL_on hj hnj e (vcOp_ok hE hI h2 (free_put (free_settle hf)) hk K)
    . exact hv.elim
theorem vcOps_ok {q : Bool} (hE : EnvOK E) (hI : InlOK E inl) {k : E.St -> Prop} : ∀ (l : List Oper) (st : E.St) (ρ : Env1) (Z : Nat -> Prop) (f : Fr) (w : World),Rel E C fx lkd st ρ Z f w -> vcOps n q inl fx lkd ops l st k -> (∀ st' ρ' Z' f' w',Rel E C fx lkd st' ρ' Z' f' w' -> st'.gs = [] -> k st' -> Q .normal f' w') -> WL E.P q n ops Q l f w
 | [],st,ρ,Z,f,w,h,hv,K=>WL_nil (K ⟨st.slots,[],st.items,st.nx⟩ ρ Z f w ⟨h.sl,h.fx,fun k j b s hk=>(by cases hk),h.mem,h.tn,h.g⟩ rfl hv)
 | o :: rest,st,ρ,Z,f,w,h,hv,K=>by
  obtain ⟨dst,op,ty,pos,after,guard⟩:=o
  unfold vcOps at hv
  cases hb : (free n fx st dst && (!q || dst.isSome)) with
  | false=>simp only [hb] at hv; exact hv.elim
  | true =>
   simp only [hb,cond_true] at hv
   simp only [Bool.and_eq_true,Bool.or_eq_true,Bool.not_eq_true'] at hb
   obtain ⟨hf,hq⟩:=hb
   have hq' : q = true -> dst.isSome = true:=fun e=>by
    rcases hq with h | h
    . rw [e] at h; cases h
    . exact h
   have KK : KR E C q n ops Q rest fx lkd f dst (fun st=>vcOps n q inl fx lkd ops rest st k):=fun st' ρ' Z' v w' hr hk=>vcOps_ok hE hI rest st' ρ' Z' _ w' hr hk K
   cases guard with
   | none=>exact vcOp_ok hE hI h hf hv KK
   | some g =>
    obtain ⟨j,b⟩:=g
    simp only at hv
    split at hv
    . exact hv.elim
    . rename_i dj hj
      cases hnj : Nat.blt dj n with
      | false=>rw [hnj] at hv; exact hv.elim
      | true =>
       rw [hnj,cond_true] at hv
       have hslot : ∀ s,(bif (lk st.gs dj).isNone then slotOf fx st dj else .un) = s -> Rep E.N E.T ρ Z w (f dj) s:=fun s e=>by
        subst e
        cases (lk st.gs dj).isNone with
        | true=>exact h.slot dj
        | false=>exact .un
       split at hv
       . rename_i e
         have hr:=hslot _ e
         have e1 : f dj = .bool true:=by generalize f dj = u at hr; cases hr; rfl
         cases b with
         | true=>rw [cond_true] at hv; exact WL_on hj hnj e1 (vcOp_ok hE hI h hf hv KK)
         | false=>rw [cond_false] at hv; exact off_ok hj hnj h hf hq' (.inl e1) hv KK
       . rename_i e
         have hr:=hslot _ e
         have e1 : f dj = .bool false:=by generalize f dj = u at hr; cases hr; rfl
         cases b with
         | true=>rw [cond_true] at hv; exact off_ok hj hnj h hf hq' (.inl e1) hv KK
         | false=>rw [cond_false] at hv; exact WL_on hj hnj e1 (vcOp_ok hE hI h hf hv KK)
       . rename_i e
         have hr:=hslot _ e
         have e1 : f dj = undef:=by generalize f dj = u at hr; cases hr; rfl
         exact off_ok hj hnj h hf hq' (.inr e1) hv KK
       . exact vcGuard_ok hE hI hj hnj h hf hq' hv KK
end
end Go.Rx
end
section
namespace Go.Rx
open Go Go.Wk Go.Wl
section
variable {B0 : List Nat} {w0 w w' : World} {Z Z' : Nat -> Prop} {l l' : List It}
theorem Sep.pw (hs : Sep B0 w0 Z w l) : (∀ t ∈ l,t.Ok B0 w0 Z w) /\ l.Pairwise (fun s t=>∀ b ∈ s.F,b ∉ t.F):=by
 refine ⟨fun t ht=>?_,?_⟩
 . obtain ⟨i,hi,rfl⟩:=List.getElem_of_mem ht
   exact hs.ok i _ (by simp [hi])
 . rw [List.pairwise_iff_getElem]
   intro i j hi hj hij
   exact hs.apart i j _ _ (by simp [hi]) (by simp [hj]) (by omega)
theorem Sep.of_pw (hx : Ext B0 w0 w) (hz : ∀ b,Z b -> b < w.heap.size) (h1 : ∀ t ∈ l,t.Ok B0 w0 Z w) (h2 : l.Pairwise (fun s t=>∀ b ∈ s.F,b ∉ t.F)) : Sep B0 w0 Z w l:=by
 refine ⟨hx,hz,fun k t hk=>h1 t (List.mem_of_getElem? hk),fun j k s t hj hk hne=>?_⟩
 rw [List.pairwise_iff_getElem] at h2
 have hjl:=lt_get hj
 have hkl:=lt_get hk
 rw [List.getElem?_eq_getElem hjl] at hj
 rw [List.getElem?_eq_getElem hkl] at hk
 cases hj; cases hk
 rcases Nat.lt_or_ge j k with h | h
 . exact h2 j k hjl hkl h
 . exact fun b hb hb'=>h2 k j hkl hjl (by omega) b hb' hb
theorem Sep.perm (hs : Sep B0 w0 Z w l) (hp : l.Perm l') : Sep B0 w0 Z w l':=by
 obtain ⟨h1,h2⟩:=Sep.pw hs
 exact Sep.of_pw hs.ext hs.zlt (fun t ht=>h1 t (hp.mem_iff.2 ht)) ((hp.pairwise_iff (fun {a b} h x hx hx'=>h x hx' hx)).1 h2)
end
section
variable {E : Env} {C : Ctx} {f : Fr} {w w' : World}
variable {ρ ρ' : Env1} {Z Z' : Nat -> Prop} {its its' lkd : Items E.N} {nx : Nat} {fx : Slots E.N} {st : E.St}
theorem Mem.perm (hm : Mem E C ρ Z w its nx) (hp : its.Perm its') : Mem E C ρ Z w its' nx:=⟨Sep.perm hm.sep (hp.map _),hm.fr,hm.ge,hm.zge,hm.zle⟩
theorem split_perm (its : Items E.N) (ids : List Nat) : its.Perm (within its ids ++ without its ids):=by
 induction its with
 | nil=>exact List.Perm.nil
 | cons p r ih =>
  unfold within without at *
  rw [List.filter_cons,List.filter_cons]
  cases ids.elem p.1 with
  | true=>simpa using ih
  | false=>exact ((List.Perm.cons p ih).trans List.perm_middle.symm)
def Ctx.at (C : Ctx) (ρ : Env1) (Z : Nat -> Prop) (w : World) : Ctx:=⟨ρ,Z,C.w0,C.B0,w⟩
theorem Mem.down (hm : Mem E C ρ Z w its nx) : Mem E (C.at ρ Z w) ρ Z w its nx:=⟨hm.sep,hm.fr,fun _ _ h=>h,fun _ h=>h,fun _ h=>.inl h⟩
theorem Mem.upC {ρb : Env1} {Zb : Nat -> Prop} {wb : World} {nb : Nat} {ib : Items E.N} (hb : Mem E C ρb Zb wb ib nb) (hm : Mem E (C.at ρb Zb wb) ρ Z w its nx) : Mem E C ρ Z w its nx :=
 ⟨hm.sep,hm.fr,fun i L e=>hm.ge i L (hb.ge i L e),fun b h=>hm.zge b (hb.zge b h),fun b h=>by
  rcases hm.zle b h with h | h
  . exact hb.zle b h
  . exact .inr h⟩
theorem Rel.enter (h : Rel E C fx lkd st ρ Z f w) (keep ids : List Nat) : Rel E (C.at ρ Z w) (keepS fx st keep ++ fx) (without st.items ids ++ lkd) (inn st ids) ρ Z f w:=by
 refine ⟨h.sl,fun p hp=>?_,fun k j b s hk=>(by cases hk),?_,Tn.refl _ _ _,h.glob⟩
 . rcases List.mem_append.1 hp with hp | hp
   . simp only [keepS,List.mem_map] at hp
     obtain ⟨s,_,rfl⟩:=hp
     exact h.slot s
   . exact h.fx p hp
 . refine h.mem.down.perm ?_
   rw [show (inn st ids).items = within st.items ids from rfl,<- List.append_assoc]
   exact (split_perm st.items ids).append_right lkd
theorem lk_app {β : Type} {l l2 : List (Nat × β)} {k : Nat} {s : β} (h : lk (l ++ l2) k = some s) : lk l k = some s ∨ (lk l k = none /\ lk l2 k = some s):=by
 induction l with
 | nil=>exact .inr ⟨rfl,h⟩
 | cons p r ih =>
  have h : (bif Nat.beq p.1 k then some p.2 else lk (r ++ l2) k) = some s:=h
  show (bif Nat.beq p.1 k then some p.2 else lk r k) = some s ∨ ((bif Nat.beq p.1 k then some p.2 else lk r k) = none /\ lk l2 k = some s)
  cases hb : Nat.beq p.1 k with
  | true=>rw [hb,cond_true] at h; exact .inl h
  | false=>rw [hb,cond_false] at h; exact ih h
theorem Rel.leave {ρb : Env1} {Zb : Nat -> Prop} {wb : World} {fb : Fr} {st' : E.St} (hb : Rel E C fx lkd st ρb Zb fb wb) {ks : Slots E.N} {is : Items E.N} (h : Rel E (C.at ρb Zb wb) (ks ++ fx) (is ++ lkd) st' ρ Z f w) : Rel E C fx lkd ⟨st'.slots ++ ks,[],st'.items ++ is,st'.nx⟩ ρ Z f w:=by
 refine ⟨fun k s hk=>?_,fun p hp=>h.fx p (List.mem_append_right _ hp),fun k j b s hk=>(by cases hk),?_,hb.tn.trans h.tn,hb.g⟩
 . rcases lk_app hk with hk | ⟨_,hk⟩
   . exact h.sl k s hk
   . obtain ⟨i,hi,_⟩:=lk_mem hk
     exact h.fx (k,s) (List.mem_append_left _ (List.mem_of_getElem? hi))
 . have:=Mem.upC hb.mem h.mem
   rw [<- List.append_assoc] at this
   exact this
end
end Go.Rx
end
section
namespace Go.Rx
open Go Go.Wk Go.Wl
theorem Sep.sel2 {B0 : List Nat} {w0 w : World} {Z : Nat -> Prop} {l l' : List It} (hs : Sep B0 w0 Z w l) (φ : Nat -> Option Nat) (inj : ∀ i j a,i < l'.length -> j < l'.length -> φ i = some a -> φ j = some a -> i = j)
  (h : ∀ (i : Nat) (t' : It),l'[i]? = some t' -> (∃ k t,φ i = some k /\ l[k]? = some t /\ Like B0 Z w t t') ∨ (t'.P Z w /\ t'.Stab /\ t'.F = [] /\ t'.O = B0)) : Sep B0 w0 Z w l':=by
 refine ⟨hs.ext,hs.zlt,fun i t' hi=>?_,fun i j s t hi hj hne b hb hb'=>?_⟩
 . rcases h i t' hi with ⟨k,t,_,ht,lk⟩ | ⟨h1,h2,h3,h4⟩
   . have ok:=hs.ok _ t ht
     exact ⟨lk.P,lk.stab,fun b hb=>ok.lt b (lk.F b hb),fun b hb=>ok.notZ b (lk.F b hb),fun b hb=>by
      rw [lk.O]
      rcases ok.org b (lk.F b hb) with h | h
      . exact .inl (ok.org0 b h)
      . exact .inr h,fun b hb=>by rw [lk.O] at hb; exact hb⟩
   . exact ⟨h1,h2,fun b hb=>(by rw [h3] at hb; cases hb),fun b hb=>(by rw [h3] at hb; cases hb),fun b hb=>(by rw [h3] at hb; cases hb),fun b hb=>by rw [h4] at hb; exact hb⟩
 . rcases h i s hi with ⟨k,s1,e1,hs1,lk1⟩ | ⟨_,_,h3,_⟩
   . rcases h j t hj with ⟨k2,t1,e2,ht1,lk2⟩ | ⟨_,_,h3,_⟩
     . exact hs.apart k k2 s1 t1 hs1 ht1 (fun e=>hne (inj i j k (lt_get hi) (lt_get hj) e1 (by rw [e]; exact e2))) b (lk1.F b hb) (lk2.F b hb')
     . rw [h3] at hb'; cases hb'
   . rw [h3] at hb; cases hb
def ixOf {β : Type} : List (Nat × β) -> Nat -> Nat
 | [],_=>0
 | p :: r,j=>bif Nat.beq p.1 j then 0 else ixOf r j + 1
theorem ixOf_get {β : Type} {l : List (Nat × β)} {j : Nat} {x : β} (h : lk l j = some x) : l[ixOf l j]? = some (j,x):=by
 induction l with
 | nil=>cases h
 | cons p r ih =>
  unfold lk at h; unfold ixOf
  cases hb : Nat.beq p.1 j with
  | true=>rw [hb,cond_true] at h; cases h; have:=Nat.eq_of_beq_eq_true hb; simp [<- this]
  | false=>rw [hb,cond_false] at h; simpa using ih h
section
variable {E : Env} {C : Ctx} {f : Fr} {w : World}
variable {ρb ρ ρ2 ρ3 : Env1} {Z Zb : Nat -> Prop} {wb : World} {its lkd : Items E.N} {nx : Nat}
theorem holds_lower {id : Nat} {i : Item E.N} (h : holds E.N E.T ρ id Z w i) (hb : holds E.N E.T ρb id Zb wb i) (hρ : ∀ i L,ρb i = some L -> ρ i = some L) : holds E.N E.T ρb id Z w i /\ foot E.N ρb id i = foot E.N ρ id i:=by
 cases i with
 | own Ty cells =>
  obtain ⟨L,cs,hL,hbs,ho,hr⟩:=h
  obtain ⟨L',cs',hL',_,_,hr'⟩:=hb
  have:=hρ _ _ hL'; rw [hL] at this; cases this
  exact ⟨⟨L,cs,hL',hbs,ho,Rep.lower hr hr' hρ⟩,by rw [foot_own hL,foot_own hL']⟩
 | ac t l =>
  obtain ⟨L,hL,r⟩:=h
  obtain ⟨L',hL',_⟩:=hb
  have:=hρ _ _ hL'; rw [hL] at this; cases this
  exact ⟨⟨L,hL',r⟩,by rw [foot_ac hL,foot_ac hL']⟩
 | fz t l =>
  obtain ⟨L,hL,r⟩:=h
  obtain ⟨L',hL',_⟩:=hb
  have:=hρ _ _ hL'; rw [hL] at this; cases this
  exact ⟨⟨L,hL',r⟩,rfl⟩
 | ob k fid x =>
  obtain ⟨L,Lf,hL,hf,r⟩:=h
  obtain ⟨L',Lf',hL',hf',_⟩:=hb
  have:=hρ _ _ hL'; rw [hL] at this; cases this
  have:=hρ _ _ hf'; rw [hf] at this; cases this
  exact ⟨⟨L,Lf,hL',hf',r⟩,by rw [foot_ob hf,foot_ob hf']⟩
 | rw t n cells =>
  obtain ⟨L,F,hL,hn,hb',hA,hr,hrep⟩:=h
  obtain ⟨L',F',hL',_,_,_,_,hrep'⟩:=hb
  have:=hρ _ _ hL'; rw [hL] at this; cases this
  exact ⟨⟨L,F,hL',hn,hb',hA,hr,Rep.lower hrep hrep' hρ⟩,by rw [foot_rw hL,foot_rw hL']⟩
theorem Ac.takeN {α : Type} {r : Rd α} {Z : Nat -> Prop} {w : World} {A : Option Addr} {nn cap k : Nat} {l : List α} {bs : List Nat} (h : Ac r Z w (.slice A nn cap) l bs) (hk : k <= nn) : Ac r Z w (.slice A k cap) (l.take k) bs:=by
 have hl : l.length = nn:=Ac.n h
 rcases h with ⟨e,rfl,rfl⟩ | ⟨b,cap',C,T,hv,rfl,ho,hC,hle,hc⟩
 . simp only [Value.slice.injEq] at e
   obtain ⟨rfl,rfl,rfl⟩:=e
   have : k = 0:=by omega
   subst this; exact .inl ⟨rfl,rfl,rfl⟩
 . simp only [Value.slice.injEq] at hv
   obtain ⟨rfl,_,rfl⟩:=hv
   refine .inr ⟨b,cap,C,T,by rw [List.length_take,hl,Nat.min_eq_left hk],rfl,ho,hC,by rw [List.length_take]; omega,fun i hi=>?_⟩
   have hi' : i < l.length:=by rw [List.length_take] at hi; omega
   obtain ⟨c,h1,h2,h3⟩:=hc i hi'
   exact ⟨c,h1,h2,by rw [List.getElem_take]; exact h3⟩
def Tgt (E : Env) (B0 : List Nat) (ρ : Env1) (Z : Nat -> Prop) (w : World) (its : Items E.N) (ρ2 : Env1) (o : Option Nat) (p : Nat × Item E.N) : Prop:=match o with
 | some sid=>∃ it,lk its sid = some it /\ holds E.N E.T ρ2 p.1 Z w p.2 /\ ∀ b ∈ foot E.N ρ2 p.1 p.2,b ∈ foot E.N ρ sid it
 | none=>holds E.N E.T ρ2 p.1 Z w p.2 /\ foot E.N ρ2 p.1 p.2 = []
inductive Tgts (E : Env) (B0 : List Nat) (ρ : Env1) (Z : Nat -> Prop) (w : World) (its : Items E.N) (ρ2 : Env1) : List (Option Nat) -> Items E.N -> Prop
 | nil : Tgts E B0 ρ Z w its ρ2 [] []
 | cons {o : Option Nat} {p : Nat × Item E.N} {os : List (Option Nat)} {ps : Items E.N} : Tgt E B0 ρ Z w its ρ2 o p -> Tgts E B0 ρ Z w its ρ2 os ps -> Tgts E B0 ρ Z w its ρ2 (o :: os) (p :: ps)
theorem Tgt.mono {B0 : List Nat} {o : Option Nat} {p : Nat × Item E.N} (hρ : ∀ i L,ρ2 i = some L -> ρ3 i = some L) (h : Tgt E B0 ρ Z w its ρ2 o p) : Tgt E B0 ρ Z w its ρ3 o p:=by
 cases o with
 | some sid=>obtain ⟨it,h1,h2,h3⟩:=h; have:=holds_sub hρ h2; exact ⟨it,h1,this.1,fun b hb=>h3 b (by rw [<- this.2]; exact hb)⟩
 | none=>obtain ⟨h1,h2⟩:=h; have:=holds_sub hρ h1; exact ⟨this.1,by rw [this.2]; exact h2⟩
theorem Tgts.mono {B0 : List Nat} {os : List (Option Nat)} {ps : Items E.N} (hρ : ∀ i L,ρ2 i = some L -> ρ3 i = some L) (h : Tgts E B0 ρ Z w its ρ2 os ps) : Tgts E B0 ρ Z w its ρ3 os ps:=by
 induction h with
 | nil=>exact .nil
 | cons h _ ih=>exact .cons (h.mono hρ) ih
theorem Tgts.get {B0 : List Nat} {os : List (Option Nat)} {ps : Items E.N} (h : Tgts E B0 ρ Z w its ρ2 os ps) : os.length = ps.length /\ ∀ (i : Nat) (p : Nat × Item E.N),ps[i]? = some p -> ∃ o,os[i]? = some o /\ Tgt E B0 ρ Z w its ρ2 o p:=by
 induction h with
 | nil=>exact ⟨rfl,fun i p h=>by simp at h⟩
 | cons h _ ih =>
  refine ⟨by simp [ih.1],fun i p hp=>?_⟩
  cases i with
  | zero=>simp at hp; subst hp; exact ⟨_,rfl,h⟩
  | succ i=>exact ih.2 i p (by simpa using hp)
theorem nodup_some {os : List (Option Nat)} (h : (os.filterMap id).Nodup) : ∀ (i j sid : Nat),os[i]? = some (some sid) -> os[j]? = some (some sid) -> i = j:=by
 induction os with
 | nil=>intro i j sid hi; simp at hi
 | cons o r ih =>
  intro i j sid hi hj
  have mem : ∀ k,r[k]? = some (some sid) -> sid ∈ r.filterMap id:=fun k hk=>List.mem_filterMap.2 ⟨some sid,List.mem_of_getElem? hk,rfl⟩
  cases o with
  | none =>
   have h : (r.filterMap id).Nodup:=h
   cases i with
   | zero=>simp at hi
   | succ i=>cases j with
    | zero=>simp at hj
    | succ j=>rw [ih h i j sid (by simpa using hi) (by simpa using hj)]
  | some s =>
   have h : (s :: r.filterMap id).Nodup:=h
   rw [List.nodup_cons] at h
   cases i with
   | zero =>
    simp at hi; subst hi
    cases j with
    | zero=>rfl
    | succ j=>exact absurd (mem j (by simpa using hj)) h.1
   | succ i=>cases j with
    | zero=>simp at hj; subst hj; exact absurd (mem i (by simpa using hi)) h.1
    | succ j=>rw [ih h.2 i j sid (by simpa using hi) (by simpa using hj)]
theorem Mem.rebuild {os : List (Option Nat)} {new : Items E.N} {n2 : Nat} (hm : Mem E C ρ Z w (its ++ lkd) nx) (hl : ∀ p ∈ lkd,Go.Rx.holds E.N E.T ρ2 p.1 Z w p.2 /\ foot E.N ρ2 p.1 p.2 = foot E.N ρ p.1 p.2) (ht : Tgts E C.B0 ρ Z w its ρ2 os new) (hd : (os.filterMap id).Nodup) (hfr : ∀ i,n2 <= i -> ρ2 i = none) (hge : ∀ i L,C.ρ0 i = some L -> ρ2 i = some L) : Mem E C ρ2 Z w (new ++ lkd) n2:=by
 obtain ⟨hlen,hget⟩:=ht.get
 refine ⟨Sep.sel2 hm.sep (fun i=>if i < new.length then (match os[i]? with | some (some sid)=>some (ixOf its sid) | _=>none) else some (its.length + (i - new.length))) (fun i j a hi hj e1 e2=>?_) fun i t' hi=>?_,hfr,hge,hm.zge,hm.zle⟩
 . have small : ∀ i,i < new.length -> (match os[i]? with | some (some sid)=>some (ixOf its sid) | _=>none) = some a -> ∃ sid,os[i]? = some (some sid) /\ ixOf its sid = a /\ a < its.length /\ ∃ it,its[a]? = some (sid,it):=fun i hi e=>by
     split at e
     . rename_i sid hs
       cases e
       obtain ⟨o,ho,htg⟩:=hget i _ (List.getElem?_eq_getElem hi)
       rw [hs] at ho; cases ho
       obtain ⟨it,h1,_⟩:=htg
       exact ⟨sid,hs,rfl,lt_get (ixOf_get h1),it,ixOf_get h1⟩
     . cases e
   by_cases h1 : i < new.length
   . rw [if_pos h1] at e1
     obtain ⟨s1,a1,b1,c1,it1,d1⟩:=small i h1 e1
     by_cases h2 : j < new.length
     . rw [if_pos h2] at e2
       obtain ⟨s2,a2,b2,c2,it2,d2⟩:=small j h2 e2
       rw [d1] at d2; cases d2
       exact nodup_some hd i j s1 a1 a2
     . rw [if_neg h2] at e2; cases e2; omega
   . rw [if_neg h1] at e1; cases e1
     by_cases h2 : j < new.length
     . rw [if_pos h2] at e2
       obtain ⟨s2,a2,b2,c2,_⟩:=small j h2 e2
       omega
     . rw [if_neg h2] at e2; simp at e2; omega
 . obtain ⟨p,hp,rfl⟩:=toIts_get hi
   by_cases h1 : i < new.length
   . rw [List.getElem?_append_left h1] at hp
     obtain ⟨o,ho,htg⟩:=hget i p hp
     simp only [if_pos h1,ho]
     cases o with
     | some sid =>
      obtain ⟨it,a1,a2,a3⟩:=htg
      exact .inl ⟨_,_,rfl,toIts_at (its_get (ixOf_get a1)),a2,toIt_stab,a3,rfl⟩
     | none=>exact .inr ⟨htg.1,toIt_stab,htg.2,rfl⟩
   . rw [List.getElem?_append_right (by omega)] at hp
     simp only [if_neg h1]
     have hq : (its ++ lkd)[its.length + (i - new.length)]? = some p:=by rw [List.getElem?_append_right (by omega)]; simpa using hp
     obtain ⟨a1,a2⟩:=hl p (List.mem_of_getElem? hp)
     exact .inl ⟨_,_,rfl,toIts_at hq,a1,toIt_stab,fun b hb=>by have hb : b ∈ foot E.N ρ2 p.1 p.2:=hb; rw [a2] at hb; exact hb,rfl⟩
theorem sub_trans {ρ1 ρ2 ρ3 : Env1} (h : ∀ i L,ρ1 i = some L -> ρ2 i = some L) (k : ∀ i L,ρ2 i = some L -> ρ3 i = some L) : ∀ i L,ρ1 i = some L -> ρ3 i = some L:=fun i L e=>k _ _ (h _ _ e)
theorem rb1_ok {k : VK} {v : E.SV} {u : Value} {x : k.den E.N} {n2 : Nat} {os : List (Option Nat)} {new : Items E.N} (hm : Mem E C ρ Z w (its ++ lkd) nx) (hu : Rep E.N E.T ρ Z w u v) (h : rb1 E its k v = some x) (hfr : ∀ i,n2 <= i -> ρ2 i = none) (ht : Tgts E C.B0 ρ Z w its ρ2 os new) :
  ∃ ρ3 os',Tgts E C.B0 ρ Z w its ρ3 os' ((fl1 E n2 k x).2.1 ++ new) /\ (∀ i,(fl1 E n2 k x).2.2 <= i -> ρ3 i = none) /\ (∀ i L,ρ2 i = some L -> ρ3 i = some L) /\ Rep E.N E.T ρ3 Z w u (fl1 E n2 k x).1 /\ os'.filterMap id = accId k v ++ os.filterMap id:=by
 have same : accId k v = [] -> (fl1 E n2 k x).2.1 = [] -> (fl1 E n2 k x).2.2 = n2 -> Rep E.N E.T ρ2 Z w u (fl1 E n2 k x).1 -> ∃ ρ3 os',Tgts E C.B0 ρ Z w its ρ3 os' ((fl1 E n2 k x).2.1 ++ new) /\ (∀ i,(fl1 E n2 k x).2.2 <= i -> ρ3 i = none) /\ (∀ i L,ρ2 i = some L -> ρ3 i = some L) /\ Rep E.N E.T ρ3 Z w u (fl1 E n2 k x).1 /\ os'.filterMap id = accId k v ++ os.filterMap id:=fun e0 e1 e2 hr=>⟨ρ2,os,by rw [e1]; exact ht,by rw [e2]; exact hfr,fun _ _ h=>h,hr,by rw [e0]; rfl⟩
 cases k with
 | int k =>
  cases v with
  | int k' y =>
   simp only [rb1] at h
   split at h
   . rename_i e; subst e
     cases h
     cases hu with
     | int hi=>exact same rfl rfl rfl (.int hi)
   . cases h
  | _=>cases h
 | byte =>
  cases v with
  | byte y=>cases h; cases hu; exact same rfl rfl rfl .byte
  | _=>cases h
 | bool =>
  have hb : ∀ y : Bool,Value.bool y = .bool (@decide (y = true) inferInstance):=fun y=>by cases y <;> rfl
  cases v with
  | tt=>cases h; cases hu; refine same rfl rfl rfl ?_; rw [hb true]; exact .bl
  | ff=>cases h; cases hu; refine same rfl rfl rfl ?_; rw [hb false]; exact .bl
  | bl p d =>
   cases h
   have he : u = .bool (@decide p d):=by cases hu; rfl
   refine same rfl rfl rfl ?_
   rw [he,hb (@decide p d)]; exact .bl
  | _=>cases h
 | str =>
  cases v with
  | str y=>cases h; cases hu with | str hl=>exact same rfl rfl rfl (.str hl)
  | _=>cases h
 | err =>
  cases v with
  | err y=>cases h; cases hu with | err he=>exact same rfl rfl rfl (.err he)
  | _=>cases h
 | sl t =>
  simp only [rb1] at h
  have hu' : Rep E.N E.T ρ Z w u (nrm its v):=by
   cases v with
   | acc id =>
    simp only [nrm]
    split
    . rename_i t l hi
      obtain ⟨j,hj,_⟩:=lk_mem hi
      obtain ⟨L,hL,hn,hr⟩:=hm.holds (its_get hj)
      cases hu with
      | acc hL'=>have hL : ρ id = some L:=hL; rw [hL] at hL'; cases hL'; exact .sl hr
    . exact hu
   | _=>exact hu
  exact same (by unfold accId; rfl) rfl rfl (.sl (asL_rd hu' h))
 | nilp =>
  cases v with
  | con u' =>
   simp only [rb1] at h
   split at h
   . split at h
     . cases hu; exact same rfl rfl rfl (.con rfl)
     . cases h
   . cases h
  | _=>cases h
 | val t =>
  cases v with
  | agg vs =>
   simp only [rb1] at h
   split at h
   . rename_i y hy
     obtain ⟨cs,rfl,hr⟩:=Rep.agg_inv hu
     have hrd:=y.bk_ok (s:=.agg vs) hr h
     have hsv:=y.sv_ok (ρ:=ρ2) hrd
     refine same rfl rfl rfl ?_
     simp only [fl1,hy]
     split
     . rename_i ls hls; rw [hls] at hsv; exact hsv
     . exact .un
   . cases h
  | _=>cases h
 | acc t =>
  have hn:=hfr n2 (Nat.le_refl _)
  cases v with
  | nils =>
   cases h
   cases hu
   refine ⟨rset ρ2 n2 ⟨0,none,0,0,[]⟩,none :: os,.cons ⟨⟨_,rset_self,rfl,by simp,Ac.nil⟩,by rw [foot_ac rset_self]⟩ (ht.mono (rset_sub hn)),fun i hi=>?_,rset_sub hn,.acc rset_self,rfl⟩
   have hi : n2 + 1 <= i:=hi
   unfold rset; rw [if_neg (by omega)]; exact hfr i (by omega)
  | acc id =>
   simp only [rb1] at h
   split at h
   . rename_i t' l hi
     split at h
     . rename_i e; subst e
       cases h
       obtain ⟨j,hj,_⟩:=lk_mem hi
       obtain ⟨L,hL,r⟩:=hm.holds (its_get hj)
       have hL : ρ id = some L:=hL
       cases hu with
       | acc hL' =>
        rw [hL] at hL'; cases hL'
        refine ⟨rset ρ2 n2 L,some id :: os,.cons ⟨_,hi,⟨L,rset_self,r⟩,fun b hb=>by rw [foot_ac rset_self] at hb; rw [foot_ac hL]; exact hb⟩ (ht.mono (rset_sub hn)),fun i hi=>?_,rset_sub hn,.acc rset_self,rfl⟩
        have hi : n2 + 1 <= i:=hi
        unfold rset; rw [if_neg (by omega)]; exact hfr i (by omega)
     . cases h
   . cases h
  | sub id t2 lo nn =>
   simp only [rb1] at h
   split at h
   . split at h
     . rename_i t' l hi
       split at h
       . rename_i e; subst e
         have ⟨hb,h2⟩:=bif_some h
         clear h
         simp only [Bool.and_eq_true] at hb
         obtain ⟨e2,hel⟩:=hb
         have e2:=Nat.eq_of_beq_eq_true e2
         subst e2
         cases h2
         obtain ⟨j,hj,_⟩:=lk_mem hi
         obtain ⟨L,hL,hn1,hlen,hac⟩:=hm.holds (its_get hj)
         have hL : ρ id = some L:=hL
         cases hu with
         | subs hL' l0 n0 l1 hc hA =>
          rw [hL] at hL'; cases hL'
          have hnl : nn.toNat <= l.length:=by have l1 : (0 : Int) + nn <= L.n:=l1; omega
          have hact:=Ac.takeN (k:=nn.toNat) hac (by omega)
          have e0 : (Int.ofNat 0).toNat = 0:=rfl
          rw [e0,Nat.zero_mul] at hA
          rw [e0,Nat.sub_zero] at hc
          have hA2 : _ = L.A:=hA.trans (by
           split
           . rfl
           . cases hLA : L.A with
             | none=>rfl
             | some a=>show some (a.add 0) = some a; obtain ⟨ab,ao,asp⟩:=a; rfl)
          rw [hc,hA2]
          have hl2 : (castL rfl l : List (E.N.U t2)).take nn.toNat = l.take nn.toNat:=rfl
          refine ⟨rset ρ2 n2 ⟨L.b,L.A,nn.toNat,L.cap,L.bs⟩,some id :: os,.cons ⟨_,hi,⟨_,rset_self,by rw [hl2,List.length_take]; show nn.toNat = _; omega,by rw [hl2,List.length_take]; omega,hact⟩,fun b hb=>by rw [foot_ac rset_self] at hb; rw [foot_ac hL]; exact hb⟩ (ht.mono (rset_sub hn)),fun i hi=>?_,rset_sub hn,.acc rset_self,rfl⟩
          have hi : n2 + 1 <= i:=hi
          unfold rset; rw [if_neg (by omega)]; exact hfr i (by omega)
       . cases h
     . cases h
   . cases h
  | _=>cases h
end
end Go.Rx
end
section
namespace Go.Rx
open Go Go.Wk Go.Wl
section
variable {E : Env} {C : Ctx} {f : Fr} {w : World}
variable {ρb ρ ρ2 ρ3 : Env1} {Z Zb : Nat -> Prop} {wb : World} {its lkd : Items E.N} {nx : Nat} {fx fx' : Slots E.N} {st st' : E.St}
theorem accIds_eq (ks : List VK) (vs : List E.SV) : ((ks.zip vs).filterMap accP) = (ks.zip vs).flatMap fun p=>accId p.1 p.2:=by
 induction ks generalizing vs with
 | nil=>rfl
 | cons k ks ih =>
  cases vs with
  | nil=>rfl
  | cons v vs =>
   rw [List.zip_cons_cons,List.flatMap_cons,<- ih vs]
   cases k with
   | acc t=>cases v <;> rfl
   | _=>cases v <;> rfl
theorem rbCells_ok {α : Type} (hm : Mem E C ρ Z w (its ++ lkd) nx) : ∀ (ks : List VK) (vs : List E.SV) (cs : List Value) (g : cellsDen E.N α ks) (a : α) (n2 : Nat) (new : Items E.N) (acc : List E.SV) (ac : List Value) (ρ2 : Env1) (os : List (Option Nat)),
  RepL E.N E.T ρ Z w cs vs -> rbCells E its ks vs g = some a -> (∀ i,n2 <= i -> ρ2 i = none) -> Tgts E C.B0 ρ Z w its ρ2 os new -> RepL E.N E.T ρ2 Z w ac acc ->
  ∃ ρ3 os' n3 new' cells',Tgts E C.B0 ρ Z w its ρ3 os' new' /\ (∀ i,n3 <= i -> ρ3 i = none) /\ (∀ i L,ρ2 i = some L -> ρ3 i = some L) /\ RepL E.N E.T ρ3 Z w (ac ++ cs) cells' /\ (os'.filterMap id).Perm (((ks.zip vs).flatMap fun p=>accId p.1 p.2) ++ os.filterMap id) /\ ∀ K,allCells E ks n2 new acc g K -> K a n3 new' cells'
 | [],vs,cs,g,a,n2,new,acc,ac,ρ2,os,hr,h,hfr,ht,hac=>by
  cases vs with
  | nil =>
   cases h
   obtain rfl:=RepL.nil_inv hr
   exact ⟨ρ2,os,n2,new,acc,ht,hfr,fun _ _ h=>h,by simpa using hac,List.Perm.refl _,fun K h=>h⟩
  | cons v vs=>cases h
 | k :: ks,vs,cs,g,a,n2,new,acc,ac,ρ2,os,hr,h,hfr,ht,hac=>by
  cases vs with
  | nil=>cases h
  | cons v vs =>
   obtain ⟨u,r,rfl,hu,hp,hr⟩:=RepL.cons_inv hr
   simp only [rbCells] at h
   split at h
   . rename_i x hx
     obtain ⟨ρ3,os1,t1,f1,s1,r1,o1⟩:=rb1_ok hm hu hx hfr ht
     have hac1 : RepL E.N E.T ρ3 Z w (ac ++ [u]) (acc ++ [(fl1 E n2 k x).1]):=RepL.app (Rep.sub hac s1) (Rep.agg1 r1 hp Rep.agg0)
     obtain ⟨ρ4,os2,n4,new4,cells4,t2,f2,s2,r2,o2,k2⟩:=rbCells_ok hm ks vs r (g x) a _ _ _ _ ρ3 os1 hr h f1 t1 hac1
     refine ⟨ρ4,os2,n4,new4,cells4,t2,f2,sub_trans s1 s2,by simpa using r2,?_,fun K hK=>k2 K (hK x)⟩
     rw [List.zip_cons_cons,List.flatMap_cons]
     refine o2.trans ?_
     rw [o1,<- List.append_assoc]
     exact (List.perm_append_comm).append_right _
   . cases h
theorem lastS_split {cs : List Value} {cells : List E.SV} {n : Nat} (h : RepL E.N E.T ρ Z w cs cells) (hn : cells.length = n + 1) : ∃ c0 v,cs = c0 ++ [v] /\ RepL E.N E.T ρ Z w c0 (cells.take n) /\ Rep E.N E.T ρ Z w v (lastS cells) /\ plain1 v = true /\ c0.length = n:=by
 induction n generalizing cs cells with
 | zero =>
  match cells,hn with
  | [s],_ =>
   obtain ⟨v,r,rfl,h1,hp,hr⟩:=RepL.cons_inv h
   obtain rfl:=RepL.nil_inv hr
   exact ⟨[],v,rfl,RepL.nil,h1,hp,rfl⟩
 | succ n ih =>
  match cells,hn with
  | s :: t :: r,hn =>
   obtain ⟨v,c,rfl,h1,hp,hr⟩:=RepL.cons_inv h
   obtain ⟨c0,u,rfl,g1,g2,g3,g4⟩:=ih hr (by simpa using hn)
   exact ⟨v :: c0,u,rfl,RepL.cons h1 hp g1,g2,g3,by simp [g4]⟩
theorem rbCh_ok {T : Nat} {ks : List VK} {α : Type} (hm : Mem E C ρ Z w (its ++ lkd) nx) : ∀ (n : Nat) (v : Value) (sv : E.SV) (g : chD E.N α ks n) (a : α) (n2 : Nat) (new : Items E.N) (ρ2 : Env1) (os : List (Option Nat)),
  Rep E.N E.T ρ Z w v sv -> rbCh E its T ks n sv g = some a -> (∀ i,n2 <= i -> ρ2 i = none) -> Tgts E C.B0 ρ Z w its ρ2 os new ->
  ∃ ρ3 os' n3 new' sv',Tgts E C.B0 ρ Z w its ρ3 os' new' /\ (∀ i,n3 <= i -> ρ3 i = none) /\ (∀ i L,ρ2 i = some L -> ρ3 i = some L) /\ Rep E.N E.T ρ3 Z w v sv' /\ plain1 v = true /\ (os'.filterMap id).Perm (idsCh its ks n sv ++ os.filterMap id) /\ ∀ K,allCh E T ks n n2 new g K -> K a n3 new' sv'
 | 0,v,sv,g,a,n2,new,ρ2,os,hr,h,hfr,ht=>by
  unfold rbCh at h
  split at h
  . split at h
    . split at h
      . cases h
        cases hr
        exact ⟨ρ2,os,n2,new,_,ht,hfr,fun _ _ h=>h,.con rfl,rfl,List.Perm.refl _,fun K h=>h⟩
      . cases h
    . cases h
  . cases h
 | n + 1,v,sv,g,a,n2,new,ρ2,os,hr,h,hfr,ht=>by
  unfold rbCh at h
  split at h
  . rename_i id off
    have ⟨ho0,hh⟩:=bif_some h
    clear h
    have h:=hh
    clear hh
    have ho0:=Nat.eq_of_beq_eq_true ho0
    subst ho0
    split at h
    . rename_i T' cells hi
      have ⟨hb,hh⟩:=bif_some h
      clear h
      have h:=hh
      clear hh
      obtain ⟨hb1,hb2⟩:=(Bool.and_eq_true _ _).mp hb
      have hb1:=Nat.eq_of_beq_eq_true hb1
      have hb2:=Nat.eq_of_beq_eq_true hb2
      subst hb1
      split at h
      . rename_i g1 hc
        obtain ⟨j,hj,_⟩:=lk_mem hi
        obtain ⟨L,cs,hL,hbs,ho,hrep⟩:=hm.holds (its_get (l2:=lkd) hj)
        have hL : ρ id = some L:=hL
        cases hr with
        | ref hL' =>
         rw [hL] at hL'; cases hL'
         obtain ⟨c0,u,rfl,k1,k2,k3,k4⟩:=lastS_split hrep hb2
         have s0:=rset_sub (L:=L) (hfr n2 (Nat.le_refl _))
         obtain ⟨ρ3,os1,n3,new3,cells3,t1,f1,s1,r1,o1,q1⟩:=rbCells_ok hm ks (cells.take ks.length) c0 g g1 (n2 + 1) new [] [] (rset ρ2 n2 L) os k1 hc (fun i hi=>by unfold rset; rw [if_neg (by omega)]; exact hfr i (by omega)) (ht.mono s0) RepL.nil
         obtain ⟨ρ4,os2,n4,new4,sv4,t2,f2,s2,r2,p2,o2,q2⟩:=rbCh_ok hm n u (lastS cells) g1 a n3 new3 ρ3 os1 k2 h f1 t1
         have hL4 : ρ4 n2 = some L:=s2 _ _ (s1 _ _ rset_self)
         have r1' : RepL E.N E.T ρ3 Z w c0 cells3:=by simpa using r1
         refine ⟨ρ4,some id :: os2,n4,(n2,.own T' (cells3 ++ [sv4])) :: new4,.ref n2 0,.cons ⟨_,hi,⟨L,c0 ++ [u],hL4,hbs,ho,RepL.app (Rep.sub r1' s2) (RepL.cons r2 p2 RepL.nil)⟩,fun b hb=>by rw [foot_own hL4] at hb; rw [foot_own hL]; exact hb⟩ t2,f2,sub_trans s0 (sub_trans s1 s2),.ref hL4,rfl,?_,fun K hK=>q2 _ (q1 _ hK)⟩
         have e : idsCh its ks (n + 1) (.ref id 0) = id :: (((ks.zip (cells.take ks.length)).flatMap fun p=>accId p.1 p.2) ++ idsCh its ks n (lastS cells)):=by
          rw [<- accIds_eq]
          conv=>lhs; unfold idsCh
          simp only [hi]
         rw [e]
         show (id :: os2.filterMap _root_.id).Perm _
         rw [List.cons_append,List.append_assoc]
         refine List.Perm.cons _ (o2.trans ?_)
         refine (o1.append_left _).trans ?_
         rw [<- List.append_assoc,<- List.append_assoc]
         exact (List.perm_append_comm).append_right _
      . cases h
    . cases h
  . cases h
theorem rbTc_ok {α : Type} {nm ids : List Nat} (hm : Mem E C ρ Z w (its ++ lkd) nx) : ∀ (ks : List TK) (vs : List E.SV) (cs : List Value) (g : tcD E.N α ks) (a : α) (n2 : Nat) (new : Items E.N) (acc : List E.SV) (ac : List Value) (ρ2 : Env1) (os : List (Option Nat)),
  RepL E.N E.T ρ Z w cs vs -> rbTc E its ids ks vs g = some a -> (∀ i,n2 <= i -> ρ2 i = none) -> Tgts E C.B0 ρ Z w its ρ2 os new -> RepL E.N E.T ρ2 Z w ac acc -> (∀ j id,isAt ids j id = true -> ∃ L,ρ id = some L /\ ρ2 (nm.getD j 0) = some L) ->
  ∃ ρ3 os' n3 new' cells',Tgts E C.B0 ρ Z w its ρ3 os' new' /\ (∀ i,n3 <= i -> ρ3 i = none) /\ (∀ i L,ρ2 i = some L -> ρ3 i = some L) /\ RepL E.N E.T ρ3 Z w (ac ++ cs) cells' /\ (os'.filterMap id).Perm (idsTc ks vs ++ os.filterMap id) /\ ∀ K,allTc E nm ks n2 new acc g K -> K a n3 new' cells'
 | [],vs,cs,g,a,n2,new,acc,ac,ρ2,os,hr,h,hfr,ht,hac,_=>by
  cases vs with
  | nil =>
   cases h
   obtain rfl:=RepL.nil_inv hr
   exact ⟨ρ2,os,n2,new,acc,ht,hfr,fun _ _ h=>h,by simpa using hac,List.Perm.refl _,fun K h=>h⟩
  | cons v vs=>cases h
 | .v k :: ks,vs,cs,g,a,n2,new,acc,ac,ρ2,os,hr,h,hfr,ht,hac,hH=>by
  cases vs with
  | nil=>cases h
  | cons v vs =>
   obtain ⟨u,r,rfl,hu,hp,hq⟩:=RepL.cons_inv hr
   simp only [rbTc] at h
   split at h
   . rename_i x hx
     obtain ⟨ρ3,os1,t1,f1,s1,r1,o1⟩:=rb1_ok hm hu hx hfr ht
     have hac1 : RepL E.N E.T ρ3 Z w (ac ++ [u]) (acc ++ [(fl1 E n2 k x).1]):=RepL.app (Rep.sub hac s1) (Rep.agg1 r1 hp Rep.agg0)
     obtain ⟨ρ4,os2,n4,new4,cells4,t2,f2,s2,r2,o2,k2⟩:=rbTc_ok hm ks vs r (g x) a _ _ _ _ ρ3 os1 hq h f1 t1 hac1 (fun j id hj=>by obtain ⟨L,e1,e2⟩:=hH j id hj; exact ⟨L,e1,s1 _ _ e2⟩)
     refine ⟨ρ4,os2,n4,new4,cells4,t2,f2,sub_trans s1 s2,by simpa using r2,?_,fun K hK=>k2 K (hK x)⟩
     refine o2.trans ?_
     show (idsTc ks vs ++ os1.filterMap id).Perm ((accId k v ++ idsTc ks vs) ++ os.filterMap id)
     rw [o1,<- List.append_assoc]
     exact (List.perm_append_comm).append_right _
   . cases h
 | .to j :: ks,vs,cs,g,a,n2,new,acc,ac,ρ2,os,hr,h,hfr,ht,hac,hH=>by
  cases vs with
  | nil=>cases h
  | cons v vs =>
   obtain ⟨u,r,rfl,hu,hp,hq⟩:=RepL.cons_inv hr
   simp only [rbTc] at h
   split at h
   . rename_i id off
     have ⟨hb,h2⟩:=bif_some h
     clear h
     obtain ⟨hb1,hb2⟩:=(Bool.and_eq_true _ _).mp hb
     have hb1:=Nat.eq_of_beq_eq_true hb1
     subst hb1
     obtain ⟨L,e1,e2⟩:=hH j id hb2
     have hru : Rep E.N E.T ρ2 Z w u (.ref (nm.getD j 0) 0):=by
      cases hu with
      | ref hL=>rw [e1] at hL; cases hL; exact .ref e2
     obtain ⟨ρ4,os2,n4,new4,cells4,t2,f2,s2,r2,o2,k2⟩:=rbTc_ok hm ks vs r g a n2 new _ _ ρ2 os hq h2 hfr ht (RepL.app hac (Rep.agg1 hru hp Rep.agg0)) hH
     exact ⟨ρ4,os2,n4,new4,cells4,t2,f2,s2,by simpa using r2,o2,fun K hK=>k2 K hK⟩
   . cases h
 | .nilp :: ks,vs,cs,g,a,n2,new,acc,ac,ρ2,os,hr,h,hfr,ht,hac,hH=>by
  cases vs with
  | nil=>cases h
  | cons v vs =>
   obtain ⟨u,r,rfl,hu,hp,hq⟩:=RepL.cons_inv hr
   simp only [rbTc] at h
   have ⟨hb,h2⟩:=bif_some h
   clear h
   have hru : Rep E.N E.T ρ2 Z w u (.con (.pointer none)):=by
    unfold isNilp at hb
    split at hb
    . split at hb
      . rename_i p
        cases p with
        | none=>cases hu; exact .con rfl
        | some p=>cases hb
      . cases hb
    . cases hb
   obtain ⟨ρ4,os2,n4,new4,cells4,t2,f2,s2,r2,o2,k2⟩:=rbTc_ok hm ks vs r g a n2 new _ _ ρ2 os hq h2 hfr ht (RepL.app hac (Rep.agg1 hru hp Rep.agg0)) hH
   exact ⟨ρ4,os2,n4,new4,cells4,t2,f2,s2,by simpa using r2,o2,fun K hK=>k2 K hK⟩
theorem rbTp_in {α : Type} {ids : List Nat} (hm : Mem E C ρ Z w (its ++ lkd) nx) : ∀ (ps : List TP) (rest : List Nat) (g : tpD E.N α ps) (a : α),rbTp E its ids ps rest g = some a -> ∀ id ∈ rest,∃ L,ρ id = some L
 | [],rest,g,a,h,id,hi=>by
  cases rest with
  | nil=>cases hi
  | cons _ _=>cases h
 | .own s0 T ks :: ps,rest,g,a,h,id,hi=>by
  cases rest with
  | nil=>cases hi
  | cons id0 rest =>
   simp only [rbTp] at h
   split at h
   . rename_i T' cells hl
     have ⟨_,h2⟩:=bif_some h
     split at h2
     . rename_i g1 _
       rcases List.mem_cons.1 hi with rfl | hi
       . obtain ⟨j,hj,_⟩:=lk_mem hl
         obtain ⟨L,cs,hL,_⟩:=hm.holds (its_get (l2:=lkd) hj)
         exact ⟨L,hL⟩
       . exact rbTp_in hm ps rest g1 a h2 id hi
     . cases h2
   . cases h
 | .ob s0 k :: ps,rest,g,a,h,id,hi=>by
  cases rest with
  | nil=>cases hi
  | cons id0 rest =>
   simp only [rbTp] at h
   split at h
   . rename_i k' fid x hl
     split at h
     . rename_i hk
       rcases List.mem_cons.1 hi with rfl | hi
       . obtain ⟨j,hj,_⟩:=lk_mem hl
         obtain ⟨L,Lf,hL,_⟩:=hm.holds (its_get (l2:=lkd) hj)
         exact ⟨L,hL⟩
       . exact rbTp_in hm ps rest _ a h id hi
     . cases h
   . cases h
theorem rbTp_ok {α : Type} {nm ids : List Nat} (hm : Mem E C ρ Z w (its ++ lkd) nx) : ∀ (ps : List TP) (rest : List Nat) (i : Nat) (g : tpD E.N α ps) (a : α) (n2 : Nat) (new : Items E.N) (ρ2 : Env1) (os : List (Option Nat)),
  rest = ids.drop i -> rbTp E its ids ps rest g = some a -> (∀ i,n2 <= i -> ρ2 i = none) -> Tgts E C.B0 ρ Z w its ρ2 os new -> (∀ j id,isAt ids j id = true -> ∃ L,ρ id = some L /\ ρ2 (nm.getD j 0) = some L) ->
  ∃ ρ3 os' n3 new',Tgts E C.B0 ρ Z w its ρ3 os' new' /\ (∀ i,n3 <= i -> ρ3 i = none) /\ (∀ i L,ρ2 i = some L -> ρ3 i = some L) /\ (os'.filterMap id).Perm (idsTp its ps rest ++ os.filterMap id) /\ ∀ K,allTp E nm ps i n2 new g K -> K a n3 new'
 | [],rest,i,g,a,n2,new,ρ2,os,hrest,h,hfr,ht,hH=>by
  cases rest with
  | nil=>cases h; exact ⟨ρ2,os,n2,new,ht,hfr,fun _ _ h=>h,List.Perm.refl _,fun K h=>h⟩
  | cons _ _=>cases h
 | .own s0 T ks :: ps,rest,i,g,a,n2,new,ρ2,os,hrest,h,hfr,ht,hH=>by
  cases rest with
  | nil=>cases h
  | cons id0 rest =>
   have hat : isAt ids i id0 = true:=by
    have : ids[i]? = some id0:=by
     have e : (ids.drop i)[0]? = some id0:=by rw [<- hrest]; rfl
     simpa using e
    unfold isAt; rw [this]; exact Nat.beq_refl _
   have hrest' : rest = ids.drop (i + 1):=by rw [<- List.drop_drop,<- hrest]; rfl
   simp only [rbTp] at h
   split at h
   . rename_i T' cells hl
     have ⟨hb,h2⟩:=bif_some h
     have hb:=Nat.eq_of_beq_eq_true hb
     subst hb
     split at h2
     . rename_i g1 hc
       obtain ⟨j,hj,_⟩:=lk_mem hl
       obtain ⟨L,cs,hL,hbs,ho,hrep⟩:=hm.holds (its_get (l2:=lkd) hj)
       have hL : ρ id0 = some L:=hL
       obtain ⟨L',e1,e2⟩:=hH i id0 hat
       rw [hL] at e1; cases e1
       obtain ⟨ρ3,os1,n3,new3,cells3,t1,f1,s1,r1,o1,q1⟩:=rbTc_ok (nm:=nm) hm ks cells cs g g1 n2 new [] [] ρ2 os hrep hc hfr ht RepL.nil hH
       have hL3 : ρ3 (nm.getD i 0) = some L:=s1 _ _ e2
       have r1' : RepL E.N E.T ρ3 Z w cs cells3:=by simpa using r1
       have t1' : Tgts E C.B0 ρ Z w its ρ3 (some id0 :: os1) ((nm.getD i 0,.own T' cells3) :: new3):=.cons ⟨_,hl,⟨L,cs,hL3,hbs,ho,r1'⟩,fun x hx=>by rw [foot_own hL3] at hx; rw [foot_own hL]; exact hx⟩ t1
       obtain ⟨ρ4,os2,n4,new4,t2,f2,s2,o2,q2⟩:=rbTp_ok hm ps rest (i + 1) g1 a n3 _ ρ3 (some id0 :: os1) hrest' h2 f1 t1' (fun j id hj=>by obtain ⟨L,e1,e2⟩:=hH j id hj; exact ⟨L,e1,s1 _ _ e2⟩)
       refine ⟨ρ4,os2,n4,new4,t2,f2,sub_trans s1 s2,?_,fun K hK=>q2 K (q1 _ hK)⟩
       have e : idsTp its (.own s0 T' ks :: ps) (id0 :: rest) = (id0 :: idsTc ks cells) ++ idsTp its ps rest:=by simp only [idsTp,hl]
       rw [e]
       refine o2.trans ?_
       have o3 : (List.filterMap _root_.id (some id0 :: os1)).Perm ((id0 :: idsTc ks cells) ++ os.filterMap _root_.id):=o1.cons id0
       refine (o3.append_left _).trans ?_
       rw [<- List.append_assoc]
       exact (List.perm_append_comm).append_right _
     . cases h2
   . cases h
 | .ob s0 k :: ps,rest,i,g,a,n2,new,ρ2,os,hrest,h,hfr,ht,hH=>by
  cases rest with
  | nil=>cases h
  | cons id0 rest =>
   have hat : isAt ids i id0 = true:=by
    have : ids[i]? = some id0:=by
     have e : (ids.drop i)[0]? = some id0:=by rw [<- hrest]; rfl
     simpa using e
    unfold isAt; rw [this]; exact Nat.beq_refl _
   have hrest' : rest = ids.drop (i + 1):=by rw [<- List.drop_drop,<- hrest]; rfl
   simp only [rbTp] at h
   split at h
   . rename_i k' fid x hl
     split at h
     . rename_i hk
       subst hk
       obtain ⟨j,hj,_⟩:=lk_mem hl
       obtain ⟨L,Lf,hL,hLf,ho⟩:=hm.holds (its_get (l2:=lkd) hj)
       have hL : ρ id0 = some L:=hL
       obtain ⟨L',e1,e2⟩:=hH i id0 hat
       rw [hL] at e1; cases e1
       have hn:=hfr n2 (Nat.le_refl _)
       have s1:=rset_sub (L:=Lf) hn
       have t1' : Tgts E C.B0 ρ Z w its (rset ρ2 n2 Lf) (some id0 :: os) ((nm.getD i 0,.ob k' n2 x) :: new):=.cons ⟨_,hl,⟨L,Lf,s1 _ _ e2,rset_self,ho⟩,fun y hy=>by rw [foot_ob rset_self] at hy; rw [foot_ob hLf]; exact hy⟩ (ht.mono s1)
       obtain ⟨ρ4,os2,n4,new4,t2,f2,s2,o2,q2⟩:=rbTp_ok hm ps rest (i + 1) (g x) a (n2 + 1) _ (rset ρ2 n2 Lf) (some id0 :: os) hrest' h (fun j hj=>by unfold rset; rw [if_neg (by omega)]; exact hfr j (by omega)) t1' (fun j id hj=>by obtain ⟨L,e1,e2⟩:=hH j id hj; exact ⟨L,e1,s1 _ _ e2⟩)
       exact ⟨ρ4,os2,n4,new4,t2,f2,sub_trans s1 s2,o2.trans List.perm_middle,fun K hK=>q2 K (hK x)⟩
     . cases h
   . cases h
theorem rbTp_len {α : Type} {ids : List Nat} : ∀ (ps : List TP) (rest : List Nat) (g : tpD E.N α ps) (a : α),rbTp E its ids ps rest g = some a -> rest.length = ps.length
 | [],rest,g,a,h=>by
  cases rest with
  | nil=>rfl
  | cons _ _=>cases h
 | .own s0 T ks :: ps,rest,g,a,h=>by
  cases rest with
  | nil=>cases h
  | cons id0 rest =>
   simp only [rbTp] at h
   split at h
   . have ⟨_,h2⟩:=bif_some h
     split at h2
     . simp [rbTp_len ps rest _ a h2]
     . cases h2
   . cases h
 | .ob s0 k :: ps,rest,g,a,h=>by
  cases rest with
  | nil=>cases h
  | cons id0 rest =>
   simp only [rbTp] at h
   split at h
   . split at h
     . rename_i hk; simp [rbTp_len ps rest _ a h]
     . cases h
   . cases h
theorem names_at {ids : List Nat} {n2 : Nat} (hin : ∀ id ∈ ids,∃ L,ρ id = some L) (hfr : ∀ i,n2 <= i -> ρ2 i = none) :
  ∃ ρ3 : Env1,(∀ i L,ρ2 i = some L -> ρ3 i = some L) /\ (∀ i,n2 + ids.length <= i -> ρ3 i = none) /\ ∀ j id,isAt ids j id = true -> ∃ L,ρ id = some L /\ ρ3 (n2 + j) = some L:=by
 refine ⟨fun i=>if n2 <= i then (ids[i - n2]?).bind ρ else ρ2 i,fun i L h=>?_,fun i hi=>?_,fun j id hj=>?_⟩
 . by_cases hn : n2 <= i
   . rw [hfr i hn] at h; cases h
   . simp only [if_neg hn]; exact h
 . simp only [if_pos (show n2 <= i by omega)]
   rw [List.getElem?_eq_none (by omega)]; rfl
 . unfold isAt at hj
   split at hj
   . rename_i i hi
     have:=Nat.eq_of_beq_eq_true hj
     subst this
     obtain ⟨L,hL⟩:=hin i (List.mem_of_getElem? hi)
     refine ⟨L,hL,?_⟩
     simp only [if_pos (show n2 <= n2 + j by omega),Nat.add_sub_cancel_left,hi]
     exact hL
   . cases hj
theorem slotsT_at {ids : List Nat} : ∀ {ss : List (Nat × Nat)},slotsT fx st ids ss = true -> ∀ p ∈ ss,∃ id,slotOf fx st p.1 = .ref id 0 /\ isAt ids p.2 id = true
 | [],_,p,hp=>by cases hp
 | q :: ss,h,p,hp=>by
  unfold slotsT at h
  obtain ⟨h1,h2⟩:=(Bool.and_eq_true _ _).mp h
  rcases List.mem_cons.1 hp with rfl | hp
  . split at h1
    . rename_i id off hs
      obtain ⟨h3,h4⟩:=(Bool.and_eq_true _ _).mp h1
      have h3:=Nat.eq_of_beq_eq_true h3
      subst h3
      exact ⟨id,hs,h4⟩
    . cases h1
  . exact slotsT_at h2 p hp
theorem lk_maps {q : Nat -> Nat} {k : Nat} {s : E.SV} {r : Slots E.N} : ∀ {ss : List (Nat × Nat)},lk ((ss.map fun p=>(p.1,(.ref (q p.2) 0 : E.SV))) ++ r) k = some s -> (∃ p ∈ ss,p.1 = k /\ s = .ref (q p.2) 0) ∨ lk r k = some s
 | [],h=>.inr h
 | x :: ss,h=>by
  rw [List.map_cons,List.cons_append,lk_cons] at h
  by_cases e : x.1 = k
  . rw [if_pos e] at h; cases h; exact .inl ⟨x,List.mem_cons_self .., e,rfl⟩
  . rw [if_neg e] at h
    rcases lk_maps h with ⟨p,hp,e1,e2⟩ | h
    . exact .inl ⟨p,List.mem_cons_of_mem _ hp,e1,e2⟩
    . exact .inr h
theorem keptS_mem {s : Nat} {p : TP} : ∀ {ps : List TP} {i j : Nat},ps[j]? = some p -> p.kept = some s -> (s,i + j) ∈ keptS ps i
 | [],i,j,h,_=>by simp at h
 | q :: ps,i,j,h,hk=>by
  unfold keptS
  cases j with
  | zero =>
   simp at h; subst h
   rw [hk]; exact List.mem_cons_self ..
  | succ j =>
   have ih:=keptS_mem (i:=i + 1) (j:=j) (by simpa using h) hk
   rw [show i + (j + 1) = i + 1 + j by omega]
   split
   . exact List.mem_cons_of_mem _ ih
   . exact ih
theorem tnm_get {b : Nat} : ∀ {l : List Nat} {i j r : Nat},l[j]? = some r -> (tnm b i l).getD j 0 = bif Nat.beq r 0 then b + (i + j) else r - 1
 | [],i,j,r,h=>by simp at h
 | x :: l,i,j,r,h=>by
  unfold tnm
  cases j with
  | zero=>simp at h; subst h; rfl
  | succ j =>
   have ih:=tnm_get (b:=b) (l:=l) (i:=i + 1) (j:=j) (r:=r) (by simpa using h)
   rw [show i + (j + 1) = i + 1 + j by omega,<- ih]; rfl
theorem nm_at {ids : List Nat} {ps : List TP} {b : Nat} (hbase : ∀ s id off,slotOf fx st s = .ref id off -> ∃ L,ρb id = some L) (hk : slotsT fx' st' ids (keptS ps 0) = true) (he : refT fx' st' ps = refT fx st ps) (hl : ids.length = ps.length) (h2 : ∀ i L,ρb i = some L -> ρ2 i = some L) (hρ : ∀ i L,ρb i = some L -> ρ i = some L)
  (hH : ∀ j id,isAt ids j id = true -> ∃ L,ρ id = some L /\ ρ2 (b + j) = some L) : ∀ j id,isAt ids j id = true -> ∃ L,ρ id = some L /\ ρ2 ((tnm b 0 (refT fx st ps)).getD j 0) = some L:=by
 intro j id hj
 have hjl : j < ps.length:=by
  unfold isAt at hj
  split at hj
  . rename_i i hi; rw [<- hl]; exact lt_get hi
  . cases hj
 have hp:=List.getElem?_eq_getElem hjl
 have hr : (refT fx st ps)[j]? = some (ref1 fx st ps[j]):=by unfold refT; rw [List.getElem?_map,hp]; rfl
 have hr' : (refT fx' st' ps)[j]? = some (ref1 fx' st' ps[j]):=by unfold refT; rw [List.getElem?_map,hp]; rfl
 rw [he,hr] at hr'
 have e1:=Option.some.inj hr'
 rw [tnm_get hr]
 cases hkp : ps[j].kept with
 | none =>
  have : ref1 fx st ps[j] = 0:=by unfold ref1; rw [hkp]
  rw [this,Nat.zero_add]
  exact hH j id hj
 | some s =>
  obtain ⟨id',hs,hat⟩:=slotsT_at hk (s,0 + j) (keptS_mem hp hkp)
  have hs : slotOf fx' st' s = .ref id' 0:=hs
  have hat : isAt ids j id' = true:=by simpa using hat
  have eid : id' = id:=by
   unfold isAt at hat hj
   split at hj
   . rename_i i hi
     rw [hi] at hat
     rw [<- Nat.eq_of_beq_eq_true hat,<- Nat.eq_of_beq_eq_true hj]
   . cases hj
  subst eid
  have e2 : ref1 fx' st' ps[j] = id' + 1:=by unfold ref1; rw [hkp]; simp only [hs]
  rw [e2] at e1
  have e3 : ∃ off,slotOf fx st s = .ref id' off:=by
   unfold ref1 at e1
   rw [hkp] at e1
   simp only at e1
   split at e1
   . rename_i i off ho
     have : i = id':=by omega
     subst this
     exact ⟨off,ho⟩
   . omega
  obtain ⟨off,ho⟩:=e3
  obtain ⟨L,hL⟩:=hbase s _ off ho
  refine ⟨L,hρ _ _ hL,?_⟩
  rw [e1]
  exact h2 _ _ hL
theorem slotsT_app {ids : List Nat} {b : List (Nat × Nat)} : ∀ {a : List (Nat × Nat)},slotsT fx st ids (a ++ b) = true -> slotsT fx st ids a = true /\ slotsT fx st ids b = true
 | [],h=>⟨rfl,h⟩
 | x :: a,h=>by
  rw [List.cons_append] at h
  unfold slotsT at h
  obtain ⟨h1,h2⟩:=(Bool.and_eq_true _ _).mp h
  obtain ⟨h3,h4⟩:=slotsT_app h2
  refine ⟨?_,h4⟩
  unfold slotsT
  exact (Bool.and_eq_true _ _).mpr ⟨h1,h3⟩
structure Fill (E : Env) (B0 : List Nat) (ρb ρ : Env1) (Z : Nat -> Prop) (f : Fr) (w : World) (its : Items E.N) (ρ2 : Env1) (os : List (Option Nat)) (new : E.St) : Prop where
 tg : Tgts E B0 ρ Z w its ρ2 os new.items
 fr : ∀ i,new.nx <= i -> ρ2 i = none
 sub : ∀ i L,ρb i = some L -> ρ2 i = some L
 sl : ∀ k s,lk new.slots k = some s -> Rep E.N E.T ρ2 Z w (f k) s
 gs : new.gs = []
theorem eqL_spec : ∀ {a b : List Nat},eqL a b = true -> a = b
 | [],[],_=>rfl
 | [],_ :: _,h=>by cases h
 | _ :: _,[],h=>by cases h
 | x :: a,y :: b,h=>by
  simp only [eqL,Bool.and_eq_true] at h
  rw [Nat.eq_of_beq_eq_true h.1,eqL_spec h.2]
theorem rbAll_ok (hbase : ∀ s id off,slotOf fx st s = .ref id off -> ∃ L,ρb id = some L) (hρ : ∀ i L,ρb i = some L -> ρ i = some L) (h : Rel E C fx' lkd st' ρ Z f w) {α : Type} :
  ∀ (vs : List LV) (g : Cur E.N α vs) (a : α) (new : E.St) (ρ2 : Env1) (os : List (Option Nat)),rbAll E fx' st' vs g = some a -> refsOf E fx' st' vs = refsOf E fx st vs -> Fill E C.B0 ρb ρ Z f w st'.items ρ2 os new -> ∀ K,allC E fx st vs g new K ->
  ∃ new' ρ3 os',Fill E C.B0 ρb ρ Z f w st'.items ρ3 os' new' /\ (os'.filterMap id).Perm (idsOf E fx' st' vs ++ os.filterMap id) /\ K a new'
 | [],g,a,new,ρ2,os,hr,_,hF,K,hK=>by cases hr; exact ⟨new,ρ2,os,hF,List.Perm.refl _,hK⟩
 | .slot s k :: vs,g,a,new,ρ2,os,hr,he,hF,K,hK=>by
  simp only [rbAll] at hr
  split at hr
  . rename_i x hx
    obtain ⟨ρ3,os1,t1,f1,s1,r1,o1⟩:=rb1_ok h.mem (h.slot s) hx hF.fr hF.tg
    have hF1 : Fill E C.B0 ρb ρ Z f w st'.items ρ3 os1 ⟨(s,(fl1 E new.nx k x).1) :: new.slots,[],(fl1 E new.nx k x).2.1 ++ new.items,(fl1 E new.nx k x).2.2⟩:=⟨t1,f1,sub_trans hF.sub s1,fun k' s' hk=>by
     rw [lk_cons] at hk
     by_cases e : s = k'
     . rw [if_pos e] at hk; cases hk; subst e; exact r1
     . rw [if_neg e] at hk; exact Rep.sub (hF.sl k' s' hk) s1,rfl⟩
    obtain ⟨new',ρ4,os2,hF2,o2,k2⟩:=rbAll_ok hbase hρ h vs (g x) a _ ρ3 os1 hr (by simpa [refsOf,refOf] using he) hF1 K (hK x)
    refine ⟨new',ρ4,os2,hF2,?_,k2⟩
    have e0 : idOf E fx' st' (.slot s k) = accId k (slotOf fx' st' s):=rfl
    have e : idsOf E fx' st' (.slot s k :: vs) = accId k (slotOf fx' st' s) ++ idsOf E fx' st' vs:=by
     show idOf E fx' st' (.slot s k) ++ idsOf E fx' st' vs = _
     rw [e0]
    rw [e]
    refine o2.trans ?_
    rw [o1,<- List.append_assoc]
    exact (List.perm_append_comm).append_right _
  . cases hr
 | .own s ks :: vs,g,a,new,ρ2,os,hr,he,hF,K,hK=>by
  simp only [rbAll] at hr
  split at hr
  . rename_i id off hs
    split at hr
    . rename_i T cells hi
      split at hr
      . rename_i g1 hc
        have hE : refsOf E fx' st' (.own s ks :: vs) = [id,T] ++ refsOf E fx' st' vs:=by
         show refOf E fx' st' (.own s ks) ++ refsOf E fx' st' vs = _
         rw [show refOf E fx' st' (.own s ks) = [id,T] by simp [refOf,hs,hi]]
        rw [hE] at he
        have heB : refsOf E fx st (.own s ks :: vs) = refOf E fx st (.own s ks) ++ refsOf E fx st vs:=rfl
        rw [heB] at he
        obtain ⟨j,hj,_⟩:=lk_mem hi
        obtain ⟨L,cs,hL,hbs,ho,hrep⟩:=h.mem.holds (its_get (l2:=lkd) hj)
        have hL : ρ id = some L:=hL
        -- the base
        cases hsb : slotOf fx st s with
        | ref idb offb =>
         cases hib : lk st.items idb with
         | none=>exact absurd hK (by simp [allC,hsb,hib])
         | some ib =>
          cases ib with
          | own Tb cb =>
           simp only [refOf,hsb,hib] at he
           have he2 : id :: T :: refsOf E fx' st' vs = idb :: Tb :: refsOf E fx st vs:=he
           simp only [List.cons.injEq] at he2
           obtain ⟨rfl,rfl,he3⟩:=he2
           obtain ⟨Lb,hLb⟩:=hbase s _ offb hsb
           have e1:=hρ _ _ hLb
           rw [hL] at e1; cases e1
           obtain ⟨ρ3,os1,n3,new3,cells3,t1,f1,s1,r1,o1,k1⟩:=rbCells_ok h.mem ks cells cs g g1 new.nx new.items [] [] ρ2 os hrep hc hF.fr hF.tg RepL.nil
           have hL3 : ρ3 id = some L:=s1 _ _ (hF.sub _ _ hLb)
           have hF1 : Fill E C.B0 ρb ρ Z f w st'.items ρ3 (some id :: os1) ⟨new.slots,[],(id,.own T cells3) :: new3,n3⟩:=⟨.cons ⟨_,hi,⟨L,cs,hL3,hbs,ho,by simpa using r1⟩,fun b hb=>by rw [foot_own hL3] at hb; rw [foot_own hL]; exact hb⟩ t1,f1,sub_trans hF.sub s1,fun k' s' hk=>Rep.sub (hF.sl k' s' hk) s1,rfl⟩
           simp only [allC,hsb,hib] at hK
           obtain ⟨new',ρ4,os2,hF2,o2,k2⟩:=rbAll_ok hbase hρ h vs g1 a _ ρ3 (some id :: os1) hr he3 hF1 K (k1 _ hK)
           refine ⟨new',ρ4,os2,hF2,?_,k2⟩
           . have e : idsOf E fx' st' (.own s ks :: vs) = id :: ((ks.zip cells).flatMap fun p=>accId p.1 p.2) ++ idsOf E fx' st' vs:=by
               show idOf E fx' st' (.own s ks) ++ idsOf E fx' st' vs = _
               rw [show idOf E fx' st' (.own s ks) = id :: ((ks.zip cells).flatMap fun p=>accId p.1 p.2) by simp only [idOf,hs,hi]; rw [accIds_eq]]
             rw [e]
             refine o2.trans ?_
             have o3 : (List.filterMap _root_.id (some id :: os1)).Perm (id :: (((ks.zip cells).flatMap fun p=>accId p.1 p.2) ++ os.filterMap _root_.id)):=o1.cons id
             refine (o3.append_left (idsOf E fx' st' vs)).trans ?_
             have : (idsOf E fx' st' vs ++ id :: (((ks.zip cells).flatMap fun p=>accId p.1 p.2) ++ os.filterMap _root_.id)) = (idsOf E fx' st' vs ++ (id :: ((ks.zip cells).flatMap fun p=>accId p.1 p.2))) ++ os.filterMap _root_.id:=by simp
             rw [this]
             exact (List.perm_append_comm).append_right _
          | _=>exact absurd hK (by simp [allC,hsb,hib])
        | _=>exact absurd hK (by simp [allC,hsb])
      . cases hr
    . cases hr
  . cases hr
 | .ob s k :: vs,g,a,new,ρ2,os,hr,he,hF,K,hK=>by
  simp only [rbAll] at hr
  split at hr
  . rename_i id off hs
    split at hr
    . rename_i k' fid x hi
      split at hr
      . rename_i hk
        subst hk
        have hE : refsOf E fx' st' (.ob s k' :: vs) = id :: refsOf E fx' st' vs:=by
         show refOf E fx' st' (.ob s k') ++ refsOf E fx' st' vs = _
         rw [show refOf E fx' st' (.ob s k') = [id] by simp [refOf,hs]]; rfl
        rw [hE] at he
        have heB : refsOf E fx st (.ob s k' :: vs) = refOf E fx st (.ob s k') ++ refsOf E fx st vs:=rfl
        rw [heB] at he
        obtain ⟨j,hj,_⟩:=lk_mem hi
        obtain ⟨L,Lf,hL,hLf,ho⟩:=h.mem.holds (its_get (l2:=lkd) hj)
        have hL : ρ id = some L:=hL
        cases hsb : slotOf fx st s with
        | ref idb offb =>
         simp only [refOf,hsb] at he
         have he2 : id :: refsOf E fx' st' vs = idb :: refsOf E fx st vs:=he
         simp only [List.cons.injEq] at he2
         obtain ⟨rfl,he3⟩:=he2
         obtain ⟨Lb,hLb⟩:=hbase s _ offb hsb
         have e1:=hρ _ _ hLb
         rw [hL] at e1; cases e1
         have hn:=hF.fr new.nx (Nat.le_refl _)
         have s1:=rset_sub (L:=Lf) hn
         have hF1 : Fill E C.B0 ρb ρ Z f w st'.items (rset ρ2 new.nx Lf) (some id :: os) ⟨new.slots,[],(id,.ob k' new.nx x) :: new.items,new.nx + 1⟩:=⟨.cons ⟨_,hi,⟨L,Lf,s1 _ _ (hF.sub _ _ hLb),rset_self,ho⟩,fun b hb=>by rw [foot_ob rset_self] at hb; rw [foot_ob hLf]; exact hb⟩ (hF.tg.mono s1),fun i hi=>by
          have hi : new.nx + 1 <= i:=hi
          unfold rset; rw [if_neg (by omega)]; exact hF.fr i (by omega),sub_trans hF.sub s1,fun k' s' hk=>Rep.sub (hF.sl k' s' hk) s1,rfl⟩
         simp only [allC,hsb] at hK
         obtain ⟨new',ρ4,os2,hF2,o2,k2⟩:=rbAll_ok hbase hρ h vs (g x) a _ _ (some id :: os) hr he3 hF1 K (hK x)
         refine ⟨new',ρ4,os2,hF2,?_,k2⟩
         . have e : idsOf E fx' st' (.ob s k' :: vs) = id :: idsOf E fx' st' vs:=by
             show idOf E fx' st' (.ob s k') ++ idsOf E fx' st' vs = _
             rw [show idOf E fx' st' (.ob s k') = [id] by simp [idOf,hs]]; rfl
           rw [e]
           exact o2.trans List.perm_middle
        | _=>exact absurd hK (by simp [allC,hsb])
      . cases hr
    . cases hr
  . cases hr
 | .chain s n T ks :: vs,g,a,new,ρ2,os,hr,he,hF,K,hK=>by
  simp only [rbAll] at hr
  split at hr
  . rename_i g1 hc
    obtain ⟨ρ3,os1,n3,new3,sv3,t1,f1,s1,r1,_,o1,q1⟩:=rbCh_ok h.mem n (f s) (slotOf fx' st' s) g g1 new.nx new.items ρ2 os (h.slot s) hc hF.fr hF.tg
    have hF1 : Fill E C.B0 ρb ρ Z f w st'.items ρ3 os1 ⟨(s,sv3) :: new.slots,[],new3,n3⟩:=⟨t1,f1,sub_trans hF.sub s1,fun k' s' hk=>by
     rw [lk_cons] at hk
     by_cases e : s = k'
     . rw [if_pos e] at hk; cases hk; subst e; exact r1
     . rw [if_neg e] at hk; exact Rep.sub (hF.sl k' s' hk) s1,rfl⟩
    obtain ⟨new',ρ4,os2,hF2,o2,k2⟩:=rbAll_ok hbase hρ h vs g1 a _ ρ3 os1 hr (by simpa [refsOf,refOf] using he) hF1 K (q1 _ hK)
    refine ⟨new',ρ4,os2,hF2,?_,k2⟩
    have e : idsOf E fx' st' (.chain s n T ks :: vs) = idsCh st'.items ks n (slotOf fx' st' s) ++ idsOf E fx' st' vs:=rfl
    rw [e]
    refine o2.trans ?_
    refine (o1.append_left _).trans ?_
    rw [<- List.append_assoc]
    exact (List.perm_append_comm).append_right _
  . cases hr
 | .rows s n t ks :: vs,g,a,new,ρ2,os,hr,he,hF,K,hK=>by
  simp only [rbAll] at hr
  split at hr
  . rename_i id hs
    split at hr
    . rename_i t' n' cells hi
      have ⟨hb,h2⟩:=bif_some hr
      clear hr
      simp only [Bool.and_eq_true] at hb
      obtain ⟨e1,e2⟩:=hb
      have e1:=Nat.eq_of_beq_eq_true e1
      have e2:=Nat.eq_of_beq_eq_true e2
      subst e1; subst e2
      split at h2
      . rename_i g1 hc
        obtain ⟨j,hj,_⟩:=lk_mem hi
        obtain ⟨L,F,hL,hn1,hbg,hA,hrw,hrep⟩:=h.mem.holds (its_get (l2:=lkd) hj)
        have hL : ρ id = some L:=hL
        have hsl:=h.slot s
        rw [hs] at hsl
        have hval : f s = .slice L.A L.n L.cap:=by
         generalize f s = u at hsl
         cases hsl with
         | acc hL'=>rw [hL] at hL'; cases hL'; rfl
        have s0:=rset_sub (L:=L) (hF.fr new.nx (Nat.le_refl _))
        obtain ⟨ρ3,os1,n3,new3,cells3,t1,f1,s1,r1,o1,q1⟩:=rbCells_ok h.mem (repK ks n') cells F g g1 (new.nx + 1) new.items [] [] (rset ρ2 new.nx L) os hrep hc (fun i hi=>by unfold rset; rw [if_neg (by omega)]; exact hF.fr i (by omega)) (hF.tg.mono s0) RepL.nil
        have hL3 : ρ3 new.nx = some L:=s1 _ _ rset_self
        have r1' : RepL E.N E.T ρ3 Z w F cells3:=by simpa using r1
        have hF1 : Fill E C.B0 ρb ρ Z f w st'.items ρ3 (some id :: os1) ⟨(s,.acc new.nx) :: new.slots,[],(new.nx,.rw t' n' cells3) :: new3,n3⟩:=⟨.cons ⟨_,hi,⟨L,F,hL3,hn1,hbg,hA,hrw,r1'⟩,fun b hb=>by rw [foot_rw hL3] at hb; rw [foot_rw hL]; exact hb⟩ t1,f1,sub_trans hF.sub (sub_trans s0 s1),fun k' s' hk=>by
         rw [lk_cons] at hk
         by_cases e : s = k'
         . rw [if_pos e] at hk; cases hk; subst e; rw [hval]; exact .acc hL3
         . rw [if_neg e] at hk; exact Rep.sub (hF.sl k' s' hk) (sub_trans s0 s1),rfl⟩
        have hK2 : allCells E (repK ks n') (new.nx + 1) new.items [] g (fun g nx its cs=>allC E fx st vs g ⟨(s,.acc new.nx) :: new.slots,[],(new.nx,.rw t' n' cs) :: its,nx⟩ K):=by
         simp only [allC] at hK
         cases hb : Nat.ble n' 1000000 with
         | true=>rw [hb] at hK; exact hK
         | false=>rw [hb] at hK; exact hK.elim
        obtain ⟨new',ρ4,os2,hF2,o2,k2⟩:=rbAll_ok hbase hρ h vs g1 a _ ρ3 (some id :: os1) h2 (by simpa [refsOf,refOf] using he) hF1 K (q1 _ hK2)
        refine ⟨new',ρ4,os2,hF2,?_,k2⟩
        have e : idsOf E fx' st' (.rows s n' t' ks :: vs) = id :: (((repK ks n').zip cells).flatMap fun p=>accId p.1 p.2) ++ idsOf E fx' st' vs:=by
         show idOf E fx' st' (.rows s n' t' ks) ++ idsOf E fx' st' vs = _
         rw [show idOf E fx' st' (.rows s n' t' ks) = id :: (((repK ks n').zip cells).flatMap fun p=>accId p.1 p.2) by simp only [idOf,hs,hi]; rw [accIds_eq]]
        rw [e]
        refine o2.trans ?_
        have o3 : (List.filterMap _root_.id (some id :: os1)).Perm (id :: ((((repK ks n').zip cells).flatMap fun p=>accId p.1 p.2) ++ os.filterMap _root_.id)):=o1.cons id
        refine (o3.append_left (idsOf E fx' st' vs)).trans ?_
        have : (idsOf E fx' st' vs ++ id :: ((((repK ks n').zip cells).flatMap fun p=>accId p.1 p.2) ++ os.filterMap _root_.id)) = (idsOf E fx' st' vs ++ (id :: (((repK ks n').zip cells).flatMap fun p=>accId p.1 p.2))) ++ os.filterMap _root_.id:=by simp
        rw [this]
        exact (List.perm_append_comm).append_right _
      . cases h2
    . cases hr
  . cases hr
 | .tree ss ps :: vs,g,a,new,ρ2,os,hr,he,hF,K,hK=>by
  simp only [rbAll] at hr
  have ⟨hss,hr2⟩:=bif_some hr
  clear hr
  split at hr2
  . rename_i g1 hc
    obtain ⟨hsk,hss⟩:=slotsT_app hss
    have hE : refT fx' st' ps ++ refsOf E fx' st' vs = refT fx st ps ++ refsOf E fx st vs:=he
    obtain ⟨he1,he2⟩:=List.append_inj hE (by unfold refT; rw [List.length_map,List.length_map])
    obtain ⟨ρ2',s0,f0,hH0⟩:=names_at (rbTp_in h.mem ps _ g g1 hc) hF.fr
    have hlen : (treeIds fx' st' ss ps).length = ps.length:=rbTp_len ps _ g g1 hc
    rw [hlen] at f0
    have hH:=nm_at hbase hsk he1 hlen (sub_trans hF.sub s0) hρ hH0
    obtain ⟨ρ3,os1,n3,new3,t1,f1,s1,o1,q1⟩:=rbTp_ok h.mem ps (treeIds fx' st' ss ps) 0 g g1 (new.nx + ps.length) new.items ρ2' os rfl hc f0 (hF.tg.mono s0) hH
    have hF1 : Fill E C.B0 ρb ρ Z f w st'.items ρ3 os1 ⟨(ss.map fun p=>(p.1,.ref ((tnm new.nx 0 (refT fx st ps)).getD p.2 0) 0)) ++ new.slots,[],new3,n3⟩:=⟨t1,f1,sub_trans hF.sub (sub_trans s0 s1),fun k' s' hk=>by
     rcases lk_maps (q:=fun j=>(tnm new.nx 0 (refT fx st ps)).getD j 0) hk with ⟨p,hp,e1,e2⟩ | hk
     . subst e1; subst e2
       obtain ⟨id,hs,hat⟩:=slotsT_at hss p hp
       have hsl:=h.slot p.1
       rw [hs] at hsl
       obtain ⟨L,e1,e2⟩:=hH p.2 id hat
       generalize f p.1 = u at hsl
       cases hsl with
       | ref hL=>rw [e1] at hL; cases hL; exact .ref (s1 _ _ e2)
     . exact Rep.sub (hF.sl k' s' hk) (sub_trans s0 s1),rfl⟩
    obtain ⟨new',ρ4,os2,hF2,o2,k2⟩:=rbAll_ok hbase hρ h vs g1 a _ ρ3 os1 hr2 he2 hF1 K (q1 _ hK)
    refine ⟨new',ρ4,os2,hF2,?_,k2⟩
    have e : idsOf E fx' st' (.tree ss ps :: vs) = idsTp st'.items ps (treeIds fx' st' ss ps) ++ idsOf E fx' st' vs:=rfl
    rw [e]
    refine o2.trans ?_
    refine (o1.append_left _).trans ?_
    rw [<- List.append_assoc]
    exact (List.perm_append_comm).append_right _
  . cases hr2
 | .alt :: vs,g,a,new,ρ2,os,hr,he,hF,K,hK=>by cases hr
 | .unr _ :: vs,g,a,new,ρ2,os,hr,he,hF,K,hK=>by cases hr
end
end Go.Rx
end
section
namespace Go.Rx
open Go Go.Wk Go.Wl
section
variable {E : Env} {C : Ctx} {n : Nat} {ops : List Oper} {Q : Exit -> Fr -> World -> Prop} {rest : List Oper} {f : Fr} {w w' : World}
variable {ty T T' : TypeId} {pos : String} {after : Array Edge} {x y z : Operand} {ρ ρ' : Env1} {Z Z' : Nat -> Prop} {its its' lkd : Items E.N} {nx : Nat}
variable {fx : Slots E.N} {st : E.St}
theorem cj_of {ps : List Prop} {r : Prop} (h : allP ps) (hr : r) : cj ps r:=by
 induction ps with
 | nil=>exact hr
 | cons p ps ih=>exact ⟨h.1,ih h.2⟩
theorem im_of {ps : List Prop} {r : Prop} (h : allP ps -> r) : im ps r:=by
 induction ps with
 | nil=>exact h trivial
 | cons p ps ih=>exact fun hp=>ih fun hs=>h ⟨hp,hs⟩
theorem cjl_all : ∀ {ps : List Prop},cjl ps -> allP ps
 | [],_=>trivial
 | [_],h=>⟨h,trivial⟩
 | _ :: _ :: _,h=>⟨h.1,cjl_all h.2⟩
theorem gOp_ok (hE : EnvOK E) {ch : List (Nat × Bool)} {op : Op} {d : Nat} {a : Q1 E.N} (h : Rel E C fx lkd st ρ Z f w) (hc : AllG f ch) (hs : gOp false fx lkd st ch op = some a) (ho : allP a.ob) (hn : Nat.blt d n = true)
  (K : ∀ v w',Ext [] w w' -> Rep E.N E.T ρ Z w' v a.v -> allP a.hy -> WL E.P false n ops Q rest (upd f d v) w') : WL E.P false n ops Q (⟨some d,op,ty,pos,after,none⟩ :: rest) f w:=by
 unfold gOp at hs
 split at hs
 . rename_i a2 hs2
   simp only [Option.some.injEq] at hs; subst hs
   exact stepG_ok h hc hs2 ho hn fun v hr hy=>K v w (Ext.refl [] w) hr hy
 . rw [cond_false] at hs
   split at hs
   . rename_i c hc2
     cases op with
     | call c' =>
      simp only [opCall,Option.some.injEq] at hc2; subst hc2
      unfold gCall at hs
      split at hs
      . rename_i K0 args hcal
        obtain ⟨z,xs,Ts,cap,rfl,hz,hargs⟩:=callee_ok (fun o=>h.ev hc o) hcal
        have ⟨hl,ho2⟩:=bif_some hs
        split at ho2
        . rename_i Cf hcon
          split at ho2
          . rename_i r hr
            have ⟨hb2,ho3⟩:=bif_some ho2
            simp only [Option.some.injEq] at ho3; subst ho3
            simp only [Bool.and_eq_true] at hb2
            exact S_callA hz (hE.call K0 (by rw [hcon]; rfl)) (lend_run hE h.mem hcon hl hr hb2.1 hb2.2 ho h.glob hargs) (fun d' e=>by cases e; exact hn) fun v w' ⟨x,hr',hy⟩=>K v w' x (Rep.bare hr') hy
          . cases ho2
        . cases ho2
      . cases hs
     | _=>cases hc2
   . cases hs
def inl0 (E : Env) : Inl E:=fun _ _ _ _ _ _=>False
theorem inl0_ok : InlOK E (inl0 E):=fun _ _ _ _ _ _ h=>h.elim
theorem fCall_vc {ch : List (Nat × Bool)} {d : Option Nat} {c : Call} {s : S1 E.N} {k : E.St -> Prop} (hs : fCall fx lkd st ch c = some s) (ho : allP s.ob) (hk : allP s.hy -> k (put ⟨st.slots,st.gs,s.items,s.nx⟩ d s.v)) : vcCall (inl0 E) fx lkd st ch d c k:=by
 unfold fCall at hs
 unfold vcCall
 split at hs
 . cases hs
 . rename_i K args hcal
   split at hs
   . rename_i Cf hcon
     cases hl : E.lend K with
     | true=>rw [hl] at hs; cases hs
     | false =>
      rw [hl,cond_false] at hs
      try rw [hcon]
      simp only [cond_false]
      split at hs
      . rename_i args' its hf
        try rw [hf]
        try simp only
        unfold fCon at hs
        unfold vcCon
        rw [hcon] at hs ⊢
        simp only at hs ⊢
        split at hs
        . rename_i r hr
          have ⟨hb,hs2⟩:=bif_some hs
          simp only [Option.some.injEq] at hs2; subst hs2
          try rw [hr]
          rw [hb]
          exact cj_of ho (im_of hk)
        . cases hs
      . cases hs
   . rename_i hcon
     try rw [hcon]
     try simp only
     split at hs
     . rename_i o hob
       try rw [hob]
       try simp only
       unfold fObc at hs
       unfold vcObc
       split at hs
       . rename_i v args0
         split at hs
         . rename_i id off
           have ⟨hb,hs2⟩:=bif_some hs
           simp only [hb,cond_true]
           split at hs2
           . rename_i k' fid x hi
             try rw [hi]
             try simp only
             split at hs2
             . rename_i hk'
               try rw [dif_pos hk']
               split at hs2
               . rename_i r hr
                 simp only [Option.some.injEq] at hs2; subst hs2
                 try rw [hr]
                 exact cj_of ho (im_of hk)
               . cases hs2
             . cases hs2
           . cases hs2
         . cases hs
       . cases hs
     . cases hs
theorem fEff_ok (hE : EnvOK E) {ch : List (Nat × Bool)} {d : Option Nat} {op : Op} {s : S1 E.N} (h : Rel E C fx lkd st ρ Z f w) (hG : AllG f ch) (hf : free n fx st d = true) (hs : fEff fx lkd st ch d op ty = some s) (ho : allP s.ob)
  (K : ∀ v ρ' Z' w',Rel E C fx lkd (put ⟨st.slots,st.gs,s.items,s.nx⟩ d s.v) ρ' Z' (putF f d v) w' -> allP s.hy -> WL E.P false n ops Q rest (putF f d v) w') :
  WL E.P false n ops Q (⟨d,op,ty,pos,after,none⟩ :: rest) f w:=by
 unfold fEff at hs
 split at hs
 . rename_i s' hs'
   have ⟨hd,hs2⟩:=bif_some hs
   simp only [Option.some.injEq] at hs2; subst hs2
   refine stepE_ok hE h.mem (fun o=>h.ev hG o) hs' ho ?_ fun v ρ' Z' w' m1 t1 hr hy=>K _ _ _ _ (h.put hf t1 m1 hr) hy
   have hb:=free_blt hf
   cases op with
   | store T a x =>
    cases d with
    | none=>rfl
    | some d=>cases hd
   | _ =>
    cases d with
    | none=>cases hd
    | some d=>exact ⟨d,rfl,hb d rfl⟩
 . split at hs
   . rename_i c hc
     cases op with
     | call c' =>
      simp only [opCall,Option.some.injEq] at hc; subst hc
      refine vcCall_ok hE inl0_ok h hG hf (fCall_vc (k:=fun st'=>st' = put ⟨st.slots,st.gs,s.items,s.nx⟩ d s.v /\ allP s.hy) hs ho fun hy=>⟨rfl,hy⟩) fun st' ρ' Z' v w' hr hk=>?_
      obtain ⟨e,hy⟩:=hk
      subst e
      exact K v ρ' Z' w' hr hy
     | _=>cases hc
   . cases hs
end
end Go.Rx
end
section
namespace Go.Rx
open Go Go.Wk Go.Wl
section
variable {N : Uni} {p : Nat -> Bool}
theorem dSlots_lk : ∀ {ents : List (Ent N)} {j0 k : Nat} {s : SV N},lk (dSlots p j0 ents) k = some s -> ∃ j e,ents[j]? = some e /\ p (j0 + j) = true /\ e.dst = some k /\ s = e.now
 | [],_,_,_,h=>by cases h
 | e :: r,j0,k,s,h=>by
  have go : lk (dSlots p (j0 + 1) r) k = some s -> ∃ j e',(e :: r)[j]? = some e' /\ p (j0 + j) = true /\ e'.dst = some k /\ s = e'.now:=fun h=>by
   obtain ⟨j,e',h1,h2,h3⟩:=dSlots_lk h
   exact ⟨j + 1,e',by simpa using h1,by rw [show j0 + (j + 1) = j0 + 1 + j by omega]; exact h2,h3⟩
  unfold dSlots at h
  cases hp : p j0 with
  | false=>rw [hp,cond_false] at h; exact go h
  | true =>
   rw [hp,cond_true] at h
   split at h
   . rename_i d hd
     rw [lk_cons] at h
     by_cases e1 : d = k
     . rw [if_pos e1] at h; cases h; exact ⟨0,e,rfl,hp,by rw [hd,e1],rfl⟩
     . rw [if_neg e1] at h; exact go h
   . exact go h
theorem dGs_lk : ∀ {ents : List (Ent N)} {j0 k j' : Nat} {b : Bool} {s : SV N},lk (dGs p j0 ents) k = some (j',b,s) -> ∃ j e jj,ents[j]? = some e /\ p (j0 + j) = true /\ p jj = true /\ e.dst = some k /\ e.g = some (jj,j',b) /\ s = e.sv
 | [],_,_,_,_,_,h=>by cases h
 | e :: r,j0,k,j',b,s,h=>by
  have go : lk (dGs p (j0 + 1) r) k = some (j',b,s) -> ∃ j e' jj,(e :: r)[j]? = some e' /\ p (j0 + j) = true /\ p jj = true /\ e'.dst = some k /\ e'.g = some (jj,j',b) /\ s = e'.sv:=fun h=>by
   obtain ⟨j,e',jj,h1,h2,h3⟩:=dGs_lk h
   exact ⟨j + 1,e',jj,by simpa using h1,by rw [show j0 + (j + 1) = j0 + 1 + j by omega]; exact h2,h3⟩
  unfold dGs at h
  cases hp : p j0 with
  | false=>rw [hp,cond_false] at h; exact go h
  | true =>
   rw [hp,cond_true] at h
   split at h
   . rename_i d jj dj b' hd hg
     cases hpj : p jj with
     | false=>rw [hpj,cond_false] at h; exact go h
     | true =>
      rw [hpj,cond_true] at h
      rw [lk_cons] at h
      by_cases e1 : d = k
      . rw [if_pos e1] at h; cases h; exact ⟨0,e,jj,rfl,hp,hpj,by rw [hd,e1],hg,rfl⟩
      . rw [if_neg e1] at h; exact go h
   . exact go h
theorem allP_app {a b : List Prop} (h : allP a) (k : allP b) : allP (a ++ b):=by
 induction a with
 | nil=>exact k
 | cons p r ih=>exact ⟨h.1,ih h.2⟩
theorem dHy_all : ∀ {ents : List (Ent N)} {j0 : Nat},(∀ j e,ents[j]? = some e -> p (j0 + j) = true -> allP e.hy) -> allP (dHy p j0 ents)
 | [],_,_=>trivial
 | e :: r,j0,h=>by
  have go : allP (dHy p (j0 + 1) r):=dHy_all fun j e' h1 h2=>h (j + 1) e' (by simpa using h1) (by rw [show j0 + (j + 1) = j0 + 1 + j by omega]; exact h2)
  unfold dHy
  cases hp : p j0 with
  | false=>exact go
  | true=>exact allP_app (h 0 e rfl hp) go
theorem lk_filter {β : Type} {q : Nat -> Bool} {l : List (Nat × β)} {k : Nat} {s : β} (h : lk (l.filter (fun p=>q p.1)) k = some s) : q k = true /\ lk l k = some s:=by
 induction l with
 | nil=>cases h
 | cons p r ih =>
  rw [List.filter_cons] at h
  by_cases hq : q p.1 = true
  . rw [if_pos hq] at h
    have h : lk ((p.1,p.2) :: r.filter (fun p=>q p.1)) k = some s:=h
    show _ /\ lk ((p.1,p.2) :: r) k = some s
    rw [lk_cons] at h ⊢
    by_cases e : p.1 = k
    . rw [if_pos e] at h ⊢; exact ⟨by rw [<- e]; exact hq,h⟩
    . rw [if_neg e] at h ⊢; exact ih h
  . rw [if_neg hq] at h
    have ⟨h1,h2⟩:=ih h
    refine ⟨h1,?_⟩
    show lk ((p.1,p.2) :: r) k = some s
    rw [lk_cons,if_neg]
    . exact h2
    . intro e; rw [e] at hq; exact hq h1
end
section
variable {B0 : List Nat} {w0 w w' : World} {Z : Nat -> Prop} {l l' : List It}
theorem Sep.sub (hs : Sep B0 w0 Z w l) (h : l'.Sublist l) : Sep B0 w0 Z w l':=by
 obtain ⟨h1,h2⟩:=Sep.pw hs
 exact Sep.of_pw hs.ext hs.zlt (fun t ht=>h1 t (h.subset ht)) (h2.sublist h)
end
section
variable {E : Env} {C : Ctx} {ρ ρ' : Env1} {Z Z' : Nat -> Prop} {w w' : World} {its its' : Items E.N} {nx nx' : Nat}
theorem Mem.sub (hm : Mem E C ρ Z w its nx) (h : its'.Sublist its) (hn : nx <= nx') : Mem E C ρ Z w its' nx':=⟨Sep.sub hm.sep (h.map _),fun i hi=>hm.fr i (by omega),hm.ge,hm.zge,hm.zle⟩
theorem without_again {X T : List Nat} (h : ∀ t ∈ T,t ∈ X) : without (without its X) T = without its X:=by
 unfold without
 rw [List.filter_eq_self]
 intro p hp
 rw [List.mem_filter] at hp
 have h1:=hp.2
 simp only [Bool.not_eq_true',List.elem_eq_mem,decide_eq_false_iff_not] at h1 ⊢
 exact fun ht=>h1 (h _ ht)
end
def EntOK (E : Env) (ρ : Env1) (Z : Nat -> Prop) (w : World) (D : Nat -> Bool) (V : Nat -> Value) (j : Nat) (e : Ent E.N) : Prop :=
 allP e.hy /\ match e.g with
  | none=>Rep E.N E.T ρ Z w (V j) e.sv
  | some (jj,_,b)=>D jj = true /\ (V jj = .bool b -> Rep E.N E.T ρ Z w (V j) e.sv) /\ (V jj ≠ .bool b -> V j = undef)
structure JI (E : Env) (C : Ctx) (fx : Slots E.N) (lkd : Items E.N) (st0 : E.St) (f0 : Fr) (F : DA E.N) (D : Nat -> Bool) (V : Nat -> Value) (w : World) (ρ : Env1) (Z : Nat -> Prop) (k : Nat) : Prop where
 eff : ∀ r e,F.effs[r]? = some e -> (D e = true ↔ r < k)
 mem : ∃ m,F.mems[k]? = some m /\ Mem E C ρ Z w (m.1 ++ lkd) m.2
 tn : Tn C.ρ0 C.Z0 C.w1 ρ Z w
 sl : ∀ k s,lk st0.slots k = some s -> Rep E.N E.T ρ Z w (f0 k) s
 fx : ∀ p ∈ fx,Rep E.N E.T ρ Z w (f0 p.1) p.2
 ent : ∀ j e,F.ents[j]? = some e -> D j = true -> EntOK E ρ Z w D V j e
 g : E.G.is C.Z0 C.w1
def JF (E : Env) (C : Ctx) (fx : Slots E.N) (lkd : Items E.N) (st0 : E.St) (f0 : Fr) (F : DA E.N) : JP:=fun D V w=>∃ ρ Z k,JI E C fx lkd st0 f0 F D V w ρ Z k
structure WA (E : Env) (l : List Oper) (H : Hints) (i : Nat) (a : DA E.N) : Prop where
 len : a.ents.length = i
 ent : ∀ j e,a.ents[j]? = some e -> dstAt l j = e.dst /\ ∀ jj dj b,e.g = some (jj,dj,b) -> dstAt l jj = some dj
 eff : ∀ e ∈ a.effs,e < i /\ ∃ T,lk H e = some T
 up : a.effs.Pairwise (· < ·)
 mlen : a.mems.length = a.effs.length + 1
 chain : ∀ (r e : Nat) (m m' : Items E.N × Nat),a.effs[r]? = some e -> a.mems[r]? = some m -> a.mems[r + 1]? = some m' -> ∃ T new,lk H e = some T /\ m'.1 = new ++ without (E:=E) m.1 T
 nx : ∀ m ∈ a.mems,m.2 <= NX
structure Up {N : Uni} (a F : DA N) (i : Nat) : Prop where
 ents : ∃ x,F.ents = a.ents ++ x
 effs : ∃ y,F.effs = a.effs ++ y /\ ∀ e ∈ y,i <= e
 mems : ∃ z,F.mems = a.mems ++ z
theorem Up.ent {N : Uni} {a F : DA N} {i j : Nat} {e : Ent N} (h : Up a F i) (hj : a.ents[j]? = some e) : F.ents[j]? = some e:=by
 obtain ⟨x,hx⟩:=h.ents
 rw [hx,List.getElem?_append_left (lt_get hj)]; exact hj
theorem Up.eff {N : Uni} {a F : DA N} {i j e : Nat} (h : Up a F i) (hj : a.effs[j]? = some e) : F.effs[j]? = some e:=by
 obtain ⟨x,hx,_⟩:=h.effs
 rw [hx,List.getElem?_append_left (lt_get hj)]; exact hj
theorem Up.mem {N : Uni} {a F : DA N} {i j : Nat} {e : Items N × Nat} (h : Up a F i) (hj : a.mems[j]? = some e) : F.mems[j]? = some e:=by
 obtain ⟨x,hx⟩:=h.mems
 rw [hx,List.getElem?_append_left (lt_get hj)]; exact hj
section
variable {E : Env} {C C' : Ctx} {n : Nat} {l : List Oper} {ms : List Nat} {H : Hints} {f0 : Fr} {st0 : E.St} {fx : Slots E.N} {lkd lkd' : Items E.N} {F a : DA E.N} {D : Nat -> Bool} {V : Nat -> Value} {w w' : World} {ρ ρ' : Env1} {Z Z' : Nat -> Prop} {i k : Nat} {g : Fr} {its : Items E.N} {nx : Nat}
theorem kept_free (hf : dsFree fx l = true) {p : Nat × E.SV} (hp : p ∈ fx) : keptOk ms i p.1 l 0 = true:=by
 have key : ∀ (r : List Oper) (j : Nat),(∀ o ∈ r,∀ d,o.dst = some d -> d ≠ p.1) -> keptOk ms i p.1 r j = true:=by
  intro r
  induction r with
  | nil=>intro j _; rfl
  | cons o r ih =>
   intro j h
   unfold keptOk
   rw [ih (j + 1) (fun o ho=>h o (List.mem_cons_of_mem _ ho)),Bool.and_true]
   split
   . rename_i d hd
     rw [beq_ne (h o (List.mem_cons_self ..) d hd)]; rfl
   . rfl
 refine key l 0 fun o ho d hd e=>?_
 unfold dsFree at hf
 rw [List.all_eq_true] at hf
 have:=hf o ho
 rw [hd] at this
 simp only [Option.isNone_iff_eq_none] at this
 exact lk_none this p hp e
theorem JI.rel (hj : JI E C fx lkd st0 f0 F D V w ρ Z k) (hf : dsFree fx l = true) (hw : WA E l H i a) (hu : ∀ (j : Nat) (e : Ent E.N),a.ents[j]? = some e -> F.ents[j]? = some e) (hd : ∀ j,bit ms i j = true -> D j = true)
  (hdone : ∀ j t,D j = true -> dstAt l j = some t -> g t = V j) (hkept : ∀ t,keptOk ms i t l 0 = true -> g t = f0 t) (hm : Mem E C' ρ Z w (its ++ lkd') nx) (ht : Tn C'.ρ0 C'.Z0 C'.w1 ρ Z w) (hg0 : E.G.is C'.Z0 C'.w1) : Rel E C' fx lkd' (dSt l ms st0 i a its nx) ρ Z g w:=by
 refine ⟨fun k s hk=>?_,fun p hp=>by rw [hkept _ (kept_free hf hp)]; exact hj.fx p hp,fun k j' b s hk=>?_,hm,ht,hg0⟩
 . rcases lk_app hk with hk | ⟨_,hk⟩
   . obtain ⟨j,e,h1,h2,h3,rfl⟩:=dSlots_lk hk
     rw [Nat.zero_add] at h2
     have hD:=hd j h2
     have hg:=hdone j k hD (by rw [(hw.ent j e h1).1]; exact h3)
     have ho:=(hj.ent j e (hu j e h1) hD).2
     unfold Ent.now
     split
     . rename_i hn; rw [hn] at ho; rw [hg]; exact ho
     . exact .un
   . have ⟨h1,h2⟩:=lk_filter (q:=fun t=>keptOk ms i t l 0) hk
     rw [hkept k h1]; exact hj.sl k s h2
 . obtain ⟨j,e,jj,h1,h2,h3,h4,h5,rfl⟩:=dGs_lk hk
   rw [Nat.zero_add] at h2
   have hD:=hd j h2
   have hg:=hdone j k hD (by rw [(hw.ent j e h1).1]; exact h4)
   have hg':=hdone jj j' (hd jj h3) ((hw.ent j e h1).2 _ _ _ h5)
   have ho:=(hj.ent j e (hu j e h1) hD).2
   rw [h5] at ho
   rw [hg,hg']; exact ho.2
theorem JI.hys (hj : JI E C fx lkd st0 f0 F D V w ρ Z k) (hu : ∀ (j : Nat) (e : Ent E.N),a.ents[j]? = some e -> F.ents[j]? = some e) (hd : ∀ j,bit ms i j = true -> D j = true) : allP (dHy (bit ms i) 0 a.ents) :=
 dHy_all fun j e h1 h2=>(hj.ent j e (hu j e h1) (hd j (by rw [Nat.zero_add] at h2; exact h2))).1
theorem EntOK.turn {e : Ent E.N} {j : Nat} {v : Value} (h : EntOK E ρ Z w D V j e) (t : Tn ρ Z w ρ' Z' w') (hi : D i = false) (hj : D j = true) : EntOK E ρ' Z' w' (setD D i) (setV V i v) j e:=by
 have ne : ∀ {x},D x = true -> x ≠ i:=fun hx e=>by rw [e,hi] at hx; cases hx
 refine ⟨h.1,?_⟩
 have h2:=h.2
 split at h2
 . rename_i hg
   rw [setV_ne (ne hj)]; exact t.rep h2
 . rename_i jj dj b hg
   rw [setV_ne (ne hj),setV_ne (ne h2.1),setD_ne (ne h2.1)]
   exact ⟨h2.1,fun e=>t.rep (h2.2.1 e),h2.2.2⟩
end
end Go.Rx
end
section
namespace Go.Rx
open Go Go.Wk Go.Wl
section
variable {E : Env} {C C' : Ctx} {n : Nat} {l : List Oper} {ms : List Nat} {H : Hints} {f0 : Fr} {st0 : E.St} {fx : Slots E.N} {lkd lkd' : Items E.N} {F a : DA E.N} {D : Nat -> Bool} {V : Nat -> Value} {w w' : World} {ρ ρ' : Env1} {Z Z' : Nat -> Prop} {i k m : Nat} {g : Fr} {its : Items E.N} {nx : Nat}
theorem bif_none {α : Type} {b : Bool} {o : Option α} {r : α} (h : (bif b then none else o) = some r) : b = false /\ o = some r:=by
 cases b with
 | true=>cases h
 | false=>exact ⟨rfl,h⟩
theorem loOf_spec : ∀ {effs : List Nat} {r : Nat},r < loOf ms i effs -> ∃ e,effs[r]? = some e /\ bit ms i e = true
 | [],_,h=>by simp [loOf] at h
 | e :: s,r,h=>by
  unfold loOf at h
  cases hb : bit ms i e with
  | false=>rw [hb] at h; simp at h
  | true =>
   rw [hb,cond_true] at h
   cases r with
   | zero=>exact ⟨e,rfl,hb⟩
   | succ r=>obtain ⟨e',h1,h2⟩:=loOf_spec (effs:=s) (r:=r) (by omega); exact ⟨e',by simpa using h1,h2⟩
theorem up_inj {effs : List Nat} (h : effs.Pairwise (· < ·)) {r s e : Nat} (hr : effs[r]? = some e) (hs : effs[s]? = some e) : r = s:=by
 rw [List.pairwise_iff_getElem] at h
 have h1:=lt_get hr
 have h2:=lt_get hs
 rw [List.getElem?_eq_getElem h1] at hr
 rw [List.getElem?_eq_getElem h2] at hs
 simp only [Option.some.injEq] at hr hs
 rcases Nat.lt_trichotomy r s with c | c | c
 . have:=h r s h1 h2 c; omega
 . exact c
 . have:=h s r h2 h1 c; omega
theorem shut_sub (hj : JI E C fx lkd st0 f0 F D V w ρ Z k) (hF : WA E l H m F) (hu : Up a F i) (hdep : ∀ j,bit ms i j = true -> D j = true) (hsucc : ∀ j,bit ms j i = true -> D j = false) {m0 mk : Items E.N × Nat} (hm0 : a.mems[loOf ms i a.effs]? = some m0) (hmk : F.mems[k]? = some mk) :
  (without m0.1 (shut ms H i (a.effs.take (loOf ms i a.effs)))).Sublist mk.1:=by
 have hlo : loOf ms i a.effs <= k:=by
  rcases Nat.lt_or_ge k (loOf ms i a.effs) with h | h
  . obtain ⟨e,h1,h2⟩:=loOf_spec h
    have:=(hj.eff k e (hu.eff h1)).1 (hdep e h2)
    omega
  . exact h
 have key : ∀ t mr,F.mems[loOf ms i a.effs + t]? = some mr -> loOf ms i a.effs + t <= k -> (without m0.1 (shut ms H i (a.effs.take (loOf ms i a.effs)))).Sublist mr.1:=by
  intro t
  induction t with
  | zero =>
   intro mr hr _
   have:=hu.mem hm0
   rw [Nat.add_zero,this] at hr
   cases hr
   exact List.filter_sublist
  | succ t ih =>
   intro mr hr hk
   have hl:=lt_get hr
   obtain ⟨m1,hm1⟩ : ∃ m1,F.mems[loOf ms i a.effs + t]? = some m1:=⟨_,List.getElem?_eq_getElem (by omega)⟩
   have hl2 : loOf ms i a.effs + t < F.effs.length:=by have:=hF.mlen; omega
   obtain ⟨e,he⟩ : ∃ e,F.effs[loOf ms i a.effs + t]? = some e:=⟨_,List.getElem?_eq_getElem hl2⟩
   obtain ⟨T,new,hT,hnew⟩:=hF.chain _ e m1 mr he hm1 hr
   have hs:=ih m1 hm1 (by omega)
   have hDe : D e = true:=(hj.eff _ e he).2 (by omega)
   have hTX : ∀ t ∈ T,t ∈ shut ms H i (a.effs.take (loOf ms i a.effs)):=fun t ht=>by
    obtain ⟨x,hx,_⟩:=lk_mem hT
    unfold shut
    rw [List.mem_flatMap]
    refine ⟨(e,T),List.mem_of_getElem? hx,?_⟩
    have h1 : bit ms e i = false:=by
     cases hb : bit ms e i with
     | false=>rfl
     | true=>rw [hsucc e hb] at hDe; cases hDe
    have h2 : (a.effs.take (loOf ms i a.effs)).elem e = false:=by
     cases hb : (a.effs.take (loOf ms i a.effs)).elem e with
     | false=>rfl
     | true =>
      exfalso
      have hb:=List.mem_of_elem_eq_true hb
      obtain ⟨r,hr1,hr2⟩:=List.getElem_of_mem hb
      simp only [List.length_take] at hr1
      rw [List.getElem_take] at hr2
      have hr3 : a.effs[r]? = some e:=by rw [List.getElem?_eq_getElem (by omega),hr2]
      have:=up_inj hF.up (hu.eff hr3) he
      omega
    rw [h1,h2]; exact ht
   rw [hnew,<- without_again hTX]
   exact List.Sublist.trans (List.Sublist.filter _ hs) (List.sublist_append_right _ _)
 have:=key (k - loOf ms i a.effs) mk (by rw [show loOf ms i a.effs + (k - loOf ms i a.effs) = k by omega]; exact hmk) (by omega)
 exact this
theorem JI.quiet (hj : JI E C fx lkd st0 f0 F D V w ρ Z k) (hF : WA E l H m F) (hH : lk H i = none) (hDi : D i = false) (x : Ext [] w w') {e : Ent E.N} (he : F.ents[i]? = some e) {v : Value} (ho : EntOK E ρ Z w' (setD D i) (setV V i v) i e) : JI E C fx lkd st0 f0 F (setD D i) (setV V i v) w' ρ Z k:=by
 obtain ⟨mm,hm,hmem⟩:=hj.mem
 obtain ⟨m1,t⟩:=hmem.ext0 x
 refine ⟨fun r e' hr=>?_,⟨mm,hm,m1⟩,hj.tn.trans t,fun k s h=>t.rep (hj.sl k s h),fun p hp=>t.rep (hj.fx p hp),fun j e' hj' hD=>?_,hj.g⟩
 . obtain ⟨_,T,hT⟩:=hF.eff e' (List.mem_of_getElem? hr)
   rw [setD_ne (fun e2=>by rw [e2,hH] at hT; cases hT)]
   exact hj.eff r e' hr
 . by_cases e2 : j = i
   . subst e2; rw [he] at hj'; cases hj'; exact ho
   . rw [setD_ne e2] at hD
     exact (hj.ent j e' hj' hD).turn t hDi hD
theorem quiet_ok (hE : EnvOK E) {o : Oper} {e : Ent E.N} {ob : List Prop} (hf : dsFree fx l = true) (hq : dQuiet n fx lkd l ms H st0 i o a = some (ob,e)) (hH : lk H i = none)
  (hob : im (dHy (bit ms i) 0 a.ents) (allP ob)) (hw : WA E l H i a) (hF : WA E l H m F) (hu : Up a F i) (he : F.ents[i]? = some e) : OneJ E.P n l ms (JF E C fx lkd st0 f0 F) f0 i o:=by
 intro D V g w hJ hDi hdep hsucc hdone hkept
 obtain ⟨ρ,Z,k,hj⟩:=hJ
 have hob:=im_hy hob (hj.hys (fun j e h=>hu.ent h) hdep)
 unfold dQuiet at hq
 split at hq
 . cases hq
 rename_i m0 hm0
 have h2:=bif_some hq
 clear hq
 obtain ⟨hfr,hq⟩:=h2
 obtain ⟨mk,hmk,hmem⟩:=hj.mem
 have hR:=hj.rel hf hw (fun j e h=>hu.ent h) hdep hdone hkept (C':=C) (hmem.sub ((shut_sub hj hF hu hdep hsucc hm0 hmk).append_right lkd) (hF.nx mk (List.mem_of_getElem? hmk))) hj.tn hj.g
 obtain ⟨dst,op,ty,pos,after,guard⟩:=o
 cases guard with
 | none =>
  simp only at hq hfr
  split at hq
  . rename_i q d hgop
    simp only [Option.some.injEq,Prod.mk.injEq] at hq
    obtain ⟨rfl,rfl⟩:=hq
    exact gOp_ok hE hR AllG.nil hgop hob (free_some hfr).1 fun v w' x hr hy=>WL_nil ⟨rfl,v,rfl,ρ,Z,k,hj.quiet hF hH hDi x he ⟨hy,by show Rep E.N E.T ρ Z w' (setV V i v i) q.v; rw [setV_self]; exact hr⟩⟩
  . cases hq
 | some jb =>
  obtain ⟨j,b⟩:=jb
  simp only at hq hfr
  split at hq
  . rename_i dj hdj
    have h2:=bif_some hq
    clear hq
    obtain ⟨hb,hq⟩:=h2
    simp only [Bool.and_eq_true] at hb
    obtain ⟨hbj,hnj⟩:=hb
    have hDj:=hdep j hbj
    have hji : j ≠ i:=fun e=>by rw [e,hDi] at hDj; cases hDj
    have hgj:=hdone j dj hDj hdj
    split at hq
    . rename_i p q d hs
      simp only [Option.some.injEq,Prod.mk.injEq] at hq
      obtain ⟨rfl,rfl⟩:=hq
      unfold gSel at hs
      split at hs
      . rename_i p1 dp q1 d1 hg ho1
        have h2:=bif_none hs
        clear hs
        have hs:=h2.2
        simp only [Option.some.injEq,Prod.mk.injEq] at hs
        obtain ⟨rfl,rfl,rfl⟩:=hs
        obtain ⟨g1,g2⟩:=gprop_ok hR 8 dj b p1 dp hg
        by_cases hp : p1
        . have e1:=g1.1 hp
          refine WL_on hdj hnj e1 (gOp_ok hE hR (chain_ok hR 8 dj b e1) ho1 (imp_all hp hob) (free_some hfr).1 fun v w' x hr hy=>WL_nil ⟨rfl,v,rfl,ρ,Z,k,hj.quiet hF hH hDi x he ⟨imp_of fun _=>hy,?_⟩⟩)
          show setD D i j = true /\ (setV V i v j = .bool b -> Rep E.N E.T ρ Z w' (setV V i v i) q1.v) /\ (setV V i v j ≠ .bool b -> setV V i v i = undef)
          rw [setD_ne hji,setV_ne hji,setV_self,<- hgj]
          exact ⟨hDj,fun _=>hr,fun h=>absurd e1 h⟩
        . have e1:=g2 hp
          have ho : EntOK E ρ Z w (setD D i) (setV V i undef) i ⟨some d1,some (j,dj,b),q1.v,imp p1 q1.hy⟩:=by
           refine ⟨imp_of fun h=>absurd h hp,?_⟩
           show setD D i j = true /\ (setV V i undef j = .bool b -> Rep E.N E.T ρ Z w (setV V i undef i) q1.v) /\ (setV V i undef j ≠ .bool b -> setV V i undef i = undef)
           rw [setD_ne hji,setV_ne hji,setV_self,<- hgj]
           exact ⟨hDj,fun h=>absurd (g1.2 h) hp,fun _=>rfl⟩
          have fin:=hj.quiet hF hH hDi (Ext.refl [] w) he ho
          rcases e1 with e1 | e1
          . exact WL_off hdj hnj (free_some hfr).1 e1 (WL_nil ⟨rfl,undef,rfl,ρ,Z,k,fin⟩)
          . exact WL_off0 hdj hnj (free_some hfr).1 e1 (WL_nil ⟨rfl,undef,rfl,ρ,Z,k,fin⟩)
      . cases hs
    . cases hq
  . cases hq
theorem isOff_ok {s : E.SV} {b : Bool} {v : Value} (h : isOff s b = true) (r : Rep E.N E.T ρ Z w v s) : v = .bool (!b):=by
 cases s with
 | tt =>
  cases b with
  | false=>cases r; rfl
  | true=>cases h
 | ff =>
  cases b with
  | true=>cases r; rfl
  | false=>cases h
 | _=>cases h
theorem dead_ok {o : Oper} {e : Ent E.N} (hq : dDead n l ms i o a = some e) (hH : lk H i = none) (hF : WA E l H m F) (hu : Up a F i) (he : F.ents[i]? = some e) : OneJ E.P n l ms (JF E C fx lkd st0 f0 F) f0 i o:=by
 intro D V g w hJ hDi hdep hsucc hdone hkept
 obtain ⟨ρ,Z,k,hj⟩:=hJ
 obtain ⟨dst,op,ty,pos,after,guard⟩:=o
 unfold dDead at hq
 split at hq
 . rename_i j b d hg hd
   simp only at hg hd
   subst hg hd
   split at hq
   . rename_i dj ej hdj hej
     have ⟨hb,hq2⟩:=bif_some hq
     clear hq
     simp only [Bool.and_eq_true] at hb
     obtain ⟨⟨⟨hbj,hnj⟩,hnd⟩,hoff⟩:=hb
     simp only [Option.some.injEq] at hq2
     subst hq2
     have hDj:=hdep j hbj
     have hji : j ≠ i:=fun e=>by rw [e,hDi] at hDj; cases hDj
     have hgj:=hdone j dj hDj hdj
     have hoj:=(hj.ent j ej (hu.ent hej) hDj).2
     have hv : g dj = .bool (!b) ∨ g dj = undef:=by
      rw [hgj]
      unfold offE at hoff
      split at hoff
      . rename_i hsv
        split at hoj
        . rw [hsv] at hoj
          generalize V j = u at hoj
          cases hoj; exact .inr rfl
        . rename_i hg0; rw [hg0] at hoff; cases hoff
      . split at hoj
        . exact .inl (isOff_ok hoff hoj)
        . rename_i jj dj' b' _
          by_cases e : V jj = .bool b'
          . exact .inl (isOff_ok hoff (hoj.2.1 e))
          . exact .inr (hoj.2.2 e)
     have ho : EntOK E ρ Z w (setD D i) (setV V i undef) i (⟨some d,none,.undef,[]⟩ : Ent E.N):=⟨trivial,by
      show Rep E.N E.T ρ Z w (setV V i undef i) .undef
      rw [setV_self]; exact .undef⟩
     have fin:=hj.quiet hF hH hDi (Ext.refl [] w) he ho
     rcases hv with e1 | e1
     . exact WL_off hdj hnj hnd e1 (WL_nil ⟨rfl,undef,rfl,ρ,Z,k,fin⟩)
     . exact WL_off0 hdj hnj hnd e1 (WL_nil ⟨rfl,undef,rfl,ρ,Z,k,fin⟩)
   . cases hq
 . cases hq
end
end Go.Rx
end
section
namespace Go.Rx
open Go Go.Wk Go.Wl
section
variable {E : Env} {C C' : Ctx} {n : Nat} {l : List Oper} {ms : List Nat} {H : Hints} {f0 : Fr} {st0 : E.St} {fx : Slots E.N} {lkd lkd' : Items E.N} {F a : DA E.N} {D : Nat -> Bool} {V : Nat -> Value} {w w' : World} {ρ ρ' : Env1} {Z Z' : Nat -> Prop} {i k m : Nat} {g : Fr} {its : Items E.N} {nx : Nat}
theorem eff_ok (hE : EnvOK E) {o : Oper} {e : Ent E.N} {ob : List Prop} {T : List Nat} {mm : Items E.N × Nat} (hf : dsFree fx l = true) (hq : dEff n fx lkd l ms st0 i o a T = some (ob,e,mm))
  (hob : im (dHy (bit ms i) 0 a.ents) (allP ob)) (hw : WA E l H i a) (hF : WA E l H m F) (hu : Up a F i) (he : F.ents[i]? = some e) (hei : F.effs[a.effs.length]? = some i) (hmm : F.mems[a.effs.length + 1]? = some mm) : OneJ E.P n l ms (JF E C fx lkd st0 f0 F) f0 i o:=by
 intro D V g w hJ hDi hdep hsucc hdone hkept
 obtain ⟨ρ,Z,k,hj⟩:=hJ
 have hob:=im_hy hob (hj.hys (fun j e h=>hu.ent h) hdep)
 obtain ⟨mk,hmk,hmem⟩:=hj.mem
 obtain ⟨dst,op,ty,pos,after,guard⟩:=o
 unfold dEff at hq
 split at hq
 . rename_i m0 hm0
   have h2:=bif_some hq
   clear hq
   obtain ⟨hb,hq⟩:=h2
   simp only [Bool.and_eq_true] at hb
   obtain ⟨hfr,hall⟩:=hb
   simp only at hfr hq
   split at hq
   case h_2=>cases hq
   rename_i gg ch hdg
   have hk : k = a.effs.length:=by
    rcases Nat.lt_trichotomy k a.effs.length with c | c | c
    . exfalso
      obtain ⟨e',he'⟩ : ∃ e',a.effs[k]? = some e':=⟨_,List.getElem?_eq_getElem c⟩
      rw [List.all_eq_true] at hall
      have:=(hj.eff k e' (hu.eff he')).1 (hdep e' (hall e' (List.mem_of_getElem? he')))
      omega
    . exact c
    . exfalso
      have:=(hj.eff _ i hei).2 c
      rw [hDi] at this; cases this
   subst hk
   have:=hu.mem hm0
   rw [this] at hmk; cases hmk
   split at hq
   . rename_i s hs
     have h2:=bif_some hq
     clear hq
     obtain ⟨_,hq⟩:=h2
     simp only [Option.some.injEq,Prod.mk.injEq] at hq
     obtain ⟨rfl,rfl,rfl⟩:=hq
     have hR:=hj.rel hf hw (fun j e h=>hu.ent h) hdep hdone hkept (C':=C.at ρ Z w) (its:=within mk.1 T) (lkd':=without mk.1 T ++ lkd) (nx:=mk.2) (hmem.down.perm (by rw [<- List.append_assoc]; exact (split_perm mk.1 T).append_right lkd)) (Tn.refl _ _ _) (Glob.turn hj.g hj.tn)
     have hgg : ∃ hG : AllG g ch,allP s.ob /\ ∀ {Q : Exit -> Fr -> World -> Prop},WL E.P false n l Q [⟨dst,op,ty,pos,after,none⟩] g w -> WL E.P false n l Q [⟨dst,op,ty,pos,after,guard⟩] g w:=by
      unfold dG at hdg
      cases guard with
      | none =>
       simp only [Option.some.injEq,Prod.mk.injEq] at hdg
       obtain ⟨rfl,rfl⟩:=hdg
       exact ⟨AllG.nil,hob,fun h=>h⟩
      | some jb =>
       obtain ⟨j,b⟩:=jb
       simp only at hdg
       split at hdg
       . rename_i dj hdj
         have h3:=bif_some hdg
         clear hdg
         obtain ⟨hb3,hdg⟩:=h3
         simp only [Bool.and_eq_true] at hb3
         obtain ⟨⟨_,hnj⟩,_⟩:=hb3
         split at hdg
         . rename_i p dp hgp
           simp only [Option.some.injEq,Prod.mk.injEq] at hdg
           obtain ⟨rfl,rfl⟩:=hdg
           have hob2 : p /\ allP s.ob:=hob
           have e1:=(gprop_ok hR 8 dj b p dp hgp).1.1 hob2.1
           exact ⟨chain_ok hR 8 dj b e1,hob2.2,fun h=>WL_on hdj hnj e1 h⟩
         . cases hdg
       . cases hdg
     obtain ⟨hG,hob,hon⟩:=hgg
     refine hon (fEff_ok hE hR hG hfr hs hob fun v ρ' Z' w' hr hy=>WL_nil ⟨rfl,v,rfl,ρ',Z',a.effs.length + 1,?_⟩)
     have t : Tn ρ Z w ρ' Z' w':=hr.tn
     have hM:=Mem.upC hmem hr.mem
     refine ⟨fun r e' hr'=>?_,⟨_,hmm,?_⟩,hj.tn.trans t,fun k s h=>t.rep (hj.sl k s h),fun p hp=>t.rep (hj.fx p hp),fun j e' hj' hD=>?_,hj.g⟩
     . rcases Nat.lt_trichotomy r a.effs.length with c | c | c
       . have h1:=hj.eff r e' hr'
         have hne : e' ≠ i:=fun e2=>by subst e2; have:=up_inj hF.up hr' hei; omega
         rw [setD_ne hne,h1]; omega
       . subst c
         rw [hei] at hr'; cases hr'
         rw [setD_self]; simp
       . have h1:=hj.eff r e' hr'
         have hne : e' ≠ i:=fun e2=>by subst e2; have:=up_inj hF.up hr' hei; omega
         rw [setD_ne hne,h1]; omega
     . rw [List.append_assoc]
       cases dst with
       | none=>exact hM
       | some d=>exact hM
     . by_cases e2 : j = i
       . subst e2; rw [he] at hj'; cases hj'
         refine ⟨hy,?_⟩
         show Rep E.N E.T ρ' Z' w' (setV V j v j) _
         rw [setV_self]
         cases dst with
         | none=>exact .un
         | some d =>
          have:=hr.sl d s.v (by show lk ((d,s.v) :: _) d = _; rw [lk_cons,if_pos rfl])
          rw [show putF g (some d) v d = v from upd_same] at this
          exact this
       . rw [setD_ne e2] at hD
         exact (hj.ent j e' hj' hD).turn t hDi hD
   . cases hq
 . cases hq
theorem WA.quiet {o : Oper} {e : Ent E.N} {ob : List Prop} (hw : WA E l H i a) (ho : l[i]? = some o) (hq : dQuiet n fx lkd l ms H st0 i o a = some (ob,e)) : WA E l H (i + 1) ⟨a.ents ++ [e],a.effs,a.mems⟩:=by
 have hent : o.dst = e.dst /\ ∀ jj dj b,e.g = some (jj,dj,b) -> dstAt l jj = some dj:=by
  unfold dQuiet at hq
  split at hq
  . cases hq
  have h2:=bif_some hq
  clear hq
  obtain ⟨_,hq⟩:=h2
  split at hq
  . split at hq
    . rename_i q d hgop hd
      simp only [Option.some.injEq,Prod.mk.injEq] at hq
      obtain ⟨_,rfl⟩:=hq
      exact ⟨hd,fun jj dj b h=>by cases h⟩
    . cases hq
  . rename_i j b hg
    split at hq
    . rename_i dj hdj
      have h2:=bif_some hq
      clear hq
      obtain ⟨_,hq⟩:=h2
      split at hq
      . rename_i p q d hs
        simp only [Option.some.injEq,Prod.mk.injEq] at hq
        obtain ⟨_,rfl⟩:=hq
        refine ⟨?_,fun jj dj' b' h=>by cases h; exact hdj⟩
        unfold gSel at hs
        split at hs
        . rename_i hd
          have h2:=bif_none hs
          have hs:=h2.2
          simp only [Option.some.injEq,Prod.mk.injEq] at hs
          rw [hd,hs.2.2]
        . cases hs
      . cases hq
    . cases hq
 refine ⟨by simp [hw.len],fun j e' hj=>?_,fun e' h=>⟨by have:=(hw.eff e' h).1; omega,(hw.eff e' h).2⟩,hw.up,hw.mlen,hw.chain,hw.nx⟩
 have hl:=hw.len
 by_cases c : j < a.ents.length
 . have hj : (a.ents ++ [e])[j]? = some e':=hj
   rw [List.getElem?_append_left c] at hj; exact hw.ent j e' hj
 . have hj : (a.ents ++ [e])[j]? = some e':=hj
   rw [List.getElem?_append_right (by omega)] at hj
   have : j - a.ents.length = 0:=by have:=lt_get hj; simp at this; omega
   rw [this] at hj; cases hj
   have : j = i:=by omega
   subst this
   exact ⟨by rw [dstAt_some ho]; exact hent.1,hent.2⟩
theorem WA.put {o : Oper} {e : Ent E.N} (hw : WA E l H i a) (ho : l[i]? = some o) (hent : o.dst = e.dst /\ ∀ jj dj b,e.g = some (jj,dj,b) -> dstAt l jj = some dj) : WA E l H (i + 1) ⟨a.ents ++ [e],a.effs,a.mems⟩:=by
 refine ⟨by simp [hw.len],fun j e' hj=>?_,fun e' h=>⟨by have:=(hw.eff e' h).1; omega,(hw.eff e' h).2⟩,hw.up,hw.mlen,hw.chain,hw.nx⟩
 have hl:=hw.len
 by_cases c : j < a.ents.length
 . have hj : (a.ents ++ [e])[j]? = some e':=hj
   rw [List.getElem?_append_left c] at hj; exact hw.ent j e' hj
 . have hj : (a.ents ++ [e])[j]? = some e':=hj
   rw [List.getElem?_append_right (by omega)] at hj
   have : j - a.ents.length = 0:=by have:=lt_get hj; simp at this; omega
   rw [this] at hj; cases hj
   have : j = i:=by omega
   subst this
   exact ⟨by rw [dstAt_some ho]; exact hent.1,hent.2⟩
theorem WA.dead {o : Oper} {e : Ent E.N} (hw : WA E l H i a) (ho : l[i]? = some o) (hq : dDead n l ms i o a = some e) : WA E l H (i + 1) ⟨a.ents ++ [e],a.effs,a.mems⟩:=by
 refine hw.put ho ?_
 unfold dDead at hq
 split at hq
 . rename_i j b d hg hd
   split at hq
   . have ⟨_,hq2⟩:=bif_some hq
     simp only [Option.some.injEq] at hq2
     subst hq2
     exact ⟨hd,fun jj dj b h=>by cases h⟩
   . cases hq
 . cases hq
theorem WA.effs {o : Oper} {e : Ent E.N} {ob : List Prop} {T : List Nat} {mm : Items E.N × Nat} (hw : WA E l H i a) (ho : l[i]? = some o) (hH : lk H i = some T) (hq : dEff n fx lkd l ms st0 i o a T = some (ob,e,mm)) : WA E l H (i + 1) ⟨a.ents ++ [e],a.effs ++ [i],a.mems ++ [mm]⟩:=by
 have hent : o.dst = e.dst /\ e.g = none /\ mm.2 <= NX /\ ∃ m0 new,a.mems[a.effs.length]? = some m0 /\ mm.1 = new ++ without (E:=E) m0.1 T:=by
  unfold dEff at hq
  split at hq
  . rename_i m0 hm0
    have h2:=bif_some hq
    clear hq
    obtain ⟨_,hq⟩:=h2
    split at hq
    case h_2=>cases hq
    split at hq
    . rename_i s hs
      have h2:=bif_some hq
      clear hq
      obtain ⟨hn,hq⟩:=h2
      simp only [Option.some.injEq,Prod.mk.injEq] at hq
      obtain ⟨rfl,rfl,rfl⟩:=hq
      exact ⟨rfl,rfl,Nat.le_of_ble_eq_true hn,m0,_,hm0,rfl⟩
    . cases hq
  . cases hq
 obtain ⟨h1,h2,h3,m0,new,h4,h5⟩:=hent
 have hl:=hw.len
 have hml:=hw.mlen
 refine ⟨by simp [hw.len],fun j e' hj=>?_,fun e' h=>?_,?_,by simp [hml],fun r e' m m' he hm hm'=>?_,fun m h=>?_⟩
 . have hj : (a.ents ++ [e])[j]? = some e':=hj
   by_cases c : j < a.ents.length
   . rw [List.getElem?_append_left c] at hj; exact hw.ent j e' hj
   . rw [List.getElem?_append_right (by omega)] at hj
     have : j - a.ents.length = 0:=by have:=lt_get hj; simp at this; omega
     rw [this] at hj; cases hj
     have : j = i:=by omega
     subst this
     exact ⟨by rw [dstAt_some ho]; exact h1,fun jj dj b h=>by rw [h2] at h; cases h⟩
 . have h : e' ∈ a.effs ++ [i]:=h
   rw [List.mem_append,List.mem_singleton] at h
   rcases h with h | rfl
   . exact ⟨by have:=(hw.eff e' h).1; omega,(hw.eff e' h).2⟩
   . exact ⟨by omega,T,hH⟩
 . show (a.effs ++ [i]).Pairwise (· < ·)
   rw [List.pairwise_append]
   refine ⟨hw.up,List.pairwise_singleton _ _,fun x hx y hy=>?_⟩
   rw [List.mem_singleton] at hy; subst hy
   exact (hw.eff x hx).1
 . have he : (a.effs ++ [i])[r]? = some e':=he
   have hm : (a.mems ++ [mm])[r]? = some m:=hm
   have hm' : (a.mems ++ [mm])[r + 1]? = some m':=hm'
   by_cases c : r < a.effs.length
   . rw [List.getElem?_append_left c] at he
     rw [List.getElem?_append_left (by omega)] at hm hm'
     exact hw.chain r e' m m' he hm hm'
   . rw [List.getElem?_append_right (by omega)] at he
     have : r - a.effs.length = 0:=by have:=lt_get he; simp at this; omega
     have hr : r = a.effs.length:=by omega
     subst hr
     rw [this] at he; cases he
     rw [List.getElem?_append_left (by omega)] at hm
     rw [List.getElem?_append_right (by omega)] at hm'
     have : a.effs.length + 1 - a.mems.length = 0:=by omega
     rw [this] at hm'; cases hm'
     rw [h4] at hm; cases hm
     exact ⟨T,new,hH,h5⟩
 . have h : m ∈ a.mems ++ [mm]:=h
   rw [List.mem_append,List.mem_singleton] at h
   rcases h with h | rfl
   . exact hw.nx m h
   . exact h3
theorem dGo_ok (hE : EnvOK E) (hf : dsFree fx l = true) {K : DA E.N -> Prop} : ∀ (r : List Oper) (i : Nat) (a : DA E.N),(∀ x,r[x]? = l[i + x]?) -> WA E l H i a -> dGo n fx lkd l ms H st0 K i r a -> ∃ F,WA E l H (i + r.length) F /\ Up a F i /\ StepsJ E.P n l ms (JF E C fx lkd st0 f0 F) f0 i r /\ K F
 | [],i,a,_,hw,h=>⟨a,hw,⟨⟨[],by simp⟩,⟨[],by simp,fun e h=>by cases h⟩,⟨[],by simp⟩⟩,.nil,h⟩
 | o :: r,i,a,hr,hw,h=>by
  have ho : l[i]? = some o:=by have:=hr 0; simpa using this.symm
  have hr' : ∀ x,r[x]? = l[i + 1 + x]? := fun x=>by have:=hr (x + 1); rw [show i + (x + 1) = i + 1 + x by omega] at this; simpa using this
  unfold dGo at h
  split at h
  . rename_i ob a' hone
    have ⟨hob,hgo⟩ : im (dHy (bit ms i) 0 a.ents) (allP ob) /\ dGo n fx lkd l ms H st0 K (i + 1) r a':=by
     cases hb : ob.isEmpty with
     | true=>rw [hb,cond_true] at h; rw [List.isEmpty_iff.1 hb]; exact ⟨im_of fun _=>trivial,h⟩
     | false=>rw [hb,cond_false] at h; exact ⟨im_of fun hy=>cjl_all (im_hy h.1 hy),h.2⟩
    unfold dOne at hone
    split at hone
    . rename_i hH
      split at hone
      . rename_i e hq
        simp only [Option.some.injEq,Prod.mk.injEq] at hone
        obtain ⟨rfl,rfl⟩:=hone
        obtain ⟨F,hF,hu,hs,hK⟩:=dGo_ok hE hf r (i + 1) _ hr' (hw.dead ho hq) hgo
        have he : F.ents[i]? = some e:=hu.ent (by show (a.ents ++ [e])[i]? = _; rw [List.getElem?_append_right (by have:=hw.len; omega),hw.len,Nat.sub_self]; rfl)
        have hu' : Up a F i:=by
         obtain ⟨⟨x,hx⟩,⟨y,hy,hy'⟩,hz⟩:=hu
         exact ⟨⟨[e] ++ x,by rw [hx]; simp⟩,⟨y,hy,fun e h=>by have:=hy' e h; omega⟩,hz⟩
        exact ⟨F,by rw [List.length_cons,show i + (r.length + 1) = i + 1 + r.length by omega]; exact hF,hu',.cons (dead_ok hq hH hF hu' he) hs,hK⟩
      . split at hone
        . rename_i ob1 e hq
          simp only [Option.some.injEq,Prod.mk.injEq] at hone
          obtain ⟨rfl,rfl⟩:=hone
          obtain ⟨F,hF,hu,hs,hK⟩:=dGo_ok hE hf r (i + 1) _ hr' (hw.quiet ho hq) hgo
          have he : F.ents[i]? = some e:=hu.ent (by show (a.ents ++ [e])[i]? = _; rw [List.getElem?_append_right (by have:=hw.len; omega),hw.len,Nat.sub_self]; rfl)
          have hu' : Up a F i:=by
           obtain ⟨⟨x,hx⟩,⟨y,hy,hy'⟩,hz⟩:=hu
           exact ⟨⟨[e] ++ x,by rw [hx]; simp⟩,⟨y,hy,fun e h=>by have:=hy' e h; omega⟩,hz⟩
          exact ⟨F,by rw [List.length_cons,show i + (r.length + 1) = i + 1 + r.length by omega]; exact hF,hu',.cons (quiet_ok hE hf hq hH hob hw hF hu' he) hs,hK⟩
        . cases hone
    . rename_i T hH
      split at hone
      . rename_i ob1 e mm hq
        simp only [Option.some.injEq,Prod.mk.injEq] at hone
        obtain ⟨rfl,rfl⟩:=hone
        obtain ⟨F,hF,hu,hs,hK⟩:=dGo_ok hE hf r (i + 1) _ hr' (hw.effs ho hH hq) hgo
        have he : F.ents[i]? = some e:=hu.ent (by show (a.ents ++ [e])[i]? = _; rw [List.getElem?_append_right (by have:=hw.len; omega),hw.len,Nat.sub_self]; rfl)
        have hei : F.effs[a.effs.length]? = some i:=hu.eff (by show (a.effs ++ [i])[a.effs.length]? = _; rw [List.getElem?_append_right (Nat.le_refl _),Nat.sub_self]; rfl)
        have hmm : F.mems[a.effs.length + 1]? = some mm:=hu.mem (by show (a.mems ++ [mm])[a.effs.length + 1]? = _; rw [<- hw.mlen,List.getElem?_append_right (Nat.le_refl _),Nat.sub_self]; rfl)
        have hu' : Up a F i:=by
         obtain ⟨⟨x,hx⟩,⟨y,hy,hy'⟩,⟨z,hz⟩⟩:=hu
         refine ⟨⟨[e] ++ x,by rw [hx]; simp⟩,⟨[i] ++ y,by rw [hy]; simp,fun e h=>?_⟩,⟨[mm] ++ z,by rw [hz]; simp⟩⟩
         rw [List.mem_append,List.mem_singleton] at h
         rcases h with h | h
         . omega
         . have:=hy' e h; omega
        exact ⟨F,by rw [List.length_cons,show i + (r.length + 1) = i + 1 + r.length by omega]; exact hF,hu',.cons (eff_ok hE hf hq hob hw hF hu' he hei hmm) hs,hK⟩
      . cases hone
  . exact h.elim
theorem updAll_map {g g' : Fr} : ∀ {ks : List Nat} {k : Nat},k ∈ ks -> updAll g' (ks.map fun k=>(k,g k)) k = g k
 | x :: r,k,h=>by
  show upd (updAll g' (r.map fun k=>(k,g k))) x (g x) k = g k
  by_cases e : x = k
  . subst e; exact upd_same
  . rw [upd_ne e]
    rcases List.mem_cons.1 h with h | h
    . exact absurd h.symm e
    . exact updAll_map h
theorem live_map {g : Fr} : ∀ {ks : List Nat},Live g (ks.map fun k=>(k,g k))
 | []=>trivial
 | _ :: _=>⟨rfl,live_map⟩
theorem vcDraw_ok (hE : EnvOK E) {id : Nat} {f : Fr} {K : E.St -> Prop} {Q : Exit -> Fr -> World -> Prop} (h : Rel E C fx lkd st0 ρ Z f w) (hv : vcDraw n fx lkd l st0 K) (hQ : ∀ st' ρ' Z' f' w',Rel E C fx lkd st' ρ' Z' f' w' -> K st' -> Q .normal f' w') : W E.P n (.region id l.toArray true) Q f w:=by
 unfold vcDraw at hv
 cases hb : (afterOk l && dstsU l [] && dstIn (dsts l) n l && dsFree fx l && Nat.ble st0.nx NX) with
 | false=>rw [hb] at hv; exact hv.elim
 | true =>
  rw [hb,cond_true] at hv
  rw [Bool.and_eq_true,Bool.and_eq_true] at hb
  obtain ⟨⟨ha,hf⟩,hn⟩:=hb
  obtain ⟨F,hF,hu,hs,hK⟩:=dGo_ok (C:=C) (f0:=f) hE hf l 0 _ (fun x=>by simp) ⟨rfl,fun j e h=>by simp at h,fun e h=>(by cases h),List.Pairwise.nil,rfl,fun r e m m' h=>by simp at h,fun m h=>by
   have h : m ∈ [(st0.items,st0.nx)]:=h
   rw [List.mem_singleton] at h; subst h; exact Nat.le_of_ble_eq_true hn⟩ hv
  rw [Nat.zero_add] at hF
  refine W_region_J (JF E C fx lkd st0 f F) (dsts l) hE.mixed ha (masks l) rfl (fun V=>⟨ρ,Z,0,fun r e _=>by simp,⟨_,hu.mem (j:=0) rfl,h.mem⟩,h.tn,h.sl,h.fx,fun j e _ hD=>(by cases hD),h.g⟩) hs fun D V g w' hD hJ hdone hkept=>?_
  obtain ⟨ρ',Z',k,hj⟩:=hJ
  obtain ⟨mk,hmk,hmem⟩:=hj.mem
  have hk : k = F.effs.length:=by
   rcases Nat.lt_or_ge k F.effs.length with c | c
   . exfalso
     obtain ⟨e,he⟩ : ∃ e,F.effs[k]? = some e:=⟨_,List.getElem?_eq_getElem c⟩
     have h1:=(hF.eff e (List.mem_of_getElem? he)).1
     have:=(hj.eff k e he).1 (hD e (by simpa [Nat.blt_eq] using h1))
     omega
   . have:=lt_get hmk
     have:=hF.mlen
     omega
  subst hk
  unfold dFin at hK
  rw [hmk] at hK
  simp only at hK
  have hlen : ∀ {j : Nat} {e : Ent E.N},F.ents[j]? = some e -> Nat.blt j l.length = true:=fun {j e} he=>by have:=lt_get he; rw [hF.len] at this; simpa [Nat.blt_eq] using this
  have hK:=im_hy hK (dHy_all fun j e h1 _=>(hj.ent j e h1 (hD j (hlen h1))).1)
  have hg : Rel E C fx lkd ⟨dSlots (fun _=>true) 0 F.ents ++ st0.slots.filter (fun p=>!(dsts l).elem p.1),[],mk.1,mk.2⟩ ρ' Z' g w':=by
   refine ⟨fun k s hk=>?_,fun p hp=>?_,fun k j' b s hk=>(by cases hk),hmem,hj.tn,hj.g⟩
   . rcases lk_app hk with hk | ⟨_,hk⟩
     . obtain ⟨j,e,h1,_,h3,rfl⟩:=dSlots_lk hk
       have hg:=hdone j k (hlen h1) (by rw [(hF.ent j e h1).1]; exact h3)
       have ho:=(hj.ent j e h1 (hD j (hlen h1))).2
       unfold Ent.now
       split
       . rename_i hn; rw [hn] at ho; rw [hg]; exact ho
       . exact .un
     . have ⟨h1,h2⟩:=lk_filter (q:=fun t=>!(dsts l).elem t) hk
       rw [hkept k (by simpa using h1)]; exact hj.sl k s h2
   . rw [hkept p.1 ?_]
     . exact hj.fx p hp
     . cases hx : (dsts l).elem p.1 with
       | false=>rfl
       | true =>
        exfalso
        have hx:=List.mem_of_elem_eq_true hx
        unfold dsts at hx
        rw [List.mem_filterMap] at hx
        obtain ⟨o,ho,hd⟩:=hx
        unfold dsFree at hf
        rw [List.all_eq_true] at hf
        have:=hf o ho
        rw [hd] at this
        simp only [Option.isNone_iff_eq_none] at this
        exact lk_none this p hp rfl
  generalize hst : (⟨dSlots (fun _=>true) 0 F.ents ++ st0.slots.filter (fun p=>!(dsts l).elem p.1),[],mk.1,mk.2⟩ : E.St) = stF at hg hK
  refine ⟨((stF.slots ++ fx).map (·.1)).map fun k=>(k,g k),live_map,fun g'=>hQ stF ρ' Z' _ w' ?_ hK⟩
  refine ⟨fun k s hk=>?_,fun p hp=>?_,fun k j' b s hk=>?_,hg.mem,hg.tn,hg.g⟩
  . obtain ⟨x,hx,_⟩:=lk_mem hk
    rw [updAll_map (List.mem_map.2 ⟨_,List.mem_append_left _ (List.mem_of_getElem? hx),rfl⟩)]
    exact hg.sl k s hk
  . rw [updAll_map (List.mem_map.2 ⟨p,List.mem_append_right _ hp,rfl⟩)]
    exact hg.fx p hp
  . rw [<- hst] at hk; cases hk
end
end Go.Rx
end
section
namespace Go.Rx
open Go Go.Wk Go.Wl
section
variable {E : Env} {C : Ctx} {f fb : Fr} {w wb : World} {ρb ρ : Env1} {Z Zb : Nat -> Prop} {lkd : Items E.N} {fx : Slots E.N} {st st' : E.St} {inl : Inl E} {an : Ann}
theorem distinct_nodup : ∀ {l : List Nat},distinct l = true -> l.Nodup
 | [],_=>List.nodup_nil
 | a :: r,h=>by
  simp only [distinct,Bool.and_eq_true,Bool.not_eq_true'] at h
  rw [List.nodup_cons]
  refine ⟨fun hm=>?_,distinct_nodup h.2⟩
  have:=List.elem_eq_true_of_mem hm
  rw [this] at h; exact absurd h.1 (by simp)
theorem rbP_ok {keep ids : List Nat} {vs : List LV} {α : Type} {g : Cur E.N α vs} {Kα : α -> Prop} {K : α -> E.St -> Prop} (h0 : Rel E C fx lkd st ρb Zb fb wb)
  (h : Rel E (C.at ρb Zb wb) (keepS fx st keep ++ fx) (without st.items ids ++ lkd) st' ρ Z f w) (hv : rbP E fx st (keepS fx st keep ++ fx) st' vs g Kα) (hK : allC E fx st vs g ⟨[],[],[],st.nx⟩ K) :
  ∃ new ρ2 a,Kα a /\ K a new /\ Rel E (C.at ρb Zb wb) (keepS fx st keep ++ fx) (without st.items ids ++ lkd) new ρ2 Z f w:=by
 unfold rbP at hv
 cases hb : rbOK E fx st (keepS fx st keep ++ fx) st' vs with
 | false=>rw [hb] at hv; exact hv.elim
 | true =>
  rw [hb,cond_true] at hv
  unfold rbOK at hb
  simp only [Bool.and_eq_true] at hb
  obtain ⟨hd,hr⟩:=hb
  split at hv
  . rename_i a ha
    have hρ : ∀ i L,ρb i = some L -> ρ i = some L:=h.mem.ge
    have hbase : ∀ s id off,slotOf fx st s = .ref id off -> ∃ L,ρb id = some L:=fun s id off e=>by
     have:=h0.slot s
     rw [e] at this
     generalize fb s = u at this
     cases this with
     | ref hL=>exact ⟨_,hL⟩
    obtain ⟨new,ρ2,os,hF,hp,hk⟩:=rbAll_ok hbase hρ h vs g a ⟨[],[],[],st.nx⟩ ρb [] ha (eqL_spec hr) ⟨.nil,h0.mem.fr,fun _ _ h=>h,fun k s e=>(by cases e),rfl⟩ K hK
    have hnd : (os.filterMap id).Nodup:=hp.nodup_iff.2 (by simpa using distinct_nodup hd)
    refine ⟨new,ρ2,a,hv,hk,hF.sl,fun p hp=>?_,fun k j b s e=>(by rw [hF.gs] at e; cases e),?_,⟨hF.sub,h.tn.z,h.tn.ext⟩,h.g⟩
    . have r1:=h.fx p hp
      have r2 : ∃ v,Rep E.N E.T ρb Zb wb v p.2:=by
       rcases List.mem_append.1 hp with hp | hp
       . simp only [keepS,List.mem_map] at hp
         obtain ⟨s,_,rfl⟩:=hp
         exact ⟨_,h0.slot s⟩
       . exact ⟨_,h0.fx p hp⟩
      obtain ⟨v,r2⟩:=r2
      exact Rep.sub (Rep.lower r1 r2 hρ) hF.sub
    . refine Mem.rebuild h.mem (fun p hp=>?_) hF.tg hnd hF.fr hF.sub
      obtain ⟨k,hk⟩:=List.getElem?_of_mem hp
      have e1 : holds E.N E.T ρ p.1 Z w p.2:=h.mem.holds (k:=st'.items.length + k) (by rw [List.getElem?_append_right (by omega)]; simpa using hk)
      have e2 : holds E.N E.T ρb p.1 Zb wb p.2:=by
       have hin : p ∈ st.items ++ lkd:=by
        rcases List.mem_append.1 hp with hp | hp
        . exact List.mem_append_left _ ((List.mem_filter.1 hp).1)
        . exact List.mem_append_right _ hp
       obtain ⟨k2,hk2⟩:=List.getElem?_of_mem hin
       exact h0.mem.holds hk2
      obtain ⟨a1,a2⟩:=holds_lower e1 e2 hρ
      obtain ⟨b1,b2⟩:=holds_sub hF.sub a1
      exact ⟨b1,by rw [b2,a2]⟩
  . exact hv.elim
theorem rbS_ok {keep ids : List Nat} {Kα : Prop × Nat -> Prop} {G : Prop × Nat -> E.St -> Prop} (h0 : Rel E C fx lkd st ρb Zb fb wb) (h : Rel E (C.at ρb Zb wb) (keepS fx st keep ++ fx) (without st.items ids ++ lkd) st' ρ Z f w) : ∀ (ss : List (List LV)) (p : ShP E.N ss),
  rbS E fx st (keepS fx st keep ++ fx) st' ss p Kα -> allS E fx st ss p G -> ∃ new ρ2 a,Kα a /\ G a new /\ Rel E (C.at ρb Zb wb) (keepS fx st keep ++ fx) (without st.items ids ++ lkd) new ρ2 Z f w
 | [],_,hv,_=>hv.elim
 | vs :: r,p,hv,hK=>by
  unfold rbS at hv
  cases hb : fits E fx st (keepS fx st keep ++ fx) st' vs with
  | true=>rw [hb,cond_true] at hv; exact rbP_ok h0 h hv hK.1
  | false=>rw [hb,cond_false] at hv; exact rbS_ok h0 h r p.2 hv hK.2
theorem exS_ok {N : Uni} : ∀ {ss : List (List LV)} {k : ShP N ss -> Prop},exS N ss k -> ∃ p,k p
 | [],_,h=>⟨(),h⟩
 | vs :: r,k,⟨I,m,h⟩=>by obtain ⟨p,h⟩:=exS_ok h; exact ⟨_,h⟩
def endK (K : Ks E) (e : Exit) (st : E.St) : Prop:=match e with
 | .normal=>K.n st
 | .ret=>K.r st
 | .exit i=>(match lk K.e i with | some k=>k st | none=>False)
 | _=>False
def QK (E : Env) (C : Ctx) (fx : Slots E.N) (lkd : Items E.N) (K : Ks E) : Exit -> Fr -> World -> Prop:=fun e f w=>∃ st ρ Z,Rel E C fx lkd st ρ Z f w /\ endK K e st
theorem lk_map {α β : Type} {l : List (Nat × α)} {g : α -> β} {i : Nat} : lk (l.map fun p=>(p.1,g p.2)) i = (lk l i).map g:=by
 induction l with
 | nil=>rfl
 | cons p r ih =>
  show (bif Nat.beq p.1 i then some (g p.2) else lk (r.map fun p=>(p.1,g p.2)) i) = (bif Nat.beq p.1 i then some p.2 else lk r i).map g
  cases Nat.beq p.1 i with
  | true=>rfl
  | false=>exact ih
theorem Rel.g0 (h : Rel E C fx lkd st ρ Z f w) : Rel E C fx lkd ⟨st.slots,[],st.items,st.nx⟩ ρ Z f w:=⟨h.sl,h.fx,fun k j b s e=>(by cases e),h.mem,h.tn,h.g⟩
theorem leaveQ {keep ids : List Nat} {K : Ks E} {n : E.St -> Prop} {e : Exit} (h0 : Rel E C fx lkd st ρb Zb fb wb) (hn : e ≠ .normal)
  (h : QK E (C.at ρb Zb wb) (keepS fx st keep ++ fx) (without st.items ids ++ lkd) (backK (keepS fx st keep) (without st.items ids) K n) e f w) : QK E C fx lkd K e f w:=by
 obtain ⟨st',ρ',Z',hr,he⟩:=h
 have hl:=Rel.leave h0 hr
 cases e with
 | normal=>exact absurd rfl hn
 | ret=>exact ⟨_,_,_,hl,he⟩
 | exit i =>
  simp only [endK,backK] at he
  rw [lk_map] at he
  cases hk : lk K.e i with
  | none=>rw [hk] at he; exact he.elim
  | some k=>rw [hk] at he; exact ⟨_,_,_,hl,by simp only [endK,hk]; exact he⟩
 | _=>exact he.elim
theorem hasE_spec {e : Array Edge} {j : Nat} (h : hasE e j = true) : ∃ x ∈ e,x.on = j /\ Region.binds .any x = true:=by
 unfold hasE at h
 obtain ⟨x,hx,hh⟩:=List.any_eq_true.1 h
 rw [Bool.and_eq_true] at hh
 exact ⟨x,by simpa using hx,Nat.eq_of_beq_eq_true hh.1,hh.2⟩
theorem boolT_spec {T : Nat} (h : boolT E T = true) : (∀ w,(zeroValue T).run E.P w = .ok (.bool false) w) /\ (∀ w,(sizeOf T).run E.P w = .ok 1 w) /\ (∀ w,(isAgg T).run E.P w = .ok false w):=by
 unfold boolT at h
 rw [Bool.and_eq_true,Bool.and_eq_true] at h
 obtain ⟨⟨h1,h2⟩,h3⟩:=h
 refine ⟨?_,?_,?_⟩
 . cases hz : E.zeroV T with
   | none=>rw [hz] at h1; cases h1
   | some v =>
    rw [hz] at h1
    cases v with
    | bool b=>cases b with
     | true=>cases h1
     | false=>exact run_zero hz
    | _=>cases h1
 . cases hz : E.size T with
   | none=>rw [hz] at h2; cases h2
   | some s =>
    rw [hz] at h2
    have:=Nat.eq_of_beq_eq_true h2
    subst this
    exact run_size hz
 . cases hz : E.aggOf T with
   | none=>rw [hz] at h3; cases h3
   | some b =>
    rw [hz] at h3
    cases b with
    | true=>cases h3
    | false=>exact agg_run hz
theorem OpRun.mono {P : Program} {o : Oper} {g : Fr} {w : World} {R R' : Value -> World -> Prop} (h : OpRun P o g w R) (k : ∀ v w',R v w' -> R' v w') : OpRun P o g w R':=by
 rcases h with h | h | ⟨K,a,h1,h2⟩
 . exact .inl fun w1 hs=>by obtain ⟨v,w2,w',a,b,c⟩:=h w1 hs; exact ⟨v,w2,w',a,b,k _ _ c⟩
 . exact .inr (.inl fun w1 hs=>by obtain ⟨w2,w',a,b,c⟩:=h w1 hs; exact ⟨w2,w',a,b,k _ _ c⟩)
 . exact .inr (.inr ⟨K,a,h1,h2.mono k⟩)
theorem coin_ok (hE : EnvOK E) {id n a b : Nat} {l : List Oper} {C : Ctx} {fx : Slots E.N} {lkd : Items E.N} {st : E.St} {ρ : Env1} {Z : Nat -> Prop} {f : Fr} {w : World} {K : E.St -> Prop} {Q : Exit -> Fr -> World -> Prop} (h : Rel E C fx lkd ⟨st.slots,[],st.items,st.nx⟩ ρ Z f w) (hc : coinD E n fx l = some (a,b))
  (h1 : K ⟨(b,.tt) :: (a,.un) :: st.slots,[],st.items,st.nx⟩) (h2 : K ⟨(b,.ff) :: (a,.un) :: st.slots,[],st.items,st.nx⟩)
  (hQ : ∀ st' ρ' Z' f' w',Rel E C fx lkd st' ρ' Z' f' w' -> K st' -> Q .normal f' w') : W E.P n (.region id l.toArray true) Q f w:=by
 unfold coinD at hc
 split at hc
 . rename_i a' T ty0 pos0 e0 T1 a1 ty1 pos1 e1 T2 a2 ty2 pos2 e2 b' T3 a3 ty3 pos3 e3
   cases hb : (afterOk [⟨some a',.alloc T,ty0,pos0,e0,none⟩,⟨none,.store T1 (.tmp a1) (.const (.bool true)),ty1,pos1,e1,none⟩,⟨none,.store T2 (.tmp a2) (.const (.bool false)),ty2,pos2,e2,none⟩,⟨some b',.load T3 (.tmp a3),ty3,pos3,e3,none⟩] && Nat.beq T T1 && Nat.beq T T2 && Nat.beq T T3 && Nat.beq a' a1 && Nat.beq a' a2 && Nat.beq a' a3 && !Nat.beq a' b' && (Nat.blt a' n && (lk fx a').isNone) && (Nat.blt b' n && (lk fx b').isNone) && hasE e1 0 && hasE e2 0 && hasE e3 0 && boolT E T) with
   | false=>rw [hb] at hc; cases hc
   | true =>
   rw [hb,cond_true] at hc
   cases hc
   simp only [Bool.and_eq_true] at hb
   obtain ⟨⟨⟨⟨⟨⟨⟨⟨⟨⟨⟨⟨⟨hao,b1⟩,b2⟩,b3⟩,b4⟩,b5⟩,b6⟩,b7⟩,ha1,ha2⟩,hb1,hb2⟩,he1⟩,he2⟩,he3⟩,hT⟩:=hb
   have b1:=Nat.eq_of_beq_eq_true b1; subst b1
   have b2:=Nat.eq_of_beq_eq_true b2; subst b2
   have b3:=Nat.eq_of_beq_eq_true b3; subst b3
   have b4:=Nat.eq_of_beq_eq_true b4; subst b4
   have b5:=Nat.eq_of_beq_eq_true b5; subst b5
   have b6:=Nat.eq_of_beq_eq_true b6; subst b6
   have hab : a ≠ b:=fun e=>by
    subst e
    simp at b7
   have hla:=blt_lt ha1
   have hlb:=blt_lt hb1
   obtain ⟨hz,hsz,hag⟩:=boolT_spec hT
   obtain ⟨x1,hx1,ho1,hbd1⟩:=hasE_spec he1
   obtain ⟨x2,hx2,ho2,hbd2⟩:=hasE_spec he2
   obtain ⟨x3,hx3,ho3,hbd3⟩:=hasE_spec he3
   have cell : ∀ {L : Array Bool} {g : Fr} {w' : World},Inv [⟨some a,.alloc T,ty0,pos0,e0,none⟩,⟨none,.store T (.tmp a) (.const (.bool true)),ty1,pos1,e1,none⟩,⟨none,.store T (.tmp a) (.const (.bool false)),ty2,pos2,e2,none⟩,⟨some b,.load T (.tmp a),ty3,pos3,e3,none⟩] (fun v=>Ext [] w v) (fun j v w'=>(j = 0 -> ∃ bl c,v = .pointer (some ⟨bl,0,none⟩) /\ w.heap.size <= bl /\ Own w' bl T [.bool c]) /\ (j = 3 -> ∃ c,v = .bool c)) f L g w' -> L[0]? = some true -> ∃ bl c,g a = .pointer (some ⟨bl,0,none⟩) /\ w.heap.size <= bl /\ Own w' bl T [.bool c]:=fun hinv h0=>(hinv.done 0 a h0 rfl).1 rfl
   have keep : ∀ {w1 w2 : World} {bl : Nat} {c : Bool},Own w1 bl T [.bool c] -> ∀ {B : List Nat},Ext B w1 w2 -> (∀ x ∈ B,∃ c',Own w2 x T [.bool c']) -> ∀ j u,((j = 0 -> ∃ bl c,u = .pointer (some ⟨bl,0,none⟩) /\ w.heap.size <= bl /\ Own w1 bl T [.bool c]) /\ (j = 3 -> ∃ c,u = Value.bool c)) -> ((j = 0 -> ∃ bl c,u = .pointer (some ⟨bl,0,none⟩) /\ w.heap.size <= bl /\ Own w2 bl T [.bool c]) /\ (j = 3 -> ∃ c,u = Value.bool c)):=by
    intro w1 w2 bl c _ B x hB j u hu
    refine ⟨fun hj=>?_,hu.2⟩
    obtain ⟨bl,c,e,hl,ho⟩:=hu.1 hj
    by_cases hm : bl ∈ B
    . obtain ⟨c',ho'⟩:=hB bl hm; exact ⟨bl,c',e,hl,ho'⟩
    . exact ⟨bl,c,e,hl,ho.ext x hm⟩
   have stor : ∀ {ty : TypeId} {pos : String} {e : Array Edge} {g : Fr} {w' : World} {bl : Nat} {c c2 : Bool},g a = .pointer (some ⟨bl,0,none⟩) -> Own w' bl T [.bool c] -> OpRun E.P ⟨none,.store T (.tmp a) (.const (.bool c2)),ty,pos,e,none⟩ g w' (fun _ w2=>Ext [bl] w' w2 /\ Own w2 bl T [.bool c2]):=by
    intro ty pos e g w' bl c c2 hga ho
    refine .inr (.inl fun w1 hs=>?_)
    obtain ⟨k,rfl⟩:=hs
    obtain ⟨w2,hr,ho',he,hsz2,hk⟩:=storeCells_run (P:=E.P) [.bool c2] 0 0 [.bool c] w' ho (by simp) (fun v hv=>by simp at hv; subst hv; rfl)
    refine ⟨_,w2,?_,⟨k,rfl⟩,he,by simpa [splice] using ho'⟩
    have hrun : (storeVar T ⟨bl,0,none⟩ (.bool c2)).run E.P { w' with drawn:=k } = .ok () { w2 with drawn:=k }:=by
     unfold storeVar
     simp only [Sem.run_bind,hsz,Result.andThen_ok]
     rw [if_neg (by simp [Value.cells])]
     exact hk k
    have hga' : ev g (.tmp a) = .pointer (some ⟨bl,0,none⟩):=hga
    have hco : ev g (.const (.bool c2)) = .bool c2:=rfl
    simp only [execOp,hga',hco,Instr.storeAt,Instr.sureAddr,Sem.run_bind,Sem.run_pure,Result.andThen_ok,hrun]
   refine W_region_inv (I:=fun v=>Ext [] w v) (Φ:=fun j v w'=>(j = 0 -> ∃ bl c,v = .pointer (some ⟨bl,0,none⟩) /\ w.heap.size <= bl /\ Own w' bl T [.bool c]) /\ (j = 3 -> ∃ c,v = .bool c)) hE.mixed hao ?_ ?_ (Ext.refl _ _) ?_ ?_
   . intro j t hj
     match j,hj with
     | 0,hj=>cases hj; exact hla
     | 1,hj=>cases hj
     | 2,hj=>cases hj
     | 3,hj=>cases hj; exact hlb
     | _ + 4,hj=>cases hj
   . intro i j t hi hj
     match i,j,hi,hj with
     | 0,0,_,_=>rfl
     | 3,3,_,_=>rfl
     | 0,3,hi,hj=>cases hi; cases hj; exact absurd rfl hab
     | 3,0,hi,hj=>cases hi; cases hj; exact absurd rfl hab
     | 1,_,hi,_=>cases hi
     | 2,_,hi,_=>cases hi
     | _ + 4,_,hi,_=>cases hi
     | 0,1,_,hj=>cases hj
     | 0,2,_,hj=>cases hj
     | 0,_ + 4,_,hj=>cases hj
     | 3,1,_,hj=>cases hj
     | 3,2,_,hj=>cases hj
     | 3,_ + 4,_,hj=>cases hj
   . intro i o L g w' ho hinv hLi hdeps
     match i,ho with
     | 0,ho =>
      cases ho
      refine .inl fun w1 hs=>?_
      obtain ⟨k,rfl⟩:=hs
      have x:=Ext.push w' (.cells #[.bool false] T (0,0))
      have hown : Own { w' with heap:=w'.heap.push (.cells #[.bool false] T (0,0)) } w'.heap.size T [.bool false]:=Own.push w' T #[.bool false]
      refine ⟨.pointer (some ⟨w'.heap.size,0,none⟩),_,{ w' with heap:=w'.heap.push (.cells #[.bool false] T (0,0)) },?_,⟨k,rfl⟩,hinv.world.tr x,⟨fun _=>⟨_,_,rfl,hinv.world.size,hown⟩,fun h=>by cases h⟩,fun j u hu=>⟨fun hj=>?_,hu.2⟩⟩
      . simp [execOp,Instr.alloc,hz,newVar,newRow,newObj,Sem.run,go_sem,Value.cells]
        rfl
      . obtain ⟨bl,c,e,hl,ho⟩:=hu.1 hj
        exact ⟨bl,c,e,hl,ho.ext x (by simp)⟩
     | 1,ho =>
      cases ho
      have h0:=hdeps x1 hx1 hbd1
      rw [ho1] at h0
      obtain ⟨bl,c,hga,hl,how⟩:=cell hinv h0
      refine OpRun.mono (stor hga how) fun v w2 hh=>?_
      obtain ⟨x,o2⟩:=hh
      exact ⟨hinv.world.own x hl,⟨fun h=>(by cases h),fun h=>(by cases h)⟩,keep how x (fun y hy=>by rw [List.mem_singleton] at hy; rw [hy]; exact ⟨_,o2⟩)⟩
     | 2,ho =>
      cases ho
      have h0:=hdeps x2 hx2 hbd2
      rw [ho2] at h0
      obtain ⟨bl,c,hga,hl,how⟩:=cell hinv h0
      refine OpRun.mono (stor hga how) fun v w2 hh=>?_
      obtain ⟨x,o2⟩:=hh
      exact ⟨hinv.world.own x hl,⟨fun h=>(by cases h),fun h=>(by cases h)⟩,keep how x (fun y hy=>by rw [List.mem_singleton] at hy; rw [hy]; exact ⟨_,o2⟩)⟩
     | 3,ho =>
      cases ho
      have h0:=hdeps x3 hx3 hbd3
      rw [ho3] at h0
      obtain ⟨bl,c,hga,hl,how⟩:=cell hinv h0
      refine .inl fun w1 hs=>?_
      have hga' : ev g (.tmp a) = .pointer (some ⟨bl,0,none⟩):=hga
      refine ⟨.bool c,w1,w',?_,hs,hinv.world,⟨fun h=>(by cases h),fun _=>⟨c,rfl⟩⟩,fun j u hu=>hu⟩
      simp only [execOp,hga',Sem.run_bind,Wk.run_load hag (how.all.sim hs)]
      rfl
     | _ + 4,ho=>cases ho
   . intro g w' hI hdone hkept
     obtain ⟨c,hc⟩:=(hdone 3 b rfl).2 rfl
     obtain ⟨hm,ht⟩:=h.mem.ext0 hI
     have r1:=h.put (n:=n) (d:=some a) (v:=g a) (s:=.un) (items:=st.items) (nx:=st.nx) (by show (Nat.blt a n && (lk fx a).isNone && true && true) = true; rw [ha1,ha2]; rfl) ht hm .un
     have r2:=Rel.put0 (n:=n) (d:=some b) (v:=g b) (s:=bif c then .tt else .ff) r1 (by show (Nat.blt b n && (lk fx b).isNone && true && true) = true; rw [hb1,hb2]; rfl) (by rw [hc]; cases c; exact .ff; exact .tt)
     have eg : putF (putF f (some a) (g a)) (some b) (g b) = g:=by
      funext k
      show upd (upd f a (g a)) b (g b) k = g k
      by_cases e1 : k = b
      . rw [upd_eq,if_pos e1,e1]
      . rw [upd_eq,if_neg e1]
        by_cases e2 : k = a
        . rw [upd_eq,if_pos e2,e2]
        . rw [upd_eq,if_neg e2,hkept k fun j hj=>?_]
          match j,hj with
          | 0,hj=>cases hj; exact e2 rfl
          | 3,hj=>cases hj; exact e1 rfl
          | 1,hj=>cases hj
          | 2,hj=>cases hj
          | _ + 4,hj=>cases hj
     rw [eg] at r2
     cases c with
     | true=>exact hQ _ _ _ _ _ r2 h1
     | false=>exact hQ _ _ _ _ _ r2 h2
 . cases hc
theorem vc_ok (hE : EnvOK E) (hI : InlOK E inl) : ∀ (c : Code) (C : Ctx) (fx : Slots E.N) (lkd : Items E.N) (st : E.St) (K : Ks E) (ρ : Env1) (Z : Nat -> Prop) (f : Fr) (w : World),Rel E C fx lkd st ρ Z f w -> vc inl an c fx lkd st K -> W E.P an.n c (QK E C fx lkd K) f w:=by
 intro c
 induction c with
 | skip=>intro C fx lkd st K ρ Z f w h hv; exact W_skip ⟨st,ρ,Z,h,hv⟩
 | ret=>intro C fx lkd st K ρ Z f w h hv; exact W_ret ⟨st,ρ,Z,h,hv⟩
 | exit i=>intro C fx lkd st K ρ Z f w h hv; exact W_exit ⟨st,ρ,Z,h,hv⟩
 | region id l dr =>
  intro C fx lkd st K ρ Z f w h hv
  simp only [vc] at hv
  have e : l = l.toList.toArray:=by simp
  cases hb : (!dr || quietR l.toList) with
  | false =>
   rw [hb,cond_false] at hv
   have hdr : dr = true:=by
    cases dr with
    | true=>rfl
    | false=>rw [Bool.not_false,Bool.true_or] at hb; cases hb
   subst hdr
   split at hv
   . rename_i a b hc
     have:=coin_ok (id:=id) (Q:=QK E C fx lkd K) hE h.g0 hc hv.1 hv.2 (fun st' ρ' Z' f' w' hr hk=>⟨st',ρ',Z',hr,hk⟩)
     rw [<- e] at this; exact this
   . have:=vcDraw_ok (id:=id) (Q:=QK E C fx lkd K) hE h.g0 hv (fun st' ρ' Z' f' w' hr hk=>⟨st',ρ',Z',hr,hk⟩)
     rw [<- e] at this; exact this
  | true =>
   rw [hb,cond_true] at hv
   have key : WL E.P dr an.n l.toList (QK E C fx lkd K) l.toList f w:=vcOps_ok hE hI l.toList _ ρ Z f w h.g0 hv (fun st' ρ' Z' f' w' hr _ hk=>⟨st',ρ',Z',hr,hk⟩)
   cases dr with
   | false =>
    have:=W_region (id:=id) key
    rw [<- e] at this; exact this
   | true =>
    have hb2 : drawOk l.toList = true:=by
     unfold quietR at hb
     simp only [Bool.not_true,Bool.false_or,Bool.and_eq_true] at hb
     exact hb.1
    have:=W_region_quiet (id:=id) hE.mixed hb2 key
    rw [<- e] at this; exact this
 | seq a b iha ihb =>
  intro C fx lkd st K ρ Z f w h hv
  simp only [vc] at hv
  split at hv
  . refine W_seq (W_mono (iha C fx lkd st _ ρ Z f w h hv) fun e f' w' q=>?_)
    obtain ⟨st',ρ',Z',hr,he⟩:=q
    cases e with
    | normal=>exact ihb C fx lkd st' K ρ' Z' f' w' hr he
    | ret=>exact ⟨st',ρ',Z',hr,he⟩
    | exit i=>exact ⟨st',ρ',Z',hr,he⟩
    | _=>exact he.elim
  . rename_i j hj
    split at hv
    . rename_i sl _
      refine W_seq (W_mono (iha C fx lkd st _ ρ Z f w h hv) fun e f' w' q=>?_)
      obtain ⟨st',ρ',Z',hr,he⟩:=q
      cases e with
      | normal =>
       have he : (match prop (slotOf fx st' sl) with
        | some ⟨p,_⟩=>(p -> vc inl an b fx lkd ⟨(sl,.tt) :: st'.slots,[],st'.items,st'.nx⟩ K) /\ (¬ p -> vc inl an b fx lkd ⟨(sl,.ff) :: st'.slots,[],st'.items,st'.nx⟩ K)
        | none=>False):=he
       have hs:=hr.slot sl
       split at he
       . rename_i p d hp
         have hv:=hs.boolv hp
         have key : ∀ s,Rep E.N E.T ρ' Z' w' (f' sl) s -> Rel E C fx lkd ⟨(sl,s) :: st'.slots,[],st'.items,st'.nx⟩ ρ' Z' f' w':=fun s hs'=>⟨fun k s2 hk=>by
          have hk : lk ((sl,s) :: st'.slots) k = some s2:=hk
          rw [lk_cons] at hk
          by_cases e : sl = k
          . rw [if_pos e] at hk; cases hk; subst e; exact hs'
          . rw [if_neg e] at hk; exact hr.sl k s2 hk,hr.fx,fun k j b s e=>(by cases e),hr.mem,hr.tn,hr.g⟩
         by_cases hpp : p
         . exact ihb C fx lkd _ K ρ' Z' f' w' (key .tt (by rw [hv]; simp only [hpp,decide_true]; exact .tt)) (he.1 hpp)
         . exact ihb C fx lkd _ K ρ' Z' f' w' (key .ff (by rw [hv]; simp only [hpp,decide_false]; exact .ff)) (he.2 hpp)
       . exact he.elim
      | ret=>exact ⟨st',ρ',Z',hr,he⟩
      | exit i=>exact ⟨st',ρ',Z',hr,he⟩
      | _=>exact he.elim
    obtain ⟨J,hva,hvb⟩:=hv
    refine W_seq (W_mono (iha _ _ _ _ _ ρ Z f w (h.enter j.keep (idsOf E fx st j.vars)) hva) fun e f' w' q=>?_)
    cases e with
    | normal =>
     obtain ⟨st',ρ',Z',hr,he⟩:=q
     obtain ⟨new,ρ2,x,hx,hk,hr2⟩:=rbP_ok h hr he hvb
     exact ihb C fx lkd _ K ρ2 Z' f' w' (Rel.leave h hr2) (hk hx)
    | ret=>exact leaveQ h (by intro e; cases e) q
    | exit i=>exact leaveQ h (by intro e; cases e) q
    | _=>obtain ⟨_,_,_,_,he⟩:=q; exact he.elim
 | cond o a b iha ihb =>
  intro C fx lkd st K ρ Z f w h hv
  simp only [vc] at hv
  have hr:=h.ev AllG.nil o
  split at hv
  . rename_i e; rw [e] at hr
    exact W_cond_true (by generalize Wk.ev f o = u at hr; cases hr; rfl) (iha C fx lkd st K ρ Z f w h hv)
  . rename_i e; rw [e] at hr
    exact W_cond_false (by generalize Wk.ev f o = u at hr; cases hr; rfl) (ihb C fx lkd st K ρ Z f w h hv)
  . rename_i p d e; rw [e] at hr
    have e1 : Wk.ev f o = .bool (@decide p d):=by generalize Wk.ev f o = u at hr; cases hr; rfl
    exact W_cond e1 (fun hp=>iha C fx lkd st K ρ Z f w h (hv.1 (of_decide_eq_true hp))) (fun hp=>ihb C fx lkd st K ρ Z f w h (hv.2 (of_decide_eq_false hp)))
  . exact hv.elim
 | block i c ih =>
  intro C fx lkd st K ρ Z f w h hv
  refine W_block (W_mono (ih C fx lkd st _ ρ Z f w h hv) fun e f' w' q=>?_)
  obtain ⟨st',ρ',Z',hr,he⟩:=q
  cases e with
  | normal=>exact ⟨st',ρ',Z',hr,he⟩
  | ret=>exact ⟨st',ρ',Z',hr,he⟩
  | exit j =>
   have he : (match (bif Nat.beq i j then some K.n else lk K.e j) with | some k=>k st' | none=>False):=he
   show (bif Nat.beq j i then QK E C fx lkd K .normal f' w' else QK E C fx lkd K (.exit j) f' w')
   have hc : Nat.beq i j = Nat.beq j i:=by
    by_cases e : i = j
    . rw [e]
    . rw [beq_ne e,beq_ne (Ne.symm e)]
   rw [hc] at he
   cases hb : Nat.beq j i with
   | true=>rw [hb] at he; exact ⟨st',ρ',Z',hr,he⟩
   | false=>rw [hb] at he; exact ⟨st',ρ',Z',hr,he⟩
  | _=>exact he.elim
 | loop c ih =>
  intro C fx lkd st K ρ Z f w h hv
  simp only [vc] at hv
  split at hv
  . exact hv.elim
  . rename_i a ha
    split at hv
    . rename_i n hk
      refine W_loopE (fun k f' w'=>∃ (st' : E.St) (ρ' : Env1) (Z' : Nat -> Prop),Rel E C fx lkd st' ρ' Z' f' w' /\ vcU (fun st n'=>vc inl an c fx lkd st ⟨n',K.r,K.e⟩) k st') ⟨n,_,_,_,h.g0,hv⟩ ?_
      rintro k f' w' ⟨st',ρ',Z',hr,hu⟩
      cases k with
      | zero=>exact hu.elim
      | succ k =>
       refine W_mono (ih C fx lkd st' _ ρ' Z' f' w' hr hu) fun e f2 w2 q=>?_
       obtain ⟨st2,ρ2,Z2,hr2,he⟩:=q
       cases e with
       | normal=>exact ⟨k,Nat.lt_succ_self k,st2,ρ2,Z2,hr2,he⟩
       | ret=>exact ⟨st2,ρ2,Z2,hr2,he⟩
       | exit i=>exact ⟨st2,ρ2,Z2,hr2,he⟩
       | _=>exact he.elim
    . rename_i ss hk
      obtain ⟨P,h0,hb⟩:=exS_ok hv
      refine W_loopE (fun k f' w' => ∃ (new : E.St) (ρ2 : Env1) (Z2 : Nat -> Prop) (im : Prop × Nat), (im.1 -> vc inl an c (keepS fx st a.keep ++ fx) (without st.items (idsS E fx st ss) ++ lkd) new
            (backK (keepS fx st a.keep) (without st.items (idsS E fx st ss)) K (fun st'=>rbS E fx st (keepS fx st a.keep ++ fx) st' ss P (fun im'=>im'.1 /\ im'.2 < im.2)))) /\ im.1 /\ im.2 = k /\ Rel E (C.at ρ Z w) (keepS fx st a.keep ++ fx) (without st.items (idsS E fx st ss) ++ lkd) new ρ2 Z2 f' w') ?_ ?_
      . obtain ⟨new,ρ2,im,h1,h2,h3⟩:=rbS_ok h (h.enter a.keep (idsS E fx st ss)) ss P h0 hb
        exact ⟨im.2,new,ρ2,Z,im,h2,h1,rfl,h3⟩
      . rintro k f' w' ⟨new,ρ2,Z2,im,hbody,hi,rfl,hr⟩
        refine W_mono (ih _ _ _ _ _ ρ2 Z2 f' w' hr (hbody hi)) fun e f2 w2 q=>?_
        cases e with
        | normal =>
         obtain ⟨st',ρ',Z',hr',he⟩:=q
         obtain ⟨new2,ρ3,im2,g1,g2,g3⟩:=rbS_ok h hr' ss P he hb
         exact ⟨im2.2,g1.2,new2,ρ3,Z',im2,g2,g1.1,rfl,g3⟩
        | ret=>exact leaveQ h (by intro e; cases e) q
        | exit i=>exact leaveQ h (by intro e; cases e) q
        | _=>obtain ⟨_,_,_,_,he⟩:=q; exact he.elim
    obtain ⟨I,m,h0,hb⟩:=hv
    refine W_loopE (fun k f' w' => ∃ (new : E.St) (ρ2 : Env1) (Z2 : Nat -> Prop) (im : Prop × Nat), (im.1 -> vc inl an c (keepS fx st a.keep ++ fx) (without st.items (idsOf E fx st a.vars) ++ lkd) new
          (backK (keepS fx st a.keep) (without st.items (idsOf E fx st a.vars)) K (fun st'=>rbP E fx st (keepS fx st a.keep ++ fx) st' a.vars (zipC a.vars I m) (fun im'=>im'.1 /\ im'.2 < im.2)))) /\ im.1 /\ im.2 = k /\ Rel E (C.at ρ Z w) (keepS fx st a.keep ++ fx) (without st.items (idsOf E fx st a.vars) ++ lkd) new ρ2 Z2 f' w') ?_ ?_
    . obtain ⟨new,ρ2,im,h1,h2,h3⟩:=rbP_ok h (h.enter a.keep (idsOf E fx st a.vars)) h0 hb
      exact ⟨im.2,new,ρ2,Z,im,h2,h1,rfl,h3⟩
    . rintro k f' w' ⟨new,ρ2,Z2,im,hbody,hi,rfl,hr⟩
      refine W_mono (ih _ _ _ _ _ ρ2 Z2 f' w' hr (hbody hi)) fun e f2 w2 q=>?_
      cases e with
      | normal =>
       obtain ⟨st',ρ',Z',hr',he⟩:=q
       obtain ⟨new2,ρ3,im2,g1,g2,g3⟩:=rbP_ok h hr' he hb
       exact ⟨im2.2,g1.2,new2,ρ3,Z',im2,g2,g1.1,rfl,g3⟩
      | ret=>exact leaveQ h (by intro e; cases e) q
      | exit i=>exact leaveQ h (by intro e; cases e) q
      | _=>obtain ⟨_,_,_,_,he⟩:=q; exact he.elim
 | _=>intro C fx lkd st K ρ Z f w h hv; exact hv.elim
end
end Go.Rx
end
section
namespace Go.Rx
open Go Go.Wk Go.Wl
section
variable {E : Env} {C : Ctx} {w : World} {ρ : Env1} {Z : Nat -> Prop} {its lkd : Items E.N} {nx : Nat} {inl : Inl E} {an : Ann} {fn : Func} {K : Nat} {args : List E.SV} {vs : List Value}
theorem args_sl : ∀ {vs : List Value} {args : List E.SV} {n : Nat},Rep E.N E.T ρ Z w (.tuple vs.toArray) (.tup args) -> ∀ k s,lk (number n args) (n + k) = some s -> Rep E.N E.T ρ Z w (nth vs k) s
 | vs,[],n,_,k,s,e=>by cases e
 | vs,a :: args,n,h,k,s,e=>by
  obtain ⟨v,r,rfl,h1,h2⟩:=Rep.tup_cons h
  have e : (bif Nat.beq n (n + k) then some a else lk (number (n + 1) args) (n + k)) = some s:=e
  cases k with
  | zero=>rw [Nat.add_zero,Nat.beq_refl,cond_true] at e; cases e; exact h1
  | succ k =>
   rw [beq_ne (by omega),cond_false] at e
   exact args_sl (n:=n + 1) h2 k s (by rw [<- e]; congr 1; omega)
theorem args_len : ∀ {vs : List Value} {args : List E.SV},Rep E.N E.T ρ Z w (.tuple vs.toArray) (.tup args) -> vs.length = args.length
 | vs,[],h=>by
  generalize e : Value.tuple vs.toArray = u at h
  cases h with
  | tup0 => have : vs = [] := by simpa using e
            rw [this]; rfl
 | vs,a :: args,h=>by
  obtain ⟨v,r,rfl,h1,h2⟩:=Rep.tup_cons h
  simp [args_len h2]
def Done (E : Env) (C : Ctx) (ρ : Env1) (Z : Nat -> Prop) (w : World) (lkd : Items E.N) (k : E.SV -> Items E.N -> Nat -> Prop) (v : Value) (w' : World) : Prop :=
 ∃ ρ' Z' s its' nx',Mem E C ρ' Z' w' (its' ++ lkd) nx' /\ Tn ρ Z w ρ' Z' w' /\ Rep E.N E.T ρ' Z' w' v s /\ k s its' nx'
def getR (tmps : Array Value) : ResultVar -> Sem Value
 | .tmp t=>pure (tmps.getD t undef)
 | .cell a t=>do loadVar t (<- asAddr (tmps.getD a undef))
section
variable {P : Program} {tmps : Array Value} {v0 v1 v2 : Value} {r0 r1 r2 : ResultVar}
theorem results_0 (h : fn.results = #[]) : (results fn tmps).run P w = .ok (.tuple #[]) w:=results_none h _ _ _
theorem results_1 (h : fn.results = #[r0]) (h0 : (getR tmps r0).run P w = .ok v0 w) : (results fn tmps).run P w = .ok v0 w:=by
 have e : results fn tmps = (do let vs <- fn.results.mapM (getR tmps); pure (if h : vs.size = 1 then vs[0] else .tuple vs)):=rfl
 rw [e,h]
 simp only [List.mapM_toArray,List.mapM_cons,List.mapM_nil,Sem.run_bind,h0,Result.andThen_ok,Sem.run_pure,Sem.run_map]
 simp
theorem results_2 (h : fn.results = #[r0,r1]) (h0 : (getR tmps r0).run P w = .ok v0 w) (h1 : (getR tmps r1).run P w = .ok v1 w) : (results fn tmps).run P w = .ok (.tuple #[v0,v1]) w:=by
 have e : results fn tmps = (do let vs <- fn.results.mapM (getR tmps); pure (if h : vs.size = 1 then vs[0] else .tuple vs)):=rfl
 rw [e,h]
 simp only [List.mapM_toArray,List.mapM_cons,List.mapM_nil,Sem.run_bind,h0,h1,Result.andThen_ok,Sem.run_pure,Sem.run_map]
 simp
theorem results_3 (h : fn.results = #[r0,r1,r2]) (h0 : (getR tmps r0).run P w = .ok v0 w) (h1 : (getR tmps r1).run P w = .ok v1 w) (h2 : (getR tmps r2).run P w = .ok v2 w) : (results fn tmps).run P w = .ok (.tuple #[v0,v1,v2]) w:=by
 have e : results fn tmps = (do let vs <- fn.results.mapM (getR tmps); pure (if h : vs.size = 1 then vs[0] else .tuple vs)):=rfl
 rw [e,h]
 simp only [List.mapM_toArray,List.mapM_cons,List.mapM_nil,Sem.run_bind,h0,h1,h2,Result.andThen_ok,Sem.run_pure,Sem.run_map]
 simp
end
def RunR (P : Program) (fn : Func) (n : Nat) (f : Fr) (w : World) (v : Value) : Prop:=∀ a w1,Is a f n -> Sim w w1 -> (results fn a.tmps).run P w1 = .ok v w1
def RetV (P : Program) (fn : Func) (n : Nat) (R : Value -> World -> Prop) : Exit -> Fr -> World -> Prop
 | .ret,f,w=>∃ v,RunR P fn n f w v /\ R v w
 | .normal,f,w=>∃ v,RunR P fn n f w v /\ R v w
 | _,_,_=>False
theorem Call_V {P : Program} {c : Code} {n : Nat} {args : List Value} {R : Value -> World -> Prop} (hf : P.funcs[K]? = some fn) (hb : fn.body = some c) (hn : fn.ntmps = n) (hs : Nat.ble args.length n = true) (h : W P n c (RetV P fn n R) (nth args) w) : CallR P K args w R :=
 Call_enter hf hb hn hs _ (fun e a w1 f w hf hv q=>by
  cases e with
  | ret=>obtain ⟨v,h1,h2⟩:=q; exact ⟨hf.defers,v,h1 a w1 hf hv,v,w,rfl,hv,h2⟩
  | normal=>obtain ⟨v,h1,h2⟩:=q; exact ⟨hf.defers,v,h1 a w1 hf hv,v,w,rfl,hv,h2⟩
  | _=>exact q.elim) h
theorem run_loadVar {P : Program} {T : TypeId} {b mm : Nat} {cs : List Value} (hA : ∀ w,(isAgg T).run P w = .ok true w) (hz : ∀ w,(sizeOf T).run P w = .ok mm w) (hl : cs.length = mm) (hc : Cells w b 0 cs) : (loadVar T ⟨b,0,none⟩).run P w = .ok (.agg cs.toArray) w:=by
 have h:=loadCellsFrom_run (P:=P) hc cs.length 0 #[] (by omega)
 simp only [List.drop_zero,Array.empty_append] at h
 subst hl
 simp [loadVar,hA,hz,loadCells,h,go_sem]
theorem resS_ok {st : E.St} {f : Fr} {n : Nat} {fx : Slots E.N} {r : ResultVar} {s : E.SV} (h : Rel E C fx lkd st ρ Z f w) (e : resS st r = some s) : ∃ v,Rep E.N E.T ρ Z w v s /\ ∀ a w1,Is a f n -> Sim w w1 -> (getR a.tmps r).run E.P w1 = .ok v w1:=by
 cases r with
 | tmp t =>
  exact ⟨f t,h.sl t s e,fun a w1 hi hs=>by simp only [getR]; rw [hi.get]; rfl⟩
 | cell a0 T =>
  simp only [resS] at e
  split at e
  . rename_i id off hl
    split at e
    . rename_i Ty cells hi
      split at e
      . rename_i m hA hz
        have ⟨h1,h2⟩:=bif_some e
        simp only [Option.some.injEq] at h2; subst h2
        simp only [Bool.and_eq_true] at h1
        have e0:=Nat.eq_of_beq_eq_true h1.1
        have e1:=Nat.eq_of_beq_eq_true h1.2
        subst e0
        have hr:=h.sl a0 _ hl
        obtain ⟨j,hj,_⟩:=lk_mem hi
        obtain ⟨L,cs,hL,hbs,ho,hrep⟩:=h.mem.holds (its_get (l2:=lkd) hj)
        have hL : ρ id = some L:=hL
        have hp : f a0 = .pointer (some ⟨L.b,0,none⟩):=by
         generalize f a0 = u at hr
         cases hr with | ref hL'=>rw [hL] at hL'; cases hL'; rfl
        refine ⟨.agg cs.toArray,hrep,fun a w1 hi' hs=>?_⟩
        have hc : Cells w1 L.b 0 cs:=Cells.sim ho.all hs
        have:=run_loadVar (P:=E.P) (w:=w1) (mm:=m) (agg_run hA) (fun w=>run_size hz w) (by rw [hrep.len]; exact e1.symm) hc
        simp only [getR]
        rw [hi'.get,hp]
        rw [Sem.run_bind]
        simp only [asAddr,Sem.run_pure,Result.andThen_ok]
        exact this
      . cases e
    . cases e
  . cases e
theorem vcFun_ok (hE : EnvOK E) (hI : InlOK E inl) (hf : E.P.funcs[K]? = some fn) {k : E.SV -> Items E.N -> Nat -> Prop} (hv : vcFun inl an fn args its lkd nx k) (hm : Mem E C ρ Z w (its ++ lkd) nx) (hg : E.G.is Z w) (ha : Rep E.N E.T ρ Z w (.tuple vs.toArray) (.tup args)) : CallR E.P K vs w (Done E C ρ Z w lkd k):=by
 unfold vcFun at hv
 split at hv
 . rename_i c hc
   cases hb : Nat.ble args.length fn.ntmps with
   | false=>rw [hb] at hv; exact hv.elim
   | true =>
    rw [hb,cond_true] at hv
    have hle : Nat.ble vs.length fn.ntmps = true:=by rw [args_len ha]; exact hb
    have h0 : Rel E (C.at ρ Z w) [] lkd ⟨number 0 args,[],its,nx⟩ ρ Z (nth vs) w:=⟨fun k s e=>args_sl (n:=0) ha k s (by simpa using e),fun p hp=>(by cases hp),fun k j b s e=>(by cases e),hm.down,Tn.refl _ _ _,hg⟩
    have hw:=vc_ok (an:=⟨fn.ntmps,an.loop,an.join⟩) hE hI c _ _ _ _ _ ρ Z (nth vs) w h0 hv
    refine Call_V hf hc rfl hle (W_mono hw fun e f' w' q=>?_)
    obtain ⟨st,ρ',Z',hr,he⟩:=q
    have fin : (match resV fn st with | some v=>k v st.items st.nx | none=>False) -> ∃ v,RunR E.P fn fn.ntmps f' w' v /\ Done E C ρ Z w lkd k v w':=fun hk=>by
     split at hk
     . rename_i s hs
       have key : ∃ v,Rep E.N E.T ρ' Z' w' v s /\ RunR E.P fn fn.ntmps f' w' v:=by
        unfold resV at hs
        split at hs
        . rename_i e0
          cases hs
          exact ⟨_,.tup0,fun a w1 hi hs=>results_0 (by apply Array.ext'; simpa using e0)⟩
        . rename_i r e0
          obtain ⟨v,h1,h2⟩:=resS_ok (n:=fn.ntmps) hr hs
          exact ⟨v,h1,fun a w1 hi hs=>results_1 (by apply Array.ext'; simpa using e0) (h2 a w1 hi hs)⟩
        . rename_i r1 r2 e0
          split at hs
          . rename_i a b ha hb
            cases hs
            obtain ⟨v1,h1,g1⟩:=resS_ok (n:=fn.ntmps) hr ha
            obtain ⟨v2,h2,g2⟩:=resS_ok (n:=fn.ntmps) hr hb
            exact ⟨.tuple #[v1,v2],.tup1 (cs:=[v2]) h1 (.tup1 (cs:=[]) h2 .tup0),fun a w1 hi hs=>results_2 (by apply Array.ext'; simpa using e0) (g1 a w1 hi hs) (g2 a w1 hi hs)⟩
          . cases hs
        . rename_i r1 r2 r3 e0
          split at hs
          . rename_i a b c ha hb hc
            cases hs
            obtain ⟨v1,h1,g1⟩:=resS_ok (n:=fn.ntmps) hr ha
            obtain ⟨v2,h2,g2⟩:=resS_ok (n:=fn.ntmps) hr hb
            obtain ⟨v3,h3,g3⟩:=resS_ok (n:=fn.ntmps) hr hc
            exact ⟨.tuple #[v1,v2,v3],.tup1 (cs:=[v2,v3]) h1 (.tup1 (cs:=[v3]) h2 (.tup1 (cs:=[]) h3 .tup0)),fun a w1 hi hs=>results_3 (by apply Array.ext'; simpa using e0) (g1 a w1 hi hs) (g2 a w1 hi hs) (g3 a w1 hi hs)⟩
          . cases hs
        . cases hs
       obtain ⟨v,h1,h2⟩:=key
       exact ⟨v,h2,ρ',Z',s,st.items,st.nx,Mem.upC hm hr.mem,hr.tn,h1,hk⟩
     . exact hk.elim
    cases e with
    | normal=>exact fin he
    | ret=>exact fin he
    | exit i=>exact he.elim
    | _=>exact he.elim
 . exact hv.elim
theorem inlN_ok (hE : EnvOK E) (an : Nat -> Ann) : ∀ m,InlOK E (inlN (E:=E) an m)
 | 0=>fun _ _ _ _ _ _ h=>h.elim
 | m + 1=>fun K args its lkd nx k h=>by
  have h : (match E.inl K with | some fn=>vcFun (inlN an m) (an K) fn args its lkd nx k | none=>False):=h
  split at h
  . rename_i fn hf
    exact ⟨by rw [hf]; rfl,fun C ρ Z w vs hm hg ha=>vcFun_ok hE (inlN_ok hE an m) (hE.inl K fn hf) h hm hg ha⟩
  . exact h.elim
def ctx0 (ρ : Env1) (Z : Nat -> Prop) (w : World) : Ctx:=⟨ρ,Z,w,[],w⟩
theorem mem0 {nx : Nat} (hfr : ∀ i,nx <= i -> ρ i = none) (hz : ∀ b,Z b -> b < w.heap.size) : Mem E (ctx0 ρ Z w) ρ Z w [] nx :=
 ⟨Wl.Sep.nil hz,hfr,fun _ _ h=>h,fun _ h=>h,fun _ h=>.inl h⟩
theorem Done.pure {k : E.SV -> Items E.N -> Nat -> Prop} {v : Value} {w' : World} (h : Done E (ctx0 ρ Z w) ρ Z w [] k v w') : ∃ ρ' Z' s its' nx',Ext [] w w' /\ Mem E (ctx0 ρ Z w) ρ' Z' w' its' nx' /\ Tn ρ Z w ρ' Z' w' /\ Rep E.N E.T ρ' Z' w' v s /\ k s its' nx':=by
 obtain ⟨ρ',Z',s,its',nx',hm,ht,hr,hk⟩:=h
 rw [List.append_nil] at hm
 exact ⟨ρ',Z',s,its',nx',hm.sep.ext,hm,ht,hr,hk⟩
end
end Go.Rx
end
section
namespace Go.Rx
open Go Go.Wk Go.Wl
section
variable {E : Env} {C : Ctx} {w : World} {ρ : Env1} {Z : Nat -> Prop} {its : Items E.N} {nx : Nat} {inl : Inl E} {an : Ann} {fn : Func} {K : Nat} {args : List E.SV} {vs : List Value}
def itsOf (E : Env) : (k : VK) -> k.den E.N -> List (Item E.N)
 | .acc t,x=>[.ac t x]
 | _,_=>[]
def rvOf (E : Env) (nx : Nat) (k : VK) (x : k.den E.N) : E.SV:=(fl1 E nx k x).1
theorem fl1_its (k : VK) (x : k.den E.N) : (fl1 E nx k x).2.1 = number nx (itsOf E k x) /\ (fl1 E nx k x).2.2 = nx + (itsOf E k x).length:=by cases k <;> exact ⟨rfl,rfl⟩
def bare (E : Env) : (k : VK) -> k.den E.N -> Prop
 | .int _,_=>True
 | .byte,_=>True
 | .bool,_=>True
 | .str,_=>True
 | .err,e=>e = .nil ∨ ∃ n,e = .no n
 | _,_=>False
theorem bare_rep {k : VK} {x : k.den E.N} {v : Value} (hb : bare E k x) (h : Rep E.N E.T ρ Z w v (rvOf E nx k x)) : Rep E.N E.T (fun _=>none) (fun _=>False) w v (rvOf E nx k x):=by
 cases k with
 | int k=>cases h with | int h=>exact .int h
 | byte=>cases h; exact .byte
 | bool=>change Rep E.N E.T ρ Z w v (blB x) at h; cases h; exact .bl
 | str=>cases h with | str h=>exact .str h
 | err =>
  cases h with
  | err h =>
   rcases hb with rfl | ⟨n,rfl⟩
   . cases h; exact .err .nil
   . cases h with | no h=>exact .err (.no h)
 | _=>exact hb.elim
theorem resP1 {k : VK} {x : k.den E.N} {s : E.SV} {i : Nat} (h : resP E [k] (fun y=>y = x) s its i) : rb1 E its k s = some x:=by
 unfold resP parts at h
 simp only [rbCells] at h
 cases hy : rb1 E its k s with
 | none=>rw [hy] at h; exact h.elim
 | some y=>rw [hy] at h; have h : y = x:=h; rw [h]
theorem resP2 {k1 k2 : VK} {x1 : k1.den E.N} {x2 : k2.den E.N} {s : E.SV} {i : Nat} (h : resP E [k1,k2] (fun y z=>y = x1 /\ z = x2) s its i) : ∃ s1 s2,s = .tup [s1,s2] /\ rb1 E its k1 s1 = some x1 /\ rb1 E its k2 s2 = some x2:=by
 have one : ∀ u : E.SV,(match rbCells E its [k1,k2] [u] (fun y z=>y = x1 /\ z = x2) with | some p=>p | none=>False) -> False:=fun u h=>by
  simp only [rbCells] at h
  cases hy : rb1 E its k1 u with
  | none=>rw [hy] at h; exact h
  | some y=>rw [hy] at h; exact h
 unfold resP at h
 cases s with
 | tup vs =>
  match vs,h with
  | [],h=>exact h.elim
  | [u],h=>exact (one u h).elim
  | [s1,s2],h =>
   simp only [parts,rbCells] at h
   cases hy : rb1 E its k1 s1 with
   | none=>rw [hy] at h; exact h.elim
   | some y =>
    rw [hy] at h
    cases hz : rb1 E its k2 s2 with
    | none=>simp only [hz] at h
    | some z=>simp only [hz] at h; exact ⟨s1,s2,rfl,by rw [hy,h.1],by rw [hz,h.2]⟩
  | s1 :: s2 :: s3 :: r,h =>
   simp only [parts,rbCells] at h
   cases hy : rb1 E its k1 s1 with
   | none=>rw [hy] at h; exact h.elim
   | some y =>
    rw [hy] at h
    cases hz : rb1 E its k2 s2 with
    | none=>simp only [hz] at h
    | some z=>simp only [hz] at h
 | _=>exact (one _ h).elim
theorem resP3 {k1 k2 k3 : VK} {x1 : k1.den E.N} {x2 : k2.den E.N} {x3 : k3.den E.N} {s : E.SV} {i : Nat} (h : resP E [k1,k2,k3] (fun y z u=>y = x1 /\ z = x2 /\ u = x3) s its i) : ∃ s1 s2 s3,s = .tup [s1,s2,s3] /\ rb1 E its k1 s1 = some x1 /\ rb1 E its k2 s2 = some x2 /\ rb1 E its k3 s3 = some x3:=by
 have one : ∀ u : E.SV,(match rbCells E its [k1,k2,k3] [u] (fun y z u=>y = x1 /\ z = x2 /\ u = x3) with | some p=>p | none=>False) -> False:=fun u h=>by
  simp only [rbCells] at h
  cases hy : rb1 E its k1 u with
  | none=>rw [hy] at h; exact h
  | some y=>rw [hy] at h; exact h
 unfold resP at h
 cases s with
 | tup vs =>
  match vs,h with
  | [],h=>exact h.elim
  | [u],h=>exact (one u h).elim
  | [s1,s2],h =>
   simp only [parts,rbCells] at h
   cases hy : rb1 E its k1 s1 with
   | none=>rw [hy] at h; exact h.elim
   | some y =>
    rw [hy] at h
    cases hz : rb1 E its k2 s2 with
    | none=>simp only [hz] at h
    | some z=>simp only [hz] at h
  | [s1,s2,s3],h =>
   simp only [parts,rbCells] at h
   cases hy : rb1 E its k1 s1 with
   | none=>rw [hy] at h; exact h.elim
   | some y =>
    rw [hy] at h
    cases hz : rb1 E its k2 s2 with
    | none=>simp only [hz] at h
    | some z =>
     simp only [hz] at h
     cases hu : rb1 E its k3 s3 with
     | none=>simp only [hu] at h
     | some u=>simp only [hu] at h; exact ⟨s1,s2,s3,rfl,by rw [hy,h.1],by rw [hz,h.2.1],by rw [hu,h.2.2]⟩
  | s1 :: s2 :: s3 :: s4 :: r,h =>
   simp only [parts,rbCells] at h
   cases hy : rb1 E its k1 s1 with
   | none=>rw [hy] at h; exact h.elim
   | some y =>
    rw [hy] at h
    cases hz : rb1 E its k2 s2 with
    | none=>simp only [hz] at h
    | some z =>
     simp only [hz] at h
     cases hu : rb1 E its k3 s3 with
     | none=>simp only [hu] at h
     | some u=>simp only [hu] at h
 | _=>exact (one _ h).elim
theorem lend1 (hE : EnvOK E) (hI : InlOK E inl) (hf : E.P.funcs[K]? = some fn) {k : VK} {x : k.den E.N} {ob : List Prop} (hb : bare E k x) (hv : vcFun inl an fn args [] [] 0 (resP E [k] (fun y=>y = x))) (n : Nat) : LendOK E K args ⟨ob,[],rvOf E n k x,[]⟩:=fun D w vs hD hg ha =>
 (vcFun_ok (C:=ctx0 (fun _=>none) D w) hE hI hf hv (mem0 (nx:=0) (fun _ _=>rfl) hD) hg ha).mono fun v w' h=>by
  obtain ⟨ρ',Z',s,its',nx',hx,hm,ht,hr,hk⟩:=h.pure
  obtain ⟨ρ3,os',_,_,_,hr3,_⟩:=rb1_ok (lkd:=[]) (n2:=n) (ρ2:=fun _=>none) (os:=[]) (new:=[]) (by simpa using hm) hr (resP1 hk) (fun _ _=>rfl) .nil
  exact ⟨hx,bare_rep hb hr3,trivial⟩
theorem tup2_inv {v : Value} {s1 s2 : E.SV} (h : Rep E.N E.T ρ Z w v (.tup [s1,s2])) : ∃ v1 v2,v = .tuple #[v1,v2] /\ Rep E.N E.T ρ Z w v1 s1 /\ Rep E.N E.T ρ Z w v2 s2:=by
 obtain ⟨cs,rfl⟩:=Rep.tup_inv h
 obtain ⟨v1,r,rfl,h1,h⟩:=Rep.tup_cons h
 obtain ⟨v2,r,rfl,h2,h⟩:=Rep.tup_cons h
 have : r = []:=by
  generalize e : Value.tuple r.toArray = u at h
  cases h with | tup0=>simpa using e
 subst this
 exact ⟨v1,v2,rfl,h1,h2⟩
theorem tup3_inv {v : Value} {s1 s2 s3 : E.SV} (h : Rep E.N E.T ρ Z w v (.tup [s1,s2,s3])) : ∃ v1 v2 v3,v = .tuple #[v1,v2,v3] /\ Rep E.N E.T ρ Z w v1 s1 /\ Rep E.N E.T ρ Z w v2 s2 /\ Rep E.N E.T ρ Z w v3 s3:=by
 obtain ⟨cs,rfl⟩:=Rep.tup_inv h
 obtain ⟨v1,r,rfl,h1,h⟩:=Rep.tup_cons h
 obtain ⟨v2,r,rfl,h2,h⟩:=Rep.tup_cons h
 obtain ⟨v3,r,rfl,h3,h⟩:=Rep.tup_cons h
 have : r = []:=by
  generalize e : Value.tuple r.toArray = u at h
  cases h with | tup0=>simpa using e
 subst this
 exact ⟨v1,v2,v3,rfl,h1,h2,h3⟩
theorem tup2 {v1 v2 : Value} {s1 s2 : E.SV} (h1 : Rep E.N E.T ρ Z w v1 s1) (h2 : Rep E.N E.T ρ Z w v2 s2) : Rep E.N E.T ρ Z w (.tuple #[v1,v2]) (.tup [s1,s2]):=.tup1 (cs:=[v2]) h1 (.tup1 (cs:=[]) h2 .tup0)
theorem tup3 {v1 v2 v3 : Value} {s1 s2 s3 : E.SV} (h1 : Rep E.N E.T ρ Z w v1 s1) (h2 : Rep E.N E.T ρ Z w v2 s2) (h3 : Rep E.N E.T ρ Z w v3 s3) : Rep E.N E.T ρ Z w (.tuple #[v1,v2,v3]) (.tup [s1,s2,s3]):=.tup1 (cs:=[v2,v3]) h1 (tup2 h2 h3)
theorem lend2 (hE : EnvOK E) (hI : InlOK E inl) (hf : E.P.funcs[K]? = some fn) {k1 k2 : VK} {x1 : k1.den E.N} {x2 : k2.den E.N} {ob : List Prop} (hb1 : bare E k1 x1) (hb2 : bare E k2 x2) (hv : vcFun inl an fn args [] [] 0 (resP E [k1,k2] (fun y z=>y = x1 /\ z = x2))) (n : Nat) : LendOK E K args ⟨ob,[],.tup [rvOf E n k1 x1,rvOf E n k2 x2],[]⟩:=fun D w vs hD hg ha =>
 (vcFun_ok (C:=ctx0 (fun _=>none) D w) hE hI hf hv (mem0 (nx:=0) (fun _ _=>rfl) hD) hg ha).mono fun v w' h=>by
  obtain ⟨ρ',Z',s,its',nx',hx,hm,ht,hr,hk⟩:=h.pure
  obtain ⟨s1,s2,rfl,e1,e2⟩:=resP2 hk
  obtain ⟨v1,v2,rfl,h1,h2⟩:=tup2_inv hr
  obtain ⟨_,_,_,_,_,r1,_⟩:=rb1_ok (lkd:=[]) (n2:=n) (ρ2:=fun _=>none) (os:=[]) (new:=[]) (by simpa using hm) h1 e1 (fun _ _=>rfl) .nil
  obtain ⟨_,_,_,_,_,r2,_⟩:=rb1_ok (lkd:=[]) (n2:=n) (ρ2:=fun _=>none) (os:=[]) (new:=[]) (by simpa using hm) h2 e2 (fun _ _=>rfl) .nil
  exact ⟨hx,tup2 (bare_rep hb1 r1) (bare_rep hb2 r2),trivial⟩
theorem fl1_non {k : VK} {x : k.den E.N} (h : itsOf E k x = []) (n : Nat) : fl1 E n k x = (rvOf E nx k x,[],n):=by
 cases k with
 | acc t=>cases h
 | _=>rfl
theorem acc_nd {k : VK} {s : E.SV} {l : List Nat} (h : l = accId k s ++ List.filterMap id ([] : List (Option Nat))) : l.Nodup:=by rw [h]; unfold accId; split <;> simp
theorem con_end {os : List (Option Nat)} {new : Items E.N} {n2 : Nat} {ρ' ρ2 : Env1} {Z' : Nat -> Prop} {w' : World} {its' : Items E.N} {nx' : Nat} (hm : Mem E (ctx0 (fun _=>none) Z w) ρ' Z' w' its' nx') (ht : Tgts E [] ρ' Z' w' its' ρ2 os new) (hnd : (os.filterMap id).Nodup) (hfr : ∀ i,n2 <= i -> ρ2 i = none) :
  Sep [] w Z' w' (toIts E.N E.T ρ2 [] new):=by
 have:=Mem.rebuild (lkd:=[]) (by simpa using hm) (fun _ h=>by cases h) ht hnd hfr (fun _ _ h=>by cases h)
 simpa [ctx0] using this.sep
theorem con1 (hE : EnvOK E) (hI : InlOK E inl) (hf : E.P.funcs[K]? = some fn) {k : VK} {x : k.den E.N} {ob : List Prop} (hp : args.all pureS = true) (hv : vcFun inl an fn args [] [] 0 (resP E [k] (fun y=>y = x))) : ConOK E.P E.N E.T E.G K args nx ⟨ob,[],rvOf E nx k x,itsOf E k x⟩ :=
 ⟨fun ρ Z w vs hfr hz hg ha=>(vcFun_ok (C:=ctx0 (fun _=>none) Z w) hE hI hf hv (mem0 (fun _ _=>rfl) hz) hg (pureT_rep hp ha _)).mono fun v w' h=>by
  obtain ⟨ρ',Z',s,its',nx',hx,hm,ht,hr,hk⟩:=h.pure
  obtain ⟨ρ3,os,t1,f1,s1,r1,o1⟩:=rb1_ok (lkd:=[]) (n2:=nx) (ρ2:=ρ) (os:=[]) (new:=[]) (by simpa using hm) hr (resP1 hk) hfr .nil
  rw [(fl1_its k x).1,List.append_nil] at t1
  rw [(fl1_its k x).2] at f1
  refine ⟨ρ3,Z',s1,f1,hm.zge,fun b hb=>?_,r1,con_end hm t1 (acc_nd o1) f1,trivial⟩
  rcases hm.zle b hb with h | h | h
  . exact .inl h
  . cases h
  . exact .inr h⟩
theorem rb_more {os : List (Option Nat)} {new : Items E.N} {n2 : Nat} {ρ' ρ2 : Env1} {Z' : Nat -> Prop} {w' : World} {its' : Items E.N} {nx' : Nat} {C : Ctx} {k : VK} {x : k.den E.N} {v : Value} {s : E.SV} (hm : Mem E C ρ' Z' w' its' nx') (hu : Rep E.N E.T ρ' Z' w' v s) (h : rb1 E its' k s = some x) (hn : itsOf E k x = []) (hfr : ∀ i,n2 <= i -> ρ2 i = none) (ht : Tgts E C.B0 ρ' Z' w' its' ρ2 os new) (hnd : (os.filterMap id).Nodup) :
  ∃ ρ3 os',Tgts E C.B0 ρ' Z' w' its' ρ3 os' new /\ (∀ i,n2 <= i -> ρ3 i = none) /\ (∀ i L,ρ2 i = some L -> ρ3 i = some L) /\ Rep E.N E.T ρ3 Z' w' v (rvOf E nx k x) /\ (os'.filterMap id).Nodup:=by
 obtain ⟨ρ3,os',t,f,s1,r,o⟩:=rb1_ok (lkd:=[]) (by simpa using hm) hu h hfr ht
 rw [fl1_non (nx:=nx) hn n2] at t f r
 refine ⟨ρ3,os',by simpa using t,f,s1,r,?_⟩
 rw [o]
 cases k with
 | acc t=>cases hn
 | _=>exact hnd
theorem con2 (hE : EnvOK E) (hI : InlOK E inl) (hf : E.P.funcs[K]? = some fn) {k1 k2 : VK} {x1 : k1.den E.N} {x2 : k2.den E.N} {ob : List Prop} (h2 : itsOf E k2 x2 = []) (hp : args.all pureS = true) (hv : vcFun inl an fn args [] [] 0 (resP E [k1,k2] (fun y z=>y = x1 /\ z = x2))) :
  ConOK E.P E.N E.T E.G K args nx ⟨ob,[],.tup [rvOf E nx k1 x1,rvOf E nx k2 x2],itsOf E k1 x1⟩ :=
 ⟨fun ρ Z w vs hfr hz hg ha=>(vcFun_ok (C:=ctx0 (fun _=>none) Z w) hE hI hf hv (mem0 (fun _ _=>rfl) hz) hg (pureT_rep hp ha _)).mono fun v w' h=>by
  obtain ⟨ρ',Z',s,its',nx',hx,hm,ht,hr,hk⟩:=h.pure
  obtain ⟨s1,s2,rfl,e1,e2⟩:=resP2 hk
  obtain ⟨v1,v2,rfl,g1,g2⟩:=tup2_inv hr
  obtain ⟨ρ3,os,t1,f1,b1,r1,o1⟩:=rb1_ok (lkd:=[]) (n2:=nx) (ρ2:=ρ) (os:=[]) (new:=[]) (by simpa using hm) g1 e1 hfr .nil
  rw [(fl1_its k1 x1).1,List.append_nil] at t1
  rw [(fl1_its k1 x1).2] at f1
  obtain ⟨ρ4,os2,t2,f2,b2,r2,nd2⟩:=rb_more (nx:=nx) hm g2 e2 h2 f1 t1 (acc_nd o1)
  refine ⟨ρ4,Z',sub_trans b1 b2,f2,hm.zge,fun b hb=>?_,tup2 (Rep.sub r1 b2) r2,con_end hm t2 nd2 f2,trivial⟩
  rcases hm.zle b hb with h | h | h
  . exact .inl h
  . cases h
  . exact .inr h⟩
end
end Go.Rx
end
section
namespace Go.Rx
open Go Go.Wk Go.Wl
section
variable {N : Uni} {T : ErrT} {ρ : Env1} {Z : Nat -> Prop} {w : World} {cs cs' : List Value} {ls ls' : List (SV N)}
theorem RepL.split (n : Nat) (h : RepL N T ρ Z w cs ls) : RepL N T ρ Z w (cs.take n) (ls.take n) /\ RepL N T ρ Z w (cs.drop n) (ls.drop n):=by
 induction n generalizing cs ls with
 | zero=>exact ⟨by simpa using RepL.nil,by simpa using h⟩
 | succ n ih =>
  cases ls with
  | nil=>obtain rfl:=RepL.nil_inv h; exact ⟨by simpa using RepL.nil,by simpa using RepL.nil⟩
  | cons s r =>
   obtain ⟨v,rr,rfl,h1,hp,h2⟩:=RepL.cons_inv h
   obtain ⟨a,b⟩:=ih h2
   exact ⟨RepL.cons h1 hp a,b⟩
def pb {α : Type} (f : SV N -> Option α) : List (SV N) -> Option α
 | [s]=>f s
 | _=>none
def asLN (N : Uni) (t : Nat) : SV N -> Option (List (N.U t))
 | .nils=>some []
 | .sl t' l=>if h : t' = t then some (castL h l) else none
 | _=>none
theorem asLN_rd {t : Nat} {v : Value} {s : SV N} {l : List (N.U t)} (h : Rep N T ρ Z w v s) (e : asLN N t s = some l) : (dSlice (N.tb t).r).rd Z w [v] l:=by
 cases h with
 | nils=>simp [asLN] at e; subst e; exact dSlice_nil
 | sl h =>
  simp only [asLN] at e
  split at e
  . rename_i ht; subst ht; simp [castL] at e; subst e; exact h
  . cases e
 | _=>simp [asLN] at e
theorem pb_inv {α : Type} {f : SV N -> Option α} {x : α} {r : Rd α} (hr : ∀ (v : Value) (s : SV N),Rep N T ρ Z w v s -> f s = some x -> r.rd Z w [v] x) (h : RepL N T ρ Z w cs ls) (e : pb f ls = some x) : r.rd Z w cs x:=by
 unfold pb at e
 split at e
 . obtain ⟨v,rfl,h1,_⟩:=RepL.one_inv h; exact hr v _ h1 e
 . cases e
theorem pb_int {x : Int} (h : RepL N T ρ Z w cs ls) (e : pb asI64 ls = some x) : dInt.rd Z w cs x:=pb_inv (fun v s h e=>by have ⟨a,b⟩:=asI64_rd h e; rw [a]; exact ⟨rfl,b⟩) h e
theorem pb_str {x : Str} (h : RepL N T ρ Z w cs ls) (e : pb asS ls = some x) : dStr.rd Z w cs x:=pb_inv (r:=dStr) (fun v s h e=>by have ⟨a,b⟩:=asS_rd h e; rw [a]; exact ⟨rfl,b⟩) h e
theorem pb_sl {t : Nat} {x : List (N.U t)} (h : RepL N T ρ Z w cs ls) (e : pb (asLN N t) ls = some x) : (dSlice (N.tb t).r).rd Z w cs x:=pb_inv (r:=dSlice (N.tb t).r) (fun v s h e=>asLN_rd h e) h e
theorem sv_sl {t : Nat} {x : List (N.U t)} (h : (dSlice (N.tb t).r).rd Z w cs x) : RepL N T ρ Z w cs [.sl t x]:=by
 have hl:=Rd.len _ h
 have hp:=Rd.plain _ h
 match cs,hl with
 | [v],_ =>
  simp only [List.all_cons,List.all_nil,Bool.and_true] at hp
  exact RepL.one (.sl h) hp
end
end Go.Rx
end
section
namespace Go.Rx
open Go Go.Wk Go.Wl
def addF {α : Type} (K : Nat) (x : α) (f : Nat -> Option α) : Nat -> Option α:=fun k=>bif Nat.beq k K then some x else f k
def Env.addL (E : Env) (K : Nat) (C : List E.SV -> Option (Q1 E.N)) : Env:=⟨E.P,E.N,E.T,E.ty,E.zob,addF K (fun a _=>(C a).map fun q=>⟨q.ob,q.hy,q.v,[]⟩) E.con,fun k=>bif Nat.beq k K then true else E.lend k,E.obc,E.inl,E.G,E.wrc,E.rws⟩
def Env.addC (E : Env) (K : Nat) (C : List E.SV -> Nat -> Option (CR E.N)) : Env:=⟨E.P,E.N,E.T,E.ty,E.zob,addF K C E.con,fun k=>bif Nat.beq k K then false else E.lend k,E.obc,E.inl,E.G,E.wrc,E.rws⟩
def Env.addO (E : Env) (K : Nat) (o : OC E.N) : Env:=⟨E.P,E.N,E.T,E.ty,E.zob,E.con,E.lend,addF K o E.obc,E.inl,E.G,E.wrc,E.rws⟩
def Env.addI (E : Env) (K : Nat) (fn : Func) : Env:=⟨E.P,E.N,E.T,E.ty,E.zob,E.con,E.lend,E.obc,addF K fn E.inl,E.G,E.wrc,E.rws⟩
def Env.addW (E : Env) (K : Nat) (o : WC E.N) : Env:=⟨E.P,E.N,E.T,E.ty,E.zob,E.con,E.lend,E.obc,E.inl,E.G,addF K o E.wrc,E.rws⟩
section
variable {E : Env} {K : Nat}
abbrev CallOK (P : Program) (K : Nat) : Prop:=∀ xs w,(callFunc K xs).run P w = .ok (.enter K xs) w
theorem addF_inv {α : Type} {x y : α} {f : Nat -> Option α} {k : Nat} (h : addF K x f k = some y) : (k = K /\ y = x) ∨ f k = some y:=by
 unfold addF at h
 cases hb : Nat.beq k K with
 | true=>rw [hb,cond_true] at h; cases h; exact .inl ⟨Nat.eq_of_beq_eq_true hb,rfl⟩
 | false=>rw [hb,cond_false] at h; exact .inr h
theorem addF_some {α : Type} {x : α} {f : Nat -> Option α} {k : Nat} (h : (addF K x f k).isSome = true) : k = K ∨ (f k).isSome = true:=by
 obtain ⟨y,hy⟩:=Option.isSome_iff_exists.1 h
 rcases addF_inv hy with ⟨e,_⟩ | e
 . exact .inl e
 . exact .inr (by rw [e]; rfl)
theorem LendOK.con {args : List E.SV} {c : CR E.N} {nx : Nat} (h : LendOK E K args c) (hi : c.its = []) (hp : args.all pureS = true) : ConOK E.P E.N E.T E.G K args nx c :=
 ⟨fun ρ Z w vs hfr hz hg ha=>(h Z w vs hz hg (pureT_rep hp ha _)).mono fun v w' ⟨x,r,hy⟩=>⟨ρ,Z,fun _ _ h=>h,by rw [hi]; exact hfr,fun _ h=>h,fun _ h=>.inl h,Rep.bare r,by
  rw [hi]
  exact ⟨x,fun b hb=>by have:=hz b hb; have:=x.size; omega,fun k t h=>by simp [toIts,number] at h,fun j k s t h=>by simp [toIts,number] at h⟩,hy⟩⟩
theorem EnvOK.addL (h : EnvOK E) {C : List E.SV -> Option (Q1 E.N)} (hc : CallOK E.P K) (ok : ∀ args q,C args = some q -> allP q.ob -> LendOK E K args ⟨q.ob,q.hy,q.v,[]⟩) : EnvOK (E.addL K C):=by
 refine ⟨h.mixed,h.zob,fun k hk=>?_,h.inl,fun k f args nx c hf hr hp ho=>?_,fun k f args nx c hf hl hr hi ho=>?_,h.obc,h.wrc⟩
 . by_cases e : k = K
   . subst e; exact hc
   . refine h.call k ?_
     simp only [Bool.or_eq_true] at hk ⊢
     rcases hk with ((hk | hk) | hk) | hk
     . rcases addF_some hk with e' | e'
       . exact absurd e' e
       . exact .inl (.inl (.inl e'))
     . exact .inl (.inl (.inr hk))
     . exact .inl (.inr hk)
     . exact .inr hk
 . rcases addF_inv hf with ⟨e1,e2⟩ | hf
   . rw [e2] at hr
     obtain ⟨q,hq,e3⟩:=Option.map_eq_some_iff.1 hr
     subst e3
     rw [e1]
     exact (ok args q hq ho).con rfl hp
   . exact h.con k f args nx c hf hr hp ho
 . rcases addF_inv hf with ⟨e1,e2⟩ | hf'
   . rw [e2] at hr
     obtain ⟨q,hq,e3⟩:=Option.map_eq_some_iff.1 hr
     subst e3
     rw [e1]
     exact ok args q hq ho
   . by_cases e : k = K
     . have hf : addF K (fun a _=>(C a).map fun q=>(⟨q.ob,q.hy,q.v,[]⟩ : CR E.N)) E.con k = some f:=hf
       unfold addF at hf
       rw [e,Nat.beq_refl,cond_true] at hf
       have e2:=Option.some.inj hf
       rw [<- e2] at hr
       obtain ⟨q,hq,e3⟩:=Option.map_eq_some_iff.1 hr
       subst e3
       rw [e]
       exact ok args q hq ho
     . refine h.lend k f args nx c hf' ?_ hr hi ho
       have hl : (bif Nat.beq k K then true else E.lend k) = true:=hl
       rw [beq_ne e,cond_false] at hl; exact hl
theorem EnvOK.addC (h : EnvOK E) {C : List E.SV -> Nat -> Option (CR E.N)} (hc : CallOK E.P K) (ok : ∀ args nx c,C args nx = some c -> args.all pureS = true -> allP c.ob -> ConOK E.P E.N E.T E.G K args nx c) : EnvOK (E.addC K C):=by
 refine ⟨h.mixed,h.zob,fun k hk=>?_,h.inl,fun k f args nx c hf hr hp ho=>?_,fun k f args nx c hf hl hr hi ho=>?_,h.obc,h.wrc⟩
 . by_cases e : k = K
   . subst e; exact hc
   . refine h.call k ?_
     simp only [Bool.or_eq_true] at hk ⊢
     rcases hk with ((hk | hk) | hk) | hk
     . rcases addF_some hk with e' | e'
       . exact absurd e' e
       . exact .inl (.inl (.inl e'))
     . exact .inl (.inl (.inr hk))
     . exact .inl (.inr hk)
     . exact .inr hk
 . rcases addF_inv hf with ⟨e1,e2⟩ | hf
   . rw [e2] at hr
     rw [e1]; exact ok args nx c hr hp ho
   . exact h.con k f args nx c hf hr hp ho
 . have hl : (bif Nat.beq k K then false else E.lend k) = true:=hl
   have e : k ≠ K:=fun e=>by subst e; rw [Nat.beq_refl,cond_true] at hl; cases hl
   rw [beq_ne e,cond_false] at hl
   rcases addF_inv hf with ⟨e',_⟩ | hf'
   . exact absurd e' e
   . exact h.lend k f args nx c hf' hl hr hi ho
theorem EnvOK.addO (h : EnvOK E) {o : OC E.N} (hc : CallOK E.P K) (ok : ∀ x args r,o.C x args = some r -> allP r.ob -> ObcOK E K o x args r) : EnvOK (E.addO K o):=by
 refine ⟨h.mixed,h.zob,fun k hk=>?_,h.inl,h.con,h.lend,fun k o' x args r ho hr hob=>?_,h.wrc⟩
 . by_cases e : k = K
   . subst e; exact hc
   . refine h.call k ?_
     simp only [Bool.or_eq_true] at hk ⊢
     rcases hk with ((hk | hk) | hk) | hk
     . exact .inl (.inl (.inl hk))
     . rcases addF_some hk with e' | e'
       . exact absurd e' e
       . exact .inl (.inl (.inr e'))
     . exact .inl (.inr hk)
     . exact .inr hk
 . rcases addF_inv ho with ⟨e1,e2⟩ | ho
   . cases e2
     rw [e1]; exact ok x args r hr hob
   . exact h.obc k o' x args r ho hr hob
theorem EnvOK.addI (h : EnvOK E) {fn : Func} (hc : CallOK E.P K) (hf : E.P.funcs[K]? = some fn) : EnvOK (E.addI K fn):=by
 refine ⟨h.mixed,h.zob,fun k hk=>?_,fun k g hg=>?_,h.con,h.lend,h.obc,h.wrc⟩
 . by_cases e : k = K
   . subst e; exact hc
   . refine h.call k ?_
     simp only [Bool.or_eq_true] at hk ⊢
     rcases hk with ((hk | hk) | hk) | hk
     . exact .inl (.inl (.inl hk))
     . exact .inl (.inl (.inr hk))
     . rcases addF_some hk with e' | e'
       . exact absurd e' e
       . exact .inl (.inr e')
     . exact .inr hk
 . rcases addF_inv hg with ⟨rfl,rfl⟩ | hg
   . exact hf
   . exact h.inl k g hg
theorem EnvOK.addW (h : EnvOK E) {o : WC E.N} (hc : CallOK E.P K) (ok : ∀ a x r,o.C a x = some r -> allP r.ob -> WrcOK E K o a x r) : EnvOK (E.addW K o):=by
 refine ⟨h.mixed,h.zob,fun k hk=>?_,h.inl,h.con,h.lend,h.obc,fun k o' a x r ho hr hob=>?_⟩
 . by_cases e : k = K
   . subst e; exact hc
   . refine h.call k ?_
     simp only [Bool.or_eq_true] at hk ⊢
     rcases hk with ((hk | hk) | hk) | hk
     . exact .inl (.inl (.inl hk))
     . exact .inl (.inl (.inr hk))
     . exact .inl (.inr hk)
     . rcases addF_some hk with e' | e'
       . exact absurd e' e
       . exact .inr e'
 . rcases addF_inv ho with ⟨e1,e2⟩ | ho
   . cases e2
     rw [e1]; exact ok a x r hr hob
   . exact h.wrc k o' a x r ho hr hob
end
end Go.Rx
end
section
namespace Go.Rx
open Go Go.Wk Go.Wl
def Err.num : Err -> Option Int
 | .nil=>none
 | .no n=>some n
 | .fault _ n=>some n
 | .w _ _ e=>e.num
def Err.is (e : Err) (n : Int) : Prop:=e.num = some n
instance (e : Err) (n : Int) : Decidable (e.is n):=by unfold Err.is; infer_instance
def Err.nr (e : Err) : Int:=match e with
 | .nil=>0
 | e=>match e.num with | some n=>if 1 <= n /\ n <= 16 then n else -1 | none=>-1
def Err.at_ : Err -> Int
 | .fault a _=>a
 | .w _ _ e=>e.at_
 | _=>0
theorem lend3 {E : Env} {inl : Inl E} {an : Ann} {fn : Func} {K : Nat} {args : List E.SV} (hE : EnvOK E) (hI : InlOK E inl) (hf : E.P.funcs[K]? = some fn) {k1 k2 k3 : VK} {x1 : k1.den E.N} {x2 : k2.den E.N} {x3 : k3.den E.N} {ob : List Prop} (hb1 : bare E k1 x1) (hb2 : bare E k2 x2) (hb3 : bare E k3 x3) (hv : vcFun inl an fn args [] [] 0 (resP E [k1,k2,k3] (fun y z u=>y = x1 /\ z = x2 /\ u = x3))) (n : Nat) : LendOK E K args ⟨ob,[],.tup [rvOf E n k1 x1,rvOf E n k2 x2,rvOf E n k3 x3],[]⟩:=fun D w vs hD hg ha =>
 (vcFun_ok (C:=ctx0 (fun _=>none) D w) hE hI hf hv (mem0 (nx:=0) (fun _ _=>rfl) hD) hg ha).mono fun v w' h=>by
  obtain ⟨ρ',Z',s,its',nx',hx,hm,ht,hr,hk⟩:=h.pure
  obtain ⟨s1,s2,s3,rfl,e1,e2,e3⟩:=resP3 hk
  obtain ⟨v1,v2,v3,rfl,h1,h2,h3⟩:=tup3_inv hr
  obtain ⟨_,_,_,_,_,r1,_⟩:=rb1_ok (lkd:=[]) (n2:=n) (ρ2:=fun _=>none) (os:=[]) (new:=[]) (by simpa using hm) h1 e1 (fun _ _=>rfl) .nil
  obtain ⟨_,_,_,_,_,r2,_⟩:=rb1_ok (lkd:=[]) (n2:=n) (ρ2:=fun _=>none) (os:=[]) (new:=[]) (by simpa using hm) h2 e2 (fun _ _=>rfl) .nil
  obtain ⟨_,_,_,_,_,r3,_⟩:=rb1_ok (lkd:=[]) (n2:=n) (ρ2:=fun _=>none) (os:=[]) (new:=[]) (by simpa using hm) h3 e3 (fun _ _=>rfl) .nil
  exact ⟨hx,tup3 (bare_rep hb1 r1) (bare_rep hb2 r2) (bare_rep hb3 r3),trivial⟩
theorem ownsRowF_stab {w w' : World} {e : TypeId} {v : Value} {n : Nat} {xs : List Value} {B : List Nat} (h : w.ownsRowF 0 e 1 v n xs) (x : Ext B w w') (hB : ∀ k,v.ownBlock = some k -> k ∉ B) : w'.ownsRowF 0 e 1 v n xs:=by
 refine ⟨h.1,?_⟩
 rcases h.2 with h0 | ⟨g,cap,cur,fz,rfl,h1,h2,h3⟩
 . exact .inl h0
 . exact .inr ⟨g,cap,cur,fz,rfl,h1,x.get (hB g rfl) h2,h3⟩
def bldF (b : Nat) (v : Value) : List Nat:=b :: v.ownBlock.toList
def BldIs (T e b : Nat) (w : World) (x : Str) (F : List Nat) : Prop :=
 ∃ p v,(p = .pointer none ∨ p = .pointer (some ⟨b,0,none⟩)) /\ w.heap[b]? = some (.cells #[p,v] T (0,0)) /\ w.ownsRowF 0 e 1 v x.length (Lib.byteCells x) /\ v.ownBlock ≠ some b /\ F = bldF b v
def bld (T e b : Nat) : Ob Str where
 is:=fun _ w x F=>BldIs T e b w x F
 stab:=fun {x F} Z Z' B w w' h ext hB _=>by
  obtain ⟨p,v,hp,hb,ho,hne,rfl⟩:=h
  have hbl : b < w.heap.size:=by
   rcases Nat.lt_or_ge b w.heap.size with h | h
   . exact h
   . rw [Array.getElem?_eq_none h] at hb; cases hb
  have nb : b ∉ B:=fun hm=>by have:=hB b hm (.inl (by simp [bldF])); omega
  refine ⟨p,v,hp,ext.get nb hb,ownsRowF_stab ho ext fun k hk hm=>?_,hne,rfl⟩
  have:=hB k hm (.inl (by simp [bldF,hk]))
  have:=(ho.lt k hk).2
  omega
 lt:=fun {Z w x F} h b' hb'=>by
  obtain ⟨p,v,hp,hb,ho,hne,rfl⟩:=h
  rcases List.mem_cons.1 hb' with rfl | hm
  . rcases Nat.lt_or_ge b' w.heap.size with h | h
    . exact h
    . rw [Array.getElem?_eq_none h] at hb; cases hb
  . have : v.ownBlock = some b':=by simpa using hm
    exact (ho.lt b' this).2
theorem bld_zero {T e b : Nat} {w : World} (h : Own w b T [.pointer none,.slice none 0 0]) : BldIs T e b w [] [b] :=
 ⟨.pointer none,.slice none 0 0,.inl rfl,h,World.ownsRowF_nil w 0 e 1,by simp [Value.ownBlock],by simp [bldF,Value.ownBlock]⟩
def bldO (T e b : Nat) : Ob (Option Str) where
 is:=fun _ w x F=>match x with
  | none=>Own w b T [.pointer none,.slice none 0 0] /\ F = [b]
  | some s=>BldIs T e b w s F
 stab:=fun {x F} Z Z' B w w' h ext hB hz=>by
  cases x with
  | none=>exact ⟨h.1.ext ext (fun hm=>by have:=hB b hm (.inl (by rw [h.2]; simp)); have:=h.1.lt; omega),h.2⟩
  | some s=>exact (bld T e b).stab Z Z' B w w' h ext hB hz
 lt:=fun {Z w x F} h=>by
  cases x with
  | none=>intro b' hb'; rw [h.2] at hb'; rw [List.mem_singleton.1 hb']; exact h.1.lt
  | some s=>exact (bld T e b).lt (Z:=Z) h
theorem bld_after {T e b : Nat} {w w' : World} {v v' : Value} {p : Value} {x' : Str} {F : List Nat} (hF : F = bldF b v) (hp : p = .pointer none ∨ p = .pointer (some ⟨b,0,none⟩)) (hb : w'.heap[b]? = some (.cells #[p,v'] T (0,0))) (ho : w'.ownsRowF 0 e 1 v' x'.length (Lib.byteCells x')) (hne : v'.ownBlock ≠ some b)
  (ext : Ext F w w') (hv : ∀ k,v'.ownBlock = some k -> v.ownBlock = some k ∨ w.heap.size <= k) : ∃ F',BldIs T e b w' x' F' /\ Turn w w' F F' :=
 ⟨bldF b v',⟨p,v',hp,hb,ho,hne,rfl⟩,ext,fun k hk=>by
  rcases List.mem_cons.1 hk with rfl | hk
  . exact .inl (by rw [hF]; simp [bldF])
  . rcases hv k (by simpa using hk) with h | h
    . exact .inl (by rw [hF]; simp [bldF,h])
    . exact .inr h⟩
section
open Go.Lib
variable {P : Program} (w : World)
theorem run_append_bld (t u ty e : TypeId) (i : TypeInfo) (ht : P.underlying t = some (.slice e)) (hu : P.underlying u = some .string) (hi : P.info? e = some i) (hz : i.zero = some (.int .u8 0)) (hsize : i.size = 1) (hby : i.bytes = 1)
  (v : Value) (n : Nat) (xs : List Value) (hown : w.ownsRowF 0 e 1 v n xs) (s : ByteArray) (h63 : n + s.size <= maxLen) (hbytes : n + s.size <= 140737488355328) :
  ∃ v' w',(Builtin.append_ #[t,u] ty #[v,.string s]).run P w = .ok v' w' /\ w'.ownsRowF 0 e 1 v' (n + s.size) (xs ++ strCells s) /\ w.grownBy w' v.ownBlock /\ ∀ k,v'.ownBlock = some k -> v.ownBlock = some k ∨ w.heap.size <= k:=by
 rcases hown.2 with ⟨rfl,rfl⟩ | ⟨g,cap,cur,fz,rfl,hbg,hg,hfz,hnc,hcm,hcs,htake⟩
 . obtain ⟨v',w',h1,h2,h3,h4⟩:=run_append_own_string (P:=P) w w.heap.size t u ty e i ht hu hi hz hsize hby (.slice none 0 0) 0 xs ⟨hown.1,.inl ⟨rfl,rfl⟩⟩ s h63 hbytes (Nat.le_refl _)
   refine ⟨v',w',h1,⟨h2.1,?_⟩,h3,fun k hk=>.inr (h2.lt k hk).1⟩
   rcases h2.2 with h | ⟨g,cap,cur,hv,_,r⟩
   . exact .inl h
   . exact .inr ⟨g,cap,cur,(0,0),hv,Nat.zero_le _,r.1,Nat.zero_le _,r.2⟩
 . obtain ⟨v',w',r1,r2,r3,_⟩:=run_append_own_stringF (P:=P) w 0 t u ty e i ht hu hi hz hsize hby _ n xs hown s h63 hbytes (Nat.zero_le _)
   refine ⟨v',w',r1,r2,r3,fun k hk=>?_⟩
   have hsmall : n + s.size <= 9223372036854775807:=by simp only [maxLen] at h63; omega
   have hxl : xs.length = n:=by simpa using hown.1
   by_cases hroom : n + s.size <= cap
   . have hcs' : cur.size = cap:=by simpa using hcs
     have hr:=run_append_room_stringF (P:=P) w t u ty e i ht hu hi hsize g n cap cur fz hg (by simpa using hfz) s hroom (by omega)
     rw [hr] at r1
     cases r1
     exact .inl hk
   . have holds : ∀ j u,xs[j]? = some u -> w.cell? ((⟨g,0,none⟩ : Addr).add j) = some u:=hown.cells (g:=g) rfl
     have hr:=run_append_grow_string (P:=P) w t u ty e i (.int .u8 0) ht hu hi hz ⟨g,0,none⟩ n cap xs (by rw [hsize]; simpa using hxl) holds s (by omega) (by omega) (by rw [hby]; exact growslice_fits (by omega) (by omega))
     rw [hr] at r1
     cases r1
     exact .inr (by have:=Option.some.inj hk; simp only at this; omega)
theorem wpList_append_bld {ops : Array Oper} {rest : List Oper} {o : Oper} {a : Act} {Q : Exit -> Act -> World -> Prop} (hgd : o.guard = none) (sl x : Operand) (t u : TypeId)
  (ho : o.op = .call { callee:=.builtin .append,args:=#[sl,x],argTypes:=#[t,u] }) (e : TypeId) (i : TypeInfo) (ht : P.underlying t = some (.slice e)) (hu : P.underlying u = some .string) (hi : P.info? e = some i) (hz : i.zero = some (.int .u8 0))
  (hsize : i.size = 1) (hby : i.bytes = 1) (v : Value) (n : Nat) (xs : List Value) (hs : a.eval sl = v) (hown : w.ownsRowF 0 e 1 v n xs) (s : ByteArray) (hx : a.eval x = .string s) (h63 : n + s.size <= maxLen) (hbytes : n + s.size <= 140737488355328)
  (h : ∀ v' w',w'.ownsRowF 0 e 1 v' (n + s.size) (xs ++ strCells s) -> w.grownBy w' v.ownBlock -> (∀ k,v'.ownBlock = some k -> v.ownBlock = some k ∨ w.heap.size <= k) -> wpList P ops Q rest (a.put o.dst v') w') : wpList P ops Q (o :: rest) a w:=by
 refine wpList_plain hgd fun K hK=>?_
 obtain ⟨v',w',hr,h2,h3,h4⟩:=run_append_bld (P:=P) w t u o.type e i ht hu hi hz hsize hby v n xs hown s h63 hbytes
 unfold Oper.wp execOp
 simp only [ho,resolve,invoke,builtin,Sem.run_bind,Sem.run_pure,Result.andThen_ok,List.map_toArray,List.map_cons,List.map_nil,hs,hx,hr]
 exact hK _ _ (h v' w' h2 h3 h4)
end
theorem Ext.ofGrown {w w' : World} {row : Option Nat} (h : w.grownBy w' row) : Ext row.toList w w' :=
 ⟨h.os,h.tape,h.output,h.size,fun k hk hm=>h.block k hk (fun e=>hm (by simp [<- e]))⟩
end Go.Rx
end
