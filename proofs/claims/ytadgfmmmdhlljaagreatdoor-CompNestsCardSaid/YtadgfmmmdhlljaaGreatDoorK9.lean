/- 59 texts, one behind the other. -/
import Derived.Test.YtadgfmmmdhlljaaGreatDoorK6
import Derived.Test.YtadgfmmmdhlljaaGreatDoorKEt
import Derived.Laws.RangeString
import Derived.Laws.Runes
import Derived.WalkMore
import Derived.Deep.QuietTactic
import Derived.BigQuiet
import Derived.Laws.RangeAny
import Derived.Deep.LoopGhost
import Derived.Test.YtadgfmmmdhlljaaGreatDoorK4
import Derived.Laws.IdiomStrings
import Derived.Lib.Bytealg
import Derived.Lib.Join
import Derived.Lib.MakeNoZero
import Derived.Laws.CopyOwn
import Derived.Shelf.Strings.Builder2
set_option linter.unusedVariables false
set_option linter.unusedSimpArgs false
set_option maxRecDepth 100000
section
namespace Go.Proofs.YtadgfmmmdhlljaaGreatDoor
open Go Go.Wk Go.Wl Go.Rx Go.Fo Go.Li Go.Co Go.Proofs
theorem sim_bld {b : Nat} {w w1 : World} {x : Str} {F : List Nat} (hs : Sim w w1) (h : BldIs 80 5 b w x F) : BldIs 80 5 b w1 x F:=by obtain ⟨k,rfl⟩:=hs; exact h
theorem sim_turn {w w1 w2 : World} {F F' : List Nat} (hs : Sim w w1) (h : Turn w1 w2 F F') : Turn w w2 F F':=by
 obtain ⟨k,rfl⟩:=hs
 exact ⟨⟨h.1.os,h.1.tape,h.1.output,h.1.size,h.1.block⟩,h.2⟩
theorem obc_of {K : Nat} {o : OC U} (hk : o.k = 0) {x : U.O o.k} {args : List (SV U)} {r : OR U o.k} (h : ∀ (D : Nat -> Prop) (w : World) (vs : List Value),Rep U eT (fun _=>none) D w (.tuple vs.toArray) (.tup args) -> ∃ v,Rep U eT (fun _=>none) (fun _=>False) w v r.r /\ allP r.hy /\ (∀ w',Rep U eT (fun _=>none) (fun _=>False) w' v r.r) /\
  ∀ b w1 F,BldIs 80 5 b w1 (cast (by rw [hk]; rfl) x) F -> Calls Tryz.prog K (Value.pointer (some ⟨b,0,none⟩) :: vs).toArray w1 fun e w2=>e = .returned v /\ ∃ F',BldIs 80 5 b w2 (cast (by rw [hk]; rfl) r.x) F' /\ Turn w1 w2 F F') : ObcOK E0 K o x args r:=by
 obtain ⟨k,C⟩:=o
 simp only at hk
 subst hk
 intro Z D w vs b F _ _ _ hb _ ha
 obtain ⟨v,_,hy,hr,hc⟩:=h D w vs ha
 intro w1 hs
 refine Calls.mono (hc b w1 F (sim_bld hs hb)) fun e w2 ⟨h1,F',h2,h3⟩=>?_
 exact ⟨v,w2,h1,Sim.refl _,F',h2,sim_turn hs h3,hr w2,hy⟩
def oWS : OC U:=⟨0,fun (x : Str) a=>match a with | [.str t]=>some ⟨[x.length + t.length <= 140737488355328],[],.tup [.int .i64 t.length,.err .nil],(x ++ t : Str)⟩ | _=>none⟩
theorem oWS_ok (x : U.O oWS.k) (args : List (SV U)) (r : OR U oWS.k) (h : oWS.C x args = some r) (ho : allP r.ob) : ObcOK E0 38 oWS x args r:=by
 unfold oWS at h
 simp only at h
 split at h
 . rename_i t
   cases h
   refine obc_of rfl fun D w vs ha=>?_
   obtain ⟨v1,r1,rfl,h1,ha⟩:=Rep.tup_cons ha
   obtain rfl:=tup0_inv ha
   cases h1 with | str hl =>
   have hr : ∀ w',Rep U eT (fun _=>none) (fun _=>False) w' (.tuple #[.int .i64 t.length,.nilIface]) (.tup [.int .i64 t.length,.err .nil]):=fun w'=>.tup1 (cs:=[.nilIface]) (.int fun _=>⟨by omega,by omega⟩) (.tup1 (cs:=[]) (.err .nil) .tup0)
   exact ⟨_,hr w,trivial,hr,fun b w1 F hb=>bd_write b x t w1 F hb ho.1⟩
 . cases h
def oSt : OC U:=⟨0,fun (x : Str) a=>match a with | []=>some ⟨[x.length <= 9223372036854775807],[],.str x,x⟩ | _=>none⟩
theorem oSt_ok (x : U.O oSt.k) (args : List (SV U)) (r : OR U oSt.k) (h : oSt.C x args = some r) (ho : allP r.ob) : ObcOK E0 39 oSt x args r:=by
 unfold oSt at h
 simp only at h
 split at h
 . cases h
   refine obc_of rfl fun D w vs ha=>?_
   obtain rfl:=tup0_inv ha
   exact ⟨_,.str ho.1,trivial,fun w'=>.str ho.1,fun b w1 F hb=>bd_string b x w1 F hb⟩
 . cases h
def oRe : OC U:=⟨0,fun (_ : Str) a=>match a with | []=>some ⟨[],[],.tup [],([] : Str)⟩ | _=>none⟩
theorem oRe_ok (x : U.O oRe.k) (args : List (SV U)) (r : OR U oRe.k) (h : oRe.C x args = some r) : ObcOK E0 43 oRe x args r:=by
 unfold oRe at h
 simp only at h
 split at h
 . cases h
   refine obc_of rfl fun D w vs ha=>?_
   obtain rfl:=tup0_inv ha
   exact ⟨_,.tup0,trivial,fun w'=>.tup0,fun b w1 F hb=>bd_reset b x w1 F hb⟩
 . cases h
def oLe : OC U:=⟨0,fun (x : Str) a=>match a with | []=>some ⟨[x.length <= 9223372036854775807],[],.int .i64 x.length,x⟩ | _=>none⟩
theorem oLe_ok (x : U.O oLe.k) (args : List (SV U)) (r : OR U oLe.k) (h : oLe.C x args = some r) (ho : allP r.ob) : ObcOK E0 46 oLe x args r:=by
 unfold oLe at h
 simp only at h
 split at h
 . cases h
   refine obc_of rfl fun D w vs ha=>?_
   obtain rfl:=tup0_inv ha
   have hx : ((List.length (α:=UInt8) x : Nat) : Int) <= 9223372036854775807:=by have:=ho.1; omega
   have hr : ∀ w' : World,Rep U eT (fun _=>none) (fun _=>False) w' (.int .i64 (List.length (α:=UInt8) x)) (.int .i64 (List.length (α:=UInt8) x)):=fun w'=>.int fun _=>⟨by omega,hx⟩
   exact ⟨_,hr w,trivial,hr,fun b w1 F hb=>(bd_len b x w1 F hb).mono fun e w2 ⟨h1,h2⟩=>by subst h2; exact ⟨h1,F,hb,Ext.refl _ _,fun k hk=>.inl hk⟩⟩
 . cases h
theorem rep_bl {ρ : Env1} {Z : Nat -> Prop} {w : World} {b : Bool} {p : Prop} {d : Decidable p} (h : b = @decide p d) : Rep U eT ρ Z w (.bool b) (.bl p d):=by rw [h]; exact .bl
def wAs : WC U:=⟨94,47,fun a x=>match a with | .err e=>some ⟨[],[],.bl (e.num.isSome = true) inferInstance,e.num.getD x⟩ | _=>none⟩
theorem wAs_ok (a : SV U) (x : Int) (r : WR U) (h : wAs.C a x = some r) : WrcOK E0 33 wAs a x r:=by
 unfold wAs at h
 simp only at h
 split at h
 . rename_i e
   cases h
   intro D w v b _ _ hg hv ho hx w1 hs
   have hs':=hs
   obtain ⟨k,rfl⟩:=hs'
   have hg1 : { w with drawn:=k }.cell? ⟨0,0,none⟩ = some errTypeV:=hg.2.2.2
   have ht0 : { w with drawn:=k }.cell? ⟨b,0,none⟩ = some (.int .i64 x):=by rw [Sim.cell hs,Own.cellv ho]; rfl
   have hf0 : { w with drawn:=k }.frozen? ⟨b,0,none⟩ = false:=by unfold Own at ho; simp [World.frozen?,ho]
   have hit : ∀ (m : Int) (W : World),Ext [] { w with drawn:=k } W -> Own (W.setCell ⟨b,0,none⟩ (.int .i64 m)) b 47 [.int .i64 m] /\ Ext [b] w (W.setCell ⟨b,0,none⟩ (.int .i64 m)):=fun m W hW=>by
    have ho1 : Own { w with drawn:=k } b 47 [.int .i64 x]:=ho
    have ho2:=ho1.ext hW (by simp)
    obtain ⟨k1,k2,_⟩:=Own.setCell ho2 0 (.int .i64 m)
    exact ⟨k1,sim_ext hs (hW.trans k2 (fun _ h=>by cases h) (fun _ h=>.inl h))⟩
   have al : ∀ (W : World) (o1 o2 o3 o4 : Obj),Ext [] W ((((W.alloc o1).alloc o2).alloc o3).alloc o4):=fun W o1 o2 o3 o4=>(((ext_alloc (B:=[]) o1).tr (ext_alloc o2)).tr (ext_alloc o3)).tr (ext_alloc o4)
   cases hv with | err hv =>
   cases hv with
   | nil=>exact Calls.mono (as_nil _ _) fun _ w2 ⟨h1,h2⟩=>⟨_,w2,h1,Sim.refl _,by subst h2; exact ⟨sim_ext hs (Ext.refl _ _),ho,hx,rep_bl rfl,trivial⟩⟩
   | @no m hm =>
    refine Calls.mono (asE_no m ⟨b,0,none⟩ (.int .i64 x) _ hg1 ht0 hf0) fun _ w2 ⟨h1,h2⟩=>⟨_,w2,h1,Sim.refl _,?_⟩
    subst h2
    obtain ⟨k1,k2⟩:=hit m _ (al _ _ _ _ _)
    exact ⟨k2,k1,hm,rep_bl rfl,trivial⟩
   | @fault c at_ m hz hc hat hm =>
    refine Calls.mono (asE_fault c m ⟨b,0,none⟩ (.int .i64 x) _ (by rw [Sim.cell hs,Own.cellv hc]; rfl) hg1 ht0 hf0) fun _ w2 ⟨h1,h2⟩=>⟨_,w2,h1,Sim.refl _,?_⟩
    subst h2
    obtain ⟨k1,k2⟩:=hit m _ (al _ _ _ _ _)
    exact ⟨k2,k1,hm,rep_bl rfl,trivial⟩
   | @w t k s m ht hm hk =>
    obtain ⟨rfl,rfl⟩:=wr_val ht
    refine Calls.mono (asE_w134 (sv s) m ⟨b,0,none⟩ (.int .i64 x) _ hg1 ht0 hf0) fun _ w2 ⟨h1,h2⟩=>⟨_,w2,h1,Sim.refl _,?_⟩
    subst h2
    obtain ⟨k1,k2⟩:=hit m _ ((al _ _ _ _ _).tr (ext_alloc _))
    exact ⟨k2,k1,hm,rep_bl rfl,trivial⟩
 . cases h
end Go.Proofs.YtadgfmmmdhlljaaGreatDoor
end
section
namespace Go.Proofs.YtadgfmmmdhlljaaGreatDoor
open Go Go.Wk Go.Wl Go.Rx Go.Fo Go.Li Go.Co Go.Proofs Go.RowKit Go.Extern.Stop Go.Stop Go.Extern
theorem set_after {w w' : World} {T : TypeId} {o1 o2 o3 o4 : Obj} {v0 v : Value} (hw : w' = (((((w.alloc (.cells #[v0] T)).alloc o1).alloc o2).alloc o3).alloc o4).setCell ⟨w.heap.size,0,none⟩ v) : Own w' w.heap.size T [v] /\ Ext [] w w':=by
 subst hw
 have ho1 : Own (w.alloc (.cells #[v0] T)) w.heap.size T [v0]:=by
  show (w.heap.push _)[w.heap.size]? = _
  simp
 have al : Ext [] (w.alloc (.cells #[v0] T)) (((((w.alloc (.cells #[v0] T)).alloc o1).alloc o2).alloc o3).alloc o4):=(((ext_alloc (B:=[]) o1).tr (ext_alloc o2)).tr (ext_alloc o3)).tr (ext_alloc o4)
 obtain ⟨k1,k2,_⟩:=Own.setCell (ho1.ext al (by simp)) 0 v
 exact ⟨k1,((ext_alloc (B:=[]) _).tr al).trans k2 (fun _ h=>by cases h) (fun b hb=>.inr (by rw [List.mem_singleton.1 hb]; exact Nat.le_refl _))⟩
set_option maxHeartbeats 4000000 in
theorem place_nil (w : World) : Calls Tryz.prog 16 #[.nilIface] w fun e w'=>e = .returned (.int .i64 0) /\ Ext [] w w':=by
 go_enter Tryz.func16,Tryz.ntmps16
 go_wp2_with (go_at_call 33; refine (as_nil _ _).mono ?_; rintro e w' ⟨rfl,rfl⟩)
 go_ret
 exact ⟨rfl,ext_alloc _⟩
theorem errType_lt {w : World} (hg : w.cell? ⟨0,0,none⟩ = some errTypeV) : 0 < w.heap.size:=by
 rcases Nat.lt_or_ge 0 w.heap.size with h | h
 . exact h
 . simp [World.cell?,Array.getElem?_eq_none h] at hg
set_option maxHeartbeats 4000000 in
theorem place_no (n : Int) (w : World) (hg : w.cell? ⟨0,0,none⟩ = some errTypeV) : Calls Tryz.prog 16 #[.iface 47 (.int .i64 n)] w fun e w'=>e = .returned (.int .i64 0) /\ Ext [] w w':=by
 have hlt:=errType_lt hg
 have hgA : (w.alloc (.cells #[.pointer none] 71)).cell? ⟨0,0,none⟩ = some errTypeV:=by rw [World.cell?_alloc_lt _ _ ⟨0,0,none⟩ hlt]; exact hg
 have htA : (w.alloc (.cells #[.pointer none] 71)).cell? ⟨w.heap.size,0,none⟩ = some (.pointer none):=by simp
 have hfA : (w.alloc (.cells #[.pointer none] 71)).frozen? ⟨w.heap.size,0,none⟩ = false:=by simp
 go_enter Tryz.func16,Tryz.ntmps16
 go_wp2_with (go_at_call 33; refine (asF_no _ _ (.pointer none) _ hgA htA hfA).mono ?_; rintro e w' ⟨rfl,rfl⟩)
 go_ret
 exact ⟨rfl,((ext_alloc (B:=[]) _).tr (ext_alloc _)).tr ((ext_alloc (B:=[]) _).tr (ext_alloc _))⟩
set_option maxHeartbeats 4000000 in
theorem place_fault (k : Nat) (a : Int) (w : World) (hc : w.cell? ⟨k,0,none⟩ = some (.int .i64 a)) (hg : w.cell? ⟨0,0,none⟩ = some errTypeV) : Calls Tryz.prog 16 #[.iface 71 (.pointer (some ⟨k,0,none⟩))] w fun e w'=>e = .returned (.int .i64 a) /\ Ext [] w w':=by
 have hlt:=errType_lt hg
 have hgA : (w.alloc (.cells #[.pointer none] 71)).cell? ⟨0,0,none⟩ = some errTypeV:=by rw [World.cell?_alloc_lt _ _ ⟨0,0,none⟩ hlt]; exact hg
 have htA : (w.alloc (.cells #[.pointer none] 71)).cell? ⟨w.heap.size,0,none⟩ = some (.pointer none):=by simp
 have hfA : (w.alloc (.cells #[.pointer none] 71)).frozen? ⟨w.heap.size,0,none⟩ = false:=by simp
 go_enter Tryz.func16,Tryz.ntmps16
 go_wp2_with (go_at_call 33; refine (asF_fault ⟨k,0,none⟩ _ (.pointer none) _ hgA htA hfA).mono ?_)
 rintro e w' ⟨rfl,hw⟩
 have hkl : k < w.heap.size:=by
  rcases Nat.lt_or_ge k w.heap.size with h | h
  . exact h
  . simp [World.cell?,Array.getElem?_eq_none h] at hc
 have fin : w'.cell? ⟨w.heap.size,0,none⟩ = some (.pointer (some ⟨k,0,none⟩)) /\ Ext [] w w' /\ w'.cell? ⟨k,0,none⟩ = some (.int .i64 a):=by
  obtain ⟨k1,x3⟩:=set_after hw
  refine ⟨by rw [Own.cellv k1]; rfl,x3,?_⟩
  unfold World.cell?
  rw [x3.block k hkl (by simp)]
  exact hc
 clear hw
 obtain ⟨c1,x3,c2⟩:=fin
 go_wp2
 go_ret
 exact ⟨rfl,x3⟩
set_option maxHeartbeats 4000000 in
theorem place_w (v : Value) (n : Int) (w : World) (hg : w.cell? ⟨0,0,none⟩ = some errTypeV) : Calls Tryz.prog 16 #[.iface 134 (.agg #[v,.int .i64 n])] w fun e w'=>e = .returned (.int .i64 0) /\ Ext [] w w':=by
 have hlt:=errType_lt hg
 have hgA : (w.alloc (.cells #[.pointer none] 71)).cell? ⟨0,0,none⟩ = some errTypeV:=by rw [World.cell?_alloc_lt _ _ ⟨0,0,none⟩ hlt]; exact hg
 have htA : (w.alloc (.cells #[.pointer none] 71)).cell? ⟨w.heap.size,0,none⟩ = some (.pointer none):=by simp
 have hfA : (w.alloc (.cells #[.pointer none] 71)).frozen? ⟨w.heap.size,0,none⟩ = false:=by simp
 go_enter Tryz.func16,Tryz.ntmps16
 go_wp2_with (go_at_call 33; refine (asF_w134 v _ _ (.pointer none) _ hgA htA hfA).mono ?_; rintro e w' ⟨rfl,rfl⟩)
 go_ret
 exact ⟨rfl,(((ext_alloc (B:=[]) _).tr (ext_alloc _)).tr ((ext_alloc (B:=[]) _).tr (ext_alloc _))).tr (ext_alloc _)⟩
def cPl (a : List (SV U)) : Option (Q1 U):=match a with | [.err e]=>some ⟨[],[],.int .i64 e.at_⟩ | _=>none
theorem cPl_ok (args : List (SV U)) (q : Q1 U) (h : cPl args = some q) : LendOK E0 16 args ⟨q.ob,q.hy,q.v,[]⟩:=by
 unfold cPl at h
 split at h
 . rename_i e
   cases h
   intro D w vs _ hg ha w1 hs
   obtain ⟨v1,r1,rfl,h1,ha⟩:=Rep.tup_cons ha
   obtain rfl:=tup0_inv ha
   have hg1 : w1.cell? ⟨0,0,none⟩ = some errTypeV:=by rw [Sim.cell hs]; exact hg.2.2.2
   cases h1 with | err h1 =>
   cases h1 with
   | nil=>exact Calls.mono (place_nil w1) fun _ w2 ⟨h1,h2⟩=>⟨_,w2,h1,Sim.refl _,sim_ext hs h2,.int fun _=>⟨by decide,by decide⟩,trivial⟩
   | @no m hm=>exact Calls.mono (place_no m w1 hg1) fun _ w2 ⟨h1,h2⟩=>⟨_,w2,h1,Sim.refl _,sim_ext hs h2,.int fun _=>⟨by decide,by decide⟩,trivial⟩
   | @fault c at_ m hz hc hat hm=>exact Calls.mono (place_fault c at_ w1 (by rw [Sim.cell hs,Own.cellv hc]; rfl) hg1) fun _ w2 ⟨h1,h2⟩=>⟨_,w2,h1,Sim.refl _,sim_ext hs h2,.int fun _=>hat,trivial⟩
   | @w t k s m ht hm hk =>
    obtain ⟨rfl,rfl⟩:=wr_val ht
    exact Calls.mono (place_w (sv s) m w1 hg1) fun _ w2 ⟨h1,h2⟩=>⟨_,w2,h1,Sim.refl _,sim_ext hs h2,.int fun _=>⟨by decide,by decide⟩,trivial⟩
 . cases h
end Go.Proofs.YtadgfmmmdhlljaaGreatDoor
end
section
namespace Go.Proofs.YtadgfmmmdhlljaaGreatDoor
open Go Go.Wk Go.Wl Go.Rx Go.Fo Go.Li Go.Co 
noncomputable def EL0 : Env:=((((E0.addL 23 cIs).addL 37 cDec).addL 87 cIx).addL 45 cTr).addL 16 cPl
theorem EL0_ok : EnvOK EL0:=((((E0_ok.addL Tryz.call23 (fun a q h _=>cIs_ok a q h)).addL Tryz.call37 (fun a q h _=>cDec_ok a q h)).addL Tryz.call87 cIx_ok).addL Tryz.call45 (fun a q h _=>cTr_ok a q h)).addL Tryz.call16 (fun a q h _=>cPl_ok a q h)
noncomputable def EL : Env:=((((EL0.addO 38 oWS).addO 39 oSt).addO 43 oRe).addO 46 oLe).addW 33 wAs
theorem EL_ok : EnvOK EL:=((((EL0_ok.addO Tryz.call38 oWS_ok).addO Tryz.call39 oSt_ok).addO Tryz.call43 (fun x a r h _=>oRe_ok x a r h)).addO Tryz.call46 oLe_ok).addW Tryz.call33 (fun a x r h _=>wAs_ok a x r h)
def an25 : Nat -> Ann:=fun | 52=>⟨35,fun | 4=>some ⟨[0],[.slot 3 (.int .i64)]⟩ | _=>none,fun  | _=>none⟩ | _=>⟨0,fun _=>none,fun _=>none⟩
def V25 (s : Str) (Q : Int -> Prop) : Prop :=
((5000 : Int) < (↑(List.length s) : Int) -> Q (4 : Int)) /\ (¬(5000 : Int) < (↑(List.length s) : Int) -> ∃ (I : Int -> Prop),∃ (m : Int -> Nat),I (0 : Int) /\ ∀ (x : Int),I x -> (x < (↑(List.length s) : Int) -> (0 : Int) <= x /\ x < (↑(List.length s) : Int) /\ (¬ix s x = 10 -> (0 : Int) <= x) /\ (¬ix s x = 10 -> x < (↑(List.length s) : Int)) /\ (ix s x = 10 ∨ ix s x = 13 -> Q (11 : Int)) /\ (¬(ix s x = 10 ∨ ix s x = 13) -> in64 (x + 1) /\ I (x + 1) /\ m (x + 1) < m x)) /\ (¬x < (↑(List.length s) : Int) -> (¬s = [] -> (0 : Int) <= 0) /\ (¬s = [] -> (0 : Int) < (↑(List.length s) : Int)) /\ (¬(s = [] ∨ ix s (0 : Int) = 32) -> (0 : Int) <= 0) /\ (¬(s = [] ∨ ix s (0 : Int) = 32) -> (0 : Int) < (↑(List.length s) : Int)) /\ ((s = [] ∨ ix s (0 : Int) = 32) ∨ ix s (0 : Int) = 9 -> Q (11 : Int)) /\ (¬((s = [] ∨ ix s (0 : Int) = 32) ∨ ix s (0 : Int) = 9) -> Q (0 : Int))))
theorem V25_ok {s : Str} {Q : Int -> Prop} (h : V25 s Q) : vcFun (E:=EL) (inlN an25 2) (an25 52) Tryz.f52 [.str s] [] [] 0 (resP EL [.int .i64] Q):=Eq.mp (show V25 s Q = vcFun (E:=EL) (inlN an25 2) (an25 52) Tryz.f52 [.str s] [] [] 0 (resP EL [.int .i64] Q) by kernel_rfl) h
theorem any_no {s : Str} (h : ∀ j : Int,0 <= j -> j < s.length -> ¬ (ix s j = 10 ∨ ix s j = 13)) : ¬ s.any ends = true:=fun hh=>by
 obtain ⟨c,hc,he⟩:=List.any_eq_true.1 hh
 obtain ⟨j,hj,rfl⟩:=List.getElem_of_mem hc
 have hx:=h j (by omega) (by omega)
 rw [ix_get (by simp only [Int.toNat_natCast]; exact hj)] at hx
 simp only [Int.toNat_natCast] at hx
 simp only [ends,Bool.or_eq_true,beq_iff_eq] at he
 exact hx he
theorem any_yes {s : Str} {j : Int} (h0 : 0 <= j) (h1 : j < s.length) (h : ix s j = 10 ∨ ix s j = 13) : s.any ends = true:=by
 refine List.any_eq_true.2 ⟨ix s j,by rw [ix_get (by omega)]; exact List.getElem_mem _,?_⟩
 simp only [ends,Bool.or_eq_true,beq_iff_eq]
 exact h
theorem len_pos {α : Type} {s : List α} (h : ¬ s = []) : (0 : Int) < (s.length : Nat):=by
 have:=List.length_pos_iff.2 h; omega
theorem p25 (s : Str)  : V25 s (fun y0=>y0 = rMay s):=by
 unfold V25
 refine ⟨fun h=>by rw [rMay,if_pos (by omega)],fun h=>⟨fun i=>0 <= i /\ i <= s.length /\ ∀ j : Int,0 <= j -> j < i -> ¬ (ix s j = 10 ∨ ix s j = 13),fun i=>((s.length : Int) - i).toNat,⟨by omega,by omega,fun j _ _=>by omega⟩,fun i ⟨h0,h1,h2⟩=>⟨fun hi=>⟨h0,hi,fun _=>h0,fun _=>hi,fun hc=>?_,fun hc=>⟨⟨by omega,by omega⟩,⟨by omega,by omega,fun j j0 j1=>?_⟩,by dsimp only; omega⟩⟩,fun hi=>?_⟩⟩⟩
 . rw [rMay,if_neg (by omega),if_pos (any_yes h0 hi hc)]
 . by_cases e : j = i
   . subst e; exact hc
   . exact h2 j j0 (by omega)
 . have hn : ¬ s.any ends = true:=any_no (fun j j0 j1=>h2 j j0 (by omega))
   refine ⟨fun _=>Int.le_refl _,fun h=>len_pos h,fun _=>Int.le_refl _,fun h=>len_pos (fun e=>h (.inl e)),fun hc=>?_,fun hc=>?_⟩
   . rw [rMay,if_neg (by omega),if_neg hn,if_pos (or_assoc.1 hc)]
   . rw [rMay,if_neg (by omega),if_neg hn,if_neg (fun e=>hc (or_assoc.2 e))]
def c25 (a : List (SV U)) : Option (Q1 U):=match a with | [.str s]=>some ⟨[],[],.int .i64 (rMay s)⟩ | _=>none
theorem c25_ok (args : List (SV U)) (q : Q1 U) (h : c25 args = some q) (ho : allP q.ob) : LendOK EL 52 args ⟨q.ob,q.hy,q.v,[]⟩:=by
 unfold c25 at h
 split at h
 . rename_i s
   cases h
   exact lend1 EL_ok (inlN_ok EL_ok an25 2) Tryz.func52 (k:=.int .i64) (x:=rMay s) trivial (V25_ok (p25 s )) 0
 . cases h
noncomputable def N25 : Env:=EL.addL 52 c25
theorem N25_ok : EnvOK N25:=EL_ok.addL Tryz.call52 c25_ok
def an54 : Nat -> Ann:=fun | 53=>⟨46,fun | 2=>some ⟨[],[.slot 0 .str,.slot 3 (.acc 9)]⟩ | _=>none,fun  | _=>none⟩ | _=>⟨0,fun _=>none,fun _=>none⟩
def V54 (s : Str) (Q : List Str -> Prop) : Prop :=
∃ (I : List UInt8 -> List (List UInt8) -> Prop),∃ (m : List UInt8 -> List (List UInt8) -> Nat),I s [[]] /\ ∀ (x : List UInt8) (x_1 : List (List UInt8)),I x x_1 -> (x ≠ [] -> in64 ((↑x_1.length : Int) - 1) /\ (0 : Int) <= (↑x_1.length : Int) - 1 /\ (↑x_1.length : Int) - 1 < (↑x_1.length : Int) /\ in64 ((↑(ix x_1 ((↑x_1.length : Int) - 1)).length : Int) + (↑(decw x) : Int)) /\ ((75 : Int) < (↑(ix x_1 ((↑x_1.length : Int) - 1)).length : Int) + (↑(decw x) : Int) -> (x_1.length + [([32] : List UInt8)].length) * (some (16 : Nat)).getD (0 : Nat) <= 140737488355328 /\ in64 ((↑x_1.length : Int) - 1 + 1) /\ ((0 : Int) <= (↑x_1.length : Int) - 1 + 1 /\ (↑x_1.length : Int) - 1 + 1 < (↑(x_1 ++ [([32] : List UInt8)]).length : Int)) /\ ((0 : Int) <= (↑(decw x) : Int) /\ (↑(decw x) : Int) <= (↑x.length : Int)) /\ (ix (x_1 ++ [([32] : List UInt8)]) ((↑x_1.length : Int) - 1 + 1)).length + (List.take (↑(decw x) : Int).toNat x).length <= 9223372036854775807 /\ ((0 : Int) <= (↑x_1.length : Int) - 1 + 1 /\ (↑x_1.length : Int) - 1 + 1 < (↑(x_1 ++ [([32] : List UInt8)]).length : Int)) /\ (0 : Int) <= (↑(decw x) : Int) /\ (↑(decw x) : Int) <= (↑x.length : Int) /\ I (List.drop (↑(decw x) : Int).toNat x) ((x_1 ++ [([32] : List UInt8)]).set ((↑x_1.length : Int) - 1 + 1).toNat (ix (x_1 ++ [([32] : List UInt8)]) ((↑x_1.length : Int) - 1 + 1) ++ List.take (↑(decw x) : Int).toNat x)) /\ m (List.drop (↑(decw x) : Int).toNat x) ((x_1 ++ [([32] : List UInt8)]).set ((↑x_1.length : Int) - 1 + 1).toNat (ix (x_1 ++ [([32] : List UInt8)]) ((↑x_1.length : Int) - 1 + 1) ++ List.take (↑(decw x) : Int).toNat x)) < m x x_1) /\ (¬(75 : Int) < (↑(ix x_1 ((↑x_1.length : Int) - 1)).length : Int) + (↑(decw x) : Int) -> ((0 : Int) <= (↑x_1.length : Int) - 1 /\ (↑x_1.length : Int) - 1 < (↑x_1.length : Int)) /\ ((0 : Int) <= (↑(decw x) : Int) /\ (↑(decw x) : Int) <= (↑x.length : Int)) /\ (ix x_1 ((↑x_1.length : Int) - 1)).length + (List.take (↑(decw x) : Int).toNat x).length <= 9223372036854775807 /\ ((0 : Int) <= (↑x_1.length : Int) - 1 /\ (↑x_1.length : Int) - 1 < (↑x_1.length : Int)) /\ (0 : Int) <= (↑(decw x) : Int) /\ (↑(decw x) : Int) <= (↑x.length : Int) /\ I (List.drop (↑(decw x) : Int).toNat x) (x_1.set ((↑x_1.length : Int) - 1).toNat (ix x_1 ((↑x_1.length : Int) - 1) ++ List.take (↑(decw x) : Int).toNat x)) /\ m (List.drop (↑(decw x) : Int).toNat x) (x_1.set ((↑x_1.length : Int) - 1).toNat (ix x_1 ((↑x_1.length : Int) - 1) ++ List.take (↑(decw x) : Int).toNat x)) < m x x_1)) /\ (¬x ≠ [] -> Q x_1)
theorem V54_ok {s : Str} {Q : List Str -> Prop} (h : V54 s Q) : vcFun (E:=N25) (inlN an54 2) (an54 53) Tryz.f53 [.str s] [] [] 0 (resP N25 [.acc 9] Q):=Eq.mp (show V54 s Q = vcFun (E:=N25) (inlN an54 2) (an54 53) Tryz.f53 [.str s] [] [] 0 (resP N25 [.acc 9] Q) by kernel_rfl) h
theorem ix_snoc {α : Type} [Inhabited α] {a : List α} {c : α} {i : Int} (h : i = a.length) : ix (a ++ [c]) i = c:=by
 subst h
 rw [ix_get (by simp)]; simp
theorem set_snoc {α : Type} {a : List α} {c d : α} {i : Int} (h : i = a.length) : (a ++ [c]).set i.toNat d = a ++ [d]:=by
 subst h; simp
theorem take_nat {α : Type} {x : List α} {n : Nat} : List.take ((n : Int)).toNat x = List.take n x:=by rw [Int.toNat_natCast]
theorem p54 (s : Str) (hs : s.length <= 100000) : V54 s (fun y0=>y0 = linesG dec [] s):=by
 unfold V54
 refine ⟨fun x out=>∃ a c,out = a ++ [c] /\ linesG dec [] s = a ++ linesG dec c x /\ a.length + x.length <= s.length /\ c.length <= 75,fun x _=>x.length,⟨[],[],rfl,rfl,by simp,by simp⟩,?_⟩
 rintro x out ⟨a,c,rfl,h1,h2,h3⟩
 have hl : ((a ++ [c]).length : Int) - 1 = a.length:=by simp
 have hl0 : ((a.length + 1 : Nat) : Int) - 1 = a.length:=by omega
 have hl2 : (((a ++ [c]) ++ [[32]]).length : Int) = a.length + 2:=by simp
 have hl3 : (a ++ [c]).length = a.length + 1:=by simp
 have hi : ix (a ++ [c]) (a.length : Int) = c:=ix_snoc rfl
 have hi2 : ix ((a ++ [c]) ++ [[32]]) ((a.length : Int) + 1) = [32]:=ix_snoc (by simp)
 refine ⟨fun hx=>?_,fun hx=>?_⟩
 . have hp : 1 <= decw x:=dec.pos x hx
   have hle : decw x <= x.length:=dec.le x
   have h4 : decw x <= 4:=dec.four x
   have hd : (x.drop (decw x)).length = x.length - decw x:=by simp
   have ht : (x.take (decw x)).length = decw x:=dec.take_len x
   have hs1 : ∀ d,((a ++ [c]) ++ [[32]]).set ((a.length : Int) + 1).toNat d = (a ++ [c]) ++ [d]:=fun d=>set_snoc (by simp)
   have hs2 : ∀ d,(a ++ [c]).set a.length d = a ++ [d]:=fun d=>by simp
   simp only [hl,hl2,hl3,hl0,hi,hi2,take_nat,hs1,hs2,ht,Int.toNat_natCast]
   refine ⟨⟨by omega,by omega⟩,by omega,by omega,⟨by omega,by omega⟩,fun hc=>⟨?_,⟨by omega,by omega⟩,⟨by omega,by omega⟩,⟨by omega,by omega⟩,?_,⟨by omega,by omega⟩,by omega,by omega,⟨a ++ [c],_,rfl,?_,?_,?_⟩,by omega⟩,fun hc=>⟨⟨by omega,by omega⟩,⟨by omega,by omega⟩,?_,⟨by omega,by omega⟩,by omega,by omega,⟨a,_,rfl,?_,?_,?_⟩,by omega⟩⟩
   . simp only [List.length_cons,List.length_nil,Option.getD_some]; omega
   . simp only [List.length_cons,List.length_nil]; omega
   . rw [h1,linesG_new dec hx (by show (75 : Int) < _; exact hc)]; simp [dec]
   . simp only [List.length_append,List.length_cons,List.length_nil]; omega
   . simp only [List.length_append,List.length_cons,List.length_nil]; omega
   . omega
   . rw [h1,linesG_on dec hx (by show ¬ (75 : Int) < _; exact hc)]; rfl
   . omega
   . simp only [List.length_append]; omega
 . have e : x = []:=Classical.not_not.1 hx
   subst e
   rw [h1,linesG_nil]
def c54 (a : List (SV U)) (nx : Nat) : Option (CR U):=match a with | [.str s]=>some ⟨[s.length <= 100000],[],.acc nx,[.ac 9 (linesG dec [] s)]⟩ | _=>none
theorem c54_ok (args : List (SV U)) (nx : Nat) (c : CR U) (h : c54 args nx = some c) (hp : args.all pureS = true) (ho : allP c.ob) : ConOK N25.P N25.N N25.T N25.G 53 args nx c:=by
 unfold c54 at h
 split at h
 . rename_i s
   cases h
   exact con1 N25_ok (inlN_ok N25_ok an54 2) Tryz.func53 (k:=.acc 9) (x:=linesG dec [] s) hp (V54_ok (p54 s ho.1))
 . cases h
noncomputable def N54 : Env:=N25.addC 53 c54
theorem N54_ok : EnvOK N54:=N25_ok.addC Tryz.call53 c54_ok
noncomputable def NI64 : Env:=N54.addI 64 Tryz.f64
theorem NI64_ok : EnvOK NI64:=N54_ok.addI Tryz.call64 Tryz.func64
def an58 : Nat -> Ann:=fun | 44=>⟨13,fun _=>none,fun  | _=>none⟩ | _=>⟨0,fun _=>none,fun _=>none⟩
def V58 (s : Str) (t : Str) (Q : Str -> Str -> Bool -> Prop) : Prop :=
List.length t = 1 /\ ((0 : Int) <= Lib.indexByte s (ix t (0 : Int)) -> (0 : Int) <= Lib.indexByte s (ix t (0 : Int)) /\ Lib.indexByte s (ix t (0 : Int)) <= (↑(List.length s) : Int) /\ in64 (Lib.indexByte s (ix t (0 : Int)) + (↑(List.length t) : Int)) /\ (0 : Int) <= Lib.indexByte s (ix t (0 : Int)) + (↑(List.length t) : Int) /\ Lib.indexByte s (ix t (0 : Int)) + (↑(List.length t) : Int) <= (↑(List.length s) : Int) /\ Q (List.take (Lib.indexByte s (ix t (0 : Int))).toNat s) (List.drop (Lib.indexByte s (ix t (0 : Int)) + (↑(List.length t) : Int)).toNat s) true) /\ (¬(0 : Int) <= Lib.indexByte s (ix t (0 : Int)) -> Q s [] false)
theorem V58_ok {s : Str} {t : Str} {Q : Str -> Str -> Bool -> Prop} (h : V58 s t Q) : vcFun (E:=NI64) (inlN an58 2) (an58 44) Tryz.f44 [.str s,.str t] [] [] 0 (resP NI64 [.str,.str,.bool] Q):=Eq.mp (show V58 s t Q = vcFun (E:=NI64) (inlN an58 2) (an58 44) Tryz.f44 [.str s,.str t] [] [] 0 (resP NI64 [.str,.str,.bool] Q) by kernel_rfl) h
theorem p58 (s : Str) (t : Str) (ht : t = [10]) (hs : s.length <= 100000000) : V58 s t (fun y0 y1 y2=>y0 = hd s /\ y1 = tl s /\ y2 = decide (10 ∈ s)):=by
 subst ht
 unfold V58
 have e : ix ([10] : Str) 0 = 10:=rfl
 rw [e]
 obtain ⟨h1,h2⟩:=index_nl s
 have hlt:=indexByte_lt s 10
 refine ⟨rfl,fun h=>?_,fun h=>?_⟩
 . have hm : (10 : UInt8) ∈ s:=Classical.byContradiction fun hm=>by have:=h2 hm; omega
   obtain ⟨_,h3,h4⟩:=h1 hm
   have el : ((([10] : Str).length : Nat) : Int) = 1:=rfl
   rw [el]
   exact ⟨h,by omega,⟨by omega,by omega⟩,by omega,by omega,h3,h4,(decide_eq_true hm).symm⟩
 . have hm : (10 : UInt8) ∉ s:=fun hm=>by have:=(h1 hm).1; omega
   exact ⟨(hd_all hm).1.symm,(hd_all hm).2.symm,(decide_eq_false hm).symm⟩
def c58 (a : List (SV U)) : Option (Q1 U):=match a with | [.str s,.str t]=>some ⟨[t = [10],s.length <= 100000000],[],.tup [.str (hd s),.str (tl s),blB (decide (10 ∈ s))]⟩ | _=>none
theorem c58_ok (args : List (SV U)) (q : Q1 U) (h : c58 args = some q) (ho : allP q.ob) : LendOK NI64 44 args ⟨q.ob,q.hy,q.v,[]⟩:=by
 unfold c58 at h
 split at h
 . rename_i s t
   cases h
   exact lend3 NI64_ok (inlN_ok NI64_ok an58 2) Tryz.func44 (k1:=.str) (k2:=.str) (k3:=.bool) (x1:=hd s) (x2:=tl s) (x3:=decide (10 ∈ s)) trivial trivial trivial (V58_ok (p58 s t ho.1 ho.2.1)) 0
 . cases h
noncomputable def N58 : Env:=NI64.addL 44 c58
theorem N58_ok : EnvOK N58:=NI64_ok.addL Tryz.call44 c58_ok
end Go.Proofs.YtadgfmmmdhlljaaGreatDoor
end
section
namespace Go.Fo
open Go Go.Wk Go.Wl
theorem rowGo_len (D : Dec) : ∀ (n : Nat) (left : Int) (row : Str),row.length <= n -> (rowGo D left row).length <= 4 * row.length + 2
 | n,left,row,hn=>by
  by_cases h : row = []
  . subst h; rw [rowGo_nil]; simp
  . have hd:=D.drop_lt h
    have hp:=D.pos row h
    have hle:=D.le row
    cases n with
    | zero=>omega
    | succ n =>
     by_cases hl : left < D.w row
     . rw [rowGo_new D h hl]
       have ih:=rowGo_len D n (74 - D.w row) (row.drop (D.w row)) (by omega)
       simp only [List.length_append,List.length_cons,List.length_nil,D.take_len,List.length_drop] at ih ⊢
       omega
     . rw [rowGo_on D h hl]
       have ih:=rowGo_len D n (left - D.w row) (row.drop (D.w row)) (by omega)
       simp only [List.length_append,D.take_len,List.length_drop] at ih ⊢
       omega
theorem take_next {α : Type} [Inhabited α] {L : List α} {k : Int} (h0 : 0 <= k) (h1 : k < L.length) : L.take (k + 1).toNat = L.take k.toNat ++ [ix L k]:=by
 rw [show (k + 1).toNat = k.toNat + 1 by omega,List.take_succ_eq_append_getElem (by omega),ix_get (by omega)]
theorem cat_next {L : List Str} {k : Int} (h0 : 0 <= k) (h1 : k < L.length) : cat (L.take (k + 1).toNat) = cat (L.take k.toNat) ++ ix L k ++ [13,10]:=by
 rw [take_next h0 h1,cat_app]; simp [cat]
theorem cat_take_len {L : List Str} (n : Nat) : (cat (L.take n)).length <= (cat L).length:=by
 have : cat L = cat (L.take n) ++ cat (L.drop n):=by rw [<- cat_app,List.take_append_drop]
 rw [this,List.length_append]; omega
theorem cat_big (L : List Str) : L.length <= (cat L).length:=by
 induction L with
 | nil=>simp
 | cons a r ih=>rw [cat_cons]; simp only [List.length_append,List.length_cons]; omega
theorem mem_of_ix {α : Type} [Inhabited α] {l : List α} {i : Int} (h0 : 0 <= i) (h1 : i < l.length) : ix l i ∈ l:=by
 rw [ix_get (by omega)]; exact List.getElem_mem _
end Go.Fo
end
section
namespace Go.Proofs.YtadgfmmmdhlljaaGreatDoor
open Go Go.Wk Go.Wl Go.Rx Go.Fo Go.Li Go.Co 
def uR (r : Except (Int × Int) (List Row)) : List Row × Int × Int:=match r with | .ok l=>(l,0,0) | .error e=>([],e.1,e.2)
theorem uTop_long {a : Int} {out : List Row} (h : (5000 : Int) < (out.getLastD default).Text.length) : uTop a out = .error (4,a):=by rw [uTop,if_pos (by omega)]
theorem uTop_many {a : Int} {out : List Row} (h : ¬ (5000 : Int) < (out.getLastD default).Text.length) (h2 : (1000 : Int) < out.length) : uTop a out = .error (5,a):=by rw [uTop,if_neg (by omega),if_pos (by omega)]
theorem uTop_ok {a : Int} {out : List Row} (h : ¬ (5000 : Int) < (out.getLastD default).Text.length) (h2 : ¬ (1000 : Int) < out.length) : uTop a out = .ok (out,true):=by rw [uTop,if_neg (by omega),if_neg (by omega)]
def an19 : Nat -> Ann:=fun | 32=>⟨45,fun | 3=>some ⟨[0],[.slot 5 .str,.slot 6 (.int .i64)]⟩ | 10=>some ⟨[0,6,8],[.slot 5 .str,.slot 9 (.int .i64)]⟩ | _=>none,fun  | _=>none⟩ | _=>⟨0,fun _=>none,fun _=>none⟩
def V19 (l : List Str) (Q : Str -> Int -> Int -> Prop) : Prop :=
∃ (I : List UInt8 -> Int -> Prop),∃ (m : List UInt8 -> Int -> Nat),I [] (0 : Int) /\ ∀ (x : List UInt8) (x_1 : Int),I x x_1 -> (x_1 < (↑l.length : Int) -> (0 : Int) <= x_1 /\ x_1 < (↑l.length : Int) /\ (rMay (ix l x_1) ≠ 0 -> in64 (x_1 + 1) /\ Q [] (rMay (ix l x_1)) (x_1 + 1)) /\ (¬rMay (ix l x_1) ≠ 0 -> (0 : Int) <= x_1 /\ x_1 < (↑l.length : Int) /\ (ix l x_1).length <= 100000 /\ ∃ (I_1 : List UInt8 -> Int -> Prop),∃ (m_1 : List UInt8 -> Int -> Nat),I_1 x (0 : Int) /\ ∀ (x_2 : List UInt8) (x_3 : Int),I_1 x_2 x_3 -> (x_3 < (↑(linesG dec [] (ix l x_1)).length : Int) -> (0 : Int) <= x_3 /\ x_3 < (↑(linesG dec [] (ix l x_1)).length : Int) /\ x_2.length + (ix (linesG dec [] (ix l x_1)) x_3).length <= 9223372036854775807 /\ List.length (x_2 ++ ix (linesG dec [] (ix l x_1)) x_3) + ([13,10] : List UInt8).length <= 9223372036854775807 /\ in64 (x_3 + 1) /\ I_1 (x_2 ++ ix (linesG dec [] (ix l x_1)) x_3 ++ ([13,10] : List UInt8)) (x_3 + 1) /\ m_1 (x_2 ++ ix (linesG dec [] (ix l x_1)) x_3 ++ ([13,10] : List UInt8)) (x_3 + 1) < m_1 x_2 x_3) /\ (¬x_3 < (↑(linesG dec [] (ix l x_1)).length : Int) -> in64 (x_1 + 1) /\ I x_2 (x_1 + 1) /\ m x_2 (x_1 + 1) < m x x_1))) /\ (¬x_1 < (↑l.length : Int) -> Q x (0 : Int) (0 : Int))
theorem V19_ok {l : List Str} {Q : Str -> Int -> Int -> Prop} (h : V19 l Q) : vcFun (E:=N58) (inlN an19 2) (an19 32) Tryz.f32 [.sl (N:=U) 9 l] [] [] 0 (resP N58 [.str,.int .i64,.int .i64] Q):=Eq.mp (show V19 l Q = vcFun (E:=N58) (inlN an19 2) (an19 32) Tryz.f32 [.sl (N:=U) 9 l] [] [] 0 (resP N58 [.str,.int .i64,.int .i64] Q) by kernel_rfl) h
theorem p19 (l : List Str) (hs : l.length <= 100000) : V19 l (fun y0 y1 y2=>y0 = (foldS dec l).1 /\ y1 = (foldS dec l).2.1 /\ y2 = (foldS dec l).2.2):=by
 unfold V19
 have key : foldS dec l = foldG dec [] 0 l:=rfl
 generalize foldS dec l = R at key ⊢
 refine ⟨fun x i=>0 <= i /\ i <= l.length /\ (x.length : Int) <= i * 400000 /\ R = foldG dec x i (l.drop i.toNat),fun _ i=>((l.length : Int) - i).toNat,⟨by omega,by omega,by simp,by rw [key]; rfl⟩,?_⟩
 rintro x i ⟨h0,h1,h2,h3⟩
 clear key
 refine ⟨fun hi=>⟨h0,hi,fun hb=>⟨⟨by omega,by omega⟩,?_⟩,fun hb=>⟨h0,hi,?_,?_⟩⟩,fun hi=>?_⟩
 . rw [ix_drop h0 hi] at h3
   rw [h3,foldG,if_neg hb]; exact ⟨rfl,rfl,rfl⟩
 . have:=(rMay_ok (Classical.not_not.1 hb)).1; omega
 . have hb:=Classical.not_not.1 hb
   have hr5:=(rMay_ok hb).1
   rw [ix_drop h0 hi,foldG,if_pos hb] at h3
   generalize ix l i = r at hb hr5 h3 ⊢
   have hcl : (cat (linesG dec [] r)).length <= 20002:=by
    rw [cat_row]; have:=rowGo_len dec _ 75 r (Nat.le_refl _); omega
   rw [<- cat_row] at h3
   have hbig:=cat_big (linesG dec [] r)
   generalize linesG dec [] r = L at hcl hbig h3 ⊢
   refine ⟨fun y k=>0 <= k /\ k <= L.length /\ y = x ++ cat (L.take k.toNat),fun _ k=>((L.length : Int) - k).toNat,⟨by omega,by omega,by simp [cat]⟩,?_⟩
   rintro y k ⟨k0,k1,rfl⟩
   refine ⟨fun hk=>?_,fun hk=>?_⟩
   . have hn:=cat_next k0 hk
     have hb1:=cat_take_len (L:=L) (k + 1).toNat
     have e : x ++ cat (L.take k.toNat) ++ ix L k ++ [13,10] = x ++ cat (L.take (k + 1).toNat):=by rw [hn]; simp
     rw [hn] at hb1
     simp only [List.length_append,List.length_cons,List.length_nil] at hb1 ⊢
     exact ⟨k0,hk,by omega,by omega,⟨by omega,by omega⟩,⟨by omega,by omega,by rw [hn]; simp⟩,by omega⟩
   . have e : L.take k.toNat = L:=List.take_of_length_le (by omega)
     rw [e]
     refine ⟨⟨by omega,by omega⟩,⟨by omega,by omega,?_,h3⟩,by dsimp only; omega⟩
     simp only [List.length_append]; omega
 . rw [drop_all (by omega)] at h3
   rw [h3]; exact ⟨rfl,rfl,rfl⟩
def c19 (a : List (SV U)) : Option (Q1 U):=match a with | [.sl 9 l]=>some ⟨[l.length <= 100000],[],.tup [.str ((foldS dec l).1),.int .i64 ((foldS dec l).2.1),.int .i64 ((foldS dec l).2.2)]⟩ | _=>none
theorem c19_ok (args : List (SV U)) (q : Q1 U) (h : c19 args = some q) (ho : allP q.ob) : LendOK N58 32 args ⟨q.ob,q.hy,q.v,[]⟩:=by
 unfold c19 at h
 split at h
 . rename_i l
   cases h
   exact lend3 N58_ok (inlN_ok N58_ok an19 2) Tryz.func32 (k1:=.str) (k2:=.int .i64) (k3:=.int .i64) (x1:=(foldS dec l).1) (x2:=(foldS dec l).2.1) (x3:=(foldS dec l).2.2) trivial trivial trivial (V19_ok (p19 l ho.1)) 0
 . cases h
noncomputable def N19 : Env:=N58.addL 32 c19
theorem N19_ok : EnvOK N19:=N58_ok.addL Tryz.call32 c19_ok
def an20 : Nat -> Ann:=fun | 10=>⟨15,fun | 4=>some ⟨[0],[.slot 3 (.int .i64)]⟩ | _=>none,fun  | _=>none⟩ | _=>⟨0,fun _=>none,fun _=>none⟩
def V20 (e : Err) (Q : Int -> Prop) : Prop :=
(e = Err.nil -> Q (0 : Int)) /\ (¬e = Err.nil -> ∃ (I : Int -> Prop),∃ (m : Int -> Nat),I (1 : Int) /\ ∀ (x : Int),I x -> (x <= 16 -> (e.is x -> Q x) /\ (¬e.is x -> in64 (x + 1) /\ I (x + 1) /\ m (x + 1) < m x)) /\ (¬x <= 16 -> Q (-1 : Int)))
theorem V20_ok {e : Err} {Q : Int -> Prop} (h : V20 e Q) : vcFun (E:=N19) (inlN an20 2) (an20 10) Tryz.f10 [.err e] [] [] 0 (resP N19 [.int .i64] Q):=Eq.mp (show V20 e Q = vcFun (E:=N19) (inlN an20 2) (an20 10) Tryz.f10 [.err e] [] [] 0 (resP N19 [.int .i64] Q) by kernel_rfl) h
theorem nr_some {e : Err} {n : Int} (h : ¬ e = .nil) (hn : e.num = some n) : e.nr = if 1 <= n /\ n <= 16 then n else -1:=by
 cases e with
 | nil=>exact absurd rfl h
 | _=>unfold Err.nr; simp only [hn]
theorem nr_none {e : Err} (h : ¬ e = .nil) (hn : e.num = none) : e.nr = -1:=by
 cases e with
 | nil=>exact absurd rfl h
 | _=>unfold Err.nr; simp only [hn]
theorem p20 (e : Err)  : V20 e (fun y0=>y0 = e.nr):=by
 unfold V20
 refine ⟨fun h=>by subst h; rfl,fun h=>⟨fun x=>1 <= x /\ x <= 17 /\ ∀ j : Int,1 <= j -> j < x -> ¬ e.is j,fun x=>(17 - x).toNat,⟨by omega,by omega,fun j _ _=>by omega⟩,?_⟩⟩
 rintro x ⟨h0,h1,h2⟩
 refine ⟨fun hx=>⟨fun hi=>?_,fun hi=>⟨⟨by omega,by omega⟩,⟨by omega,by omega,fun j j0 j1=>?_⟩,by dsimp only; omega⟩⟩,fun hx=>?_⟩
 . have hi : e.num = some x:=hi
   rw [nr_some h hi,if_pos ⟨h0,hx⟩]
 . by_cases e1 : j = x
   . subst e1; exact hi
   . exact h2 j j0 (by omega)
 . cases hn : e.num with
   | none=>rw [nr_none h hn]
   | some n=>rw [nr_some h hn,if_neg (fun hh=>h2 n hh.1 (by omega) hn)]
def c20 (a : List (SV U)) : Option (Q1 U):=match a with | [.err e]=>some ⟨[],[],.int .i64 e.nr⟩ | _=>none
theorem c20_ok (args : List (SV U)) (q : Q1 U) (h : c20 args = some q) (ho : allP q.ob) : LendOK N19 10 args ⟨q.ob,q.hy,q.v,[]⟩:=by
 unfold c20 at h
 split at h
 . rename_i e
   cases h
   exact lend1 N19_ok (inlN_ok N19_ok an20 2) Tryz.func10 (k:=.int .i64) (x:=e.nr) trivial (V20_ok (p20 e )) 0
 . cases h
noncomputable def N20 : Env:=N19.addL 10 c20
theorem N20_ok : EnvOK N20:=N19_ok.addL Tryz.call10 c20_ok
end Go.Proofs.YtadgfmmmdhlljaaGreatDoor
end
section
namespace Go.Proofs.YtadgfmmmdhlljaaGreatDoor
open Go Go.Wk Go.Wl Go.Rx Go.Fo Go.Proofs Go.RowKit
theorem ib_none {l : List UInt8} {c : UInt8} (h : ∀ b ∈ l,b ≠ c) : Lib.indexByte l c = -1:=by
 induction l with
 | nil=>rfl
 | cons a r ih =>
  unfold Lib.indexByte
  rw [if_neg (by simpa using h a (by simp)),ih (fun b hb=>h b (by simp [hb]))]
  rfl
set_option maxRecDepth 100000 in
set_option maxHeartbeats 4000000 in
theorem ir_valid (t : ByteArray) (ht : ∀ b ∈ t.data.toList,b.toNat < 128) (hts : t.size <= 1000) (r : Int) (hr : 128 <= r) (h1 : ¬ r = 65533) (hv : Utf8.valid r = true) (w : World) :
  Calls Tryz.prog 99 #[.string t,.int .i32 r] w fun e w'=>e = .returned (.int .i64 (-1)) /\ ∃ k,w' = { w with drawn:=k }:=by
 have n1 : ¬ (r < 128):=by omega
 have n0 : 0 <= r:=by omega
 have hv2 : Lib.validRune r = true:=by rw [<- hv]; exact (Go.validRune_eq r).symm
 obtain ⟨e2,e4,el⟩:=encode_facts r hv hr
 have hcv : ∀ w,(convert 21 9 (.int .i32 r)).run Tryz.prog w = .ok (.string (Utf8.encode r)) w:=fun w=>run_convert_int_string w 21 9 .i32 r (by rw [Tryz.underlying21]; rfl) Tryz.underlying9
 generalize Utf8.encode r = rs at e2 e4 el hcv
 by_cases hlt : rs.size - 1 < t.size
 . have hz1 : ((rs.size : Int) - 1) = ((rs.size - 1 : Nat) : Int):=by omega
   have hlt2 : rs.size - 1 < rs.size:=by omega
   have hne : ¬ (((t[rs.size - 1]'hlt).toNat : Int) = ((rs[rs.size - 1]'hlt2).toNat : Int)):=fun e=>by
    have h1:=ht (t[rs.size - 1]'hlt) (by exact Array.getElem_mem_toList (xs:=t.data) hlt)
    have h2:=el hlt2
    omega
   go_enter Tryz.func99,Tryz.ntmps99
   go_wp2_with (go_at_call 114; refine (Tryz.utf8_ValidRune _ _).mono ?_; rintro e w' ⟨rfl,hw⟩; subst hw; rw [hv2])
   go_step3
   go_wp2
   refine wp_loop_rounds 1 ?_
   rw [rounds_succ]
   go_wp2
   go_step3
   go_wp2
   go_region
   go_wp2
   have hz2 : ((rs.size - 1 : Nat) : Int) + 1 = ((rs.size : Nat) : Int):=by omega
   have hix : Lib.indexByte (List.take (t.size - rs.size) (List.drop rs.size t.data.toList)) (rs[rs.size - 1]'hlt2) = -1:=by
    refine ib_none (fun b hb=>?_)
    have h1:=ht b (List.mem_of_mem_drop (List.mem_of_mem_take hb))
    have h2:=el hlt2
    intro e
    rw [e] at h1
    omega
   have hb1 : (((rs.size - 1 : Nat) : Int) + 1 <= (t.size : Int)):=by omega
   have hb2 : rs.size - 1 + 1 <= t.size:=by omega
   have hb3 : rs.size <= t.size:=by omega
   have hb4 : (rs.size : Int) <= (t.size : Int):=by omega
   have hwr : IntKind.i64.wrap (rs.size : Int) = (rs.size : Int):=wrap_small _ (by omega) (by omega)
   go_region_with (first | (go_at_call 109; refine (Tryz.strings_IndexByte _ _ _).mono ?_; rintro e w' ⟨rfl,hw⟩; rw [hw]))
   subst hw
   go_wp2
   rw [Exit.noGoto_ret]
   go_wp2
   rw [Exit.noGoto_ret]
   go_ret
   exact ⟨rfl,_,rfl⟩
 . have hc : ¬ ((rs.size : Int) - 1 < (t.size : Int)):=by omega
   go_enter Tryz.func99,Tryz.ntmps99
   go_wp2_with (go_at_call 114; refine (Tryz.utf8_ValidRune _ _).mono ?_; rintro e w' ⟨rfl,hw⟩; subst hw; rw [hv2])
   go_step3
   go_wp2
   refine wp_loop_rounds 1 ?_
   rw [rounds_succ]
   go_wp2
   rw [Exit.noGoto_ret]
   go_ret
   exact ⟨rfl,_,rfl⟩
end Go.Proofs.YtadgfmmmdhlljaaGreatDoor
end
section
namespace Go.Proofs.YtadgfmmmdhlljaaGreatDoor
open Go Go.Wk Go.Wl Go.Rx Go.Fo Go.Proofs Go.RowKit
theorem Ext.iter (w : World) (s : ByteArray) (p : Nat) : Ext [] w (w.iter s p):=⟨rfl,rfl,rfl,by show _ <= (w.heap.push _).size; rw [Array.size_push]; omega,fun b hb _=>by
 show (w.heap.push _)[b]? = _
 rw [Array.getElem?_push,if_neg (by omega)]⟩
set_option maxRecDepth 100000 in
set_option maxHeartbeats 4000000 in
theorem ir_err (t : ByteArray) (ht : ∀ b ∈ t.data.toList,b.toNat < 128) (w : World) :
  Calls Tryz.prog 99 #[.string t,.int .i32 65533] w fun e w'=>e = .returned (.int .i64 (-1)) /\ Ext [] w w':=by
 have HA : Aside (∀ b ∈ t.data.toList,b.toNat < 128):=ht
 clear ht
 go_enter Tryz.func99,Tryz.ntmps99
 go_wp2
 go_loopg [5,6] t.size (fun g _ _ wx=>∃ i : Nat,i + g = t.size /\ wx = w.iter t i)
 case atStart=>exact ⟨0,by omega,rfl⟩
 case round =>
  obtain ⟨i,hig,rfl⟩:=hrel
  cases gk with
  | zero =>
   obtain rfl : i = t.size:=by omega
   have hnx:=run_next_end (P:=Tryz.prog) w t t.size
   go_wp2
   go_ret
   exact ⟨rfl,Ext.iter _ _ _⟩
  | succ g =>
   have hi : i < t.size:=by omega
   have hx128 : (t[i]'hi).toNat < 128:=HA.out _ (by exact Array.getElem_mem_toList (xs:=t.data) hi)
   have hnx:=fun ty=>run_next_ascii (P:=Tryz.prog) w t i ty hi hx128
   generalize (t[i]'hi).toNat = x at hx128 hnx
   have hne : ¬ ((x : Int) = 65533):=by omega
   go_wp2
   go_roundg g
   case measure=>omega
   case rel=>exact ⟨i + 1,by omega,rfl⟩
set_option maxRecDepth 100000 in
set_option maxHeartbeats 4000000 in
theorem ir_inv (t : ByteArray) (r : Int) (hr : 128 <= r) (h1 : ¬ r = 65533) (hv : Utf8.valid r = false) (w : World) :
  Calls Tryz.prog 99 #[.string t,.int .i32 r] w fun e w'=>e = .returned (.int .i64 (-1)) /\ ∃ k,w' = { w with drawn:=k }:=by
 have n1 : ¬ (r < 128):=by omega
 have n0 : 0 <= r:=by omega
 have hv2 : Lib.validRune r = false:=by rw [<- hv]; exact (Go.validRune_eq r).symm
 go_enter Tryz.func99,Tryz.ntmps99
 go_wp2_with (go_at_call 114; refine (Tryz.utf8_ValidRune _ _).mono ?_; rintro e w' ⟨rfl,hw⟩; subst hw; rw [hv2])
 go_ret
 exact ⟨rfl,_,rfl⟩
theorem Ext.drawn (w : World) (k : Nat) : Ext [] w { w with drawn:=k }:=⟨rfl,rfl,rfl,Nat.le_refl _,fun _ _ _=>rfl⟩
theorem ir_any (t : ByteArray) (ht : ∀ b ∈ t.data.toList,b.toNat < 128) (hts : t.size <= 1000) (r : Int) (hr : 128 <= r) (w : World) :
  Calls Tryz.prog 99 #[.string t,.int .i32 r] w fun e w'=>e = .returned (.int .i64 (-1)) /\ Ext [] w w':=by
 by_cases h1 : r = 65533
 . subst h1; exact ir_err t ht w
 . cases hv : Utf8.valid r
   . exact (ir_inv t r hr h1 hv w).mono fun e w' ⟨h,k,hk⟩=>⟨h,by subst hk; exact Ext.drawn _ _⟩
   . exact (ir_valid t ht hts r hr h1 hv w).mono fun e w' ⟨h,k,hk⟩=>⟨h,by subst hk; exact Ext.drawn _ _⟩
end Go.Proofs.YtadgfmmmdhlljaaGreatDoor
end
section
namespace Go.Proofs.YtadgfmmmdhlljaaGreatDoor
open Go Go.Wk Go.Wl Go.Rx Go.Fo Go.Proofs Go.RowKit
theorem next_any {P : Program} (wx : World) (p : Nat) (s : ByteArray) (pos : Nat) (ty : TypeId) (hp : wx.heap[p]? = some (.stringIter s pos)) (h : pos < s.size) :
  (Instr.next (.pointer (some ⟨p,0,none⟩)) true ty).run P wx =
   .ok (.tuple #[.bool true,.int .i64 pos,.int .i32 (Utf8.decode s pos).1]) { wx with heap:=wx.heap.setIfInBounds p (.stringIter s (pos + (Utf8.decode s pos).2)) }:=by
 simp only [Instr.next,getObj,setObj,Sem.run_bind,Sem.run,hp,Result.andThen,h,if_true]
 simp [goInt]
theorem next_end {P : Program} (wx : World) (p : Nat) (s : ByteArray) (pos : Nat) (ty : TypeId) (hp : wx.heap[p]? = some (.stringIter s pos)) (h : ¬ pos < s.size) :
  (Instr.next (.pointer (some ⟨p,0,none⟩)) true ty).run P wx = .ok (.tuple #[.bool false]) wx:=by
 simp [Instr.next,getObj,Sem.run,hp,h]
def At (w : World) (s : ByteArray) (i : Nat) (wx : World) : Prop:=wx.heap[w.heap.size]? = some (.stringIter s i) /\ Ext [] w wx
theorem At.start (w : World) (s : ByteArray) : At w s 0 (w.iter s 0):=⟨World.iter_heap _ _ _,Ext.iter _ _ _⟩
theorem At.step {w : World} {s : ByteArray} {i : Nat} {wx : World} (h : At w s i wx) (j : Nat) : At w s j { wx with heap:=wx.heap.setIfInBounds w.heap.size (.stringIter s j) }:=by
 obtain ⟨h1,h2⟩:=h
 have hl : w.heap.size < wx.heap.size:=by
  apply Classical.byContradiction
  intro hc
  rw [Array.getElem?_eq_none (by omega)] at h1
  cases h1
 refine ⟨?_,h2.os,h2.tape,h2.output,by simpa using h2.size,fun b hb hB=>?_⟩
 . simp [hl]
 . show (wx.heap.setIfInBounds _ _)[b]? = _
   rw [Array.getElem?_setIfInBounds_ne (by omega)]
   exact h2.block b hb hB
theorem At.ext {w : World} {s : ByteArray} {i : Nat} {wx wy : World} (h : At w s i wx) (e : Ext [] wx wy) : At w s i wy:=by
 obtain ⟨h1,h2⟩:=h
 have hl : w.heap.size < wx.heap.size:=by
  apply Classical.byContradiction
  intro hc
  rw [Array.getElem?_eq_none (by omega)] at h1
  cases h1
 exact ⟨by rw [e.block _ hl (by simp)]; exact h1,e.os.trans h2.os,e.tape.trans h2.tape,e.output.trans h2.output,by have:=h2.size; have:=e.size; omega,fun b hb hB=>by rw [e.block b (by omega) hB]; exact h2.block b hb hB⟩
theorem decode_pos (s : ByteArray) (i : Nat) (h : i < s.size) : 1 <= (Utf8.decode s i).2:=by
 by_cases ha : (s[i]'h).toNat < 128
 . rw [decode_ascii s i h ha]; exact Nat.le_refl _
 . exact (decode_high s i h (by omega)).2
theorem get_list {s : ByteArray} {j : Nat} {b : UInt8} (h : s.data.toList[j]? = some b) : s.get! j = b:=by
 have hj : j < s.size:=by
  have:=(List.getElem?_eq_some_iff.1 h).1
  rw [Lib.size_eq]; exact this
 have:=get_at s j hj
 rw [Nat.add_zero] at this
 rw [this]
 have e:=Lib.data_getElem? s j hj
 rw [e] at h
 exact Option.some.inj h
theorem decode_skip_aux (s : ByteArray) (i : Nat) (h : i < s.size) (ha : 128 <= (s[i]'h).toNat) : i + (Utf8.decode s i).2 <= s.size /\ ∀ k,k < (Utf8.decode s i).2 -> 128 <= (s.get! (i + k)).toNat:=by
 have h0 : 128 <= (s.get! (i + 0)).toNat:=by rw [get_at s i h]; exact ha
 have hn : ¬ (s.get! (i + 0)).toNat < 128:=by omega
 simp only [Utf8.decode,hn,if_false]
 have key : ∀ k,((decide (i + k < s.size) && (s.get! (i + k)).toNat / 64 == 2) = true) -> i + k < s.size /\ 128 <= (s.get! (i + k)).toNat:=fun k hk=>by
  simp only [Bool.and_eq_true,decide_eq_true_eq,beq_iff_eq] at hk
  exact ⟨hk.1,by omega⟩
 repeat' split
 all_goals rename_i c1 c2
 all_goals try simp only [Bool.and_eq_true] at c1
 all_goals try simp only [Bool.and_eq_true] at c2
 all_goals first
  | (refine ⟨h,fun k hk=>?_⟩; obtain rfl : k = 0:=(by have : k < 1:=hk; omega); exact h0)
  | (simp only [beq_iff_eq,decide_eq_true_eq] at c1; refine ⟨by show i + 2 <= s.size; omega,fun k hk=>?_⟩; have hk2 : k < 2:=hk; clear hk; rcases (by omega : k = 0 ∨ k = 1) with rfl | rfl <;> omega)
  | (simp only [beq_iff_eq,decide_eq_true_eq] at c1; refine ⟨by show i + 3 <= s.size; omega,fun k hk=>?_⟩; have hk2 : k < 3:=hk; clear hk; rcases (by omega : k = 0 ∨ k = 1 ∨ k = 2) with rfl | rfl | rfl <;> omega)
  | (simp only [beq_iff_eq,decide_eq_true_eq] at c1; refine ⟨by show i + 4 <= s.size; omega,fun k hk=>?_⟩; have hk2 : k < 4:=hk; clear hk; rcases (by omega : k = 0 ∨ k = 1 ∨ k = 2 ∨ k = 3) with rfl | rfl | rfl | rfl <;> omega)
theorem decode_skip (s : ByteArray) (i : Nat) (h : i < s.size) (ha : 128 <= (s[i]'h).toNat) : i + (Utf8.decode s i).2 <= s.size /\ ∀ j b,i <= j -> j < i + (Utf8.decode s i).2 -> s.data.toList[j]? = some b -> 128 <= b.toNat:=by
 obtain ⟨h1,h2⟩:=decode_skip_aux s i h ha
 refine ⟨h1,fun j b hij hj hb=>?_⟩
 have:=h2 (j - i) (by omega)
 rw [show i + (j - i) = j by omega,get_list hb] at this
 exact this
theorem noAny_skip {s : ByteArray} {cs : List UInt8} {i : Nat} (hcs : ∀ b ∈ cs,b.toNat < 128) (h : i < s.size) (ha : 128 <= (s[i]'h).toNat) (hno : Lib.NoAny s.data.toList cs i) : Lib.NoAny s.data.toList cs (i + (Utf8.decode s i).2):=by
 intro j b hj hb
 by_cases hji : j < i
 . exact hno j b hji hb
 . have h2:=(decode_skip s i h ha).2 j b (by omega) hj hb
   cases hc : cs.contains b
   . rfl
   . have:=hcs b (by simpa using hc)
     omega
set_option maxRecDepth 1000000 in
set_option maxHeartbeats 8000000 in
theorem ia_short (s chars : ByteArray) (w : World) (h2 : 2 <= chars.size) (hch : chars.size <= 1000) (h8 : s.size <= 8) (hascii : ∀ b ∈ chars.data.toList,b.toNat < 128) :
  Calls Tryz.prog 85 #[.string s,.string chars] w fun e w'=>e = .returned (.int .i64 (Lib.indexAny s.data.toList chars.data.toList)) /\ Ext [] w w':=by
 have HA : Aside (∀ b ∈ chars.data.toList,b.toNat < 128):=hascii
 clear hascii
 have hemp : chars.toList.isEmpty = false:=by
  rw [Lib.toList_data]
  cases h : chars.data.toList with
  | nil=>have:=Lib.size_eq chars; rw [h,List.length_nil] at this; omega
  | cons _ _=>rfl
 have hn1 : ((chars.size : Int) == 1) = false:=beq_eq_false_iff_ne.2 (by omega)
 have h8z : decide ((8 : Int) < (s.size : Int)) = false:=decide_eq_false (by omega)
 go_enter Tryz.func85,Tryz.ntmps85
 go_wp2_with (go_at_call 100; refine (Tryz.strings_shouldUseASCIISet _ _).mono ?_; rintro e w' ⟨rfl,hw⟩; rw [hw,h8z])
 go_loopg [9,10] s.size (fun g _ _ wx=>∃ i : Nat,i + g = s.size /\ At w s i wx /\ Lib.NoAny s.data.toList chars.data.toList i)
 case atStart=>exact ⟨0,by omega,At.start _ _,Lib.NoAny.zero _ _⟩
 case round =>
  obtain ⟨i,hig,hat,hno⟩:=hrel
  have HN : Aside (Lib.NoAny s.data.toList chars.data.toList i):=hno
  clear hno
  cases gk with
  | zero =>
   obtain rfl : i = s.size:=by omega
   have hnx:=fun ty=>next_end (P:=Tryz.prog) _ w.heap.size s s.size ty hat.1 (by omega)
   go_wp2
   go_ret
   exact ⟨by rw [Lib.indexAny_none (by rw [<- Lib.size_eq]; exact HN.out)]; rfl,hat.2⟩
  | succ g =>
   have hi : i < s.size:=by omega
   have hnx:=fun ty=>next_any (P:=Tryz.prog) _ w.heap.size s i ty hat.1 hi
   by_cases hx128 : (s[i]'hi).toNat < 128
   . rw [decode_ascii s i hi hx128] at hnx
     obtain ⟨x,hx⟩ : ∃ x : UInt8,s[i]'hi = x:=⟨_,rfl⟩
     have hxl : s.data.toList[i]? = some x:=by rw [<- hx]; exact Lib.data_getElem? s i hi
     rw [hx] at hnx hx128
     have Hx : Aside (s.data.toList[i]? = some x):=hxl
     have HT : Aside (At w s i _):=hat
     clear hxl hx hat
     have hcon:=Lib.contains_iff_indexByte chars.data.toList x
     have hback : ((x.toNat : Int)).toNat.toUInt8 = x:=by simp
     cases hin : chars.data.toList.contains x
     . rw [hin] at hcon
       have hlt : ¬ ((0 : Int) <= Lib.indexByte chars.data.toList x):=of_decide_eq_false hcon.symm
       clear hcon
       go_wp2_with (go_at_call 99; refine (Tryz.strings_IndexRune_ascii _ _ _ (by omega) (by omega)).mono ?_; rintro e w' ⟨rfl,hw⟩; rw [hw,hback])
       go_roundg g
       case measure=>omega
       case rel=>exact ⟨i + 1,by omega,HT.out.step _,HN.out.succ Hx.out hin⟩
     . rw [hin] at hcon
       have hge : (0 : Int) <= Lib.indexByte chars.data.toList x:=of_decide_eq_true hcon.symm
       clear hcon
       go_wp2_with (go_at_call 99; refine (Tryz.strings_IndexRune_ascii _ _ _ (by omega) (by omega)).mono ?_; rintro e w' ⟨rfl,hw⟩; rw [hw,hback])
       go_ret
       exact ⟨by rw [Lib.indexAny_hit HN.out Hx.out hin]; rfl,(HT.out.step _).2⟩
   . have hr:=(decode_high s i hi (by omega)).1
     have hsk:=noAny_skip HA.out hi (by omega) HN.out
     have hsz:=(decode_skip s i hi (by omega)).1
     have hps:=decode_pos s i hi
     generalize Utf8.decode s i = d at hnx hr hsk hsz hps
     obtain ⟨r,n⟩:=d
     have HS : Aside (Lib.NoAny s.data.toList chars.data.toList (i + n)):=hsk
     have HT : Aside (At w s i _):=hat
     clear hsk hat
     go_wp2_with (go_at_call 99; refine (ir_any chars HA.out hch _ (by show (128 : Int) <= (r : Int); exact_mod_cast hr) _).mono ?_; rintro e w' ⟨rfl,hw⟩)
     go_roundg (s.size - (i + n))
     case measure=>omega
     case rel=>exact ⟨i + n,by omega,(HT.out.step _).ext hw,HS.out⟩
end Go.Proofs.YtadgfmmmdhlljaaGreatDoor
end
section
namespace Go.Proofs.YtadgfmmmdhlljaaGreatDoor
open Go Go.Wk Go.Wl Go.Rx Go.Fo Go.Proofs Go.RowKit
theorem zv181 (w : World) : (zeroValue 161).run Tryz.prog w = .ok (.agg (Array.replicate 256 (.bool false))) w:=run_zero (by kernel_rfl) w
theorem Ext.alloc2 (w : World) (a b : Obj) : Ext [] w ((w.alloc a).alloc b):=⟨rfl,rfl,rfl,by show _ <= ((w.heap.push _).push _).size; rw [Array.size_push,Array.size_push]; omega,fun b hb _=>by
 show ((w.heap.push _).push _)[b]? = _
 rw [Array.getElem?_push,if_neg (by simp; omega),Array.getElem?_push,if_neg (by omega)]⟩
theorem ia_all (s chars : ByteArray) (w : World) (h2 : 2 <= chars.size) (hch : chars.size <= 1000) (hs : s.size <= 4000000000) (hascii : ∀ b ∈ chars.data.toList,b.toNat < 128) :
  Calls Tryz.prog 85 #[.string s,.string chars] w fun e w'=>e = .returned (.int .i64 (Lib.indexAny s.data.toList chars.data.toList)) /\ Ext [] w w':=by
 by_cases h8 : s.size <= 8
 . exact ia_short s chars w h2 hch h8 hascii
 . exact (Tryz.strings_IndexAny_long zv181 s chars w h2 (by omega) (by omega) (by omega) fun j b hb=>hascii b (List.mem_of_getElem? hb)).mono fun e w' ⟨h,k⟩=>⟨h,by subst k; exact Ext.alloc2 _ _ _⟩
theorem indexAny_any (t : List UInt8) : ∀ s : List UInt8,decide (0 <= Lib.indexAny s t) = s.any fun c=>t.contains c
 | []=>rfl
 | b :: l=>by
  have ih:=indexAny_any t l
  have hg:=Lib.indexAny_ge t l
  unfold Lib.indexAny
  rw [List.any_cons,<- ih]
  cases t.contains b
  . simp only [Bool.false_eq_true,if_false,Bool.false_or,beq_iff_eq]
    apply decide_eq_decide.2
    split <;> omega
  . rfl
set_option maxRecDepth 1000000 in
set_option maxHeartbeats 8000000 in
theorem ca_all (s chars : ByteArray) (w : World) (h2 : 2 <= chars.size) (hch : chars.size <= 1000) (hs : s.size <= 4000000000) (hascii : ∀ b ∈ chars.data.toList,b.toNat < 128) :
  Calls Tryz.prog 61 #[.string s,.string chars] w fun e w'=>e = .returned (.bool (s.data.toList.any fun c=>chars.data.toList.contains c)) /\ Ext [] w w':=by
 rw [<- indexAny_any]
 go_enter Tryz.func61,Tryz.ntmps61
 go_wp2_with (go_at_call 85; refine (ia_all _ _ _ h2 hch hs hascii).mono ?_; rintro e w' ⟨rfl,hw⟩)
 go_ret
 exact ⟨rfl,hw⟩
#print axioms ca_all
end Go.Proofs.YtadgfmmmdhlljaaGreatDoor
end
section
namespace Go.Proofs.YtadgfmmmdhlljaaGreatDoor
open Go Go.Wk Go.Wl Go.Rx Go.Fo Go.Li Go.Co Go.Proofs
theorem rep_blB {x : Bool} {Z : Nat -> Prop} {w : World} : Rep U eT (fun _=>none) Z w (.bool x) (blB x):=by
 have e : x = decide (x = true):=by cases x <;> rfl
 have r : Rep U eT (fun _=>none) Z w (.bool (decide (x = true))) (blB x):=.bl
 rwa [<- e] at r
def cCA (a : List (SV U)) : Option (Q1 U):=match a with | [.str s,.str t]=>some ⟨[s.length <= 4000000000,t = [13,10] ∨ t = [59,58,44]],[],blB (s.any fun c=>t.contains c)⟩ | _=>none
theorem cCAU (args : List (SV U)) (q : Q1 U) (h : cCA args = some q) (ho : allP q.ob) : LendU 61 args q:=by
 unfold cCA at h
 split at h
 . rename_i s t
   cases h
   obtain ⟨hs,ht,-⟩:=ho
   refine lend_ext fun D w vs ha=>⟨.bool (s.any fun c=>t.contains c),fun w'=>rep_blB,trivial,fun w1 hs1=>?_⟩
   obtain ⟨v1,r1,rfl,h1,ha⟩:=Rep.tup_cons ha
   obtain ⟨v2,r2,rfl,h2,ha⟩:=Rep.tup_cons ha
   obtain rfl:=tup0_inv ha
   cases h1 with | str hl1 =>
   cases h2 with | str hl2 =>
   have h2 : 2 <= t.length /\ t.length <= 1000 /\ ∀ b ∈ t,b.toNat < 128:=by rcases ht with rfl | rfl <;> decide
   exact Calls.mono (ca_all ⟨s.toArray⟩ ⟨t.toArray⟩ w1 h2.1 h2.2.1 hs h2.2.2) fun e w2 ⟨h3,h4⟩=>⟨h3,h4⟩
 . cases h
end Go.Proofs.YtadgfmmmdhlljaaGreatDoor
end
section
namespace Go.Proofs.YtadgfmmmdhlljaaGreatDoor
open Go Go.Wk Go.Wl Go.Rx Go.Fo Go.Li Go.Co 
theorem cCA_ok (args : List (SV U)) (q : Q1 U) (h : cCA args = some q) (ho : allP q.ob) : LendOK E0 61 args ⟨q.ob,q.hy,q.v,[]⟩:=(cCAU args q h ho).ok0
noncomputable def NCA : Env:=N20.addL 61 cCA
theorem NCA_ok : EnvOK NCA:=N20_ok.addL Tryz.call61 cCA_ok
def an49 : Nat -> Ann:=fun | 36=>⟨26,fun _=>none,fun  | _=>none⟩ | _=>⟨0,fun _=>none,fun _=>none⟩
def V49 (s : Str) (Q : Err -> Prop) : Prop :=
((5000 : Int) < (↑(List.length s) : Int) -> Q (Err.no (4 : Int))) /\ (¬(5000 : Int) < (↑(List.length s) : Int) -> (¬s = [] -> (0 : Int) <= 0) /\ (¬s = [] -> (0 : Int) < (↑(List.length s) : Int)) /\ (¬(s = [] ∨ ix s (0 : Int) = 32) -> (0 : Int) <= 0) /\ (¬(s = [] ∨ ix s (0 : Int) = 32) -> (0 : Int) < (↑(List.length s) : Int)) /\ (¬((s = [] ∨ ix s (0 : Int) = 32) ∨ ix s (0 : Int) = 9) -> List.length s <= 4000000000) /\ (¬((s = [] ∨ ix s (0 : Int) = 32) ∨ ix s (0 : Int) = 9) -> ([13,10] : List UInt8) = ([13,10] : List UInt8) ∨ ([13,10] : List UInt8) = ([59,58,44] : List UInt8)) /\ (((s = [] ∨ ix s (0 : Int) = 32) ∨ ix s (0 : Int) = 9) ∨ (List.any s fun (c : UInt8)=>([13,10] : List UInt8).contains c) = true -> Q (Err.no (11 : Int))) /\ (¬(((s = [] ∨ ix s (0 : Int) = 32) ∨ ix s (0 : Int) = 9) ∨ (List.any s fun (c : UInt8)=>([13,10] : List UInt8).contains c) = true) -> Q Err.nil))
theorem V49_ok {s : Str} {Q : Err -> Prop} (h : V49 s Q) : vcFun (E:=NCA) (inlN an49 2) (an49 36) Tryz.f36 [.str s] [] [] 0 (resP NCA [.err] Q):=Eq.mp (show V49 s Q = vcFun (E:=NCA) (inlN an49 2) (an49 36) Tryz.f36 [.str s] [] [] 0 (resP NCA [.err] Q) by kernel_rfl) h
def mayE (s : Str) : Err:=if rMay s = 0 then .nil else .no (rMay s)
theorem mayE_bare (s : Str) : mayE s = .nil ∨ ∃ n,mayE s = .no n:=by unfold mayE; split; (exact .inl rfl); exact .inr ⟨_,rfl⟩
theorem any_ends (s : Str) : (s.any fun (c : UInt8)=>[(13 : UInt8),10].contains c) = s.any ends:=by
 congr 1
 funext c
 simp only [ends,List.contains_cons,List.contains_nil,Bool.or_false]
 rw [Bool.or_comm]
theorem p49 (s : Str)  : V49 s (fun y0=>y0 = mayE s):=by
 unfold V49
 rw [any_ends]
 refine ⟨fun h=>?_,fun h=>⟨fun _=>Int.le_refl _,fun h=>len_pos h,fun _=>Int.le_refl _,fun h=>len_pos (fun e=>h (.inl e)),fun _=>by omega,fun _=>.inl rfl,fun hc=>?_,fun hc=>?_⟩⟩
 . have e : rMay s = 4:=by rw [rMay,if_pos (by omega)]
   unfold mayE; rw [e,if_neg (by decide)]
 . have e : rMay s = 11:=by
     rw [rMay,if_neg (by omega)]
     by_cases ha : s.any ends = true
     . rw [if_pos ha]
     . rw [if_neg ha,if_pos (or_assoc.1 (hc.resolve_right ha))]
   unfold mayE; rw [e,if_neg (by decide)]
 . have e : rMay s = 0:=by rw [rMay,if_neg (by omega),if_neg (fun ha=>hc (.inr ha)),if_neg (fun hh=>hc (.inl (or_assoc.2 hh)))]
   unfold mayE; rw [e,if_pos rfl]
def c49 (a : List (SV U)) : Option (Q1 U):=match a with | [.str s]=>some ⟨[],[],.err (mayE s)⟩ | _=>none
theorem c49_ok (args : List (SV U)) (q : Q1 U) (h : c49 args = some q) (ho : allP q.ob) : LendOK NCA 36 args ⟨q.ob,q.hy,q.v,[]⟩:=by
 unfold c49 at h
 split at h
 . rename_i s
   cases h
   exact lend1 NCA_ok (inlN_ok NCA_ok an49 2) Tryz.func36 (k:=.err) (x:=mayE s) (mayE_bare s) (V49_ok (p49 s )) 0
 . cases h
noncomputable def N49 : Env:=NCA.addL 36 c49
theorem N49_ok : EnvOK N49:=NCA_ok.addL Tryz.call36 c49_ok
def an18 : Nat -> Ann:=fun | 22=>⟨59,fun | 3=>some ⟨[4,11,12],[.slot 13 (.int .i64),.ob 4 0]⟩ | 11=>some ⟨[4,11,12,13],[.slot 6 .str,.slot 8 (.int .i64),.ob 4 0]⟩ | _=>none,fun  | _=>none⟩ | _=>⟨0,fun _=>none,fun _=>none⟩
def V18 (l : List Str) (Q : Str -> Err -> Prop) : Prop :=
∃ (I : Int -> List UInt8 -> Prop),∃ (m : Int -> List UInt8 -> Nat),I (0 : Int) [] /\ ∀ (x : Int) (x_1 : List UInt8),I x x_1 -> (x < (↑l.length : Int) -> (0 : Int) <= x /\ x < (↑l.length : Int) /\ ((mayE (ix l x)).is (4 : Int) -> in64 (x + 1) /\ Q [] (Err.fault (x + 1) (4 : Int))) /\ (¬(mayE (ix l x)).is (4 : Int) -> (mayE (ix l x) ≠ Err.nil -> in64 (x + 1) /\ Q [] (Err.fault (x + 1) (11 : Int))) /\ (¬mayE (ix l x) ≠ Err.nil -> ∃ (I_1 : List UInt8 -> Int -> List UInt8 -> Prop),∃ (m_1 : List UInt8 -> Int -> List UInt8 -> Nat),I_1 (ix l x) (75 : Int) x_1 /\ ∀ (x_2 : List UInt8) (x_3 : Int) (x_4 : List UInt8),I_1 x_2 x_3 x_4 -> (x_2 ≠ [] -> (x_3 < (↑(decw x_2) : Int) -> x_4.length + ([13,10,32] : List UInt8).length <= 140737488355328 /\ (0 : Int) <= (↑(decw x_2) : Int) /\ (↑(decw x_2) : Int) <= (↑x_2.length : Int) /\ List.length (x_4 ++ ([13,10,32] : List UInt8)) + (List.take (↑(decw x_2) : Int).toNat x_2).length <= 140737488355328 /\ (0 : Int) <= (↑(decw x_2) : Int) /\ (↑(decw x_2) : Int) <= (↑x_2.length : Int) /\ in64 ((74 : Int) - (↑(decw x_2) : Int)) /\ I_1 (List.drop (↑(decw x_2) : Int).toNat x_2) ((74 : Int) - (↑(decw x_2) : Int)) (x_4 ++ ([13,10,32] : List UInt8) ++ List.take (↑(decw x_2) : Int).toNat x_2) /\ m_1 (List.drop (↑(decw x_2) : Int).toNat x_2) ((74 : Int) - (↑(decw x_2) : Int)) (x_4 ++ ([13,10,32] : List UInt8) ++ List.take (↑(decw x_2) : Int).toNat x_2) < m_1 x_2 x_3 x_4) /\ (¬x_3 < (↑(decw x_2) : Int) -> (0 : Int) <= (↑(decw x_2) : Int) /\ (↑(decw x_2) : Int) <= (↑x_2.length : Int) /\ x_4.length + (List.take (↑(decw x_2) : Int).toNat x_2).length <= 140737488355328 /\ (0 : Int) <= (↑(decw x_2) : Int) /\ (↑(decw x_2) : Int) <= (↑x_2.length : Int) /\ in64 (x_3 - (↑(decw x_2) : Int)) /\ I_1 (List.drop (↑(decw x_2) : Int).toNat x_2) (x_3 - (↑(decw x_2) : Int)) (x_4 ++ List.take (↑(decw x_2) : Int).toNat x_2) /\ m_1 (List.drop (↑(decw x_2) : Int).toNat x_2) (x_3 - (↑(decw x_2) : Int)) (x_4 ++ List.take (↑(decw x_2) : Int).toNat x_2) < m_1 x_2 x_3 x_4)) /\ (¬x_2 ≠ [] -> x_4.length + ([13,10] : List UInt8).length <= 140737488355328 /\ in64 (x + 1) /\ I (x + 1) (x_4 ++ ([13,10] : List UInt8)) /\ m (x + 1) (x_4 ++ ([13,10] : List UInt8)) < m x x_1)))) /\ (¬x < (↑l.length : Int) -> x_1.length <= 9223372036854775807 /\ Q x_1 Err.nil)
theorem V18_ok {l : List Str} {Q : Str -> Err -> Prop} (h : V18 l Q) : vcFun (E:=N49) (inlN an18 2) (an18 22) Tryz.f22 [.sl (N:=U) 9 l] [] [] 0 (resP N49 [.str,.err] Q):=Eq.mp (show V18 l Q = vcFun (E:=N49) (inlN an18 2) (an18 22) Tryz.f22 [.sl (N:=U) 9 l] [] [] 0 (resP N49 [.str,.err] Q) by kernel_rfl) h
def foldE (R : Str × Int × Int) : Err:=if R.2.1 = 0 then .nil else .fault R.2.2 R.2.1
theorem mayE_is4 {s : Str} (h : (mayE s).is 4) : rMay s = 4:=by
 unfold mayE at h
 split at h
 . cases h
 . exact Option.some.inj h
theorem mayE_no {s : Str} (h : ¬ (mayE s).is 4) (h2 : mayE s ≠ .nil) : rMay s = 11:=by
 unfold mayE at h h2
 split at h2
 . exact absurd rfl h2
 . rename_i h0
   rw [if_neg h0] at h
   rcases rMay_cases s with e | e | e
   . exact absurd e h0
   . exact absurd (by rw [e]; rfl) h
   . exact e
theorem mayE_nil {s : Str} (h : ¬ mayE s ≠ .nil) : rMay s = 0:=by
 have h:=Classical.not_not.1 h
 unfold mayE at h
 split at h
 . assumption
 . cases h
theorem p18 (l : List Str) (hs : l.length <= 100000) : V18 l (fun y0 y1=>y0 = (foldS dec l).1 /\ y1 = foldE (foldS dec l)):=by
 unfold V18
 have key : foldS dec l = foldG dec [] 0 l:=rfl
 generalize foldS dec l = R at key ⊢
 refine ⟨fun i x=>0 <= i /\ i <= l.length /\ (x.length : Int) <= i * 400000 /\ R = foldG dec x i (l.drop i.toNat),fun i _=>((l.length : Int) - i).toNat,⟨by omega,by omega,by simp,by rw [key]; rfl⟩,?_⟩
 rintro i x ⟨h0,h1,h2,h3⟩
 clear key
 refine ⟨fun hi=>⟨h0,hi,fun hb=>⟨⟨by omega,by omega⟩,?_⟩,fun hb=>⟨fun hc=>⟨⟨by omega,by omega⟩,?_⟩,fun hc=>?_⟩⟩,fun hi=>⟨by omega,?_⟩⟩
 . have e:=mayE_is4 hb
   rw [ix_drop h0 hi,foldG,if_neg (by rw [e]; decide),e] at h3
   rw [h3]; exact ⟨rfl,rfl⟩
 . have e:=mayE_no hb hc
   rw [ix_drop h0 hi,foldG,if_neg (by rw [e]; decide),e] at h3
   rw [h3]; exact ⟨rfl,rfl⟩
 . have e:=mayE_nil hc
   have hr5:=(rMay_ok e).1
   rw [ix_drop h0 hi,foldG,if_pos e] at h3
   generalize ix l i = r at e hr5 h3 ⊢
   refine ⟨fun y left z=>x ++ rowGo dec 75 r = z ++ rowGo dec left y /\ z.length + 4 * y.length <= x.length + 4 * r.length /\ 0 <= left /\ left <= 75,fun y _ _=>y.length,⟨rfl,by omega,by omega,by omega⟩,?_⟩
   rintro y left z ⟨k1,k2,k3,k4⟩
   refine ⟨fun hy=>?_,fun hy=>?_⟩
   . have hp : 1 <= decw y:=dec.pos y hy
     have hle : decw y <= y.length:=dec.le y
     have h4 : decw y <= 4:=dec.four y
     have ht : (y.take (decw y)).length = decw y:=dec.take_len y
     simp only [Int.toNat_natCast]
     refine ⟨fun hc=>⟨?_,by omega,by omega,?_,by omega,by omega,⟨by omega,by omega⟩,⟨?_,?_,by omega,by omega⟩,?_⟩,fun hc=>⟨by omega,by omega,?_,by omega,by omega,⟨by omega,by omega⟩,⟨?_,?_,by omega,by omega⟩,?_⟩⟩
     . simp only [List.length_cons,List.length_nil]; omega
     . simp only [List.length_append,List.length_cons,List.length_nil,ht]; omega
     . rw [k1,rowGo_new dec hy (by show left < (decw y : Int); exact hc)]; simp [dec]
     . simp only [List.length_append,List.length_cons,List.length_nil,ht,List.length_drop]; omega
     . simp only [List.length_drop]; omega
     . rw [ht]; omega
     . rw [k1,rowGo_on dec hy (by show ¬ left < (decw y : Int); exact hc)]; simp [dec]
     . simp only [List.length_append,ht,List.length_drop]; omega
     . simp only [List.length_drop]; omega
   . have hy:=Classical.not_not.1 hy
     subst hy
     rw [rowGo_nil] at k1
     simp only [List.length_nil] at k2
     refine ⟨?_,⟨by omega,by omega⟩,⟨by omega,by omega,?_,by rw [<- k1]; exact h3⟩,by dsimp only; omega⟩
     . simp only [List.length_cons,List.length_nil]; omega
     . simp only [List.length_append,List.length_cons,List.length_nil]; omega
 . rw [drop_all (by omega)] at h3
   rw [h3]; exact ⟨rfl,rfl⟩
def c18 (a : List (SV U)) (nx : Nat) : Option (CR U):=match a with | [.sl 9 l]=>some ⟨[List.length (α:=Str) l <= 100000],[],.tup [.str ((foldS dec l).1),.err (foldE (foldS dec l))],[]⟩ | _=>none
theorem c18_ok (args : List (SV U)) (nx : Nat) (c : CR U) (h : c18 args nx = some c) (hp : args.all pureS = true) (ho : allP c.ob) : ConOK N49.P N49.N N49.T N49.G 22 args nx c:=by
 unfold c18 at h
 split at h
 . rename_i l
   cases h
   exact con2 N49_ok (inlN_ok N49_ok an18 2) Tryz.func22 (k1:=.str) (k2:=.err) (x1:=(foldS dec l).1) (x2:=foldE (foldS dec l)) rfl hp (V18_ok (p18 l ho.1))
 . cases h
noncomputable def N18 : Env:=N49.addC 22 c18
theorem N18_ok : EnvOK N18:=N49_ok.addC Tryz.call22 c18_ok
noncomputable def NI42 : Env:=N18.addI 42 Tryz.f42
theorem NI42_ok : EnvOK NI42:=N18_ok.addI Tryz.call42 Tryz.func42
def an22 : Nat -> Ann:=fun | 24=>⟨89,fun | 6=>some ⟨[4,5,6,7],[.slot 0 .str,.slot 8 (.int .i64),.own 4 [(.acc 55)],.ob 5 0,.own 6 [.bool]]⟩ | _=>none,fun | 11=>some ⟨[4,5,6,7,8,10],[.slot 9 .str]⟩ | 24=>some ⟨[0,4,5,6,7,8],[.slot 12 .err,.own 4 [(.acc 55)],.ob 5 0,.own 6 [.bool]]⟩ | _=>none⟩ | 42=>⟨12,fun _=>none,fun  | _=>none⟩ | _=>⟨0,fun _=>none,fun _=>none⟩
def V22 (s : Str) (Q : List Row -> Err -> Prop) : Prop :=
∃ (I : List UInt8 -> Int -> List Row -> List UInt8 -> Bool -> Prop),∃ (m : List UInt8 -> Int -> List Row -> List UInt8 -> Bool -> Nat),I s (1 : Int) [] [] false /\ ∀ (x : List UInt8) (x_1 : Int) (x_2 : List Row) (x_3 : List UInt8) (x_4 : Bool),I x x_1 x_2 x_3 x_4 -> (x ≠ [] -> ([10] : List UInt8) = ([10] : List UInt8) /\ x.length <= 100000000 /\ ∃ (J : List UInt8 -> Prop),(((↑(List.length (hd x)) : Int) < (↑x.length : Int) -> J (Lib.trimSuffix (hd x) ([13] : List UInt8))) /\ (¬(↑(List.length (hd x)) : Int) < (↑x.length : Int) -> J (hd x))) /\ ∀ (x_5 : List UInt8),J x_5 -> ∃ (J : Err -> List Row -> List UInt8 -> Bool -> Prop),((x_5 = [] -> (x_4 = true -> in64 ((↑x_2.length : Int) - 1) /\ x_3.length <= 9223372036854775807 /\ ((0 : Int) <= (↑x_2.length : Int) - 1 /\ (↑x_2.length : Int) - 1 < (↑x_2.length : Int)) /\ J Err.nil (x_2.set ((↑x_2.length : Int) - 1).toNat (Row.mk (ix x_2 ((↑x_2.length : Int) - 1)).At x_3)) [] false) /\ (¬x_4 = true -> J Err.nil x_2 [] false)) /\ (¬x_5 = [] -> (0 : Int) <= 0 /\ (0 : Int) < (↑x_5.length : Int) /\ (¬ix x_5 (0 : Int) = 32 -> (0 : Int) <= 0) /\ (¬ix x_5 (0 : Int) = 32 -> (0 : Int) < (↑x_5.length : Int)) /\ (ix x_5 (0 : Int) = 32 ∨ ix x_5 (0 : Int) = 9 -> (0 : Int) <= 1 /\ (1 : Int) <= (↑x_5.length : Int) /\ x_3.length + (List.drop (Int.toNat (1 : Int)) x_5).length <= 140737488355328 /\ (¬x_4 = true -> J (Err.no (11 : Int)) x_2 (x_3 ++ List.drop (Int.toNat (1 : Int)) x_5) (decide (x_4 = true))) /\ (¬¬x_4 = true -> J Err.nil x_2 (x_3 ++ List.drop (Int.toNat (1 : Int)) x_5) (decide (x_4 = true)))) /\ (¬(ix x_5 (0 : Int) = 32 ∨ ix x_5 (0 : Int) = 9) -> (x_4 = true -> in64 ((↑x_2.length : Int) - 1) /\ x_3.length <= 9223372036854775807 /\ ((0 : Int) <= (↑x_2.length : Int) - 1 /\ (↑x_2.length : Int) - 1 < (↑x_2.length : Int)) /\ ((x_2.set ((↑x_2.length : Int) - 1).toNat (Row.mk (ix x_2 ((↑x_2.length : Int) - 1)).At x_3)).length + [Row.mk x_1 []].length) * (some (24 : Nat)).getD (0 : Nat) <= 140737488355328 /\ ([] : List UInt8).length + x_5.length <= 140737488355328 /\ J Err.nil (x_2.set ((↑x_2.length : Int) - 1).toNat (Row.mk (ix x_2 ((↑x_2.length : Int) - 1)).At x_3) ++ [Row.mk x_1 []]) ([] ++ x_5) true) /\ (¬x_4 = true -> (x_2.length + [Row.mk x_1 []].length) * (some (24 : Nat)).getD (0 : Nat) <= 140737488355328 /\ ([] : List UInt8).length + x_5.length <= 140737488355328 /\ J Err.nil (x_2 ++ [Row.mk x_1 []]) ([] ++ x_5) true)))) /\ ∀ (x_6 : Err) (x_7 : List Row) (x_8 : List UInt8) (x_9 : Bool),J x_6 x_7 x_8 x_9 -> (x_6.num.isSome = true -> Q [] (Err.fault x_1 (x_6.num.getD (0 : Int)))) /\ (¬x_6.num.isSome = true -> x_8.length <= 9223372036854775807 /\ ((5000 : Int) < (↑x_8.length : Int) -> Q [] (Err.fault x_1 (4 : Int))) /\ (¬(5000 : Int) < (↑x_8.length : Int) -> ((1000 : Int) < (↑x_7.length : Int) -> Q [] (Err.fault x_1 (5 : Int))) /\ (¬(1000 : Int) < (↑x_7.length : Int) -> in64 (x_1 + 1) /\ I (tl x) (x_1 + 1) x_7 x_8 (decide (x_9 = true)) /\ m (tl x) (x_1 + 1) x_7 x_8 (decide (x_9 = true)) < m x x_1 x_2 x_3 x_4)))) /\ (¬x ≠ [] -> (x_4 = true -> in64 ((↑x_2.length : Int) - 1) /\ x_3.length <= 9223372036854775807 /\ ((0 : Int) <= (↑x_2.length : Int) - 1 /\ (↑x_2.length : Int) - 1 < (↑x_2.length : Int)) /\ Q (x_2.set ((↑x_2.length : Int) - 1).toNat (Row.mk (ix x_2 ((↑x_2.length : Int) - 1)).At x_3)) Err.nil) /\ (¬x_4 = true -> Q x_2 Err.nil))
theorem V22_ok {s : Str} {Q : List Row -> Err -> Prop} (h : V22 s Q) : vcFun (E:=NI42) (inlN an22 2) (an22 24) Tryz.f24 [.str s] [] [] 0 (resP NI42 [.acc 55,.err] Q):=Eq.mp (show V22 s Q = vcFun (E:=NI42) (inlN an22 2) (an22 24) Tryz.f24 [.str s] [] [] 0 (resP NI42 [.acc 55,.err] Q) by kernel_rfl) h
def uE (r : Except (Int × Int) (List Row)) : Err:=match r with | .ok _=>.nil | .error e=>.fault e.2 e.1
def topGo (r : List Str) (a : Int) (out : List Row) : Except (Int × Int) (List Row):=match uTop a out with | .error e=>.error e | .ok q=>uGo r (a + 1) q.1 q.2
theorem uGo_top {l : Str} {r : List Str} {a : Int} {out out' : List Row} {o : Bool} (h : uStep a l out o = uTop a out') : uGo (l :: r) a out o = topGo r a out':=by rw [uGo,h]; rfl
theorem lastSet_eq {out : List Row} {t : Str} (h : out ≠ []) : out.set ((out.length : Int) - 1).toNat (Row.mk (ix out ((out.length : Int) - 1)).At t) = lastSet out t:=by
 have hp:=len_pos h
 unfold lastSet
 rw [show ((out.length : Int) - 1).toNat = out.length - 1 by omega]
theorem lastSet_text {out : List Row} {t : Str} (h : out ≠ []) : ((lastSet out t).getLastD default).Text = t:=by
 obtain ⟨a,x,rfl⟩:=snoc h
 rw [lastSet_snoc,getLastD_snoc]
theorem lastAdd_lastSet {out : List Row} {t d : Str} (h : out ≠ []) : lastAdd (lastSet out t) d = lastSet out (t ++ d):=by
 obtain ⟨a,x,rfl⟩:=snoc h
 rw [lastSet_snoc,lastAdd_snoc,lastSet_snoc]
theorem hd_lt {s : Str} (h : 10 ∈ s) : (hd s).length < s.length:=by
 obtain ⟨h1,h2,_⟩:=(index_nl s).1 h
 have h3:=indexByte_lt s 10
 rw [<- h2,List.length_take]; omega
theorem trimR_len (l : Str) : (trimR l).length <= l.length:=by
 unfold trimR
 split
 . rw [List.length_dropLast]; omega
 . exact Nat.le_refl _
theorem p22 (s : Str) (hs : s.length <= 30000000) : V22 s (fun y0 y1=>y0 = (uR (unfoldS s)).1 /\ y1 = uE (unfoldS s)):=by
 unfold V22
 have key : unfoldS s = uGo (linesOf s) 1 [] false:=rfl
 generalize unfoldS s = R at key ⊢
 refine ⟨fun x a out long o=>1 <= a /\ a + x.length <= s.length + 1 /\ out.length <= 1000 /\ long.length <= 5000 /\ (o = true -> out ≠ []) /\ (o = false -> long = []) /\ R = uGo (linesOf x) a (cur out long o) o,fun x _ _ _ _=>x.length,⟨by omega,by omega,by simp,by simp,fun h=>(by cases h),fun _=>rfl,key⟩,?_⟩
 rintro x a out long o ⟨h0,h1,h2,h3,h4,h5,h6⟩
 clear key
 refine ⟨fun hx=>⟨rfl,by omega,fun line=>linesOf x = line :: linesOf (tl x) /\ line.length <= x.length,⟨fun hc=>?_,fun hc=>?_⟩,?_⟩,fun hx=>?_⟩
 . have hm : (10 : UInt8) ∈ x:=Classical.byContradiction fun hm=>by rw [(hd_all hm).1] at hc; omega
   refine ⟨by rw [linesOf_cons hx,if_pos hm,trim13],?_⟩
   rw [trim13]
   have:=trimR_len (hd x); omega
 . have hm : (10 : UInt8) ∉ x:=fun hm=>by have:=hd_lt hm; omega
   exact ⟨by rw [linesOf_cons hx,if_neg hm,(hd_all hm).1],by rw [(hd_all hm).1]; exact Nat.le_refl _⟩
 . rintro line ⟨hl,hll⟩
   rw [hl] at h6
   have htl:=tl_lt hx
   clear hl
   generalize tl x = x' at h6 htl ⊢
   refine ⟨fun e o' l' p'=>(e = .no 11 /\ R = .error (11,a)) ∨ (e = .nil /\ o'.length <= 1001 /\ l'.length <= 90000000 /\ (p' = false -> l' = [] /\ o'.length <= 1000 /\ R = uGo (linesOf x') (a + 1) o' false) /\ (p' = true -> o' ≠ [] /\ R = topGo (linesOf x') a (lastSet o' l'))),⟨fun hE=>⟨fun ho=>?_,fun ho=>?_⟩,fun hN=>?_⟩,?_⟩
   . have hne:=h4 ho
     have hp:=len_pos hne
     rw [lastSet_eq hne]
     subst ho
     refine ⟨⟨by omega,by omega⟩,by omega,⟨by omega,by omega⟩,.inr ⟨rfl,by rw [lastSet_len]; omega,by simp,fun _=>⟨rfl,by rw [lastSet_len]; exact h2,?_⟩,fun h=>(by cases h)⟩⟩
     rw [h6,uGo_ok (show uStep a line (cur out long true) true = .ok (lastSet out long,false) by rw [uStep,if_pos hE]; rfl)]
   . have ho : o = false:=by simpa using ho
     subst ho
     refine .inr ⟨rfl,by omega,by simp,fun _=>⟨rfl,h2,?_⟩,fun h=>(by cases h)⟩
     rw [h6,uGo_ok (show uStep a line (cur out long false) false = .ok (out,false) by rw [uStep,if_pos hE]; rfl)]
   . have hp:=len_pos hN
     refine ⟨by omega,hp,fun _=>by omega,fun _=>hp,fun hsp=>⟨by omega,by omega,?_,fun ho=>?_,fun ho=>?_⟩,fun hsp=>⟨fun ho=>?_,fun ho=>?_⟩⟩
     . rw [List.length_drop]; omega
     . have ho : o = false:=by simpa using ho
       subst ho
       exact .inl ⟨rfl,by rw [h6,uGo_err (show uStep a line (cur out long false) false = .error (11,a) by rw [uStep,if_neg hN,if_pos (show spTab line from hsp),if_neg (by simp)])]⟩
     . have ho : o = true:=Classical.not_not.1 ho
       have hne:=h4 ho
       subst ho
       have e1 : Int.toNat (1 : Int) = 1:=rfl
       rw [e1]
       refine .inr ⟨rfl,by omega,by rw [List.length_append,List.length_drop]; omega,fun h=>(by cases h),fun _=>⟨hne,?_⟩⟩
       rw [h6]
       refine uGo_top ?_
       rw [uStep,if_neg hN,if_pos (show spTab line from hsp),if_pos rfl]
       show uTop a (lastAdd (lastSet out long) _) = _
       rw [lastAdd_lastSet hne]
     . have hne:=h4 ho
       have hpo:=len_pos hne
       subst ho
       rw [lastSet_eq hne]
       refine ⟨⟨by omega,by omega⟩,by omega,⟨by omega,by omega⟩,?_,?_,.inr ⟨rfl,?_,?_,fun h=>(by cases h),fun _=>⟨by simp,?_⟩⟩⟩
       . simp only [lastSet_len,List.length_cons,List.length_nil,Option.getD_some]; omega
       . simp only [List.length_nil]; omega
       . simp only [List.length_append,lastSet_len,List.length_cons,List.length_nil]; omega
       . simp only [List.nil_append]; omega
       . rw [h6,lastSet_snoc]
         refine uGo_top ?_
         rw [uStep,if_neg hN,if_neg (show ¬ spTab line from hsp)]; rfl
     . have ho : o = false:=by simpa using ho
       subst ho
       refine ⟨?_,?_,.inr ⟨rfl,?_,?_,fun h=>(by cases h),fun _=>⟨by simp,?_⟩⟩⟩
       . simp only [List.length_cons,List.length_nil,Option.getD_some]; omega
       . simp only [List.length_nil]; omega
       . simp only [List.length_append,List.length_cons,List.length_nil]; omega
       . simp only [List.nil_append]; omega
       . rw [h6,lastSet_snoc]
         refine uGo_top ?_
         rw [uStep,if_neg hN,if_neg (show ¬ spTab line from hsp)]; rfl
   . rintro e o' l' p' (⟨rfl,hR⟩ | ⟨rfl,k1,k2,k3,k4⟩)
     . refine ⟨fun _=>by rw [hR]; exact ⟨rfl,rfl⟩,fun h=>absurd rfl h⟩
     . refine ⟨fun h=>absurd h (by decide),fun _=>⟨by omega,fun h5'=>?_,fun h5'=>⟨fun h6'=>?_,fun h6'=>⟨⟨by omega,by omega⟩,?_,htl⟩⟩⟩⟩
       . have hp : p' = true:=by
           cases p' with
           | false=>rw [(k3 rfl).1] at h5'; simp at h5'
           | true=>rfl
         obtain ⟨hne,hR⟩:=k4 hp
         rw [hR,topGo,uTop_long (by rw [lastSet_text hne]; exact h5')]; exact ⟨rfl,rfl⟩
       . have hp : p' = true:=by
           cases p' with
           | false=>have:=(k3 rfl).2.1; omega
           | true=>rfl
         obtain ⟨hne,hR⟩:=k4 hp
         rw [hR,topGo,uTop_many (by rw [lastSet_text hne]; exact h5') (by rw [lastSet_len]; exact h6')]; exact ⟨rfl,rfl⟩
       . cases p' with
         | false =>
          obtain ⟨e1,_,hR⟩:=k3 rfl
          exact ⟨by omega,by omega,by omega,by omega,fun h=>(by cases h),fun _=>e1,hR⟩
         | true =>
          obtain ⟨hne,hR⟩:=k4 rfl
          rw [topGo,uTop_ok (by rw [lastSet_text hne]; exact h5') (by rw [lastSet_len]; exact h6')] at hR
          exact ⟨by omega,by omega,by omega,by omega,fun _=>hne,fun h=>(by cases h),hR⟩
 . have hx:=Classical.not_not.1 hx
   subst hx
   rw [linesOf_nil] at h6
   refine ⟨fun ho=>?_,fun ho=>?_⟩
   . have hne:=h4 ho
     have hpo:=len_pos hne
     subst ho
     rw [lastSet_eq hne]
     refine ⟨⟨by omega,by omega⟩,by omega,⟨by omega,by omega⟩,?_⟩
     rw [h6]; exact ⟨rfl,rfl⟩
   . have ho : o = false:=by simpa using ho
     subst ho
     rw [h6]; exact ⟨rfl,rfl⟩
def c22 (a : List (SV U)) (nx : Nat) : Option (CR U):=match a with | [.str s]=>some ⟨[List.length (α:=UInt8) s <= 30000000],[],.tup [.acc nx,.err (uE (unfoldS s))],[.ac 55 ((uR (unfoldS s)).1)]⟩ | _=>none
theorem c22_ok (args : List (SV U)) (nx : Nat) (c : CR U) (h : c22 args nx = some c) (hp : args.all pureS = true) (ho : allP c.ob) : ConOK NI42.P NI42.N NI42.T NI42.G 24 args nx c:=by
 unfold c22 at h
 split at h
 . rename_i s
   cases h
   exact con2 NI42_ok (inlN_ok NI42_ok an22 2) Tryz.func24 (k1:=.acc 55) (k2:=.err) (x1:=(uR (unfoldS s)).1) (x2:=uE (unfoldS s)) rfl hp (V22_ok (p22 s ho.1))
 . cases h
noncomputable def N22 : Env:=NI42.addC 24 c22
theorem N22_ok : EnvOK N22:=NI42_ok.addC Tryz.call24 c22_ok
end Go.Proofs.YtadgfmmmdhlljaaGreatDoor
end
section
namespace Go.Li
open Go Go.Wk Go.Wl
def letterB (c : UInt8) : Bool:=(decide (65 <= c) && decide (c <= 90)) || (decide (97 <= c) && decide (c <= 122)) || (decide (48 <= c) && decide (c <= 57)) || c == 45
def standsB (c : UInt8) : Bool:=c == 9 || (decide (32 <= c) && c != 127)
def upB (c : UInt8) : UInt8:=if 97 <= c /\ c <= 122 then c - 32 else c
def upper (s : Str) : Str:=s.map upB
def said : Str -> Str
 | []=>[]
 | [c]=>[c]
 | c :: d :: r=>if c = 94 /\ d = 110 then 10 :: said r else if c = 94 /\ d = 39 then 34 :: said r else if c = 94 /\ d = 94 then 94 :: said r else c :: said (d :: r)
def escB (c : UInt8) : Str:=if c = 94 then [94,94] else if c = 34 then [94,39] else if c = 10 then [94,110] else [c]
def esc (v : Str) : Str:=v.flatMap escB
def quoteB (c : UInt8) : Bool:=c == 59 || c == 58 || c == 44
def told (v : Str) : Str:=if v.any quoteB = true then 34 :: (esc v ++ [34]) else esc v
theorem said_cons {c : UInt8} (h : c ≠ 94) (r : Str) : said (c :: r) = c :: said r:=by
 cases r with
 | nil=>rfl
 | cons d r=>rw [said,if_neg (fun e=>h e.1),if_neg (fun e=>h e.1),if_neg (fun e=>h e.1)]
theorem said_esc : ∀ v : Str,said (esc v) = v
 | []=>rfl
 | c :: v=>by
  have ih:=said_esc v
  have e : esc (c :: v) = escB c ++ esc v:=by simp [esc]
  rw [e]
  unfold escB
  split
  . rename_i h; subst h
    show said (94 :: 94 :: esc v) = _
    rw [said,if_neg (by decide),if_neg (by decide),if_pos (by decide),ih]
  . split
    . rename_i _ h; subst h
      show said (94 :: 39 :: esc v) = _
      rw [said,if_neg (by decide),if_pos (by decide),ih]
    . split
      . rename_i _ _ h; subst h
        show said (94 :: 110 :: esc v) = _
        rw [said,if_pos (by decide),ih]
      . rename_i h _ _
        show said (c :: esc v) = _
        rw [said_cons h,ih]
def pName (s : Str) : Option (Str × Str):=if s.takeWhile letterB = [] then none else some (upper (s.takeWhile letterB),s.dropWhile letterB)
def plainB (c : UInt8) : Bool:=standsB c && !(c == 34 || c == 59 || c == 58 || c == 44)
def inB (c : UInt8) : Bool:=standsB c && c != 34
def hdIs (c : UInt8) : Str -> Option Str
 | d :: r=>if d = c then some r else none
 | []=>none
theorem hdIs_len {c : UInt8} {s r : Str} (h : hdIs c s = some r) : r.length < s.length:=by
 cases s with
 | nil=>cases h
 | cons d t =>
  by_cases e : d = c
  . simp only [hdIs,if_pos e,Option.some.injEq] at h
    subst h; simp
  . simp only [hdIs,if_neg e] at h
    cases h
theorem hdIs_cons (c : UInt8) (r : Str) : hdIs c (c :: r) = some r:=by simp [hdIs]
theorem hdIs_ne {c d : UInt8} (h : d ≠ c) (r : Str) : hdIs c (d :: r) = none:=by simp [hdIs,h]
def pValue (s : Str) : Option (Str × Str) :=
 match hdIs 34 s with
 | some r=>match hdIs 34 (r.dropWhile inB) with
  | some t=>some (said (r.takeWhile inB),t)
  | none=>none
 | none=>some (said (s.takeWhile plainB),s.dropWhile plainB)
theorem drop_len (p : UInt8 -> Bool) (s : Str) : (s.dropWhile p).length <= s.length:=(List.dropWhile_sublist p).length_le
theorem pValue_len {s : Str} {v r : Str} (h : pValue s = some (v,r)) : r.length <= s.length:=by
 unfold pValue at h
 split at h
 . rename_i t ht
   split at h
   . rename_i u hu
     cases h
     have:=hdIs_len ht
     have:=hdIs_len hu
     have:=drop_len inB t
     omega
   . cases h
 . cases h; exact drop_len _ _
def pVals (s : Str) : Option (List Str × Str) :=
 match hv : pValue s with
 | none=>none
 | some (v,r)=>match hr : hdIs 44 r with
  | none=>some ([v],r)
  | some t=>match pVals t with
   | none=>none
   | some (l,u)=>some (v :: l,u)
termination_by s.length
decreasing_by have:=pValue_len hv; have:=hdIs_len hr; omega
theorem pVals_eq (s : Str) : pVals s = match pValue s with
  | none=>none
  | some (v,r)=>match hdIs 44 r with
   | none=>some ([v],r)
   | some t=>match pVals t with
    | none=>none
    | some (l,u)=>some (v :: l,u):=by
 rw [pVals]
 split <;> rename_i h1 <;> simp only [h1]
 split <;> rename_i h2 <;> simp only [h2]
theorem pVals_len : ∀ (n : Nat) (s : Str),s.length <= n -> ∀ l r,pVals s = some (l,r) -> r.length <= s.length
 | n,s,hn,l,r,h=>by
  rw [pVals_eq] at h
  split at h
  . cases h
  . rename_i v t ht
    have h1:=pValue_len ht
    split at h
    . cases h; exact h1
    . rename_i u hu
      have h2:=hdIs_len hu
      split at h
      . cases h
      . rename_i l' r' h'
        cases h
        match n with
        | 0=>omega
        | n + 1=>have:=pVals_len n u (by omega) _ _ h'; omega
def pParam (s : Str) : Option (Param × Str) :=
 match pName s with
 | none=>none
 | some (n,r)=>match hdIs 61 r with
  | none=>none
  | some t=>match pVals t with
   | none=>none
   | some (l,u)=>some (⟨n,l⟩,u)
theorem pName_len {s n r : Str} (h : pName s = some (n,r)) : r.length <= s.length:=by
 unfold pName at h
 split at h
 . cases h
 . cases h; exact drop_len _ _
theorem pParam_len {s r : Str} {x : Param} (h : pParam s = some (x,r)) : r.length <= s.length:=by
 unfold pParam at h
 split at h
 . cases h
 . rename_i n t ht
   split at h
   . cases h
   . rename_i u hu
     split at h
     . cases h
     . rename_i l' r' h'
       cases h
       have:=pName_len ht
       have:=hdIs_len hu
       have:=pVals_len _ _ (Nat.le_refl _) _ _ h'
       omega
def pParams (s : Str) : Option (List Param × Str) :=
 match hs : hdIs 59 s with
 | none=>some ([],s)
 | some t=>match hp : pParam t with
  | none=>none
  | some (x,r)=>match pParams r with
   | none=>none
   | some (l,u)=>some (x :: l,u)
termination_by s.length
decreasing_by have:=pParam_len hp; have:=hdIs_len hs; omega
theorem pParams_eq (s : Str) : pParams s = match hdIs 59 s with
  | none=>some ([],s)
  | some t=>match pParam t with
   | none=>none
   | some (x,r)=>match pParams r with
    | none=>none
    | some (l,u)=>some (x :: l,u):=by
 rw [pParams]
 split <;> rename_i h1 <;> simp only [h1]
 split <;> rename_i h2 <;> simp only [h2]
def pHead (s : Str) : Option (Str × Str × Str) :=
 match pName s with
 | none=>none
 | some (n,r)=>match hdIs 46 r with
  | none=>some ([],n,r)
  | some t=>match pName t with
   | none=>none
   | some (m,u)=>some (n,m,u)
def pProp (s : Str) : Option Prp :=
 match pHead s with
 | none=>none
 | some (g,n,r)=>match pParams r with
  | none=>none
  | some (l,t)=>match hdIs 58 t with
   | none=>none
   | some v=>if v.all standsB = true then some ⟨g,n,l,v⟩ else none
def joinV : List Str -> Str
 | []=>[]
 | [v]=>told v
 | v :: l=>told v ++ 44 :: joinV l
def tellP (x : Param) : Str:=59 :: (x.Name ++ 61 :: joinV x.Values)
def tell (p : Prp) : Str:=(if p.Group = [] then p.Name else p.Group ++ 46 :: p.Name) ++ p.Params.flatMap tellP ++ 58 :: p.Value
def isName (s : Str) : Prop:=s ≠ [] /\ s.all letterB = true /\ upper s = s
def saysB (c : UInt8) : Bool:=standsB c || c == 10
def rightX (x : Param) : Prop:=isName x.Name /\ x.Values ≠ [] /\ ∀ v ∈ x.Values,v.all saysB = true
def right0 (p : Prp) : Prop:=isName p.Name /\ (p.Group ≠ [] -> isName p.Group) /\ p.Value.all standsB = true /\ ∀ x ∈ p.Params,rightX x
theorem while_app {p : UInt8 -> Bool} {a : Str} (h : a.all p = true) {c : UInt8} (hc : p c = false) (r : Str) : (a ++ c :: r).takeWhile p = a /\ (a ++ c :: r).dropWhile p = c :: r:=by
 have h' : ∀ x ∈ a,p x = true:=fun x hx=>List.all_eq_true.1 h x hx
 rw [List.takeWhile_append_of_pos h',List.dropWhile_append_of_pos h',List.takeWhile_cons_of_neg (by simp [hc]),List.dropWhile_cons_of_neg (by simp [hc])]
 simp
theorem pName_app {n : Str} (h : isName n) {c : UInt8} (hc : letterB c = false) (r : Str) : pName (n ++ c :: r) = some (n,c :: r):=by
 obtain ⟨h1,h2,h3⟩:=h
 obtain ⟨e1,e2⟩:=while_app h2 hc r
 unfold pName
 rw [e1,e2,if_neg h1,h3]
theorem esc_all {q : UInt8 -> Bool} {v : Str} (h : ∀ c ∈ v,∀ d ∈ escB c,q d = true) : (esc v).all q = true:=by
 rw [List.all_eq_true]
 intro d hd
 obtain ⟨c,hc,hd⟩:=List.mem_flatMap.1 hd
 exact h c hc d hd
theorem esc_in {c : UInt8} (h : saysB c = true) : ∀ d ∈ escB c,inB d = true:=by
 intro d hd
 unfold escB at hd
 split at hd
 . simp at hd; subst hd; decide
 . split at hd
   . simp at hd; rcases hd with rfl | rfl <;> decide
   . split at hd
     . simp at hd; rcases hd with rfl | rfl <;> decide
     . rename_i h1 h2 h3
       simp at hd; subst hd
       unfold saysB at h
       unfold inB
       simp [h3] at h
       simp [h,h2]
theorem esc_plain {c : UInt8} (h : saysB c = true) (hq : quoteB c = false) : ∀ d ∈ escB c,plainB d = true:=by
 intro d hd
 unfold escB at hd
 split at hd
 . simp at hd; subst hd; decide
 . split at hd
   . simp at hd; rcases hd with rfl | rfl <;> decide
   . split at hd
     . simp at hd; rcases hd with rfl | rfl <;> decide
     . rename_i h1 h2 h3
       simp at hd; subst hd
       unfold saysB at h
       unfold quoteB at hq
       unfold plainB
       simp [h3] at h
       simp at hq
       simp [h,h2,hq]
theorem pValue_app {v : Str} (h : v.all saysB = true) {c : UInt8} (hc : c = 44 ∨ c = 59 ∨ c = 58) (r : Str) : pValue (told v ++ c :: r) = some (v,c :: r):=by
 have h' : ∀ x ∈ v,saysB x = true:=fun x hx=>List.all_eq_true.1 h x hx
 unfold told
 split
 . have hi:=esc_all (q:=inB) fun c hc=>esc_in (h' c hc)
   obtain ⟨e1,e2⟩:=while_app hi (show inB 34 = false by decide) (c :: r)
   have e : 34 :: (esc v ++ [34]) ++ c :: r = 34 :: (esc v ++ 34 :: (c :: r)):=by simp
   rw [e]
   unfold pValue
   rw [hdIs_cons]
   simp only [e1,e2,hdIs_cons,said_esc]
 . rename_i hq
   have hq' : ∀ x ∈ v,quoteB x = false:=fun x hx=>by
    cases hx' : quoteB x
    . rfl
    . exact absurd (List.any_eq_true.2 ⟨x,hx,hx'⟩) hq
   have hi:=esc_all (q:=plainB) fun c hc=>esc_plain (h' c hc) (hq' c hc)
   have hpc : plainB c = false:=by rcases hc with rfl | rfl | rfl <;> decide
   obtain ⟨e1,e2⟩:=while_app hi hpc r
   have e : hdIs 34 (esc v ++ c :: r) = none:=by
    cases hv : esc v with
    | nil=>exact hdIs_ne (by rcases hc with rfl | rfl | rfl <;> decide) r
    | cons d t =>
     rw [hv] at hi
     have hd : plainB d = true:=List.all_eq_true.1 hi d (by simp)
     refine hdIs_ne (fun e=>?_) _
     subst e
     exact absurd hd (by decide)
   unfold pValue
   rw [e]
   simp only [e1,e2,said_esc]
theorem pVals_app : ∀ {l : List Str},l ≠ [] -> (∀ v ∈ l,v.all saysB = true) -> ∀ {c : UInt8},(c = 59 ∨ c = 58) -> ∀ r : Str,pVals (joinV l ++ c :: r) = some (l,c :: r)
 | [],h,_,_,_,_=>absurd rfl h
 | [v],_,h,c,hc,r=>by
  rw [pVals_eq]
  show (match pValue (told v ++ c :: r) with | none=>none | some (v,r)=>_) = _
  rw [pValue_app (h v (by simp)) (.inr hc) r]
  have : hdIs 44 (c :: r) = none:=hdIs_ne (by rcases hc with rfl | rfl <;> decide) r
  simp only [this]
 | v :: w :: l,_,h,c,hc,r=>by
  rw [pVals_eq]
  have e : joinV (v :: w :: l) ++ c :: r = told v ++ 44 :: (joinV (w :: l) ++ c :: r):=by simp [joinV]
  rw [e,pValue_app (h v (by simp)) (.inl rfl)]
  simp only [hdIs_cons]
  rw [pVals_app (l:=w :: l) (by simp) (fun x hx=>h x (by simp [hx])) hc r]
theorem pParam_app {x : Param} (h : rightX x) {c : UInt8} (hc : c = 59 ∨ c = 58) (r : Str) : pParam (x.Name ++ 61 :: (joinV x.Values ++ c :: r)) = some (x,c :: r):=by
 unfold pParam
 rw [pName_app h.1 (by decide)]
 simp only [hdIs_cons]
 rw [pVals_app h.2.1 h.2.2 hc r]
theorem pParams_app : ∀ {l : List Param},(∀ x ∈ l,rightX x) -> ∀ v : Str,pParams (l.flatMap tellP ++ 58 :: v) = some (l,58 :: v)
 | [],_,v=>by
  rw [pParams_eq]
  have e : ([] : List Param).flatMap tellP ++ 58 :: v = 58 :: v:=rfl
  rw [e,hdIs_ne (by decide)]
 | x :: l,h,v=>by
  rw [pParams_eq]
  have e : (x :: l).flatMap tellP ++ 58 :: v = 59 :: (x.Name ++ 61 :: (joinV x.Values ++ (l.flatMap tellP ++ 58 :: v))):=by simp [tellP]
  rw [e,hdIs_cons]
  have ih:=pParams_app (l:=l) (fun y hy=>h y (by simp [hy])) v
  have hx:=h x (by simp)
  have ⟨c,r,hc,er⟩ : ∃ (c : UInt8) (r : Str),(c = 59 ∨ c = 58) /\ l.flatMap tellP ++ 58 :: v = c :: r:=by
   cases l with
   | nil=>exact ⟨58,v,.inr rfl,rfl⟩
   | cons y l=>exact ⟨59,_,.inl rfl,rfl⟩
  rw [er] at ih ⊢
  simp only [pParam_app hx hc r,ih]
theorem tell_read {p : Prp} (h : right0 p) : pProp (tell p) = some p:=by
 obtain ⟨h1,h2,h3,h4⟩:=h
 have ⟨c,r,hc,er⟩ : ∃ (c : UInt8) (r : Str),(c = 59 ∨ c = 58) /\ p.Params.flatMap tellP ++ 58 :: p.Value = c :: r:=by
  cases p.Params with
  | nil=>exact ⟨58,p.Value,.inr rfl,rfl⟩
  | cons y l=>exact ⟨59,_,.inl rfl,rfl⟩
 have hl : letterB c = false:=by rcases hc with rfl | rfl <;> decide
 have hd : hdIs 46 (c :: r) = none:=hdIs_ne (by rcases hc with rfl | rfl <;> decide) r
 have hh : pHead (tell p) = some (p.Group,p.Name,c :: r):=by
  unfold tell pHead
  rw [List.append_assoc,er]
  by_cases hg : p.Group = []
  . rw [if_pos hg,pName_app h1 hl r]
    simp only [hd,hg]
  . rw [if_neg hg,List.append_assoc,List.cons_append,pName_app (h2 hg) (by decide)]
    simp only [hdIs_cons,pName_app h1 hl r]
 unfold pProp
 rw [hh]
 simp only
 rw [<- er,pParams_app h4]
 simp only [hdIs_cons,h3,if_true]
end Go.Li
end
section
namespace Go.Proofs.YtadgfmmmdhlljaaGreatDoor
open Go Go.Wk Go.Wl Go.Rx Go.Fo Go.Li Go.Proofs Go.RowKit
def mixed (s : Str) (i j : Nat) : UInt8:=if j < i then upB (s.getD j 0) else s.getD j 0
structure UpAt (w : World) (s : Str) (i : Nat) (wx : World) : Prop where
 cell : ∀ j,j < s.length -> wx.cell? ⟨w.heap.size,j,none⟩ = some (.int .u8 (mixed s i j).toNat)
 frz : ∀ j,j < s.length -> wx.frozen? ⟨w.heap.size,j,none⟩ = false
 ext : Ext [] w wx
 lt : w.heap.size < wx.heap.size
theorem UpAt.start (w : World) (s : Str) (cap : Nat) : UpAt w s 0 (w.drew.alloc (.cells (bytesRow ⟨s.toArray⟩ cap) 5 ((bytesRow ⟨s.toArray⟩ cap).size,(bytesRow ⟨s.toArray⟩ cap).size + 1))):=by
 have hz : s.length <= (bytesRow ⟨s.toArray⟩ cap).size:=by unfold bytesRow; rw [Array.size_append,Array.size_map]; show s.length <= s.toArray.size + _; simp
 refine ⟨fun j hj=>?_,fun j hj=>?_,⟨rfl,rfl,rfl,?_,fun b hb _=>?_⟩,?_⟩
 . have h1:=World.cell?_alloc_mark w.drew (bytesRow ⟨s.toArray⟩ cap) 5 ((bytesRow ⟨s.toArray⟩ cap).size,(bytesRow ⟨s.toArray⟩ cap).size + 1) j
   have h2:=bytesRow_at ⟨s.toArray⟩ cap j (by simpa using hj)
   refine h1.trans (h2.trans ?_)
   simp [mixed,List.getD_eq_getElem?_getD,hj]
 . have h1:=World.frozen?_alloc_mark w.drew (bytesRow ⟨s.toArray⟩ cap) 5 (bytesRow ⟨s.toArray⟩ cap).size ((bytesRow ⟨s.toArray⟩ cap).size + 1) j
   refine h1.trans ?_
   rw [decide_eq_false (by omega)]; rfl
 . show _ <= (w.heap.push _).size
   rw [Array.size_push]; omega
 . show (w.heap.push _)[b]? = _
   rw [Array.getElem?_push,if_neg (by omega)]
 . show _ < (w.heap.push _).size
   rw [Array.size_push]; omega
theorem UpAt.same {w : World} {s : Str} {i : Nat} {wx : World} (h : UpAt w s i wx) (hu : upB (s.getD i 0) = s.getD i 0) : UpAt w s (i + 1) wx:=by
 refine ⟨fun j hj=>?_,h.frz,h.ext,h.lt⟩
 rw [h.cell j hj]
 have e : mixed s i j = mixed s (i + 1) j:=by
  unfold mixed
  by_cases h1 : j < i
  . rw [if_pos h1,if_pos (by omega)]
  . rw [if_neg h1]
    by_cases h2 : j = i
    . subst h2; rw [if_pos (by omega),hu]
    . rw [if_neg (by omega)]
 rw [e]
theorem UpAt.step {w : World} {s : Str} {i : Nat} {wx : World} (h : UpAt w s i wx) (hi : i < s.length) : UpAt w s (i + 1) (wx.setCell ⟨w.heap.size,i,none⟩ (.int .u8 (upB (s.getD i 0)).toNat)):=by
 refine ⟨fun j hj=>?_,fun j hj=>?_,⟨h.ext.os,h.ext.tape,h.ext.output,?_,fun b hb hB=>?_⟩,?_⟩
 . by_cases e : j = i
   . subst e
     rw [World.cell?_setCell_same (h:=h.cell j hj)]
     simp [mixed]
   . rw [World.cell?_setCell_other (h:=fun e' : (⟨w.heap.size,i,none⟩ : Addr) = ⟨w.heap.size,j,none⟩=>e (by injection e' with _ e'; exact e'.symm)),h.cell j hj]
     unfold mixed
     by_cases h1 : j < i
     . rw [if_pos h1,if_pos (by omega)]
     . rw [if_neg h1,if_neg (by omega)]
 . rw [World.frozen?_setCell]; exact h.frz j hj
 . rw [World.size_setCell]; exact h.ext.size
 . rw [heap_setCell_other _ _ _ _ (by show b ≠ w.heap.size; omega)]; exact h.ext.block b hb hB
 . rw [World.size_setCell]; exact h.lt
set_option maxRecDepth 1000000 in
set_option maxHeartbeats 8000000 in
theorem up_ok (s : Str) (w : World) (hs : s.length <= 9223372036854775807) :
  Calls Tryz.prog 74 #[.string ⟨s.toArray⟩] w fun e w'=>e = .returned (.string ⟨(upper s).toArray⟩) /\ Ext [] w w':=by
 have hcv:=fun w=>run_bytes_of_string (P:=Tryz.prog) w 9 78 5 ⟨s.toArray⟩ Tryz.underlying9 Tryz.underlying78 Tryz.underlying5
 have hst : ∀ w,UpAt w s 0 _:=fun w=>UpAt.start w s (grownCap w s.length 0 5)
 have hsz : (ByteArray.mk s.toArray).size = s.length:=rfl
 rw [hsz] at hcv
 go_enter Tryz.func74,Tryz.ntmps74
 go_wp2
 go_loopg [4] s.length (fun gk s0 wx=>∃ i : Nat,i + gk = s.length /\ s0 = .int .i64 i /\ UpAt w s i wx)
 case atStart=>exact ⟨0,by omega,rfl,hst _⟩
 case round =>
  obtain ⟨i,hig,rfl,hat⟩:=hrel
  cases gk with
  | zero =>
   obtain rfl : i = s.length:=by omega
   have hnl : ¬ ((s.length : Int) < (s.length : Int)):=by omega
   have hbk : ∀ wx cap,UpAt w s s.length wx -> (convert 78 9 (.slice (some ⟨w.heap.size,0,none⟩) s.length cap)).run Tryz.prog wx = .ok (.string ⟨(upper s).toArray⟩) wx:=fun wx cap h=>by
    have hl : (upper s).length = s.length:=by simp [upper]
    have:=run_convert_bytes_back (P:=Tryz.prog) wx 78 9 5 ⟨w.heap.size,0,none⟩ cap (upper s) Tryz.underlying78 Tryz.underlying5 Tryz.underlying9 (fun j hj=>by
     have hj' : j < s.length:=by omega
     have e : (Addr.add ⟨w.heap.size,0,none⟩ j : Addr) = ⟨w.heap.size,j,none⟩:=by simp [Addr.add]; omega
     rw [e,h.cell j hj']
     simp [mixed,hj',upper])
    rw [hl] at this
    exact this
   have hb0:=hbk wr
   have hb1:=hb0 (grownCap w s.length 0 5) hat
   go_wp2
   go_ret
   exact ⟨rfl,hat.ext⟩
  | succ g =>
   have hi : i < s.length:=by omega
   have hil : (i : Int) < (s.length : Int):=by omega
   have hc:=hat.cell i hi
   have hf:=hat.frz i hi
   have hm : mixed s i i = s.getD i 0:=by unfold mixed; rw [if_neg (by omega)]
   rw [hm] at hc
   have hnx : UpAt w s (i + 1) (wr.setCell ⟨w.heap.size,i,none⟩ (.int .u8 (upB (s.getD i 0)).toNat)):=hat.step hi
   have hsm : upB (s.getD i 0) = s.getD i 0 -> UpAt w s (i + 1) wr:=hat.same
   generalize s.getD i 0 = x at hc hnx hsm
   by_cases h97 : 97 <= x
   . have z97 : (97 : Int) <= (x.toNat : Int):=by have : (97 : UInt8).toNat <= x.toNat:=h97; exact_mod_cast this
     by_cases h122 : x <= 122
     . have z122 : (x.toNat : Int) <= 122:=by have : x.toNat <= (122 : UInt8).toNat:=h122; exact_mod_cast this
       have eu : ((upB x).toNat : Int) = (x.toNat : Int) - 32:=by
        unfold upB
        rw [if_pos ⟨h97,h122⟩,UInt8.toNat_sub_of_le _ _ (by show (32 : UInt8).toNat <= x.toNat; have : (32 : UInt8).toNat = 32:=rfl; omega)]
        have : (32 : UInt8).toNat = 32:=rfl
        omega
       rw [eu] at hnx
       have hw : IntKind.u8.wrap ((x.toNat : Int) - 32) = (x.toNat : Int) - 32:=by
        have:=x.toNat_lt
        have hb : IntKind.u8.bits = 8:=rfl
        simp only [IntKind.wrap,hb]
        simp; omega
       go_wp2
       go_roundg g
       case measure=>omega
       case rel=>exact ⟨i + 1,by omega,by simp,hnx⟩
     . have z122 : ¬ (x.toNat : Int) <= 122:=fun e=>h122 (by show x.toNat <= (122 : UInt8).toNat; exact_mod_cast e)
       have hs2:=hsm (by unfold upB; rw [if_neg (fun e=>h122 e.2)])
       go_wp2
       go_roundg g
       case measure=>omega
       case rel=>exact ⟨i + 1,by omega,by simp,hs2⟩
   . have z97 : ¬ (97 : Int) <= (x.toNat : Int):=fun e=>h97 (by show (97 : UInt8).toNat <= x.toNat; exact_mod_cast e)
     have hs2:=hsm (by unfold upB; rw [if_neg (fun e=>h97 e.1)])
     go_wp2
     go_roundg g
     case measure=>omega
     case rel=>exact ⟨i + 1,by omega,by simp,hs2⟩
end Go.Proofs.YtadgfmmmdhlljaaGreatDoor
end
section
namespace Go.Proofs.YtadgfmmmdhlljaaGreatDoor
open Go Go.Wk Go.Wl Go.Rx Go.Fo Go.Li Go.Proofs Go.RowKit
set_option maxRecDepth 1000000 in
set_option maxHeartbeats 8000000 in
theorem upl_ok (s : Str) (w : World) (hs : s.length <= 9223372036854775807) :
  Calls Tryz.prog 90 #[.string ⟨s.toArray⟩] w fun e w'=>e = .returned (.string ⟨(upper s).toArray⟩) /\ Ext [] w w':=by
 have hcv:=fun w=>run_bytes_of_string (P:=Tryz.prog) w 9 78 5 ⟨s.toArray⟩ Tryz.underlying9 Tryz.underlying78 Tryz.underlying5
 have hst : ∀ w,UpAt w s 0 _:=fun w=>UpAt.start w s (grownCap w s.length 0 5)
 have hsz : (ByteArray.mk s.toArray).size = s.length:=rfl
 rw [hsz] at hcv
 go_enter Tryz.func90,Tryz.ntmps90
 go_wp2
 go_loopg [10] s.length (fun gk s0 wx=>∃ i : Nat,i + gk = s.length /\ s0 = .int .i64 i /\ UpAt w s i wx)
 case atStart=>exact ⟨0,by omega,rfl,hst _⟩
 case round =>
  obtain ⟨i,hig,rfl,hat⟩:=hrel
  cases gk with
  | zero =>
   obtain rfl : i = s.length:=by omega
   have hnl : ¬ ((s.length : Int) < (s.length : Int)):=by omega
   have hbk : ∀ wx cap,UpAt w s s.length wx -> (convert 78 9 (.slice (some ⟨w.heap.size,0,none⟩) s.length cap)).run Tryz.prog wx = .ok (.string ⟨(upper s).toArray⟩) wx:=fun wx cap h=>by
    have hl : (upper s).length = s.length:=by simp [upper]
    have:=run_convert_bytes_back (P:=Tryz.prog) wx 78 9 5 ⟨w.heap.size,0,none⟩ cap (upper s) Tryz.underlying78 Tryz.underlying5 Tryz.underlying9 (fun j hj=>by
     have hj' : j < s.length:=by omega
     have e : (Addr.add ⟨w.heap.size,0,none⟩ j : Addr) = ⟨w.heap.size,j,none⟩:=by simp [Addr.add]; omega
     rw [e,h.cell j hj']
     simp [mixed,hj',upper])
    rw [hl] at this
    exact this
   have hb0:=hbk wr
   have hb1:=hb0 (grownCap w s.length 0 5) hat
   go_wp2
   go_ret
   exact ⟨rfl,hat.ext⟩
  | succ g =>
   have hi : i < s.length:=by omega
   have hil : (i : Int) < (s.length : Int):=by omega
   have hc:=hat.cell i hi
   have hf:=hat.frz i hi
   have hm : mixed s i i = s.getD i 0:=by unfold mixed; rw [if_neg (by omega)]
   rw [hm] at hc
   have hnx : UpAt w s (i + 1) (wr.setCell ⟨w.heap.size,i,none⟩ (.int .u8 (upB (s.getD i 0)).toNat)):=hat.step hi
   have hsm : upB (s.getD i 0) = s.getD i 0 -> UpAt w s (i + 1) wr:=hat.same
   generalize s.getD i 0 = x at hc hnx hsm
   by_cases h97 : 97 <= x
   . have z97 : (97 : Int) <= (x.toNat : Int):=by have : (97 : UInt8).toNat <= x.toNat:=h97; exact_mod_cast this
     by_cases h122 : x <= 122
     . have z122 : (x.toNat : Int) <= 122:=by have : x.toNat <= (122 : UInt8).toNat:=h122; exact_mod_cast this
       have eu : ((upB x).toNat : Int) = (x.toNat : Int) - 32:=by
        unfold upB
        rw [if_pos ⟨h97,h122⟩,UInt8.toNat_sub_of_le _ _ (by show (32 : UInt8).toNat <= x.toNat; have : (32 : UInt8).toNat = 32:=rfl; omega)]
        have : (32 : UInt8).toNat = 32:=rfl
        omega
       rw [eu] at hnx
       have hw : IntKind.u8.wrap ((x.toNat : Int) - 32) = (x.toNat : Int) - 32:=by
        have:=x.toNat_lt
        have hb : IntKind.u8.bits = 8:=rfl
        simp only [IntKind.wrap,hb]
        simp; omega
       go_wp2
       go_roundg g
       case measure=>omega
       case rel=>exact ⟨i + 1,by omega,by simp,hnx⟩
     . have z122 : ¬ (x.toNat : Int) <= 122:=fun e=>h122 (by show x.toNat <= (122 : UInt8).toNat; exact_mod_cast e)
       have hs2:=hsm (by unfold upB; rw [if_neg (fun e=>h122 e.2)])
       go_wp2
       go_roundg g
       case measure=>omega
       case rel=>exact ⟨i + 1,by omega,by simp,hs2⟩
   . have z97 : ¬ (97 : Int) <= (x.toNat : Int):=fun e=>h97 (by show (97 : UInt8).toNat <= x.toNat; exact_mod_cast e)
     have hs2:=hsm (by unfold upB; rw [if_neg (fun e=>h97 e.1)])
     go_wp2
     go_roundg g
     case measure=>omega
     case rel=>exact ⟨i + 1,by omega,by simp,hs2⟩
end Go.Proofs.YtadgfmmmdhlljaaGreatDoor
end
section
namespace Go.Li
open Go Go.Wk Go.Wl
theorem all8 {P : UInt8 -> Prop} (h : ∀ n : Fin 256,P (UInt8.ofNat n.val)) (c : UInt8) : P c:=by
 have:=h ⟨c.toNat,c.toNat_lt⟩
 simpa using this
theorem letter_up (c : UInt8) : letterB c = true -> letterB (upB c) = true /\ upB (upB c) = upB c :=
 all8 (P:=fun c=>letterB c = true -> letterB (upB c) = true /\ upB (upB c) = upB c) (by decide +kernel) c
theorem upper_right {a : Str} (h : a.all letterB = true) : (upper a).all letterB = true /\ upper (upper a) = upper a:=by
 induction a with
 | nil=>exact ⟨rfl,rfl⟩
 | cons c a ih =>
  rw [List.all_cons,Bool.and_eq_true] at h
  obtain ⟨h1,h2⟩:=letter_up c h.1
  obtain ⟨h3,h4⟩:=ih h.2
  refine ⟨by show ((upB c) :: upper a).all letterB = true; rw [List.all_cons,h1,h3]; rfl,?_⟩
  show upB (upB c) :: upper (upper a) = upB c :: upper a
  rw [h2,h4]
theorem take_all (p : UInt8 -> Bool) (s : Str) : (s.takeWhile p).all p = true:=by
 induction s with
 | nil=>rfl
 | cons c s ih =>
  rw [List.takeWhile_cons]
  split
  . rename_i h; rw [List.all_cons,h,ih]; rfl
  . rfl
theorem pName_right {s n r : Str} (h : pName s = some (n,r)) : isName n:=by
 unfold pName at h
 split at h
 . cases h
 . rename_i hn
   cases h
   obtain ⟨h1,h2⟩:=upper_right (take_all letterB s)
   refine ⟨fun e=>hn ?_,h1,h2⟩
   exact List.map_eq_nil_iff.1 e
theorem said_all : ∀ (n : Nat) (s : Str),s.length <= n -> s.all standsB = true -> (said s).all saysB = true:=by
 have st : ∀ c,standsB c = true -> saysB c = true:=fun c h=>by unfold saysB; rw [h]; rfl
 intro n
 induction n with
 | zero=>intro s h _; obtain rfl:=List.eq_nil_of_length_eq_zero (Nat.le_zero.1 h); rfl
 | succ n ih =>
  intro s hs h
  match s,hs,h with
  | [],_,_=>rfl
  | [c],_,h=>rw [List.all_cons,Bool.and_eq_true] at h; show List.all [c] saysB = true; rw [List.all_cons,st c h.1]; rfl
  | c :: d :: r,hs,h =>
   rw [List.all_cons,List.all_cons,Bool.and_eq_true,Bool.and_eq_true] at h
   obtain ⟨h1,h2,h3⟩:=h
   simp only [List.length_cons] at hs
   have i1:=ih r (by omega) h3
   have i2:=ih (d :: r) (by simp only [List.length_cons]; omega) (by rw [List.all_cons,h2,h3]; rfl)
   rw [said]
   split
   . rw [List.all_cons,i1]; rfl
   . split
     . rw [List.all_cons,i1]; rfl
     . split
       . rw [List.all_cons,i1]; rfl
       . rw [List.all_cons,i2,st c h1]; rfl
theorem all_imp {p q : UInt8 -> Bool} (hpq : ∀ c,p c = true -> q c = true) {s : Str} (h : s.all p = true) : s.all q = true:=List.all_eq_true.2 fun c hc=>hpq c (List.all_eq_true.1 h c hc)
theorem pValue_right {s v r : Str} (h : pValue s = some (v,r)) : v.all saysB = true:=by
 unfold pValue at h
 split at h
 . rename_i t ht
   split at h
   . cases h
     exact said_all _ _ (Nat.le_refl _) (all_imp (fun c hc=>by unfold inB at hc; rw [Bool.and_eq_true] at hc; exact hc.1) (take_all inB t))
   . cases h
 . cases h
   exact said_all _ _ (Nat.le_refl _) (all_imp (fun c hc=>by unfold plainB at hc; rw [Bool.and_eq_true] at hc; exact hc.1) (take_all plainB s))
theorem pVals_right : ∀ (n : Nat) (s : Str),s.length <= n -> ∀ l r,pVals s = some (l,r) -> l ≠ [] /\ ∀ v ∈ l,v.all saysB = true:=by
 intro n
 induction n with
 | zero =>
  intro s hs l r h
  rw [pVals_eq] at h
  split at h
  . cases h
  . rename_i v t ht
    have h1:=pValue_len ht
    have h0:=pValue_right ht
    split at h
    . cases h; exact ⟨by simp,fun x hx=>by rw [List.mem_singleton.1 hx]; exact h0⟩
    . rename_i u hu
      have:=hdIs_len hu
      omega
 | succ n ih =>
  intro s hs l r h
  rw [pVals_eq] at h
  split at h
  . cases h
  . rename_i v t ht
    have h1:=pValue_len ht
    have h0:=pValue_right ht
    split at h
    . cases h; exact ⟨by simp,fun x hx=>by rw [List.mem_singleton.1 hx]; exact h0⟩
    . rename_i u hu
      have:=hdIs_len hu
      split at h
      . cases h
      . rename_i l' r' h'
        cases h
        obtain ⟨_,i2⟩:=ih u (by omega) _ _ h'
        refine ⟨by simp,fun x hx=>?_⟩
        rcases List.mem_cons.1 hx with rfl | hx
        . exact h0
        . exact i2 x hx
theorem pParam_right {s r : Str} {x : Param} (h : pParam s = some (x,r)) : rightX x:=by
 unfold pParam at h
 split at h
 . cases h
 . rename_i n t ht
   split at h
   . cases h
   . rename_i u hu
     split at h
     . cases h
     . rename_i l' r' h'
       cases h
       obtain ⟨h1,h2⟩:=pVals_right _ _ (Nat.le_refl _) _ _ h'
       exact ⟨pName_right ht,h1,h2⟩
theorem pParams_right : ∀ (n : Nat) (s : Str),s.length <= n -> ∀ l r,pParams s = some (l,r) -> ∀ x ∈ l,rightX x:=by
 intro n
 induction n with
 | zero =>
  intro s hs l r h
  rw [pParams_eq] at h
  split at h
  . cases h; intro x hx; cases hx
  . rename_i t ht
    have:=hdIs_len ht
    omega
 | succ n ih =>
  intro s hs l r h
  rw [pParams_eq] at h
  split at h
  . cases h; intro x hx; cases hx
  . rename_i t ht
    have h1:=hdIs_len ht
    split at h
    . cases h
    . rename_i x t' hp
      have h2:=pParam_len hp
      split at h
      . cases h
      . rename_i l' r' h'
        cases h
        intro y hy
        rcases List.mem_cons.1 hy with rfl | hy
        . exact pParam_right hp
        . exact ih _ (by omega) _ _ h' y hy
theorem read_right {s : Str} {p : Prp} (h : pProp s = some p) : right0 p:=by
 unfold pProp at h
 split at h
 . cases h
 . rename_i g n r hh
   split at h
   . cases h
   . rename_i l t hl
     split at h
     . cases h
     . rename_i v hv
       split at h
       . rename_i hs
         cases h
         have hp:=pParams_right _ _ (Nat.le_refl _) _ _ hl
         unfold pHead at hh
         split at hh
         . cases hh
         . rename_i m u hm
           split at hh
           . cases hh
             exact ⟨pName_right hm,fun e=>absurd rfl e,hs,hp⟩
           . split at hh
             . cases hh
             . rename_i m2 u2 hm2
               cases hh
               exact ⟨pName_right hm2,fun _=>pName_right hm,hs,hp⟩
       . cases h
end Go.Li
end
section
namespace Go.Li
open Go Go.Wk Go.Wl
def replB (c : UInt8) (t : Str) (s : Str) : Str:=s.flatMap fun d=>if d = c then t else [d]
theorem replB_cons (c d : UInt8) (t s : Str) : replB c t (d :: s) = (if d = c then t else [d]) ++ replB c t s:=by simp [replB]
theorem replB_app (c : UInt8) (t a b : Str) : replB c t (a ++ b) = replB c t a ++ replB c t b:=by simp [replB]
theorem replB_none {c : UInt8} {t : Str} : ∀ {s : Str},s.count c = 0 -> replB c t s = s
 | [],_=>rfl
 | d :: s,h=>by
  have hd : d ≠ c:=fun e=>by subst e; simp at h
  have hs : s.count c = 0:=by rw [List.count_cons] at h; omega
  rw [replB_cons,if_neg hd,replB_none hs]; rfl
theorem replB_hit {c : UInt8} (t : Str) : ∀ {s : Str},0 < s.count c -> ∃ i : Nat,Lib.indexByte s c = i /\ i < s.length /\ replB c t s = s.take i ++ (t ++ replB c t (s.drop (i + 1))) /\ (s.drop (i + 1)).count c + 1 = s.count c
 | [],h=>by simp at h
 | d :: s,h=>by
  by_cases hd : d = c
  . subst hd
    exact ⟨0,by simp [Lib.indexByte],by simp,by simp [replB_cons],by simp⟩
  . have hc : (d :: s).count c = s.count c:=by rw [List.count_cons_of_ne hd]
    rw [hc] at h
    obtain ⟨i,h1,h2,h3,h4⟩:=replB_hit t h
    refine ⟨i + 1,?_,by simp; omega,?_,by rw [hc]; exact h4⟩
    . simp only [Lib.indexByte]
      have hb : (d == c) = false:=by simpa using hd
      simp [hb,hd,h1]
      try omega
    . rw [replB_cons,if_neg hd,h3]; simp
theorem esc_repl : ∀ v : Str,replB 10 [94,110] (replB 34 [94,39] (replB 94 [94,94] v)) = esc v
 | []=>rfl
 | c :: v=>by
  have ih:=esc_repl v
  have e : esc (c :: v) = escB c ++ esc v:=by simp [esc]
  rw [e,replB_cons,replB_app,replB_app,ih]
  congr 1
  unfold escB
  by_cases h1 : c = 94
  . subst h1; decide
  . by_cases h2 : c = 34
    . subst h2; decide
    . by_cases h3 : c = 10
      . subst h3; decide
      . simp [h1,h2,h3,replB]
theorem esc_quote : ∀ v : Str,((esc v).any fun c=>[59,58,44].contains c) = v.any quoteB
 | []=>rfl
 | c :: v=>by
  have ih:=esc_quote v
  have e : esc (c :: v) = escB c ++ esc v:=by simp [esc]
  rw [e,List.any_append,ih,List.any_cons]
  congr 1
  unfold escB quoteB
  by_cases h1 : c = 94
  . subst h1; decide
  . by_cases h2 : c = 34
    . subst h2; decide
    . by_cases h3 : c = 10
      . subst h3; decide
      . simp [h1,h2,h3,Bool.or_assoc]
        rfl
theorem replB_len (c : UInt8) {t : Str} (ht : t.length = 2) : ∀ s : Str,(replB c t s).length <= 2 * s.length
 | []=>Nat.le_refl _
 | d :: s=>by
  have ih:=replB_len c ht s
  rw [replB_cons,List.length_append,List.length_cons]
  split
  . omega
  . simp; omega
theorem join_told : ∀ l : List Str,Lib.join (l.map told) [44] = joinV l
 | []=>rfl
 | [v]=>by simp [Lib.join,joinV]
 | v :: u :: l=>by
  have ih:=join_told (u :: l)
  simp only [List.map_cons] at ih ⊢
  simp only [Lib.join,joinV]
  simp
  exact ih
end Go.Li
end
section
namespace Go.Proofs.YtadgfmmmdhlljaaGreatDoor
open Go Go.Wk Go.Wl Go.Rx Go.Fo Go.Li Go.Co Go.Proofs Go.RowKit
theorem bd_grown {b : Nat} {w : World} {cs : Array Value} (hb : w.heap[b]? = some (.cells #[.pointer (some ⟨b,0,none⟩),.slice none 0 0] 80 (0,0))) (hm : cs.size <= maxLen) :
  ∃ F',BldIs 80 5 b ((w.setCell ⟨b,1,none⟩ (.slice (some ⟨w.heap.size,0,none⟩) 0 cs.size)).alloc (.cells cs 5)).drew.drew.drew [] F' /\ Turn w ((w.setCell ⟨b,1,none⟩ (.slice (some ⟨w.heap.size,0,none⟩) 0 cs.size)).alloc (.cells cs 5)).drew.drew.drew [b] F':=by
 have ho : Own w b 80 [.pointer (some ⟨b,0,none⟩),.slice none 0 0]:=hb
 have hlt:=ho.lt
 obtain ⟨k1,k2,k3⟩:=Own.setCell ho 1 (.slice (some ⟨w.heap.size,0,none⟩) 0 cs.size)
 have x1 : Ext [] (w.setCell ⟨b,1,none⟩ (.slice (some ⟨w.heap.size,0,none⟩) 0 cs.size)) ((w.setCell ⟨b,1,none⟩ (.slice (some ⟨w.heap.size,0,none⟩) 0 cs.size)).alloc (.cells cs 5)):=ext_alloc _
 have x2 : Ext [b] w ((w.setCell ⟨b,1,none⟩ (.slice (some ⟨w.heap.size,0,none⟩) 0 cs.size)).alloc (.cells cs 5)):=k2.trans x1 (fun _ h=>.inl h) (fun _ h=>by cases h)
 have hnew : ((w.setCell ⟨b,1,none⟩ (.slice (some ⟨w.heap.size,0,none⟩) 0 cs.size)).alloc (.cells cs 5)).heap[w.heap.size]? = some (.cells cs 5 (0,0)):=by
  have gen : ∀ (X : World) (o : Obj),(X.alloc o).heap[X.heap.size]? = some o:=fun X o=>by
   show (X.heap.push o)[X.heap.size]? = _
   simp
  have:=gen (w.setCell ⟨b,1,none⟩ (.slice (some ⟨w.heap.size,0,none⟩) 0 cs.size)) (.cells cs 5 (0,0))
  rw [k3] at this
  exact this
 have o2:=k1.ext x1 (by simp)
 refine bld_after (x':=[]) (v:=.slice none 0 0) (v':=.slice (some ⟨w.heap.size,0,none⟩) 0 cs.size) (F:=[b]) (by simp [bldF,Value.ownBlock]) (.inr rfl) o2 ?_ (by simp [Value.ownBlock]; omega) ⟨x2.os,x2.tape,x2.output,x2.size,x2.block⟩ (fun k hk=>.inr ?_)
 . exact ⟨rfl,.inr ⟨w.heap.size,cs.size,cs,(0,0),rfl,Nat.zero_le _,hnew,Nat.zero_le _,Nat.zero_le _,hm,by simp,by simp [Lib.byteCells]⟩⟩
 . have : w.heap.size = k:=by simpa [Value.ownBlock] using hk
   omega
set_option maxHeartbeats 2000000 in
set_option maxRecDepth 1000000 in
theorem bd_grow0 (b n : Nat) (w : World) (hb : w.heap[b]? = some (.cells #[.pointer (some ⟨b,0,none⟩),.slice none 0 0] 80 (0,0))) (hn : n <= 281474976710656) :
  Calls Tryz.prog 98 #[.pointer (some ⟨b,0,none⟩),.int .i64 n] w fun e w'=>e = .returned (.tuple #[]) /\ ∃ F',BldIs 80 5 b w' [] F' /\ Turn w w' [b] F':=by
 obtain ⟨cs,hrun,hle,hmax⟩:=Lib.run_makeNoZero (P:=Tryz.prog) w.drew #[3] 78 5 Tryz.underlying78 n hn
 have hw : IntKind.i64.wrap (IntKind.i64.wrap 0 + (n : Int)) = n:=by
  rw [IntKind.wrap_i64,IntKind.wrap_i64]
  omega
 have hcall : (callFunc 113 #[.int .i64 (IntKind.i64.wrap (IntKind.i64.wrap 0 + (n : Int)))]).run Tryz.prog w.drew = .ok (.value (.slice (some ⟨w.drew.heap.size,0,none⟩) n cs.size)) (w.drew.drew.drew.alloc (.cells cs 5)):=by
  rw [hw,run_callFunc_extern Tryz.func113 (by kernel_rfl) (by kernel_rfl) (by kernel_rfl) (e:=Extern.BytealgMakeNoZero.makeNoZero #[3] #[78]) (by kernel_rfl),hrun]
  rfl
 have ho : Own w b 80 [.pointer (some ⟨b,0,none⟩),.slice none 0 0]:=hb
 have hlt:=ho.lt
 have c1 : w.drew.cell? ⟨b,1,none⟩ = some (.slice none 0 0):=by
  have : w.cell? ⟨b,1,none⟩ = some (.slice none 0 0):=by rw [Own.cellv ho]; rfl
  exact this
 have ho1:=ho.ext (ext_alloc (B:=[]) (.cells cs 5)) (by simp)
 have c2 : (w.alloc (.cells cs 5)).cell? ⟨b,1,none⟩ = some (.slice none 0 0):=by rw [Own.cellv ho1]; rfl
 have f2 : (w.alloc (.cells cs 5)).frozen? ⟨b,1,none⟩ = false:=by unfold Own at ho1; simp [World.frozen?,ho1]
 obtain ⟨ib,hib,hibs⟩ : ∃ j,Tryz.prog.info? 5 = some j /\ j.size = 1:=by
  obtain ⟨j,hj,h⟩:=Option.map_eq_some_iff.1 (show (Tryz.prog.info? 5).map (·.size) = some 1 by kernel_rfl)
  exact ⟨j,hj,h⟩
 have hcopy : ∀ W : World,(Builtin.copy_ #[78,78] 3 #[.slice (some ⟨w.heap.size,0,none⟩) 0 cs.size,.slice none 0 0]).run Tryz.prog W = .ok (goInt 0) W :=
  fun W=>run_copy_none W 78 78 3 5 _ _ 0 cs.size 0 0 Tryz.underlying78 (by kernel_rfl) rfl
 clear hw
 have mixed : Tryz.prog.follows .mixedOrders = true:=by kernel_rfl
 have hfin:=bd_grown (cs:=cs) hb (hmax (by unfold maxLen; omega))
 go_enter Tryz.func98,Tryz.ntmps98
 go_wp2
 go_region_o
 all_goals (go_wp2; go_end0; exact ⟨rfl,hfin⟩)
set_option maxHeartbeats 2000000 in
set_option maxRecDepth 1000000 in
theorem bd_Grow (b n : Nat) (w : World) (hb : w.heap[b]? = some (.cells #[.pointer none,.slice none 0 0] 80 (0,0))) (hn : n <= 281474976710656) :
  Calls Tryz.prog 84 #[.pointer (some ⟨b,0,none⟩),.int .i64 n] w fun e w'=>e = .returned (.tuple #[]) /\ ∃ F',BldIs 80 5 b w' [] F' /\ Turn w w' [b] F':=by
 have ho : Own w b 80 [.pointer none,.slice none 0 0]:=hb
 have hlt:=ho.lt
 have c0 : w.cell? ⟨b,0,none⟩ = some (.pointer none):=by rw [Own.cellv ho]; rfl
 obtain ⟨k1,k2,k3⟩:=Own.setCell ho 0 (.pointer (some ⟨b,0,none⟩))
 have hb1 : (w.setCell ⟨b,0,none⟩ (.pointer (some ⟨b,0,none⟩))).heap[b]? = some (.cells #[.pointer (some ⟨b,0,none⟩),.slice none 0 0] 80 (0,0)):=k1
 have c1 : (w.setCell ⟨b,0,none⟩ (.pointer (some ⟨b,0,none⟩))).cell? ⟨b,1,none⟩ = some (.slice none 0 0):=by rw [Own.cellv k1]; rfl
 have c1' : (w.setCell ⟨b,0,none⟩ (.pointer (some ⟨b,0,none⟩))).drew.cell? ⟨b,1,none⟩ = some (.slice none 0 0):=c1
 have fin0 : ∃ F',BldIs 80 5 b (w.setCell ⟨b,0,none⟩ (.pointer (some ⟨b,0,none⟩))).drew [] F' /\ Turn w (w.setCell ⟨b,0,none⟩ (.pointer (some ⟨b,0,none⟩))).drew [b] F' :=
  bld_after (x':=[]) (v:=.slice none 0 0) (v':=.slice none 0 0) (F:=[b]) (by simp [bldF,Value.ownBlock]) (.inr rfl) hb1 (World.ownsRowF_nil _ _ _ _) (by simp [Value.ownBlock]) ⟨k2.os,k2.tape,k2.output,k2.size,k2.block⟩ (fun k hk=>by simp [Value.ownBlock] at hk)
 have fin1 : ∀ (w2 : World) (F' : List Nat),BldIs 80 5 b w2 [] F' -> Turn (w.setCell ⟨b,0,none⟩ (.pointer (some ⟨b,0,none⟩))).drew w2 [b] F' -> ∃ F',BldIs 80 5 b w2 [] F' /\ Turn w w2 [b] F':=fun w2 F' h1 h2=>by
  have h3 : Ext [b] (w.setCell ⟨b,0,none⟩ (.pointer (some ⟨b,0,none⟩))) w2:=⟨h2.1.os,h2.1.tape,h2.1.output,h2.1.size,h2.1.block⟩
  refine ⟨F',h1,k2.trans h3 (fun _ h=>.inl h) (fun _ h=>.inl h),fun k hk=>(h2.2 k hk).imp id (fun h=>?_)⟩
  have h : (w.setCell ⟨b,0,none⟩ (.pointer (some ⟨b,0,none⟩))).heap.size <= k:=h
  omega
 have mixed : Tryz.prog.follows .mixedOrders = true:=by kernel_rfl
 have e94 : ∀ args w,(callFunc 63 args).run Tryz.prog w = .ok (.enter 63 args) w:=Tryz.call63
 have e123 : ∀ args w,(callFunc 98 args).run Tryz.prog w = .ok (.enter 98 args) w:=Tryz.call98
 go_enter Tryz.func84,Tryz.ntmps84
 go_wp2_with (go_at_call 63; refine (bd_fresh b w c0 (by simp [World.shape?,hb]) (by simp [World.frozen?,hb])).mono ?_; rintro e w' ⟨rfl,rfl⟩)
 go_region_o
 all_goals go_wp2_with (go_at_call 98; refine (bd_grow0 b n (w.setCell ⟨b,0,none⟩ (.pointer (some ⟨b,0,none⟩))).drew hb1 hn).mono ?_; rintro e w2 ⟨rfl,F',h1,h2⟩)
 all_goals first
  | (go_end0; exact ⟨rfl,fin0⟩)
  | (go_end0; exact ⟨rfl,fin1 _ _ h1 h2⟩)
def G0 : Glob where
 is:=fun _ _=>True
 stab:=fun _ _ _ _=>trivial
noncomputable def EV0 : Env:={ E0 with G:=G0 }
theorem EV0_ok : EnvOK EV0:=by
 refine ⟨E0_ok.mixed,E0_ok.zob,E0_ok.call,E0_ok.inl,fun K f args nx c h=>?_,fun K f args nx c h=>?_,fun K o x args r h=>?_,fun K o a x r h=>?_⟩
 . cases h
 . cases h
 . cases h
 . cases h
theorem LendU.okV {K : Nat} {args : List (SV U)} {q : Q1 U} (h : LendU K args q) : LendOK EV0 K args ⟨q.ob,q.hy,q.v,[]⟩:=fun D w vs _ _ ha=>h D w vs ha
def cUp (a : List (SV U)) : Option (Q1 U):=match a with | [.str s]=>some ⟨[],[],.str (upper s)⟩ | _=>none
theorem cUp_of {K : Nat} (hK : ∀ (s : Str) (w : World),s.length <= 9223372036854775807 -> Calls Tryz.prog K #[.string ⟨s.toArray⟩] w fun e w'=>e = .returned (.string ⟨(upper s).toArray⟩) /\ Ext [] w w') (args : List (SV U)) (q : Q1 U) (h : cUp args = some q) : LendU K args q:=by
 unfold cUp at h
 split at h
 . rename_i s
   cases h
   intro D w vs ha
   obtain ⟨v1,r1,rfl,h1,ha⟩:=Rep.tup_cons ha
   obtain rfl:=tup0_inv ha
   cases h1 with | str hl =>
   intro w1 hs
   refine Calls.mono (hK s w1 hl) fun e w2 ⟨h1,h2⟩=>?_
   exact ⟨_,w2,h1,Sim.refl _,sim_ext hs h2,.str (by unfold upper; rw [List.length_map]; exact hl),trivial⟩
 . cases h
theorem join_run (l : List Str) (t : Str) (D : Nat -> Prop) (w w1 : World) (hs : Sim w w1) (v : Value) (hv : (dSlice dStr).rd D w [v] l) (h1 : (Lib.join l t).length <= 140737488355328) (h2 : l.length <= 140737488355328) :
  Calls Tryz.prog 60 #[v,sv t] w1 fun e w'=>e = .returned (.string ⟨(Lib.join l t).toArray⟩) /\ Ext [] w w':=by
 obtain ⟨_,A,cap,e,⟨_,hcap⟩,hc⟩:=hv
 simp only [List.cons.injEq,and_true] at e
 subst e
 cases l with
 | nil =>
  refine Calls.mono (Tryz.strings_Join_none A cap ⟨t.toArray⟩ w1) fun e w2 ⟨g1,g2⟩=>?_
  subst g2
  exact ⟨g1,sim_ext hs (Ext.refl _ _)⟩
 | cons x l =>
  obtain ⟨b,o,c,eA,hb,hcell,hrd⟩:=hc 0 (by simp)
  subst eA
  obtain ⟨xs,hxs⟩ : ∃ xs : List ByteArray,xs = (x :: l).map fun s=>⟨s.toArray⟩:=⟨_,rfl⟩
  have exs : xs.map (·.data.toList) = x :: l:=by
   rw [hxs,List.map_map]
   have : ((fun b : ByteArray=>b.data.toList) ∘ fun s : Str=>(⟨s.toArray⟩ : ByteArray)) = id:=by funext s; simp
   rw [this,List.map_id]
  have el : xs.length = (x :: l).length:=by rw [hxs,List.length_map]
  have hcells : ∀ (j : Nat) y,xs[j]? = some y -> w1.cell? ⟨b,o + j,none⟩ = some (.string y):=fun j y hy=>by
   rw [Sim.cell hs]
   have hj : j < (x :: l).length:=by
    have:=(List.getElem?_eq_some_iff.1 hy).1
    omega
   obtain ⟨b',o',c',eA',_,hcell',hrd'⟩:=hc j hj
   simp only [Option.some.injEq,Addr.mk.injEq] at eA'
   obtain ⟨rfl,rfl,-⟩:=eA'
   have hc1:=hrd'.1
   subst hc1
   obtain ⟨C,T,z,hh,hC⟩:=hcell'
   have:=hC 0 (by simp)
   have e1 : o + j * dStr.sz + 0 = o + j:=by show o + j * 1 + 0 = o + j; omega
   rw [e1] at this
   have ey : y = ⟨((x :: l)[j]).toArray⟩:=by
    have h:=(List.getElem?_eq_some_iff.1 hy).2
    subst hxs
    rw [<- h,List.getElem_map]
   rw [ey]
   unfold World.cell?
   simp only [hh]
   simpa [sv] using this
  have hbk : b < w1.heap.size:=by
   obtain ⟨k,rfl⟩:=hs
   exact hcell.lt
  have run:=Tryz.strings_Join b o cap xs ⟨t.toArray⟩ w1 hcells hbk (by omega) (by omega) (by rw [exs]; exact h1)
  rw [exs,el] at run
  exact Calls.mono run fun e w2 ⟨g1,g2⟩=>⟨g1,below_ext hs g2⟩
def cJo (a : List (SV U)) : Option (Q1 U):=match a with | [.sl 9 l,.str t]=>some ⟨[(Lib.join l t).length <= 140737488355328,List.length (α:=Str) l <= 140737488355328],[],.str (Lib.join l t)⟩ | _=>none
theorem cJoU (args : List (SV U)) (q : Q1 U) (h : cJo args = some q) (ho : allP q.ob) : LendU 60 args q:=by
 unfold cJo at h
 split at h
 . rename_i l t
   cases h
   obtain ⟨h1,h2,-⟩:=ho
   intro D w vs ha
   obtain ⟨v1,r1,rfl,hv1,ha⟩:=Rep.tup_cons ha
   obtain ⟨v2,r2,rfl,hv2,ha⟩:=Rep.tup_cons ha
   obtain rfl:=tup0_inv ha
   cases hv1 with | sl hv1 =>
   cases hv2 with | str hl2 =>
   intro w1 hs
   exact Calls.mono (join_run l t D w w1 hs v1 hv1 h1 h2) fun e w2 ⟨g1,g2⟩=>⟨_,w2,g1,Sim.refl _,g2,.str (by have h1 : (Lib.join l t).length <= 140737488355328:=h1; omega),trivial⟩
 . cases h
noncomputable def EV1 : Env:=((((EV0.addL 74 cUp).addL 90 cUp).addL 61 cCA).addL 23 cIs).addL 60 cJo
theorem EV1_ok : EnvOK EV1:=((((EV0_ok.addL Tryz.call74 (fun a q h _=>(cUp_of up_ok a q h).okV)).addL Tryz.call90 (fun a q h _=>(cUp_of upl_ok a q h).okV)).addL Tryz.call61 (fun a q h ho=>(cCAU a q h ho).okV)).addL Tryz.call23 (fun a q h _=>(cIsU a q h).okV)).addL Tryz.call60 (fun a q h ho=>(cJoU a q h ho).okV)
def zobX (t : Nat) : Option ((k : Nat) × U.O k):=bif Nat.beq t 80 then some ⟨1,(none : Option Str)⟩ else none
noncomputable def EX0 : Env:={ EV0 with zob:=zobX }
theorem EX0_ok : EnvOK EX0:=by
 refine ⟨E0_ok.mixed,fun t k x h=>?_,E0_ok.call,E0_ok.inl,fun K f args nx c h=>?_,fun K f args nx c h=>?_,fun K o x args r h=>?_,fun K o a x r h=>?_⟩
 . have h : zobX t = some ⟨k,x⟩:=h
   unfold zobX at h
   cases hb : Nat.beq t 80 with
   | false=>rw [hb] at h; cases h
   | true =>
    rw [hb] at h
    cases h
    have e:=Nat.eq_of_beq_eq_true hb
    subst e
    exact ⟨.agg #[.pointer none,.slice none 0 0],by kernel_rfl,fun Z w b ho=>⟨ho,rfl⟩⟩
 . cases h
 . cases h
 . cases h
 . cases h
def cCo (a : List (SV U)) : Option (Q1 U):=match a with | [.str s,.str t]=>some ⟨[t.length = 1],[],.int .i64 (s.count (ix t 0) : Nat)⟩ | _=>none
theorem cCoU (args : List (SV U)) (q : Q1 U) (h : cCo args = some q) (ho : allP q.ob) : LendU 111 args q:=by
 unfold cCo at h
 split at h
 . rename_i s t
   cases h
   obtain ⟨c,rfl⟩ : ∃ c,t = [c]:=by
    have : t.length = 1:=ho.1
    match t,this with
    | [c],_=>exact ⟨c,rfl⟩
   intro D w vs ha
   obtain ⟨v1,r1,rfl,h1,ha⟩:=Rep.tup_cons ha
   obtain ⟨v2,r2,rfl,h2,ha⟩:=Rep.tup_cons ha
   obtain rfl:=tup0_inv ha
   cases h1 with | str hl =>
   cases h2 with | str hl2 =>
   intro w1 hs
   refine Calls.mono (Tryz.strings_Count_one ⟨s.toArray⟩ c w1) fun e w2 ⟨g1,g2⟩=>?_
   subst g2
   have hcl : Lib.countByte (⟨s.toArray⟩ : ByteArray).data.toList c <= s.length:=List.count_le_length
   exact ⟨_,w2,g1,Sim.refl _,sim_ext hs (Ext.refl _ _),.int fun _=>⟨by omega,by omega⟩,trivial⟩
 . cases h
def cIn (a : List (SV U)) : Option (Q1 U):=match a with | [.str s,.str t]=>some ⟨[t.length = 1],[],.int .i64 (Lib.indexByte s (ix t 0))⟩ | _=>none
theorem cInU (args : List (SV U)) (q : Q1 U) (h : cIn args = some q) (ho : allP q.ob) : LendU 112 args q:=by
 unfold cIn at h
 split at h
 . rename_i s t
   cases h
   obtain ⟨c,rfl⟩ : ∃ c,t = [c]:=by
    have : t.length = 1:=ho.1
    match t,this with
    | [c],_=>exact ⟨c,rfl⟩
   intro D w vs ha
   obtain ⟨v1,r1,rfl,h1,ha⟩:=Rep.tup_cons ha
   obtain ⟨v2,r2,rfl,h2,ha⟩:=Rep.tup_cons ha
   obtain rfl:=tup0_inv ha
   cases h1 with | str hl =>
   cases h2 with | str hl2 =>
   intro w1 hs
   refine Calls.mono (Tryz.strings_Index_one ⟨s.toArray⟩ c w1) fun e w2 ⟨g1,g2⟩=>?_
   subst g2
   have h1 : -1 <= Lib.indexByte (⟨s.toArray⟩ : ByteArray).data.toList c:=Lib.indexByte_ge s c
   have h2 : Lib.indexByte (⟨s.toArray⟩ : ByteArray).data.toList c < s.length:=indexByte_lt s c
   exact ⟨_,w2,g1,Sim.refl _,sim_ext hs (Ext.refl _ _),.int fun _=>⟨by omega,by omega⟩,trivial⟩
 . cases h
theorem obc_of1 {K : Nat} {C : U.O 1 -> List (SV U) -> Option (OR U 1)} {x : Option Str} {args : List (SV U)} {r : OR U 1} (h : ∀ (D : Nat -> Prop) (w : World) (vs : List Value),Rep U eT (fun _=>none) D w (.tuple vs.toArray) (.tup args) -> ∃ v,(∀ w',Rep U eT (fun _=>none) (fun _=>False) w' v r.r) /\ allP r.hy /\
  ∀ (Z : Nat -> Prop) b w1 F,(bldO 80 5 b).is Z w1 x F -> Calls Tryz.prog K (Value.pointer (some ⟨b,0,none⟩) :: vs).toArray w1 fun e w2=>e = .returned v /\ ∃ F',(bldO 80 5 b).is Z w2 r.x F' /\ Turn w1 w2 F F') : ObcOK EX0 K ⟨1,C⟩ x args r:=by
 intro Z D w vs b F _ _ _ hb _ ha
 obtain ⟨v,hr,hy,hc⟩:=h D w vs ha
 intro w1 hs
 have hb1 : (bldO 80 5 b).is Z w1 x F:=by obtain ⟨k,rfl⟩:=hs; cases x <;> exact hb
 refine Calls.mono (hc Z b w1 F hb1) fun e w2 ⟨h1,F',h2,h3⟩=>?_
 exact ⟨v,w2,h1,Sim.refl _,F',h2,sim_turn hs h3,hr w2,hy⟩
def oGX : OC U:=⟨1,fun (x : Option Str) a=>match a with | [.int .i64 n]=>some ⟨[x = none,0 <= n,n <= 140737488355328],[],.tup [],(some [] : Option Str)⟩ | _=>none⟩
theorem oGX_ok (x : U.O oGX.k) (args : List (SV U)) (r : OR U oGX.k) (h : oGX.C x args = some r) (ho : allP r.ob) : ObcOK EX0 84 oGX x args r:=by
 unfold oGX at h
 simp only at h
 split at h
 . rename_i n
   cases h
   obtain ⟨hx,h0,h1,-⟩:=ho
   have hx : (x : Option Str) = none:=hx
   have h0 : 0 <= n:=h0
   have h1 : n <= 140737488355328:=h1
   refine obc_of1 fun D w vs ha=>⟨.tuple #[],fun _=>.tup0,trivial,fun Z b w1 F hb=>?_⟩
   obtain ⟨v1,r1,rfl,hv,ha⟩:=Rep.tup_cons ha
   obtain rfl:=tup0_inv ha
   cases hv with | int hn =>
   obtain ⟨m,rfl⟩ : ∃ m : Nat,n = m:=⟨n.toNat,by omega⟩
   rw [hx] at hb
   have hb : Own w1 b 80 [.pointer none,.slice none 0 0] /\ F = [b]:=hb
   have run:=bd_Grow b m w1 hb.1 (by omega)
   rw [<- hb.2] at run
   exact run.mono fun _ _ h=>h
 . cases h
def oWX : OC U:=⟨1,fun (x : Option Str) a=>match a with | [.str t]=>some ⟨[x.isSome = true,(x.getD []).length + t.length <= 140737488355328],[],.tup [.int .i64 t.length,.err .nil],(some (x.getD [] ++ t) : Option Str)⟩ | _=>none⟩
theorem oWX_ok (x : U.O oWX.k) (args : List (SV U)) (r : OR U oWX.k) (h : oWX.C x args = some r) (ho : allP r.ob) : ObcOK EX0 38 oWX x args r:=by
 unfold oWX at h
 simp only at h
 split at h
 . rename_i t
   cases h
   obtain ⟨hx,h0,-⟩:=ho
   obtain ⟨x,rfl⟩ : ∃ s : Str,x = some s:=Option.isSome_iff_exists.1 hx
   refine obc_of1 fun D w vs ha=>?_
   obtain ⟨v1,r1,rfl,h1,ha⟩:=Rep.tup_cons ha
   obtain rfl:=tup0_inv ha
   cases h1 with | str hl =>
   have hr : ∀ w',Rep U eT (fun _=>none) (fun _=>False) w' (.tuple #[.int .i64 t.length,.nilIface]) (.tup [.int .i64 t.length,.err .nil]):=fun w'=>.tup1 (cs:=[.nilIface]) (.int fun _=>⟨by omega,by omega⟩) (.tup1 (cs:=[]) (.err .nil) .tup0)
   exact ⟨_,hr,trivial,fun Z b w1 F hb=>bd_write b x t w1 F hb h0⟩
 . cases h
def oSX : OC U:=⟨1,fun (x : Option Str) a=>match a with | []=>some ⟨[x.isSome = true,(x.getD []).length <= 9223372036854775807],[],.str (x.getD []),x⟩ | _=>none⟩
theorem oSX_ok (x : U.O oSX.k) (args : List (SV U)) (r : OR U oSX.k) (h : oSX.C x args = some r) (ho : allP r.ob) : ObcOK EX0 39 oSX x args r:=by
 unfold oSX at h
 simp only at h
 split at h
 . cases h
   obtain ⟨hx,h0,-⟩:=ho
   obtain ⟨x,rfl⟩ : ∃ s : Str,x = some s:=Option.isSome_iff_exists.1 hx
   refine obc_of1 fun D w vs ha=>?_
   obtain rfl:=tup0_inv ha
   exact ⟨_,fun w'=>.str h0,trivial,fun Z b w1 F hb=>bd_string b x w1 F hb⟩
 . cases h
noncomputable def EX : Env:=((((EX0.addL 111 cCo).addL 112 cIn).addO 84 oGX).addO 38 oWX).addO 39 oSX
theorem EX_ok : EnvOK EX:=((((EX0_ok.addL Tryz.call111 (fun a q h ho D w vs _ _ ha=>cCoU a q h ho D w vs ha)).addL Tryz.call112 (fun a q h ho D w vs _ _ ha=>cInU a q h ho D w vs ha)).addO Tryz.call84 oGX_ok).addO Tryz.call38 oWX_ok).addO Tryz.call39 oSX_ok
end Go.Proofs.YtadgfmmmdhlljaaGreatDoor
end
section
namespace Go.Proofs.YtadgfmmmdhlljaaGreatDoor
open Go Go.Wk Go.Wl Go.Rx Go.Fo Go.Li Go.Co 
def an122 : Nat -> Ann:=fun | 97=>⟨104,fun | 13=>some ⟨[0,1,2,10,52],[.slot 11 (.int .i64),.slot 53 (.int .i64),.ob 10 1]⟩ | 21=>some ⟨[0,2,10,77],[.slot 11 (.int .i64),.slot 78 (.int .i64),.ob 10 1]⟩ | _=>none,fun  | _=>none⟩ | _=>⟨0,fun _=>none,fun _=>none⟩
def q1220 (x : Int) (s : Str) (c : UInt8):=List.take (x + Lib.indexByte (List.drop x.toNat s) (ix [c] (0 : Int))).toNat s
def V122 (s : Str) (c : UInt8) (t : Str) (n : Int) (Q : Str -> Prop) : Prop :=
([c] = t ∨ n = 0 -> Q s) /\ (¬([c] = t ∨ n = 0) -> [c].length = 1 /\ ((↑(List.count (ix [c] (0 : Int)) s) : Int) = 0 -> Q s) /\ (¬(↑(List.count (ix [c] (0 : Int)) s) : Int) = 0 -> (n < 0 ∨ (↑(List.count (ix [c] (0 : Int)) s) : Int) < n -> in64 ((↑(List.length t) : Int) - (↑[c].length : Int)) /\ in64 ((↑(List.count (ix [c] (0 : Int)) s) : Int) * ((↑(List.length t) : Int) - (↑[c].length : Int))) /\ in64 ((↑(List.length s) : Int) + (↑(List.count (ix [c] (0 : Int)) s) : Int) * ((↑(List.length t) : Int) - (↑[c].length : Int))) /\ (none : Option Str) = none /\ (0 : Int) <= (↑(List.length s) : Int) + (↑(List.count (ix [c] (0 : Int)) s) : Int) * ((↑(List.length t) : Int) - (↑[c].length : Int)) /\ (↑(List.length s) : Int) + (↑(List.count (ix [c] (0 : Int)) s) : Int) * ((↑(List.length t) : Int) - (↑[c].length : Int)) <= 140737488355328 /\ ((0 : Int) < (↑[c].length : Int) -> ∃ (I : Int -> Int -> Option Str -> Prop),∃ (m : Int -> Int -> Option Str -> Nat),I (0 : Int) (0 : Int) (some ([] : List UInt8)) /\ ∀ (x x_1 : Int) (x_2 : Option Str),I x x_1 x_2 -> (x_1 < (↑(List.count (ix [c] (0 : Int)) s) : Int) -> (0 : Int) <= x /\ x <= (↑(List.length s) : Int) /\ [c].length = 1 /\ in64 (x + Lib.indexByte (List.drop x.toNat s) (ix [c] (0 : Int))) /\ (0 : Int) <= x /\ x <= x + Lib.indexByte (List.drop x.toNat s) (ix [c] (0 : Int)) /\ x + Lib.indexByte (List.drop x.toNat s) (ix [c] (0 : Int)) <= (↑(List.length s) : Int) /\ x_2.isSome = true /\ List.length (x_2.getD []) + (List.drop x.toNat (q1220 x s c)).length <= 140737488355328 /\ (some (x_2.getD [] ++ List.drop x.toNat (q1220 x s c))).isSome = true /\ List.length ((some (x_2.getD [] ++ List.drop x.toNat (q1220 x s c))).getD []) + List.length t <= 140737488355328 /\ in64 (x + Lib.indexByte (List.drop x.toNat s) (ix [c] (0 : Int)) + (↑[c].length : Int)) /\ in64 (x_1 + 1) /\ I (x + Lib.indexByte (List.drop x.toNat s) (ix [c] (0 : Int)) + (↑[c].length : Int)) (x_1 + 1) (some ((some (x_2.getD [] ++ List.drop x.toNat (q1220 x s c))).getD [] ++ t)) /\ m (x + Lib.indexByte (List.drop x.toNat s) (ix [c] (0 : Int)) + (↑[c].length : Int)) (x_1 + 1) (some ((some (x_2.getD [] ++ List.drop x.toNat (q1220 x s c))).getD [] ++ t)) < m x x_1 x_2) /\ (¬x_1 < (↑(List.count (ix [c] (0 : Int)) s) : Int) -> (0 : Int) <= x /\ x <= (↑(List.length s) : Int) /\ x_2.isSome = true /\ List.length (x_2.getD []) + (List.drop x.toNat s).length <= 140737488355328 /\ (some (x_2.getD [] ++ List.drop x.toNat s)).isSome = true /\ List.length ((some (x_2.getD [] ++ List.drop x.toNat s)).getD []) <= 9223372036854775807 /\ Q ((some (x_2.getD [] ++ List.drop x.toNat s)).getD []))) /\ (¬(0 : Int) < (↑[c].length : Int) -> (some ([] : List UInt8)).isSome = true /\ List.length ((some ([] : List UInt8)).getD []) + List.length t <= 140737488355328 /\ in64 ((↑(List.count (ix [c] (0 : Int)) s) : Int) - 1) /\ ∃ (I : Int -> Int -> Option Str -> Prop),∃ (m : Int -> Int -> Option Str -> Nat),I (0 : Int) (0 : Int) (some ((some ([] : List UInt8)).getD [] ++ t)) /\ ∀ (x x_1 : Int) (x_2 : Option Str),I x x_1 x_2 -> (x_1 < (↑(List.count (ix [c] (0 : Int)) s) : Int) - 1 -> (0 : Int) <= x /\ x <= (↑(List.length s) : Int) /\ False) /\ (¬x_1 < (↑(List.count (ix [c] (0 : Int)) s) : Int) - 1 -> (0 : Int) <= x /\ x <= (↑(List.length s) : Int) /\ x_2.isSome = true /\ List.length (x_2.getD []) + (List.drop x.toNat s).length <= 140737488355328 /\ (some (x_2.getD [] ++ List.drop x.toNat s)).isSome = true /\ List.length ((some (x_2.getD [] ++ List.drop x.toNat s)).getD []) <= 9223372036854775807 /\ Q ((some (x_2.getD [] ++ List.drop x.toNat s)).getD [])))) /\ (¬(n < 0 ∨ (↑(List.count (ix [c] (0 : Int)) s) : Int) < n) -> in64 ((↑(List.length t) : Int) - (↑[c].length : Int)) /\ in64 (n * ((↑(List.length t) : Int) - (↑[c].length : Int))) /\ in64 ((↑(List.length s) : Int) + n * ((↑(List.length t) : Int) - (↑[c].length : Int))) /\ (none : Option Str) = none /\ (0 : Int) <= (↑(List.length s) : Int) + n * ((↑(List.length t) : Int) - (↑[c].length : Int)) /\ (↑(List.length s) : Int) + n * ((↑(List.length t) : Int) - (↑[c].length : Int)) <= 140737488355328 /\ ((0 : Int) < (↑[c].length : Int) -> ∃ (I : Int -> Int -> Option Str -> Prop),∃ (m : Int -> Int -> Option Str -> Nat),I (0 : Int) (0 : Int) (some ([] : List UInt8)) /\ ∀ (x x_1 : Int) (x_2 : Option Str),I x x_1 x_2 -> (x_1 < n -> (0 : Int) <= x /\ x <= (↑(List.length s) : Int) /\ [c].length = 1 /\ in64 (x + Lib.indexByte (List.drop x.toNat s) (ix [c] (0 : Int))) /\ (0 : Int) <= x /\ x <= x + Lib.indexByte (List.drop x.toNat s) (ix [c] (0 : Int)) /\ x + Lib.indexByte (List.drop x.toNat s) (ix [c] (0 : Int)) <= (↑(List.length s) : Int) /\ x_2.isSome = true /\ List.length (x_2.getD []) + (List.drop x.toNat (q1220 x s c)).length <= 140737488355328 /\ (some (x_2.getD [] ++ List.drop x.toNat (q1220 x s c))).isSome = true /\ List.length ((some (x_2.getD [] ++ List.drop x.toNat (q1220 x s c))).getD []) + List.length t <= 140737488355328 /\ in64 (x + Lib.indexByte (List.drop x.toNat s) (ix [c] (0 : Int)) + (↑[c].length : Int)) /\ in64 (x_1 + 1) /\ I (x + Lib.indexByte (List.drop x.toNat s) (ix [c] (0 : Int)) + (↑[c].length : Int)) (x_1 + 1) (some ((some (x_2.getD [] ++ List.drop x.toNat (q1220 x s c))).getD [] ++ t)) /\ m (x + Lib.indexByte (List.drop x.toNat s) (ix [c] (0 : Int)) + (↑[c].length : Int)) (x_1 + 1) (some ((some (x_2.getD [] ++ List.drop x.toNat (q1220 x s c))).getD [] ++ t)) < m x x_1 x_2) /\ (¬x_1 < n -> (0 : Int) <= x /\ x <= (↑(List.length s) : Int) /\ x_2.isSome = true /\ List.length (x_2.getD []) + (List.drop x.toNat s).length <= 140737488355328 /\ (some (x_2.getD [] ++ List.drop x.toNat s)).isSome = true /\ List.length ((some (x_2.getD [] ++ List.drop x.toNat s)).getD []) <= 9223372036854775807 /\ Q ((some (x_2.getD [] ++ List.drop x.toNat s)).getD []))) /\ (¬(0 : Int) < (↑[c].length : Int) -> (some ([] : List UInt8)).isSome = true /\ List.length ((some ([] : List UInt8)).getD []) + List.length t <= 140737488355328 /\ in64 (n - 1) /\ ∃ (I : Int -> Int -> Option Str -> Prop),∃ (m : Int -> Int -> Option Str -> Nat),I (0 : Int) (0 : Int) (some ((some ([] : List UInt8)).getD [] ++ t)) /\ ∀ (x x_1 : Int) (x_2 : Option Str),I x x_1 x_2 -> (x_1 < n - 1 -> (0 : Int) <= x /\ x <= (↑(List.length s) : Int) /\ False) /\ (¬x_1 < n - 1 -> (0 : Int) <= x /\ x <= (↑(List.length s) : Int) /\ x_2.isSome = true /\ List.length (x_2.getD []) + (List.drop x.toNat s).length <= 140737488355328 /\ (some (x_2.getD [] ++ List.drop x.toNat s)).isSome = true /\ List.length ((some (x_2.getD [] ++ List.drop x.toNat s)).getD []) <= 9223372036854775807 /\ Q ((some (x_2.getD [] ++ List.drop x.toNat s)).getD []))))))
theorem V122_ok {s : Str} {c : UInt8} {t : Str} {n : Int} {Q : Str -> Prop} (h : V122 s c t n Q) : vcFun (E:=EX) (inlN an122 2) (an122 97) Tryz.f97 [.str s,.str [c],.str t,.int .i64 n] [] [] 0 (resP EX [.str] Q):=Eq.mp (show V122 s c t n Q = vcFun (E:=EX) (inlN an122 2) (an122 97) Tryz.f97 [.str s,.str [c],.str t,.int .i64 n] [] [] 0 (resP EX [.str] Q) by kernel_rfl) h
theorem p122 (s : Str) (c : UInt8) (t : Str) (n : Int) (hn : n < 0) (hs : s.length <= 1000000000) (ht : t.length = 2) : V122 s c t n (fun y0=>y0 = replB c t s):=by
 unfold V122 q1220
 have ec : ix [c] 0 = c:=rfl
 have el : (([c] : Str).length : Int) = 1:=rfl
 rw [ec,el]
 refine ⟨fun h=>?_,fun _=>⟨rfl,fun h0=>(replB_none (by omega)).symm,fun h0=>⟨fun _=>?_,fun h1=>absurd (.inl hn) h1⟩⟩⟩
 . rcases h with h | h
   . rw [<- h] at ht; simp at ht
   . omega
 have hcl : s.count c <= s.length:=List.count_le_length
 rw [ht]
 refine ⟨⟨by omega,by omega⟩,⟨by omega,by omega⟩,⟨by omega,by omega⟩,rfl,by omega,by omega,fun _=>?_,fun h=>absurd (show (0 : Int) < 1 by omega) h⟩
 refine ⟨fun a i o=>0 <= a /\ a <= s.length /\ 0 <= i /\ ((s.drop a.toNat).count c : Int) + i = s.count c /\ ∃ x,o = some x /\ x ++ replB c t (s.drop a.toNat) = replB c t s,fun a _ _=>((s.length : Int) - a).toNat,⟨by omega,by omega,by omega,by simp,[],rfl,by simp⟩,?_⟩
 rintro a i o ⟨a0,a1,i0,hc,x,rfl,hx⟩
 have lx:=congrArg List.length hx
 have rl:=replB_len c ht s
 rw [List.length_append] at lx
 simp only [Option.getD_some,Option.isSome_some]
 refine ⟨fun hi=>?_,fun hi=>?_⟩
 . obtain ⟨j,h1,h2,h3,h4⟩:=replB_hit t (s:=s.drop a.toNat) (c:=c) (by omega)
   rw [List.length_drop] at h2
   rw [List.drop_drop] at h3 h4
   have e1 : a.toNat + (j + 1) = (a + j + 1).toNat:=by omega
   rw [e1] at h3 h4
   have e2 : List.drop a.toNat (List.take (a + (j : Int)).toNat s) = (s.drop a.toNat).take j:=by
    rw [List.drop_take]; congr 1; omega
   rw [h1,e2]
   have l1 : ((s.drop a.toNat).take j).length <= s.length:=by rw [List.length_take,List.length_drop]; omega
   refine ⟨a0,a1,rfl,⟨by omega,by omega⟩,a0,by omega,by omega,trivial,by omega,trivial,by rw [List.length_append]; omega,⟨by omega,by omega⟩,⟨by omega,by omega⟩,⟨by omega,by omega,by omega,by omega,_,rfl,?_⟩,by omega⟩
   rw [<- hx,h3]; simp
 . have hz : (s.drop a.toNat).count c = 0:=by omega
   rw [replB_none hz] at hx
   have:=congrArg List.length hx
   rw [List.length_append,List.length_drop] at this
   refine ⟨a0,a1,trivial,by rw [List.length_drop]; omega,trivial,by rw [List.length_append,List.length_drop]; omega,hx⟩
def c122 (a : List (SV U)) : Option (Q1 U):=match a with | [.str s,.str [c],.str t,.int .i64 n]=>some ⟨[n < 0,List.length (α:=UInt8) s <= 1000000000,t.length = 2],[],.str (replB c t s)⟩ | _=>none
theorem c122_ok (args : List (SV U)) (q : Q1 U) (h : c122 args = some q) (ho : allP q.ob) : LendOK EX 97 args ⟨q.ob,q.hy,q.v,[]⟩:=by
 unfold c122 at h
 split at h
 . rename_i s c t n
   cases h
   exact lend1 EX_ok (inlN_ok EX_ok an122 2) Tryz.func97 (k:=.str) (x:=replB c t s) trivial (V122_ok (p122 s c t n ho.1 ho.2.1 ho.2.2.1)) 0
 . cases h
noncomputable def EV2 : Env:=EV1.addL 97 c122
theorem EV2_ok : EnvOK EV2:=EV1_ok.addL Tryz.call97 (fun a q h ho D w vs hD hg ha=>c122_ok a q h ho D w vs hD hg ha)
noncomputable def EV : Env:=EV2.addI 83 Tryz.f83
theorem EV_ok : EnvOK EV:=EV2_ok.addI Tryz.call83 Tryz.func83
def an108 : Nat -> Ann:=fun | 93=>⟨29,fun _=>none,fun  | _=>none⟩ | _=>⟨0,fun _=>none,fun _=>none⟩
def V108 (c : UInt8) (Q : Bool -> Prop) : Prop :=
Q (decide ((((65 : UInt8) <= c /\ c <= 90 ∨ (97 : UInt8) <= c /\ c <= 122) ∨ (48 : UInt8) <= c /\ c <= 57) ∨ c = 45))
theorem V108_ok {c : UInt8} {Q : Bool -> Prop} (h : V108 c Q) : vcFun (E:=EV) (inlN an108 2) (an108 93) Tryz.f93 [.byte c] [] [] 0 (resP EV [.bool] Q):=Eq.mp (show V108 c Q = vcFun (E:=EV) (inlN an108 2) (an108 93) Tryz.f93 [.byte c] [] [] 0 (resP EV [.bool] Q) by kernel_rfl) h
theorem beq_dec (a b : UInt8) : (a == b) = decide (a = b):=by
 by_cases h : a = b
 . subst h; simp
 . simp [h]
theorem p108 (c : UInt8)  : V108 c (fun y0=>y0 = letterB c):=by
 unfold V108 letterB
 rw [beq_dec]
 simp only [Bool.decide_or,Bool.decide_and]
def c108 (a : List (SV U)) : Option (Q1 U):=match a with | [.byte c]=>some ⟨[],[],blB (letterB c)⟩ | _=>none
theorem c108_ok (args : List (SV U)) (q : Q1 U) (h : c108 args = some q) (ho : allP q.ob) : LendOK EV 93 args ⟨q.ob,q.hy,q.v,[]⟩:=by
 unfold c108 at h
 split at h
 . rename_i c
   cases h
   exact lend1 EV_ok (inlN_ok EV_ok an108 2) Tryz.func93 (k:=.bool) (x:=letterB c) trivial (V108_ok (p108 c )) 0
 . cases h
noncomputable def N108 : Env:=EV.addL 93 c108
theorem N108_ok : EnvOK N108:=EV_ok.addL Tryz.call93 c108_ok
def an36 : Nat -> Ann:=fun | 95=>⟨13,fun _=>none,fun  | _=>none⟩ | _=>⟨0,fun _=>none,fun _=>none⟩
def V36 (c : UInt8) (Q : Bool -> Prop) : Prop :=
Q (decide (c = 9 ∨ (32 : UInt8) <= c /\ c ≠ 127))
theorem V36_ok {c : UInt8} {Q : Bool -> Prop} (h : V36 c Q) : vcFun (E:=N108) (inlN an36 2) (an36 95) Tryz.f95 [.byte c] [] [] 0 (resP N108 [.bool] Q):=Eq.mp (show V36 c Q = vcFun (E:=N108) (inlN an36 2) (an36 95) Tryz.f95 [.byte c] [] [] 0 (resP N108 [.bool] Q) by kernel_rfl) h
theorem p36 (c : UInt8)  : V36 c (fun y0=>y0 = standsB c):=by
 unfold V36 standsB
 rw [bne,beq_dec,beq_dec]
 simp only [Bool.decide_or,Bool.decide_and,ne_eq,decide_not]
def c36 (a : List (SV U)) : Option (Q1 U):=match a with | [.byte c]=>some ⟨[],[],blB (standsB c)⟩ | _=>none
theorem c36_ok (args : List (SV U)) (q : Q1 U) (h : c36 args = some q) (ho : allP q.ob) : LendOK N108 95 args ⟨q.ob,q.hy,q.v,[]⟩:=by
 unfold c36 at h
 split at h
 . rename_i c
   cases h
   exact lend1 N108_ok (inlN_ok N108_ok an36 2) Tryz.func95 (k:=.bool) (x:=standsB c) trivial (V36_ok (p36 c )) 0
 . cases h
noncomputable def N36 : Env:=N108.addL 95 c36
theorem N36_ok : EnvOK N36:=N108_ok.addL Tryz.call95 c36_ok
theorem said_hit {c d e : UInt8} {r : Str} (h : c = 94 /\ d = 110 /\ e = 10 ∨ c = 94 /\ d = 39 /\ e = 34 ∨ c = 94 /\ d = 94 /\ e = 94) : said (c :: d :: r) = e :: said r:=by
 rw [said]
 rcases h with ⟨rfl,rfl,rfl⟩ | ⟨rfl,rfl,rfl⟩ | ⟨rfl,rfl,rfl⟩
 . rw [if_pos (by decide)]
 . rw [if_neg (by decide),if_pos (by decide)]
 . rw [if_neg (by decide),if_neg (by decide),if_pos (by decide)]
theorem said_one {c : UInt8} {r : Str} (h : ¬ (c = 94 /\ r ≠ [] /\ (ix r 0 = 110 ∨ ix r 0 = 39 ∨ ix r 0 = 94))) : said (c :: r) = c :: said r:=by
 cases r with
 | nil=>rfl
 | cons d r =>
  have e : ix (d :: r) 0 = d:=rfl
  rw [e] at h
  rw [said,if_neg (fun x=>h ⟨x.1,by simp,.inl x.2⟩),if_neg (fun x=>h ⟨x.1,by simp,.inr (.inl x.2)⟩),if_neg (fun x=>h ⟨x.1,by simp,.inr (.inr x.2)⟩)]
theorem said_drop2 {s : Str} {i : Int} {e : UInt8} (h0 : 0 <= i) (h1 : i + 1 < s.length) (h : ix s i = 94 /\ ix s (i + 1) = 110 /\ e = 10 ∨ ix s i = 94 /\ ix s (i + 1) = 39 /\ e = 34 ∨ ix s i = 94 /\ ix s (i + 1) = 94 /\ e = 94) : said (s.drop i.toNat) = e :: said (s.drop (i + 1 + 1).toNat):=by
 rw [ix_drop h0 (by omega),ix_drop (i:=i + 1) (by omega) h1,said_hit h]
theorem said_drop1 {s : Str} {i : Int} (h0 : 0 <= i) (h1 : i < s.length) (h : ¬ (ix s i = 94 /\ i + 1 < s.length /\ (ix s (i + 1) = 110 ∨ ix s (i + 1) = 39 ∨ ix s (i + 1) = 94))) : said (s.drop i.toNat) = ix s i :: said (s.drop (i + 1).toNat):=by
 rw [ix_drop h0 h1,said_one]
 intro ⟨e1,e2,e3⟩
 have hl : i + 1 < s.length:=by
  have:=List.length_pos_iff.2 e2
  rw [List.length_drop] at this; omega
 rw [ix_drop (i:=i + 1) (by omega) hl] at e3
 exact h ⟨e1,hl,e3⟩
theorem said_len : ∀ (n : Nat) (s : Str),s.length <= n -> (said s).length <= s.length:=by
 intro n
 induction n with
 | zero=>intro s h; obtain rfl:=List.eq_nil_of_length_eq_zero (Nat.le_zero.1 h); exact Nat.le_refl _
 | succ n ih =>
  intro s hs
  match s,hs with
  | [],_=>exact Nat.le_refl _
  | [c],_=>exact Nat.le_refl _
  | c :: d :: r,hs =>
   simp only [List.length_cons] at hs
   have i1:=ih r (by omega)
   have i2:=ih (d :: r) (by simp only [List.length_cons]; omega)
   simp only [List.length_cons] at i2
   rw [said]
   split
   . simp only [List.length_cons]; omega
   . split
     . simp only [List.length_cons]; omega
     . split <;> (simp only [List.length_cons]; omega)
theorem one_at {s : Str} {i : Int} (h0 : 0 <= i) (h1 : i < s.length) : List.drop i.toNat (List.take (i + 1).toNat s) = [ix s i]:=by
 rw [List.drop_take,show (i + 1).toNat - i.toNat = 1 by omega,ix_drop h0 h1]; rfl
def an112 : Nat -> Ann:=fun | 89=>⟨29,fun _=>none,fun  | _=>none⟩ | _=>⟨0,fun _=>none,fun _=>none⟩
def V112 (c : UInt8) (Q : Bool -> Prop) : Prop :=
Q (decide ((((65 : UInt8) <= c /\ c <= 90 ∨ (97 : UInt8) <= c /\ c <= 122) ∨ (48 : UInt8) <= c /\ c <= 57) ∨ c = 45))
theorem V112_ok {c : UInt8} {Q : Bool -> Prop} (h : V112 c Q) : vcFun (E:=N36) (inlN an112 2) (an112 89) Tryz.f89 [.byte c] [] [] 0 (resP N36 [.bool] Q):=Eq.mp (show V112 c Q = vcFun (E:=N36) (inlN an112 2) (an112 89) Tryz.f89 [.byte c] [] [] 0 (resP N36 [.bool] Q) by kernel_rfl) h
theorem p112 (c : UInt8)  : V112 c (fun y0=>y0 = letterB c):=by
 unfold V112 letterB
 rw [beq_dec]
 simp only [Bool.decide_or,Bool.decide_and]
def c112 (a : List (SV U)) : Option (Q1 U):=match a with | [.byte c]=>some ⟨[],[],blB (letterB c)⟩ | _=>none
theorem c112_ok (args : List (SV U)) (q : Q1 U) (h : c112 args = some q) (ho : allP q.ob) : LendOK N36 89 args ⟨q.ob,q.hy,q.v,[]⟩:=by
 unfold c112 at h
 split at h
 . rename_i c
   cases h
   exact lend1 N36_ok (inlN_ok N36_ok an112 2) Tryz.func89 (k:=.bool) (x:=letterB c) trivial (V112_ok (p112 c )) 0
 . cases h
noncomputable def N112 : Env:=N36.addL 89 c112
theorem N112_ok : EnvOK N112:=N36_ok.addL Tryz.call89 c112_ok
def an105 : Nat -> Ann:=fun | 70=>⟨13,fun _=>none,fun  | _=>none⟩ | _=>⟨0,fun _=>none,fun _=>none⟩
def V105 (c : UInt8) (Q : Bool -> Prop) : Prop :=
Q (decide (c = 9 ∨ (32 : UInt8) <= c /\ c ≠ 127))
theorem V105_ok {c : UInt8} {Q : Bool -> Prop} (h : V105 c Q) : vcFun (E:=N112) (inlN an105 2) (an105 70) Tryz.f70 [.byte c] [] [] 0 (resP N112 [.bool] Q):=Eq.mp (show V105 c Q = vcFun (E:=N112) (inlN an105 2) (an105 70) Tryz.f70 [.byte c] [] [] 0 (resP N112 [.bool] Q) by kernel_rfl) h
theorem p105 (c : UInt8)  : V105 c (fun y0=>y0 = standsB c):=by
 unfold V105 standsB
 rw [bne,beq_dec,beq_dec]
 simp only [Bool.decide_or,Bool.decide_and,ne_eq,decide_not]
def c105 (a : List (SV U)) : Option (Q1 U):=match a with | [.byte c]=>some ⟨[],[],blB (standsB c)⟩ | _=>none
theorem c105_ok (args : List (SV U)) (q : Q1 U) (h : c105 args = some q) (ho : allP q.ob) : LendOK N112 70 args ⟨q.ob,q.hy,q.v,[]⟩:=by
 unfold c105 at h
 split at h
 . rename_i c
   cases h
   exact lend1 N112_ok (inlN_ok N112_ok an105 2) Tryz.func70 (k:=.bool) (x:=standsB c) trivial (V105_ok (p105 c )) 0
 . cases h
noncomputable def N105 : Env:=N112.addL 70 c105
theorem N105_ok : EnvOK N105:=N112_ok.addL Tryz.call70 c105_ok
def an66 : Nat -> Ann:=fun | 73=>⟨18,fun | 1=>some ⟨[0],[.slot 1 (.int .i64)]⟩ | _=>none,fun  | _=>none⟩ | _=>⟨0,fun _=>none,fun _=>none⟩
def V66 (s : Str) (i : Int) (Q : Int -> Prop) : Prop :=
∃ (I : Int -> Prop),∃ (m : Int -> Nat),I i /\ ∀ (x : Int),I x -> (x < (↑(List.length s) : Int) -> (0 : Int) <= x) /\ (x < (↑(List.length s) : Int) -> x < (↑(List.length s) : Int)) /\ (x < (↑(List.length s) : Int) /\ letterB (ix s x) = true -> in64 (x + 1) /\ I (x + 1) /\ m (x + 1) < m x) /\ (¬(x < (↑(List.length s) : Int) /\ letterB (ix s x) = true) -> Q x)
theorem V66_ok {s : Str} {i : Int} {Q : Int -> Prop} (h : V66 s i Q) : vcFun (E:=N105) (inlN an66 2) (an66 73) Tryz.f73 [.str s,.int .i64 i] [] [] 0 (resP N105 [.int .i64] Q):=Eq.mp (show V66 s i Q = vcFun (E:=N105) (inlN an66 2) (an66 73) Tryz.f73 [.str s,.int .i64 i] [] [] 0 (resP N105 [.int .i64] Q) by kernel_rfl) h
def nameLen (s : Str) (i : Int) : Int:=(((s.drop i.toNat).takeWhile letterB).length : Nat)
theorem nameLen_in {s : Str} {i : Int} (h0 : 0 <= i) (h1 : i < s.length) (h : letterB (ix s i) = true) : nameLen s i = 1 + nameLen s (i + 1):=by
 unfold nameLen
 rw [ix_drop h0 h1,List.takeWhile_cons_of_pos h,List.length_cons]; omega
theorem nameLen_out {s : Str} {i : Int} (h0 : 0 <= i) (h : ¬ (i < s.length /\ letterB (ix s i) = true)) : nameLen s i = 0:=by
 unfold nameLen
 by_cases h1 : i < s.length
 . rw [ix_drop h0 h1,List.takeWhile_cons_of_neg (fun e=>h ⟨h1,e⟩)]; rfl
 . rw [drop_all (by omega)]; rfl
theorem p66 (s : Str) (i : Int) (h0 : 0 <= i) (h1 : i <= (s.length : Int)) (hs : s.length <= 100000000) : V66 s i (fun y0=>y0 = i + nameLen s i):=by
 unfold V66
 refine ⟨fun x=>i <= x /\ x <= s.length /\ x + nameLen s x = i + nameLen s i,fun x=>((s.length : Int) - x).toNat,⟨Int.le_refl _,h1,rfl⟩,?_⟩
 rintro x ⟨x0,x1,hx⟩
 refine ⟨fun _=>by omega,fun h=>h,fun ⟨a,b⟩=>?_,fun h=>?_⟩
 . have e:=nameLen_in (by omega) a b
   exact ⟨⟨by omega,by omega⟩,⟨by omega,by omega,by omega⟩,by dsimp only; omega⟩
 . have e:=nameLen_out (by omega) h
   show x = _
   omega
def c66 (a : List (SV U)) : Option (Q1 U):=match a with | [.str s,.int .i64 i]=>some ⟨[0 <= i,i <= (s.length : Int),List.length (α:=UInt8) s <= 100000000],[],.int .i64 (i + nameLen s i)⟩ | _=>none
theorem c66_ok (args : List (SV U)) (q : Q1 U) (h : c66 args = some q) (ho : allP q.ob) : LendOK N105 73 args ⟨q.ob,q.hy,q.v,[]⟩:=by
 unfold c66 at h
 split at h
 . rename_i s i
   cases h
   exact lend1 N105_ok (inlN_ok N105_ok an66 2) Tryz.func73 (k:=.int .i64) (x:=i + nameLen s i) trivial (V66_ok (p66 s i ho.1 ho.2.1 ho.2.2.1)) 0
 . cases h
noncomputable def N66 : Env:=N105.addL 73 c66
theorem N66_ok : EnvOK N66:=N105_ok.addL Tryz.call73 c66_ok
def an132 : Nat -> Ann:=fun | 107=>⟨46,fun | 3=>some ⟨[0],[.slot 3 (.acc 5),.slot 4 (.int .i64)]⟩ | _=>none,fun  | _=>none⟩ | _=>⟨0,fun _=>none,fun _=>none⟩
def V132 (s : Str) (Q : Str -> Prop) : Prop :=
∃ (I : List UInt8 -> Int -> Prop),∃ (m : List UInt8 -> Int -> Nat),I [] (0 : Int) /\ ∀ (x : List UInt8) (x_1 : Int),I x x_1 -> (x_1 < (↑(List.length s) : Int) -> (0 : Int) <= x_1 /\ x_1 < (↑(List.length s) : Int) /\ (ix s x_1 = 94 -> in64 (x_1 + 1)) /\ (ix s x_1 = 94 /\ x_1 + 1 < (↑(List.length s) : Int) -> in64 (x_1 + 1) /\ (0 : Int) <= x_1 + 1 /\ x_1 + 1 < (↑(List.length s) : Int) /\ (ix s (x_1 + 1) = 110 -> in64 (x_1 + 1) /\ (x.length + ([10] : List UInt8).length) * (some (1 : Nat)).getD (0 : Nat) <= 140737488355328 /\ in64 (x_1 + 1 + 1) /\ I (x ++ ([10] : List UInt8)) (x_1 + 1 + 1) /\ m (x ++ ([10] : List UInt8)) (x_1 + 1 + 1) < m x x_1) /\ (¬ix s (x_1 + 1) = 110 -> (ix s (x_1 + 1) = 39 -> in64 (x_1 + 1) /\ (x.length + ([34] : List UInt8).length) * (some (1 : Nat)).getD (0 : Nat) <= 140737488355328 /\ in64 (x_1 + 1 + 1) /\ I (x ++ ([34] : List UInt8)) (x_1 + 1 + 1) /\ m (x ++ ([34] : List UInt8)) (x_1 + 1 + 1) < m x x_1) /\ (¬ix s (x_1 + 1) = 39 -> (ix s (x_1 + 1) = 94 -> in64 (x_1 + 1) /\ (x.length + [ix s x_1].length) * (some (1 : Nat)).getD (0 : Nat) <= 140737488355328 /\ in64 (x_1 + 1 + 1) /\ I (x ++ [ix s x_1]) (x_1 + 1 + 1) /\ m (x ++ [ix s x_1]) (x_1 + 1 + 1) < m x x_1) /\ (¬ix s (x_1 + 1) = 94 -> (x.length + [ix s x_1].length) * (some (1 : Nat)).getD (0 : Nat) <= 140737488355328 /\ in64 (x_1 + 1) /\ I (x ++ [ix s x_1]) (x_1 + 1) /\ m (x ++ [ix s x_1]) (x_1 + 1) < m x x_1)))) /\ (¬(ix s x_1 = 94 /\ x_1 + 1 < (↑(List.length s) : Int)) -> ((0 : UInt8) = 110 -> in64 (x_1 + 1) /\ (x.length + ([10] : List UInt8).length) * (some (1 : Nat)).getD (0 : Nat) <= 140737488355328 /\ in64 (x_1 + 1 + 1) /\ I (x ++ ([10] : List UInt8)) (x_1 + 1 + 1) /\ m (x ++ ([10] : List UInt8)) (x_1 + 1 + 1) < m x x_1) /\ (¬(0 : UInt8) = 110 -> ((0 : UInt8) = 39 -> in64 (x_1 + 1) /\ (x.length + ([34] : List UInt8).length) * (some (1 : Nat)).getD (0 : Nat) <= 140737488355328 /\ in64 (x_1 + 1 + 1) /\ I (x ++ ([34] : List UInt8)) (x_1 + 1 + 1) /\ m (x ++ ([34] : List UInt8)) (x_1 + 1 + 1) < m x x_1) /\ (¬(0 : UInt8) = 39 -> ((0 : UInt8) = 94 -> in64 (x_1 + 1) /\ (x.length + [ix s x_1].length) * (some (1 : Nat)).getD (0 : Nat) <= 140737488355328 /\ in64 (x_1 + 1 + 1) /\ I (x ++ [ix s x_1]) (x_1 + 1 + 1) /\ m (x ++ [ix s x_1]) (x_1 + 1 + 1) < m x x_1) /\ (¬(0 : UInt8) = 94 -> (x.length + [ix s x_1].length) * (some (1 : Nat)).getD (0 : Nat) <= 140737488355328 /\ in64 (x_1 + 1) /\ I (x ++ [ix s x_1]) (x_1 + 1) /\ m (x ++ [ix s x_1]) (x_1 + 1) < m x x_1))))) /\ (¬x_1 < (↑(List.length s) : Int) -> Q x)
theorem V132_ok {s : Str} {Q : Str -> Prop} (h : V132 s Q) : vcFun (E:=N66) (inlN an132 2) (an132 107) Tryz.f107 [.str s] [] [] 0 (resP N66 [.str] Q):=Eq.mp (show V132 s Q = vcFun (E:=N66) (inlN an132 2) (an132 107) Tryz.f107 [.str s] [] [] 0 (resP N66 [.str] Q) by kernel_rfl) h
theorem p132 (s : Str) (hs : s.length <= 100000000) : V132 s (fun y0=>y0 = said s):=by
 unfold V132
 have hl:=said_len s.length s (Nat.le_refl _)
 refine ⟨fun x i=>0 <= i /\ i <= s.length /\ x ++ said (s.drop i.toNat) = said s,fun _ i=>((s.length : Int) - i).toNat,⟨by omega,by omega,rfl⟩,?_⟩
 rintro x i ⟨i0,i1,hx⟩
 have lx:=congrArg List.length hx
 rw [List.length_append] at lx
 have hit : ∀ e,i + 1 < s.length -> (ix s i = 94 /\ ix s (i + 1) = 110 /\ e = 10 ∨ ix s i = 94 /\ ix s (i + 1) = 39 /\ e = 34 ∨ ix s i = 94 /\ ix s (i + 1) = 94 /\ e = 94) -> (x ++ [e]) ++ said (s.drop (i + 1 + 1).toNat) = said s:=fun e h1 h=>by
  rw [<- hx,said_drop2 i0 h1 h]; simp
 have one : ¬ (ix s i = 94 /\ i + 1 < s.length /\ (ix s (i + 1) = 110 ∨ ix s (i + 1) = 39 ∨ ix s (i + 1) = 94)) -> i < s.length -> (x ++ [ix s i]) ++ said (s.drop (i + 1).toNat) = said s:=fun h hi=>by
  rw [<- hx,said_drop1 i0 hi h]; simp
 simp only [List.length_cons,List.length_nil,Option.getD_some]
 refine ⟨fun hi=>⟨i0,hi,fun _=>⟨by omega,by omega⟩,fun ⟨a,b⟩=>⟨⟨by omega,by omega⟩,by omega,b,fun h=>?_,fun h=>⟨fun h2=>?_,fun h2=>⟨fun h3=>?_,fun h3=>?_⟩⟩⟩,fun hn=>⟨fun h=>absurd h (by decide),fun _=>⟨fun h=>absurd h (by decide),fun _=>⟨fun h=>absurd h (by decide),fun _=>?_⟩⟩⟩⟩,fun hi=>?_⟩
 . exact ⟨⟨by omega,by omega⟩,by omega,⟨by omega,by omega⟩,⟨by omega,by omega,hit 10 b (.inl ⟨a,h,rfl⟩)⟩,by omega⟩
 . exact ⟨⟨by omega,by omega⟩,by omega,⟨by omega,by omega⟩,⟨by omega,by omega,hit 34 b (.inr (.inl ⟨a,h2,rfl⟩))⟩,by omega⟩
 . exact ⟨⟨by omega,by omega⟩,by omega,⟨by omega,by omega⟩,⟨by omega,by omega,by rw [a]; exact hit 94 b (.inr (.inr ⟨a,h3,rfl⟩))⟩,by omega⟩
 . refine ⟨by omega,⟨by omega,by omega⟩,⟨by omega,by omega,one (fun ⟨_,_,c⟩=>?_) hi⟩,by omega⟩
   rcases c with c | c | c
   . exact h c
   . exact h2 c
   . exact h3 c
 . exact ⟨by omega,⟨by omega,by omega⟩,⟨by omega,by omega,one (fun ⟨a,b,_⟩=>hn ⟨a,b⟩) hi⟩,by omega⟩
 . rw [drop_all (by omega)] at hx
   have : said [] = []:=rfl
   rw [this,List.append_nil] at hx
   exact hx
def c132 (a : List (SV U)) : Option (Q1 U):=match a with | [.str s]=>some ⟨[List.length (α:=UInt8) s <= 100000000],[],.str (said s)⟩ | _=>none
theorem c132_ok (args : List (SV U)) (q : Q1 U) (h : c132 args = some q) (ho : allP q.ob) : LendOK N66 107 args ⟨q.ob,q.hy,q.v,[]⟩:=by
 unfold c132 at h
 split at h
 . rename_i s
   cases h
   exact lend1 N66_ok (inlN_ok N66_ok an132 2) Tryz.func107 (k:=.str) (x:=said s) trivial (V132_ok (p132 s ho.1)) 0
 . cases h
noncomputable def N132 : Env:=N66.addL 107 c132
theorem N132_ok : EnvOK N132:=N66_ok.addL Tryz.call107 c132_ok
def an73 : Nat -> Ann:=fun | 79=>⟨23,fun | 2=>some ⟨[0,5],[.slot 6 (.int .i64)]⟩ | _=>none,fun  | _=>none⟩ | _=>⟨0,fun _=>none,fun _=>none⟩
def V73 (s : Str) (Q : Bool -> Prop) : Prop :=
∃ (I : Int -> Prop),∃ (m : Int -> Nat),I (0 : Int) /\ ∀ (x : Int),I x -> (x < (↑(List.length s) : Int) -> (0 : Int) <= x /\ x < (↑(List.length s) : Int) /\ (¬letterB (ix s x) = true -> Q false) /\ (¬¬letterB (ix s x) = true -> in64 (x + 1) /\ I (x + 1) /\ m (x + 1) < m x)) /\ (¬x < (↑(List.length s) : Int) -> Q (decide (s ≠ [] /\ s = upper s)))
theorem V73_ok {s : Str} {Q : Bool -> Prop} (h : V73 s Q) : vcFun (E:=N132) (inlN an73 2) (an73 79) Tryz.f79 [.str s] [] [] 0 (resP N132 [.bool] Q):=Eq.mp (show V73 s Q = vcFun (E:=N132) (inlN an73 2) (an73 79) Tryz.f79 [.str s] [] [] 0 (resP N132 [.bool] Q) by kernel_rfl) h
def nameB (s : Str) : Bool:=decide (s ≠ [] /\ s.all letterB = true /\ upper s = s)
theorem all_ix {p : UInt8 -> Bool} {s : Str} (h : ∀ j : Int,0 <= j -> j < s.length -> p (ix s j) = true) : s.all p = true:=by
 rw [List.all_eq_true]
 intro c hc
 obtain ⟨j,hj,rfl⟩:=List.getElem_of_mem hc
 have:=h j (by omega) (by omega)
 rw [ix_get (by simpa using hj)] at this
 simpa using this
theorem not_all {p : UInt8 -> Bool} {s : Str} {x : Int} (h0 : 0 <= x) (h1 : x < s.length) (h : ¬ p (ix s x) = true) : ¬ s.all p = true:=fun e=>h (List.all_eq_true.1 e _ (mem_of_ix h0 h1))
theorem p73 (s : Str) (hs : s.length <= 9223372036854775807) : V73 s (fun y0=>y0 = nameB s):=by
 unfold V73
 refine ⟨fun x=>0 <= x /\ x <= s.length /\ ∀ j : Int,0 <= j -> j < x -> letterB (ix s j) = true,fun x=>((s.length : Int) - x).toNat,⟨by omega,by omega,fun j _ _=>by omega⟩,?_⟩
 rintro x ⟨x0,x1,hx⟩
 refine ⟨fun hi=>⟨x0,hi,fun hn=>?_,fun hn=>⟨⟨by omega,by omega⟩,⟨by omega,by omega,fun j j0 j1=>?_⟩,by dsimp only; omega⟩⟩,fun hi=>?_⟩
 . exact (decide_eq_false fun h=>not_all x0 hi hn h.2.1).symm
 . by_cases e : j = x
   . subst e; exact Classical.not_not.1 hn
   . exact hx j j0 (by omega)
 . have ha : s.all letterB = true:=all_ix fun j j0 j1=>hx j j0 (by omega)
   show _ = decide _
   exact decide_eq_decide.2 ⟨fun ⟨a,b⟩=>⟨a,ha,b.symm⟩,fun ⟨a,_,b⟩=>⟨a,b.symm⟩⟩
def c73 (a : List (SV U)) : Option (Q1 U):=match a with | [.str s]=>some ⟨[List.length (α:=UInt8) s <= 9223372036854775807],[],blB (nameB s)⟩ | _=>none
theorem c73_ok (args : List (SV U)) (q : Q1 U) (h : c73 args = some q) (ho : allP q.ob) : LendOK N132 79 args ⟨q.ob,q.hy,q.v,[]⟩:=by
 unfold c73 at h
 split at h
 . rename_i s
   cases h
   exact lend1 N132_ok (inlN_ok N132_ok an73 2) Tryz.func79 (k:=.bool) (x:=nameB s) trivial (V73_ok (p73 s ho.1)) 0
 . cases h
noncomputable def N73 : Env:=N132.addL 79 c73
theorem N73_ok : EnvOK N73:=N132_ok.addL Tryz.call79 c73_ok
def an77 : Nat -> Ann:=fun | 50=>⟨18,fun _=>none,fun  | _=>none⟩ | _=>⟨0,fun _=>none,fun _=>none⟩
def V77 (s : Str) (Q : Bool -> Prop) : Prop :=
(s ≠ [] -> (0 : Int) <= 0) /\ (s ≠ [] -> (0 : Int) <= (↑(List.length s) : Int)) /\ (s ≠ [] -> List.length s <= 100000000) /\ Q (decide ((s ≠ [] /\ (0 : Int) + nameLen s (0 : Int) = (↑(List.length s) : Int)) /\ upper s = s))
theorem V77_ok {s : Str} {Q : Bool -> Prop} (h : V77 s Q) : vcFun (E:=N73) (inlN an77 2) (an77 50) Tryz.f50 [.str s] [] [] 0 (resP N73 [.bool] Q):=Eq.mp (show V77 s Q = vcFun (E:=N73) (inlN an77 2) (an77 50) Tryz.f50 [.str s] [] [] 0 (resP N73 [.bool] Q) by kernel_rfl) h
theorem while_len (p : UInt8 -> Bool) : ∀ s : Str,(s.takeWhile p).length = s.length ↔ s.all p = true
 | []=>by simp
 | c :: s=>by
  have ih:=while_len p s
  rw [List.takeWhile_cons,List.all_cons]
  split
  . rename_i h; rw [h,Bool.true_and,List.length_cons,List.length_cons,<- ih]; omega
  . rename_i h
    have h' : p c = false:=by simpa using h
    rw [h']; simp
theorem nameLen_all {s : Str} : 0 + nameLen s 0 = (s.length : Int) ↔ s.all letterB = true:=by
 rw [<- while_len letterB s]
 unfold nameLen
 show 0 + (((s.drop 0).takeWhile letterB).length : Int) = _ ↔ _
 rw [List.drop_zero]; omega
theorem p77 (s : Str) (hs : s.length <= 100000000) : V77 s (fun y0=>y0 = nameB s):=by
 unfold V77
 refine ⟨fun _=>Int.le_refl _,fun _=>by omega,fun _=>hs,?_⟩
 show _ = decide _
 exact decide_eq_decide.2 ⟨fun ⟨⟨a,b⟩,c⟩=>⟨a,nameLen_all.1 b,c⟩,fun ⟨a,b,c⟩=>⟨⟨a,nameLen_all.2 b⟩,c⟩⟩
def c77 (a : List (SV U)) : Option (Q1 U):=match a with | [.str s]=>some ⟨[List.length (α:=UInt8) s <= 100000000],[],blB (nameB s)⟩ | _=>none
theorem c77_ok (args : List (SV U)) (q : Q1 U) (h : c77 args = some q) (ho : allP q.ob) : LendOK N73 50 args ⟨q.ob,q.hy,q.v,[]⟩:=by
 unfold c77 at h
 split at h
 . rename_i s
   cases h
   exact lend1 N73_ok (inlN_ok N73_ok an77 2) Tryz.func50 (k:=.bool) (x:=nameB s) trivial (V77_ok (p77 s ho.1)) 0
 . cases h
noncomputable def N77 : Env:=N73.addL 50 c77
theorem N77_ok : EnvOK N77:=N73_ok.addL Tryz.call50 c77_ok
def an72 : Nat -> Ann:=fun | 76=>⟨50,fun | 4=>some ⟨[0],[.slot 3 .str,.slot 4 .bool,.slot 5 (.int .i64)]⟩ | _=>none,fun  | _=>none⟩ | _=>⟨0,fun _=>none,fun _=>none⟩
def q720 (x : List UInt8) (x_2 : Int) (s : Str):=x ++ List.drop x_2.toNat (List.take (x_2 + 1).toNat s)
def V72 (s : Str) (Q : Str -> Prop) : Prop :=
∃ (I : List UInt8 -> Bool -> Int -> Prop),∃ (m : List UInt8 -> Bool -> Int -> Nat),I [] false (0 : Int) /\ ∀ (x : List UInt8) (x_1 : Bool) (x_2 : Int),I x x_1 x_2 -> (x_2 < (↑(List.length s) : Int) -> (0 : Int) <= x_2 /\ x_2 < (↑(List.length s) : Int) /\ (ix s x_2 = 94 -> x.length + ([94,94] : List UInt8).length <= 9223372036854775807 /\ in64 (x_2 + 1) /\ I (x ++ ([94,94] : List UInt8)) (decide (x_1 = true)) (x_2 + 1) /\ m (x ++ ([94,94] : List UInt8)) (decide (x_1 = true)) (x_2 + 1) < m x x_1 x_2) /\ (¬ix s x_2 = 94 -> (ix s x_2 = 34 -> x.length + ([94,39] : List UInt8).length <= 9223372036854775807 /\ in64 (x_2 + 1) /\ I (x ++ ([94,39] : List UInt8)) (decide (x_1 = true)) (x_2 + 1) /\ m (x ++ ([94,39] : List UInt8)) (decide (x_1 = true)) (x_2 + 1) < m x x_1 x_2) /\ (¬ix s x_2 = 34 -> (ix s x_2 = 10 -> x.length + ([94,110] : List UInt8).length <= 9223372036854775807 /\ in64 (x_2 + 1) /\ I (x ++ ([94,110] : List UInt8)) (decide (x_1 = true)) (x_2 + 1) /\ m (x ++ ([94,110] : List UInt8)) (decide (x_1 = true)) (x_2 + 1) < m x x_1 x_2) /\ (¬ix s x_2 = 10 -> (ix s x_2 = 59 -> (ix s x_2 = 59 -> in64 (x_2 + 1) /\ (0 : Int) <= x_2 /\ x_2 <= x_2 + 1 /\ x_2 + 1 <= (↑(List.length s) : Int) /\ x.length + (List.drop x_2.toNat (List.take (x_2 + 1).toNat s)).length <= 9223372036854775807 /\ in64 (x_2 + 1) /\ I (q720 x x_2 s) true (x_2 + 1) /\ m (q720 x x_2 s) true (x_2 + 1) < m x x_1 x_2) /\ (¬ix s x_2 = 59 -> in64 (x_2 + 1) /\ (0 : Int) <= x_2 /\ x_2 <= x_2 + 1 /\ x_2 + 1 <= (↑(List.length s) : Int) /\ x.length + (List.drop x_2.toNat (List.take (x_2 + 1).toNat s)).length <= 9223372036854775807 /\ in64 (x_2 + 1) /\ I (q720 x x_2 s) (decide (x_1 = true)) (x_2 + 1) /\ m (q720 x x_2 s) (decide (x_1 = true)) (x_2 + 1) < m x x_1 x_2)) /\ (¬ix s x_2 = 59 -> (ix s x_2 = 58 -> (ix s x_2 = 58 -> in64 (x_2 + 1) /\ (0 : Int) <= x_2 /\ x_2 <= x_2 + 1 /\ x_2 + 1 <= (↑(List.length s) : Int) /\ x.length + (List.drop x_2.toNat (List.take (x_2 + 1).toNat s)).length <= 9223372036854775807 /\ in64 (x_2 + 1) /\ I (q720 x x_2 s) true (x_2 + 1) /\ m (q720 x x_2 s) true (x_2 + 1) < m x x_1 x_2) /\ (¬ix s x_2 = 58 -> in64 (x_2 + 1) /\ (0 : Int) <= x_2 /\ x_2 <= x_2 + 1 /\ x_2 + 1 <= (↑(List.length s) : Int) /\ x.length + (List.drop x_2.toNat (List.take (x_2 + 1).toNat s)).length <= 9223372036854775807 /\ in64 (x_2 + 1) /\ I (q720 x x_2 s) (decide (x_1 = true)) (x_2 + 1) /\ m (q720 x x_2 s) (decide (x_1 = true)) (x_2 + 1) < m x x_1 x_2)) /\ (¬ix s x_2 = 58 -> (ix s x_2 = 44 -> in64 (x_2 + 1) /\ (0 : Int) <= x_2 /\ x_2 <= x_2 + 1 /\ x_2 + 1 <= (↑(List.length s) : Int) /\ x.length + (List.drop x_2.toNat (List.take (x_2 + 1).toNat s)).length <= 9223372036854775807 /\ in64 (x_2 + 1) /\ I (q720 x x_2 s) true (x_2 + 1) /\ m (q720 x x_2 s) true (x_2 + 1) < m x x_1 x_2) /\ (¬ix s x_2 = 44 -> in64 (x_2 + 1) /\ (0 : Int) <= x_2 /\ x_2 <= x_2 + 1 /\ x_2 + 1 <= (↑(List.length s) : Int) /\ x.length + (List.drop x_2.toNat (List.take (x_2 + 1).toNat s)).length <= 9223372036854775807 /\ in64 (x_2 + 1) /\ I (q720 x x_2 s) (decide (x_1 = true)) (x_2 + 1) /\ m (q720 x x_2 s) (decide (x_1 = true)) (x_2 + 1) < m x x_1 x_2))))))) /\ (¬x_2 < (↑(List.length s) : Int) -> (x_1 = true -> ([34] : List UInt8).length + x.length <= 9223372036854775807 /\ List.length (([34] : List UInt8) ++ x) + ([34] : List UInt8).length <= 9223372036854775807 /\ Q (([34] : List UInt8) ++ x ++ ([34] : List UInt8))) /\ (¬x_1 = true -> Q x))
theorem V72_ok {s : Str} {Q : Str -> Prop} (h : V72 s Q) : vcFun (E:=N77) (inlN an72 2) (an72 76) Tryz.f76 [.str s] [] [] 0 (resP N77 [.str] Q):=Eq.mp (show V72 s Q = vcFun (E:=N77) (inlN an72 2) (an72 76) Tryz.f76 [.str s] [] [] 0 (resP N77 [.str] Q) by kernel_rfl) h
theorem esc_take {s : Str} {i : Int} (h0 : 0 <= i) (h1 : i < s.length) : esc (s.take (i + 1).toNat) = esc (s.take i.toNat) ++ escB (ix s i):=by
 rw [take_next h0 h1]; simp [esc]
theorem any_take {s : Str} {i : Int} (h0 : 0 <= i) (h1 : i < s.length) : (s.take (i + 1).toNat).any quoteB = ((s.take i.toNat).any quoteB || quoteB (ix s i)):=by
 rw [take_next h0 h1,List.any_append]; simp
theorem esc_len : ∀ s : Str,(esc s).length <= 2 * s.length
 | []=>Nat.le_refl _
 | c :: s=>by
  have ih:=esc_len s
  have e : esc (c :: s) = escB c ++ esc s:=by simp [esc]
  have : (escB c).length <= 2:=by unfold escB; split <;> (try split) <;> (try split) <;> simp
  rw [e,List.length_append,List.length_cons]; omega
theorem p72 (s : Str) (hs : s.length <= 100000000) : V72 s (fun y0=>y0 = told s):=by
 unfold V72 q720
 refine ⟨fun x q i=>0 <= i /\ i <= s.length /\ x = esc (s.take i.toNat) /\ q = (s.take i.toNat).any quoteB,fun _ _ i=>((s.length : Int) - i).toNat,⟨by omega,by omega,rfl,rfl⟩,?_⟩
 rintro x q i ⟨i0,i1,rfl,rfl⟩
 have lx:=esc_len (s.take i.toNat)
 rw [List.length_take] at lx
 have ed : ∀ b : Bool,decide (b = true) = b:=fun b=>by cases b <;> rfl
 refine ⟨fun hi=>?_,fun hi=>?_⟩
 . have e1:=esc_take i0 hi
   have e2:=any_take i0 hi
   have eo:=one_at i0 hi
   simp only [ed,eo,List.length_cons,List.length_nil]
   generalize ix s i = c at e1 e2 ⊢
   have go : ∀ (t : Str) (b : Bool),escB c = t -> quoteB c = b -> (0 <= i + 1 /\ i + 1 <= s.length /\ esc (s.take i.toNat) ++ t = esc (s.take (i + 1).toNat) /\ ((s.take i.toNat).any quoteB || b) = (s.take (i + 1).toNat).any quoteB):=fun t b h1 h2=>⟨by omega,by omega,by rw [e1,h1],by rw [e2,h2]⟩
   have sp : ∀ t : Str,t.length = 2 -> escB c = t -> quoteB c = false -> (esc (s.take i.toNat)).length + (0 + 1 + 1) <= 9223372036854775807 /\ in64 (i + 1) /\ (0 <= i + 1 /\ i + 1 <= s.length /\ esc (s.take i.toNat) ++ t = esc (s.take (i + 1).toNat) /\ (s.take i.toNat).any quoteB = (s.take (i + 1).toNat).any quoteB) /\ ((s.length : Int) - (i + 1)).toNat < ((s.length : Int) - i).toNat:=fun t _ h1 h2=>by
    obtain ⟨a,b,c',d⟩:=go t false h1 h2
    rw [Bool.or_false] at d
    exact ⟨by omega,⟨by omega,by omega⟩,⟨a,b,c',d⟩,by omega⟩
   have pl : ∀ b : Bool,escB c = [c] -> quoteB c = b -> in64 (i + 1) /\ 0 <= i /\ i <= i + 1 /\ i + 1 <= s.length /\ (esc (s.take i.toNat)).length + (0 + 1) <= 9223372036854775807 /\ in64 (i + 1) /\ (0 <= i + 1 /\ i + 1 <= s.length /\ esc (s.take i.toNat) ++ [c] = esc (s.take (i + 1).toNat) /\ ((s.take i.toNat).any quoteB || b) = (s.take (i + 1).toNat).any quoteB) /\ ((s.length : Int) - (i + 1)).toNat < ((s.length : Int) - i).toNat:=fun b h1 h2=>by
    obtain ⟨a,b',c',d⟩:=go [c] b h1 h2
    exact ⟨⟨by omega,by omega⟩,i0,by omega,by omega,by omega,⟨by omega,by omega⟩,⟨a,b',c',d⟩,by omega⟩
   refine ⟨i0,hi,fun h=>?_,fun h1=>⟨fun h=>?_,fun h2=>⟨fun h=>?_,fun h3=>⟨fun h=>⟨fun _=>?_,fun n=>absurd h n⟩,fun h4=>⟨fun h=>⟨fun _=>?_,fun n=>absurd h n⟩,fun h5=>⟨fun h=>?_,fun h6=>?_⟩⟩⟩⟩⟩⟩
   . subst h; exact sp [94,94] rfl rfl rfl
   . subst h; exact sp [94,39] rfl rfl rfl
   . subst h; exact sp [94,110] rfl rfl rfl
   . subst h; have:=pl true rfl rfl; rw [Bool.or_true] at this; exact this
   . subst h; have:=pl true rfl rfl; rw [Bool.or_true] at this; exact this
   . subst h; have:=pl true rfl rfl; rw [Bool.or_true] at this; exact this
   . have:=pl false (by unfold escB; rw [if_neg h1,if_neg h2,if_neg h3]) (by unfold quoteB; simp [h4,h5,h6])
     rw [Bool.or_false] at this; exact this
 . have e : s.take i.toNat = s:=List.take_of_length_le (by omega)
   rw [e]
   rw [e] at lx
   have le:=esc_len s
   simp only [List.length_append,List.length_cons,List.length_nil]
   refine ⟨fun h=>⟨by omega,by omega,?_⟩,fun h=>?_⟩
   . unfold told; rw [if_pos h]; rfl
   . unfold told; rw [if_neg h]
def c72 (a : List (SV U)) : Option (Q1 U):=match a with | [.str s]=>some ⟨[List.length (α:=UInt8) s <= 100000000],[],.str (told s)⟩ | _=>none
theorem c72_ok (args : List (SV U)) (q : Q1 U) (h : c72 args = some q) (ho : allP q.ob) : LendOK N77 76 args ⟨q.ob,q.hy,q.v,[]⟩:=by
 unfold c72 at h
 split at h
 . rename_i s
   cases h
   exact lend1 N77_ok (inlN_ok N77_ok an72 2) Tryz.func76 (k:=.str) (x:=told s) trivial (V72_ok (p72 s ho.1)) 0
 . cases h
noncomputable def N72 : Env:=N77.addL 76 c72
theorem N72_ok : EnvOK N72:=N77_ok.addL Tryz.call76 c72_ok
def an30 : Nat -> Ann:=fun | 49=>⟨86,fun | 4=>some ⟨[2,3],[.slot 5 (.int .i64)]⟩ | 11=>some ⟨[2,3,5,6,7],[.slot 8 (.int .i64)]⟩ | _=>none,fun  | _=>none⟩ | _=>⟨0,fun _=>none,fun _=>none⟩
def V30 (p : Prp) (q : Prp) (Q : Bool -> Prop) : Prop :=
(((p.Group ≠ q.Group ∨ p.Name ≠ q.Name) ∨ p.Value ≠ q.Value) ∨ (↑p.Params.length : Int) ≠ (↑q.Params.length : Int) -> Q false) /\ (¬(((p.Group ≠ q.Group ∨ p.Name ≠ q.Name) ∨ p.Value ≠ q.Value) ∨ (↑p.Params.length : Int) ≠ (↑q.Params.length : Int)) -> ∃ (I : Int -> Prop),∃ (m : Int -> Nat),I (0 : Int) /\ ∀ (x : Int),I x -> (x < (↑p.Params.length : Int) -> (0 : Int) <= x /\ x < (↑p.Params.length : Int) /\ (0 : Int) <= x /\ x < (↑q.Params.length : Int) /\ ((ix p.Params x).Name ≠ (ix q.Params x).Name ∨ (↑(ix p.Params x).Values.length : Int) ≠ (↑(ix q.Params x).Values.length : Int) -> Q false) /\ (¬((ix p.Params x).Name ≠ (ix q.Params x).Name ∨ (↑(ix p.Params x).Values.length : Int) ≠ (↑(ix q.Params x).Values.length : Int)) -> ∃ (I_1 : Int -> Prop),∃ (m_1 : Int -> Nat),I_1 (0 : Int) /\ ∀ (x_1 : Int),I_1 x_1 -> (x_1 < (↑(ix p.Params x).Values.length : Int) -> (0 : Int) <= x_1 /\ x_1 < (↑(ix p.Params x).Values.length : Int) /\ (0 : Int) <= x_1 /\ x_1 < (↑(ix q.Params x).Values.length : Int) /\ (ix (ix p.Params x).Values x_1 ≠ ix (ix q.Params x).Values x_1 -> Q false) /\ (¬ix (ix p.Params x).Values x_1 ≠ ix (ix q.Params x).Values x_1 -> in64 (x_1 + 1) /\ I_1 (x_1 + 1) /\ m_1 (x_1 + 1) < m_1 x_1)) /\ (¬x_1 < (↑(ix p.Params x).Values.length : Int) -> in64 (x + 1) /\ I (x + 1) /\ m (x + 1) < m x))) /\ (¬x < (↑p.Params.length : Int) -> Q true))
theorem V30_ok {p : Prp} {q : Prp} {Q : Bool -> Prop} (h : V30 p q Q) : vcFun (E:=N72) (inlN an30 2) (an30 49) Tryz.f49 [.agg [.str p.Group,.str p.Name,.sl (N:=U) 110 p.Params,.str p.Value],.agg [.str q.Group,.str q.Name,.sl (N:=U) 110 q.Params,.str q.Value]] [] [] 0 (resP N72 [.bool] Q):=Eq.mp (show V30 p q Q = vcFun (E:=N72) (inlN an30 2) (an30 49) Tryz.f49 [.agg [.str p.Group,.str p.Name,.sl (N:=U) 110 p.Params,.str p.Value],.agg [.str q.Group,.str q.Name,.sl (N:=U) 110 q.Params,.str q.Value]] [] [] 0 (resP N72 [.bool] Q) by kernel_rfl) h
theorem list_ix {α : Type} [Inhabited α] {a b : List α} (hl : a.length = b.length) (h : ∀ j : Int,0 <= j -> j < a.length -> ix a j = ix b j) : a = b:=by
 refine List.ext_getElem hl fun j h1 h2=>?_
 have:=h j (by omega) (by omega)
 rw [ix_get (by simpa using h1),ix_get (by simpa using h2)] at this
 simpa using this
theorem p30 (p : Prp) (q : Prp) (hs : p.Params.length <= 9223372036854775807) (ht : ∀ x ∈ p.Params,x.Values.length <= 9223372036854775807) : V30 p q (fun y0=>y0 = decide (p = q)):=by
 unfold V30
 refine ⟨fun h=>(decide_eq_false fun e=>by subst e; simp at h).symm,fun h=>?_⟩
 have hg : p.Group = q.Group:=Classical.byContradiction fun n=>h (.inl (.inl (.inl n)))
 have hn : p.Name = q.Name:=Classical.byContradiction fun n=>h (.inl (.inl (.inr n)))
 have hv : p.Value = q.Value:=Classical.byContradiction fun n=>h (.inl (.inr n))
 have hl : (p.Params.length : Int) = q.Params.length:=Classical.byContradiction fun n=>h (.inr n)
 clear h
 refine ⟨fun x=>0 <= x /\ x <= p.Params.length /\ ∀ j : Int,0 <= j -> j < x -> ix p.Params j = ix q.Params j,fun x=>((p.Params.length : Int) - x).toNat,⟨by omega,by omega,fun j _ _=>by omega⟩,?_⟩
 rintro x ⟨x0,x1,hx⟩
 refine ⟨fun hi=>⟨x0,hi,x0,by omega,fun hb=>(decide_eq_false fun e=>by subst e; simp at hb).symm,fun hb=>⟨fun y=>0 <= y /\ y <= ((ix p.Params x).Values.length : Int) /\ ∀ j : Int,0 <= j -> j < y -> ix (ix p.Params x).Values j = ix (ix q.Params x).Values j,fun y=>(((ix p.Params x).Values.length : Int) - y).toNat,⟨by omega,by omega,fun j _ _=>by omega⟩,?_⟩⟩,fun hi=>?_⟩
 . have bn : (ix p.Params x).Name = (ix q.Params x).Name:=Classical.byContradiction fun n=>hb (.inl n)
   have bl : ((ix p.Params x).Values.length : Int) = (ix q.Params x).Values.length:=Classical.byContradiction fun n=>hb (.inr n)
   have hvl:=ht _ (mem_of_ix x0 hi)
   rintro y ⟨y0,y1,hy⟩
   refine ⟨fun hj=>⟨y0,hj,y0,by omega,fun hne=>(decide_eq_false fun e=>by subst e; exact hne rfl).symm,fun he=>⟨⟨by omega,by omega⟩,⟨by omega,by omega,fun j j0 j1=>?_⟩,by dsimp only; omega⟩⟩,fun hj=>⟨⟨by omega,by omega⟩,⟨by omega,by omega,fun j j0 j1=>?_⟩,by dsimp only; omega⟩⟩
   . by_cases e : j = y
     . subst e; exact Classical.not_not.1 he
     . exact hy j j0 (by omega)
   . by_cases e : j = x
     . subst e
       have ev : (ix p.Params j).Values = (ix q.Params j).Values:=list_ix (by omega) fun k k0 k1=>hy k k0 (by omega)
       generalize ix p.Params j = a at bn ev
       generalize ix q.Params j = b at bn ev
       cases a; cases b
       simp only at bn ev
       rw [bn,ev]
     . exact hx j j0 (by omega)
 . have ep : p.Params = q.Params:=list_ix (by omega) fun j j0 j1=>hx j j0 (by omega)
   refine (decide_eq_true ?_).symm
   cases p; cases q
   simp only at hg hn hv ep
   rw [hg,hn,hv,ep]
def c30s (p : Prp) (q : Prp) : Q1 U:=⟨[List.length (α:=Param) p.Params <= 9223372036854775807,∀ x ∈ p.Params,List.length (α:=Str) x.Values <= 9223372036854775807],[],blB (decide (p = q))⟩
def c30 (a : List (SV U)) : Option (Q1 U):=match a with | [.agg [.str p0,.str p1,.sl 110 p2,.str p3],.agg [.str q0,.str q1,.sl 110 q2,.str q3]]=>some (c30s (⟨p0,p1,p2,p3⟩) (⟨q0,q1,q2,q3⟩)) | _=>none
theorem c30_ok (args : List (SV U)) (q : Q1 U) (h : c30 args = some q) (ho : allP q.ob) : LendOK N72 49 args ⟨q.ob,q.hy,q.v,[]⟩:=by
 unfold c30 at h
 split at h
 . rename_i p0 p1 p2 p3 q0 q1 q2 q3
   cases h
   exact lend1 N72_ok (inlN_ok N72_ok an30 2) Tryz.func49 (k:=.bool) trivial (V30_ok (p30 (⟨p0,p1,p2,p3⟩) (⟨q0,q1,q2,q3⟩) ho.1 ho.2.1)) 0
 . cases h
noncomputable def N30 : Env:=N72.addL 49 c30
theorem N30_ok : EnvOK N30:=N72_ok.addL Tryz.call49 c30_ok
def an74 : Nat -> Ann:=fun | 80=>⟨27,fun | 2=>some ⟨[0,1,7],[.slot 8 (.int .i64)]⟩ | _=>none,fun  | _=>none⟩ | _=>⟨0,fun _=>none,fun _=>none⟩
def V74 (s : Str) (a : Bool) (Q : Bool -> Prop) : Prop :=
∃ (I : Int -> Prop),∃ (m : Int -> Nat),I (0 : Int) /\ ∀ (x : Int),I x -> (x < (↑(List.length s) : Int) -> (0 : Int) <= x /\ x < (↑(List.length s) : Int) /\ (¬standsB (ix s x) = true /\ a = true -> (0 : Int) <= x) /\ (¬standsB (ix s x) = true /\ a = true -> x < (↑(List.length s) : Int)) /\ (¬standsB (ix s x) = true /\ ¬(a = true /\ ix s x = 10) -> Q false) /\ (¬(¬standsB (ix s x) = true /\ ¬(a = true /\ ix s x = 10)) -> in64 (x + 1) /\ I (x + 1) /\ m (x + 1) < m x)) /\ (¬x < (↑(List.length s) : Int) -> Q true)
theorem V74_ok {s : Str} {a : Bool} {Q : Bool -> Prop} (h : V74 s a Q) : vcFun (E:=N30) (inlN an74 2) (an74 80) Tryz.f80 [.str s,blB a] [] [] 0 (resP N30 [.bool] Q):=Eq.mp (show V74 s a Q = vcFun (E:=N30) (inlN an74 2) (an74 80) Tryz.f80 [.str s,blB a] [] [] 0 (resP N30 [.bool] Q) by kernel_rfl) h
def standAll (a : Bool) (s : Str) : Bool:=s.all fun c=>standsB c || (a && c == 10)
theorem p74 (s : Str) (a : Bool) (hs : s.length <= 9223372036854775807) : V74 s a (fun y0=>y0 = standAll a s):=by
 unfold V74
 refine ⟨fun x=>0 <= x /\ x <= s.length /\ ∀ j : Int,0 <= j -> j < x -> (fun c=>standsB c || (a && c == 10)) (ix s j) = true,fun x=>((s.length : Int) - x).toNat,⟨by omega,by omega,fun j _ _=>by omega⟩,?_⟩
 rintro x ⟨x0,x1,hx⟩
 have key : (fun c=>standsB c || (a && c == 10)) (ix s x) = true ↔ ¬ (¬ standsB (ix s x) = true /\ ¬ (a = true /\ ix s x = 10)):=by
  simp only [Bool.or_eq_true,Bool.and_eq_true,beq_iff_eq]
  constructor
  . rintro (h | h) ⟨h1,h2⟩
    . exact h1 h
    . exact h2 h
  . intro h
    by_cases h1 : standsB (ix s x) = true
    . exact .inl h1
    . exact .inr (Classical.not_not.1 fun h2=>h ⟨h1,h2⟩)
 refine ⟨fun hi=>⟨x0,hi,fun _=>x0,fun _=>hi,fun hn=>?_,fun hn=>⟨⟨by omega,by omega⟩,⟨by omega,by omega,fun j j0 j1=>?_⟩,by dsimp only; omega⟩⟩,fun hi=>?_⟩
 . have:=not_all (p:=fun c=>standsB c || (a && c == 10)) x0 hi (fun h=>key.1 h hn)
   unfold standAll
   cases hh : (List.all s fun c=>standsB c || (a && c == 10))
   . rfl
   . exact absurd hh this
 . by_cases e : j = x
   . subst e; exact key.2 hn
   . exact hx j j0 (by omega)
 . exact (all_ix fun j j0 j1=>hx j j0 (by omega)).symm
def c74s (s : Str) (a : Bool) : Q1 U:=⟨[List.length (α:=UInt8) s <= 9223372036854775807],[],blB (standAll a s)⟩
def c74 (a : List (SV U)) : Option (Q1 U):=match a with | [.str s,x_a]=>(boolOf x_a).bind fun a=>some (c74s s a) | _=>none
theorem c74_ok (args : List (SV U)) (q : Q1 U) (h : c74 args = some q) (ho : allP q.ob) : LendOK N30 80 args ⟨q.ob,q.hy,q.v,[]⟩:=by
 unfold c74 at h
 split at h
 . rename_i s x_a
   obtain ⟨a,hb_a,h⟩:=Option.bind_eq_some_iff.1 h
   cases h
   refine LendOK.conv (args':=[.str s,blB a]) (lend1 N30_ok (inlN_ok N30_ok an74 2) Tryz.func80 (k:=.bool) trivial (V74_ok (p74 s a ho.1)) 0) fun D w vs hr=>?_
   obtain ⟨u0,r0,rfl,h0,hr⟩:=Rep.tup_cons hr
   obtain ⟨u1,r1,rfl,h1,hr⟩:=Rep.tup_cons hr
   obtain rfl:=tup0_inv hr
   exact (.tup1 (cs:=[u1]) h0 (.tup1 (cs:=[]) (boolOf_rep hb_a h1) .tup0))
 . cases h
noncomputable def N74 : Env:=N30.addL 80 c74
theorem N74_ok : EnvOK N74:=N30_ok.addL Tryz.call80 c74_ok
end Go.Proofs.YtadgfmmmdhlljaaGreatDoor
end
section
namespace Go.Li
open Go Go.Wk Go.Wl Go.Rx
def whyE (s : Str) : Err:=.w 134 s (.no 11)
def nE (s : Str) : Err:=if s.takeWhile letterB = [] then whyE [110,97,109,101] else .nil
def gV (s : Str) : Str × Err × Str:=match hdIs 34 s with
 | none=>(said (s.takeWhile plainB),.nil,s.dropWhile plainB)
 | some r=>match hdIs 34 (r.dropWhile inB) with
  | none=>([],whyE [113,117,111,116,101,100],r.dropWhile inB)
  | some t=>(said (r.takeWhile inB),.nil,t)
theorem hdIs_some {c : UInt8} {s : Str} (h : s ≠ []) (e : ix s 0 = c) : hdIs c s = some (s.drop 1):=by
 cases s with
 | nil=>exact absurd rfl h
 | cons d s=>have e : d = c:=e; subst e; simp [hdIs]
theorem hdIs_none {c : UInt8} {s : Str} (h : s = [] ∨ ix s 0 ≠ c) : hdIs c s = none:=by
 cases s with
 | nil=>rfl
 | cons d s =>
  rcases h with h | h
  . cases h
  . have h : d ≠ c:=h
    simp [hdIs,h]
theorem while_take {p : UInt8 -> Bool} {s : Str} {i : Int} (h0 : 0 <= i) (h1 : i <= s.length) (h : ∀ j : Int,0 <= j -> j < i -> p (ix s j) = true) (he : ¬ (i < s.length /\ p (ix s i) = true)) : s.take i.toNat = s.takeWhile p /\ s.drop i.toNat = s.dropWhile p:=by
 obtain ⟨n,rfl⟩ : ∃ n : Nat,i = n:=⟨i.toNat,by omega⟩
 simp only [Int.toNat_natCast]
 clear h0
 induction s generalizing n with
 | nil => have : n = 0 := by simp at h1; omega
          subst this; exact ⟨rfl,rfl⟩
 | cons c s ih =>
  cases n with
  | zero =>
   have hc : ¬ p c = true:=fun hc=>he ⟨by simp only [List.length_cons]; omega,hc⟩
   simp [List.takeWhile_cons,List.dropWhile_cons,hc]
  | succ n =>
   have hc : p c = true:=h 0 (by omega) (by omega)
   have sh : ∀ j : Int,0 <= j -> ix (c :: s) (j + 1) = ix s j:=fun j hj=>by
    unfold ix
    have : (j + 1).toNat = j.toNat + 1:=by omega
    rw [this]; rfl
   obtain ⟨a,b⟩:=ih n (by simp at h1; omega) (fun j j0 j1=>by rw [<- sh j j0]; exact h (j + 1) (by omega) (by omega)) (fun ⟨x,y⟩=>he ⟨by simp; omega,by
    have:=sh n (by omega)
    push_cast
    rw [this]; exact y⟩)
   simp [List.takeWhile_cons,List.dropWhile_cons,hc,a,b]
end Go.Li
end
section
namespace Go.Li
open Go Go.Wk Go.Wl Go.Rx
def gVs : Nat -> Str -> List Str × Err × Str
 | 0,s=>([],.nil,s)
 | n + 1,s=>if (gV s).2.1 ≠ .nil then ([],(gV s).2.1,(gV s).2.2) else match hdIs 44 (gV s).2.2 with
  | none=>([(gV s).1],.nil,(gV s).2.2)
  | some t=>((gV s).1 :: (gVs n t).1,(gVs n t).2.1,(gVs n t).2.2)
def gP (s : Str) : Param × Err × Str:=if nE s ≠ .nil then (⟨[],[]⟩,nE s,s.dropWhile letterB) else match hdIs 61 (s.dropWhile letterB) with
 | none=>(⟨[],[]⟩,whyE [112,97,114,97,109],s.dropWhile letterB)
 | some t=>(⟨upper (s.takeWhile letterB),(gVs (t.length + 1) t).1⟩,(gVs (t.length + 1) t).2.1,(gVs (t.length + 1) t).2.2)
def okE (e : Err) : Prop:=e = .nil ∨ ∃ s,e = whyE s
theorem nE_ok (s : Str) : okE (nE s):=by unfold nE; split; exact .inr ⟨_,rfl⟩; exact .inl rfl
theorem gV_ok (s : Str) : okE (gV s).2.1:=by
 unfold gV
 split
 . exact .inl rfl
 . split
   . exact .inr ⟨_,rfl⟩
   . exact .inl rfl
theorem gVs_ok : ∀ (n : Nat) (s : Str),okE (gVs n s).2.1
 | 0,s=>.inl rfl
 | n + 1,s=>by
  unfold gVs
  split
  . exact gV_ok s
  . split
    . exact .inl rfl
    . exact gVs_ok n _
theorem gP_ok (s : Str) : okE (gP s).2.1:=by
 unfold gP
 split
 . exact nE_ok s
 . split
   . exact .inr ⟨_,rfl⟩
   . exact gVs_ok _ _
theorem okE_is {e : Err} (h : okE e) (hn : e ≠ .nil) : e.is 11:=by
 rcases h with h | ⟨s,rfl⟩
 . exact absurd h hn
 . rfl
theorem why_ne (s : Str) : whyE s ≠ .nil:=by unfold whyE; intro h; cases h
theorem pName_g (s : Str) : pName s = if nE s = .nil then some (upper (s.takeWhile letterB),s.dropWhile letterB) else none:=by
 unfold pName nE
 by_cases h : s.takeWhile letterB = []
 . rw [if_pos h,if_pos h,if_neg (why_ne _)]
 . rw [if_neg h,if_neg h,if_pos rfl]
theorem pValue_g (s : Str) : pValue s = if (gV s).2.1 = .nil then some ((gV s).1,(gV s).2.2) else none:=by
 unfold pValue gV
 cases hdIs 34 s with
 | none=>rfl
 | some r =>
  simp only
  cases hdIs 34 (r.dropWhile inB) with
  | none=>exact (if_neg (why_ne _)).symm
  | some t=>rfl
theorem gV_len (s : Str) : (gV s).2.2.length <= s.length:=by
 unfold gV
 cases h : hdIs 34 s with
 | none=>exact drop_len _ _
 | some r =>
  have h1:=hdIs_len h
  have h2:=drop_len inB r
  simp only
  cases h3 : hdIs 34 (r.dropWhile inB) with
  | none=>simp only; omega
  | some t=>have:=hdIs_len h3; simp only; omega
theorem gVs_err {n : Nat} {s : Str} (h : (gV s).2.1 ≠ .nil) : gVs (n + 1) s = ([],(gV s).2.1,(gV s).2.2):=by unfold gVs; rw [if_pos h]
theorem gVs_end {n : Nat} {s : Str} (h : (gV s).2.1 = .nil) (h1 : hdIs 44 (gV s).2.2 = none) : gVs (n + 1) s = ([(gV s).1],.nil,(gV s).2.2):=by
 unfold gVs; rw [if_neg (fun x=>x h),h1]
theorem gVs_on {n : Nat} {s t : Str} (h : (gV s).2.1 = .nil) (h1 : hdIs 44 (gV s).2.2 = some t) : gVs (n + 1) s = ((gV s).1 :: (gVs n t).1,(gVs n t).2.1,(gVs n t).2.2):=by
 conv=>lhs; unfold gVs
 rw [if_neg (fun x=>x h),h1]
theorem pVals_g : ∀ (n : Nat) (s : Str),s.length < n -> pVals s = if (gVs n s).2.1 = .nil then some ((gVs n s).1,(gVs n s).2.2) else none
 | 0,s,h=>by omega
 | n + 1,s,h=>by
  rw [pVals_eq,pValue_g]
  by_cases he : (gV s).2.1 = .nil
  . rw [if_pos he]
    cases h1 : hdIs 44 (gV s).2.2 with
    | none=>rw [gVs_end he h1]; simp only [h1,if_true]
    | some t =>
     have h2:=hdIs_len h1
     have h3:=gV_len s
     rw [gVs_on he h1]
     simp only [h1]
     rw [pVals_g n t (by omega)]
     by_cases h4 : (gVs n t).2.1 = .nil
     . simp only [h4,if_true]
     . simp only [h4,if_false]
  . rw [if_neg he,gVs_err he]
    simp only [he,if_false]
theorem gVs_len : ∀ (n : Nat) (s : Str),(gVs n s).2.2.length <= s.length /\ (gVs n s).1.length <= s.length + 1
 | 0,s=>⟨Nat.le_refl _,Nat.zero_le _⟩
 | n + 1,s=>by
  have hl:=gV_len s
  unfold gVs
  split
  . exact ⟨hl,Nat.zero_le _⟩
  . split
    . exact ⟨hl,by simp⟩
    . rename_i t ht
      have h2:=hdIs_len ht
      obtain ⟨a,b⟩:=gVs_len n t
      refine ⟨by dsimp only; omega,?_⟩
      simp only [List.length_cons]
      omega
theorem gP_len (s : Str) : (gP s).2.2.length <= s.length:=by
 have h1:=drop_len letterB s
 unfold gP
 split
 . exact h1
 . split
   . exact h1
   . rename_i t ht
     have:=hdIs_len ht
     have:=(gVs_len (t.length + 1) t).1
     dsimp only; omega
theorem gP_err {s : Str} (h : nE s ≠ .nil) : gP s = (⟨[],[]⟩,nE s,s.dropWhile letterB):=by unfold gP; rw [if_pos h]
theorem gP_no {s : Str} (h : nE s = .nil) (h1 : hdIs 61 (s.dropWhile letterB) = none) : gP s = (⟨[],[]⟩,whyE [112,97,114,97,109],s.dropWhile letterB):=by
 unfold gP; rw [if_neg (fun x=>x h),h1]
theorem gP_on {s t : Str} (h : nE s = .nil) (h1 : hdIs 61 (s.dropWhile letterB) = some t) : gP s = (⟨upper (s.takeWhile letterB),(gVs (t.length + 1) t).1⟩,(gVs (t.length + 1) t).2.1,(gVs (t.length + 1) t).2.2):=by
 unfold gP; rw [if_neg (fun x=>x h),h1]
theorem pParam_g (s : Str) : pParam s = if (gP s).2.1 = .nil then some ((gP s).1,(gP s).2.2) else none:=by
 unfold pParam
 rw [pName_g]
 by_cases he : nE s = .nil
 . rw [if_pos he]
   cases h1 : hdIs 61 (s.dropWhile letterB) with
   | none=>rw [gP_no he h1]; simp only [h1,why_ne,if_false]
   | some t =>
    rw [gP_on he h1]
    simp only [h1]
    rw [pVals_g (t.length + 1) t (by omega)]
    by_cases h4 : (gVs (t.length + 1) t).2.1 = .nil
    . simp only [h4,if_true]
    . simp only [h4,if_false]
 . rw [if_neg he,gP_err he]
   simp only [he,if_false]
end Go.Li
end
section
namespace Go.Li
open Go Go.Wk Go.Wl Go.Rx
def manyB (p : Prp) : Bool:=decide (20 < p.Params.length) || p.Params.any (fun x=>decide (20 < x.Values.length)) || !decide ((p.Params.map Param.Name).Nodup)
def prp0 : Prp:=⟨[],[],[],[]⟩
def finS (o : Option Prp) : Prp × Err:=match o with
 | none=>(prp0,.no 11)
 | some p=>if manyB p = true then (prp0,.no 5) else (p,.nil)
def parseS (s : Str) : Prp × Err:=finS (pProp s)
def tailS (g n : Str) (l : List Param) (r : Str) : Option Prp:=match pParams r with
 | none=>none
 | some (l',t)=>match hdIs 58 t with
  | none=>none
  | some v=>if v.all standsB = true then some ⟨g,n,l ++ l',v⟩ else none
theorem prop_tail (s : Str) : pProp s = match pHead s with | none=>none | some (g,n,r)=>tailS g n [] r:=by
 unfold pProp tailS
 cases pHead s with
 | none=>rfl
 | some x=>rfl
theorem prop_err {s : Str} (h : nE s ≠ .nil) : pProp s = none:=by
 rw [prop_tail]; unfold pHead; rw [pName_g,if_neg h]
theorem prop_plain {s : Str} (h : nE s = .nil) (h1 : hdIs 46 (s.dropWhile letterB) = none) : pProp s = tailS [] (upper (s.takeWhile letterB)) [] (s.dropWhile letterB):=by
 rw [prop_tail]; unfold pHead; rw [pName_g,if_pos h]; simp only [h1]
theorem prop_group {s t : Str} (h : nE s = .nil) (h1 : hdIs 46 (s.dropWhile letterB) = some t) : pProp s = if nE t = .nil then tailS (upper (s.takeWhile letterB)) (upper (t.takeWhile letterB)) [] (t.dropWhile letterB) else none:=by
 rw [prop_tail]; unfold pHead; rw [pName_g,if_pos h]; simp only [h1]
 rw [pName_g]
 by_cases h2 : nE t = .nil
 . simp only [h2,if_true]
 . simp only [h2,if_false]
theorem tail_err {g n r t : Str} {l : List Param} (h : hdIs 59 r = some t) (h1 : (gP t).2.1 ≠ .nil) : tailS g n l r = none:=by
 unfold tailS; rw [pParams_eq,h]; simp only [pParam_g,if_neg h1]
theorem tail_on {g n r t : Str} {l : List Param} (h : hdIs 59 r = some t) (h1 : (gP t).2.1 = .nil) : tailS g n l r = tailS g n (l ++ [(gP t).1]) (gP t).2.2:=by
 unfold tailS; rw [pParams_eq,h]; simp only [pParam_g,if_pos h1]
 cases pParams (gP t).2.2 with
 | none=>rfl
 | some x=>simp
theorem tail_no {g n r : Str} {l : List Param} (h : hdIs 59 r = none) (h1 : hdIs 58 r = none) : tailS g n l r = none:=by
 unfold tailS; rw [pParams_eq,h]; simp only [h1]
theorem tail_end {g n r v : Str} {l : List Param} (h : hdIs 59 r = none) (h1 : hdIs 58 r = some v) : tailS g n l r = if v.all standsB = true then some ⟨g,n,l,v⟩ else none:=by
 unfold tailS; rw [pParams_eq,h]; simp only [h1,List.append_nil]
theorem while_nil {p : UInt8 -> Bool} {s : Str} : s.dropWhile p = [] ↔ s.all p = true:=by
 induction s with
 | nil=>simp
 | cons c s ih =>
  rw [List.dropWhile_cons,List.all_cons]
  by_cases h : p c = true
  . rw [if_pos h,h,Bool.true_and]; exact ih
  . rw [if_neg h]
    have : p c = false:=by simpa using h
    rw [this]; simp
theorem while_all {p : UInt8 -> Bool} {s : Str} (h : s.dropWhile p = []) : s.takeWhile p = s:=by
 have:=List.takeWhile_append_dropWhile (p:=p) (l:=s)
 rw [h,List.append_nil] at this; exact this
end Go.Li
end
section
namespace Go.Proofs.YtadgfmmmdhlljaaGreatDoor
open Go Go.Wk Go.Wl Go.Rx Go.Fo Go.Li Go.Co 
def an69 : Nat -> Ann:=fun | 94=>⟨42,fun | 2=>some ⟨[1],[.slot 3 (.int .i64)]⟩ | 7=>some ⟨[1,3],[.slot 4 (.int .i64)]⟩ | _=>none,fun  | _=>none⟩ | _=>⟨0,fun _=>none,fun _=>none⟩
def V69 (p : Prp) (Q : Bool -> Prop) : Prop :=
∃ (I : Int -> Prop),∃ (m : Int -> Nat),I (0 : Int) /\ ∀ (x : Int),I x -> (x < (↑p.Params.length : Int) -> (0 : Int) <= x /\ x < (↑p.Params.length : Int) /\ ((20 : Int) < (↑(ix p.Params x).Values.length : Int) -> Q true) /\ (¬(20 : Int) < (↑(ix p.Params x).Values.length : Int) -> ∃ (I_1 : Int -> Prop),∃ (m_1 : Int -> Nat),I_1 (0 : Int) /\ ∀ (x_1 : Int),I_1 x_1 -> (x_1 < x -> (0 : Int) <= x_1 /\ x_1 < (↑p.Params.length : Int) /\ (0 : Int) <= x /\ x < (↑p.Params.length : Int) /\ ((ix p.Params x_1).Name = (ix p.Params x).Name -> Q true) /\ (¬(ix p.Params x_1).Name = (ix p.Params x).Name -> in64 (x_1 + 1) /\ I_1 (x_1 + 1) /\ m_1 (x_1 + 1) < m_1 x_1)) /\ (¬x_1 < x -> in64 (x + 1) /\ I (x + 1) /\ m (x + 1) < m x))) /\ (¬x < (↑p.Params.length : Int) -> Q (decide ((20 : Int) < (↑p.Params.length : Int))))
theorem V69_ok {p : Prp} {Q : Bool -> Prop} (h : V69 p Q) : vcFun (E:=N74) (inlN an69 2) (an69 94) Tryz.f94 [.agg [.str p.Group,.str p.Name,.sl (N:=U) 110 p.Params,.str p.Value]] [] [] 0 (resP N74 [.bool] Q):=Eq.mp (show V69 p Q = vcFun (E:=N74) (inlN an69 2) (an69 94) Tryz.f94 [.agg [.str p.Group,.str p.Name,.sl (N:=U) 110 p.Params,.str p.Value]] [] [] 0 (resP N74 [.bool] Q) by kernel_rfl) h
theorem many_long {p : Prp} {x : Int} (h0 : 0 <= x) (h1 : x < p.Params.length) (h : 20 < ((ix p.Params x).Values.length : Int)) : manyB p = true:=by
 unfold manyB
 have : p.Params.any (fun x=>decide (20 < x.Values.length)) = true:=List.any_eq_true.2 ⟨_,mem_of_ix h0 h1,decide_eq_true (by omega)⟩
 rw [this]; simp
theorem many_twice {p : Prp} {x y : Int} (h0 : 0 <= y) (h1 : y < x) (h2 : x < p.Params.length) (h : (ix p.Params y).Name = (ix p.Params x).Name) : manyB p = true:=by
 unfold manyB
 have : ¬ (p.Params.map Param.Name).Nodup:=fun hn=>by
  have hn : List.Pairwise (· ≠ ·) (p.Params.map Param.Name):=hn
  refine List.pairwise_iff_getElem.1 hn y.toNat x.toNat (by rw [List.length_map]; omega) (by rw [List.length_map]; omega) (by omega) ?_
  rw [ix_get (by omega),ix_get (by omega)] at h
  rw [List.getElem_map,List.getElem_map,h]
 rw [decide_eq_false this]; simp
theorem many_none {p : Prp} (h1 : ∀ x : Int,0 <= x -> x < p.Params.length -> ¬ 20 < ((ix p.Params x).Values.length : Int)) (h2 : ∀ x y : Int,0 <= y -> y < x -> x < p.Params.length -> (ix p.Params y).Name ≠ (ix p.Params x).Name) : manyB p = decide (20 < (p.Params.length : Int)):=by
 unfold manyB
 have e1 : p.Params.any (fun x=>decide (20 < x.Values.length)) = false:=by
  rw [List.any_eq_false]
  intro x hx
  obtain ⟨j,hj,rfl⟩:=List.getElem_of_mem hx
  have:=h1 j (by omega) (by omega)
  rw [ix_get (by simpa using hj)] at this
  simp only [Int.toNat_natCast] at this
  simp only [decide_eq_true_eq]
  omega
 have e2 : (p.Params.map Param.Name).Nodup:=by
  show List.Pairwise (· ≠ ·) (p.Params.map Param.Name)
  rw [List.pairwise_iff_getElem]
  intro i j hi hj hij he
  rw [List.length_map] at hi hj
  have:=h2 j i (by omega) (by omega) (by omega)
  rw [ix_get (by omega),ix_get (by omega)] at this
  rw [List.getElem_map,List.getElem_map] at he
  simp only [Int.toNat_natCast] at this
  exact this he
 rw [e1,decide_eq_true e2]
 simp only [Bool.or_false,Bool.not_true]
 exact decide_eq_decide.2 (by omega)
theorem p69 (p : Prp) (hs : p.Params.length <= 1000000000) : V69 p (fun y0=>y0 = manyB p):=by
 unfold V69
 refine ⟨fun x=>0 <= x /\ x <= p.Params.length /\ (∀ j : Int,0 <= j -> j < x -> ¬ 20 < ((ix p.Params j).Values.length : Int)) /\ ∀ i j : Int,0 <= j -> j < i -> i < x -> (ix p.Params j).Name ≠ (ix p.Params i).Name,fun x=>((p.Params.length : Int) - x).toNat,⟨by omega,by omega,fun j _ _=>by omega,fun i j _ _ _=>by omega⟩,?_⟩
 rintro x ⟨x0,x1,hx,hn⟩
 refine ⟨fun hi=>⟨x0,hi,fun hb=>(many_long x0 hi hb).symm,fun hb=>⟨fun y=>0 <= y /\ y <= x /\ ∀ j : Int,0 <= j -> j < y -> (ix p.Params j).Name ≠ (ix p.Params x).Name,fun y=>(x - y).toNat,⟨by omega,by omega,fun j _ _=>by omega⟩,?_⟩⟩,fun hi=>?_⟩
 . rintro y ⟨y0,y1,hy⟩
   refine ⟨fun hj=>⟨y0,by omega,x0,hi,fun he=>(many_twice y0 hj hi he).symm,fun he=>⟨⟨by omega,by omega⟩,⟨by omega,by omega,fun j j0 j1=>?_⟩,by dsimp only; omega⟩⟩,fun hj=>⟨⟨by omega,by omega⟩,⟨by omega,by omega,fun j j0 j1=>?_,fun i j j0 j1 i1=>?_⟩,by dsimp only; omega⟩⟩
   . by_cases e : j = y
     . subst e; exact he
     . exact hy j j0 (by omega)
   . by_cases e : j = x
     . subst e; exact hb
     . exact hx j j0 (by omega)
   . by_cases e : i = x
     . subst e; exact hy j j0 (by omega)
     . exact hn i j j0 j1 (by omega)
 . exact (many_none (fun j j0 j1=>hx j j0 (by omega)) (fun i j j0 j1 i1=>hn i j j0 j1 (by omega))).symm
def c69s (p : Prp) : Q1 U:=⟨[List.length (α:=Param) p.Params <= 1000000000],[],blB (manyB p)⟩
def c69 (a : List (SV U)) : Option (Q1 U):=match a with | [.agg [.str p0,.str p1,.sl 110 p2,.str p3]]=>some (c69s (⟨p0,p1,p2,p3⟩)) | _=>none
theorem c69_ok (args : List (SV U)) (q : Q1 U) (h : c69 args = some q) (ho : allP q.ob) : LendOK N74 94 args ⟨q.ob,q.hy,q.v,[]⟩:=by
 unfold c69 at h
 split at h
 . rename_i p0 p1 p2 p3
   cases h
   exact lend1 N74_ok (inlN_ok N74_ok an69 2) Tryz.func94 (k:=.bool) trivial (V69_ok (p69 (⟨p0,p1,p2,p3⟩) ho.1)) 0
 . cases h
noncomputable def N69 : Env:=N74.addL 94 c69
theorem N69_ok : EnvOK N69:=N74_ok.addL Tryz.call94 c69_ok
def an31 : Nat -> Ann:=fun | 34=>⟨76,fun | 3=>some ⟨[1],[.slot 3 (.int .i64),.slot 4 (.int .i64)]⟩ | 8=>some ⟨[1,4,5],[.slot 3 (.int .i64),.slot 6 (.int .i64)]⟩ | _=>none,fun  | _=>none⟩ | _=>⟨0,fun _=>none,fun _=>none⟩
def V31 (p : Prp) (Q : Bool -> Prop) : Prop :=
in64 ((bif false then max (↑(List.length p.Value) : Int) (100000 : Int) else min (↑(List.length p.Value) : Int) (100000 : Int)) + bif false then max (↑(List.length p.Name) : Int) (100000 : Int) else min (↑(List.length p.Name) : Int) (100000 : Int)) /\ in64 (((bif false then max (↑(List.length p.Value) : Int) (100000 : Int) else min (↑(List.length p.Value) : Int) (100000 : Int)) + bif false then max (↑(List.length p.Name) : Int) (100000 : Int) else min (↑(List.length p.Name) : Int) (100000 : Int)) + bif false then max (↑(List.length p.Group) : Int) (100000 : Int) else min (↑(List.length p.Group) : Int) (100000 : Int)) /\ ∃ (I : Int -> Int -> Prop),∃ (m : Int -> Int -> Nat),I (((bif false then max (↑(List.length p.Value) : Int) (100000 : Int) else min (↑(List.length p.Value) : Int) (100000 : Int)) + bif false then max (↑(List.length p.Name) : Int) (100000 : Int) else min (↑(List.length p.Name) : Int) (100000 : Int)) + bif false then max (↑(List.length p.Group) : Int) (100000 : Int) else min (↑(List.length p.Group) : Int) (100000 : Int)) (0 : Int) /\ ∀ (x x_1 : Int),I x x_1 -> (x_1 < (↑p.Params.length : Int) /\ x_1 <= 30 -> (0 : Int) <= x_1 /\ x_1 < (↑p.Params.length : Int) /\ in64 (x + bif false then max (↑(List.length (ix p.Params x_1).Name) : Int) (100000 : Int) else min (↑(List.length (ix p.Params x_1).Name) : Int) (100000 : Int)) /\ in64 ((x + bif false then max (↑(List.length (ix p.Params x_1).Name) : Int) (100000 : Int) else min (↑(List.length (ix p.Params x_1).Name) : Int) (100000 : Int)) + bif false then max (↑(ix p.Params x_1).Values.length : Int) (100000 : Int) else min (↑(ix p.Params x_1).Values.length : Int) (100000 : Int)) /\ ∃ (I_1 : Int -> Int -> Prop),∃ (m_1 : Int -> Int -> Nat),I_1 ((x + bif false then max (↑(List.length (ix p.Params x_1).Name) : Int) (100000 : Int) else min (↑(List.length (ix p.Params x_1).Name) : Int) (100000 : Int)) + bif false then max (↑(ix p.Params x_1).Values.length : Int) (100000 : Int) else min (↑(ix p.Params x_1).Values.length : Int) (100000 : Int)) (0 : Int) /\ ∀ (x_2 x_3 : Int),I_1 x_2 x_3 -> (x_3 < (↑(ix p.Params x_1).Values.length : Int) /\ x_3 <= 30 -> (0 : Int) <= x_3 /\ x_3 < (↑(ix p.Params x_1).Values.length : Int) /\ in64 (x_2 + bif false then max (↑(ix (ix p.Params x_1).Values x_3).length : Int) (100000 : Int) else min (↑(ix (ix p.Params x_1).Values x_3).length : Int) (100000 : Int)) /\ in64 (x_3 + 1) /\ I_1 (x_2 + bif false then max (↑(ix (ix p.Params x_1).Values x_3).length : Int) (100000 : Int) else min (↑(ix (ix p.Params x_1).Values x_3).length : Int) (100000 : Int)) (x_3 + 1) /\ m_1 (x_2 + bif false then max (↑(ix (ix p.Params x_1).Values x_3).length : Int) (100000 : Int) else min (↑(ix (ix p.Params x_1).Values x_3).length : Int) (100000 : Int)) (x_3 + 1) < m_1 x_2 x_3) /\ (¬(x_3 < (↑(ix p.Params x_1).Values.length : Int) /\ x_3 <= 30) -> in64 (x_1 + 1) /\ I x_2 (x_1 + 1) /\ m x_2 (x_1 + 1) < m x x_1)) /\ (¬(x_1 < (↑p.Params.length : Int) /\ x_1 <= 30) -> Q (decide ((↑p.Params.length : Int) <= 30 /\ x <= 5000)))
theorem V31_ok {p : Prp} {Q : Bool -> Prop} (h : V31 p Q) : vcFun (E:=N69) (inlN an31 2) (an31 34) Tryz.f34 [.agg [.str p.Group,.str p.Name,.sl (N:=U) 110 p.Params,.str p.Value]] [] [] 0 (resP N69 [.bool] Q):=Eq.mp (show V31 p Q = vcFun (E:=N69) (inlN an31 2) (an31 34) Tryz.f34 [.agg [.str p.Group,.str p.Name,.sl (N:=U) 110 p.Params,.str p.Value]] [] [] 0 (resP N69 [.bool] Q) by kernel_rfl) h
def capI (n : Nat) : Int:=min (n : Int) 100000
theorem capI_le (n : Nat) : 0 <= capI n /\ capI n <= 100000:=by unfold capI; omega
theorem capI_small {n : Nat} {k : Int} (h : capI n <= k) (hk : k < 100000) : (n : Int) <= k:=by unfold capI at h; omega
def vsum (l : List Str) : Int:=(l.map fun v=>capI v.length).sum
theorem vsum_app (a : List Str) (v : Str) : vsum (a ++ [v]) = vsum a + capI v.length:=by simp [vsum]
theorem vsum_le : ∀ l : List Str,0 <= vsum l /\ vsum l <= l.length * 100000
 | []=>by simp [vsum]
 | v :: l=>by
  have:=vsum_le l
  have:=capI_le v.length
  have e : vsum (v :: l) = capI v.length + vsum l:=by simp [vsum]
  rw [e,List.length_cons]; omega
theorem vsum_mem {l : List Str} {v : Str} (h : v ∈ l) : capI v.length <= vsum l:=by
 induction l with
 | nil=>cases h
 | cons a l ih =>
  have e : vsum (a :: l) = capI a.length + vsum l:=by simp [vsum]
  rw [e]
  have:=capI_le a.length
  have:=vsum_le l
  rcases List.mem_cons.1 h with rfl | h
  . omega
  . have:=ih h; omega
def xsum (x : Param) : Int:=capI x.Name.length + capI x.Values.length + vsum (x.Values.take 31)
theorem xsum_le (x : Param) : 0 <= xsum x /\ xsum x <= 3300000:=by
 have:=capI_le x.Name.length
 have:=capI_le x.Values.length
 have:=vsum_le (x.Values.take 31)
 have : (x.Values.take 31).length <= 31:=by rw [List.length_take]; omega
 unfold xsum; omega
def psum (l : List Param) : Int:=(l.map xsum).sum
theorem psum_app (a : List Param) (x : Param) : psum (a ++ [x]) = psum a + xsum x:=by simp [psum]
theorem psum_le : ∀ l : List Param,0 <= psum l /\ psum l <= l.length * 3300000
 | []=>by simp [psum]
 | x :: l=>by
  have:=psum_le l
  have:=xsum_le x
  have e : psum (x :: l) = xsum x + psum l:=by simp [psum]
  rw [e,List.length_cons]; omega
theorem psum_mem {l : List Param} {x : Param} (h : x ∈ l) : xsum x <= psum l:=by
 induction l with
 | nil=>cases h
 | cons a l ih =>
  have e : psum (a :: l) = xsum a + psum l:=by simp [psum]
  rw [e]
  have:=xsum_le a
  have:=psum_le l
  rcases List.mem_cons.1 h with rfl | h
  . omega
  . have:=ih h; omega
def fewN (p : Prp) : Int:=capI p.Value.length + capI p.Name.length + capI p.Group.length + psum (p.Params.take 31)
def fewP (p : Prp) : Bool:=decide ((p.Params.length : Int) <= 30 /\ fewN p <= 5000)
theorem take_end {α : Type} {l : List α} {i : Int} (h0 : 0 <= i) (h1 : i <= l.length) (h2 : i <= 31) (h : ¬ (i < l.length /\ i <= 30)) : l.take i.toNat = l.take 31:=by
 by_cases e : i = 31
 . subst e; rfl
 . have : i = l.length:=by omega
   rw [List.take_of_length_le (by omega),List.take_of_length_le (by omega)]
theorem p31 (p : Prp)  : V31 p (fun y0=>y0 = fewP p):=by
 unfold V31
 simp only [cond_false]
 have c1:=capI_le p.Value.length
 have c2:=capI_le p.Name.length
 have c3:=capI_le p.Group.length
 have e1 : min (p.Value.length : Int) 100000 = capI p.Value.length:=rfl
 have e2 : min (p.Name.length : Int) 100000 = capI p.Name.length:=rfl
 have e3 : min (p.Group.length : Int) 100000 = capI p.Group.length:=rfl
 rw [e1,e2,e3]
 refine ⟨⟨by omega,by omega⟩,⟨by omega,by omega⟩,fun n i=>0 <= i /\ i <= p.Params.length /\ i <= 31 /\ n = capI p.Value.length + capI p.Name.length + capI p.Group.length + psum (p.Params.take i.toNat),fun _ i=>((p.Params.length : Int) - i).toNat,⟨by omega,by omega,by omega,by simp [psum]⟩,?_⟩
 rintro n i ⟨i0,i1,i2,hn⟩
 have lp:=psum_le (p.Params.take i.toNat)
 rw [List.length_take] at lp
 refine ⟨fun ⟨hi,h30⟩=>?_,fun hi=>?_⟩
 . have tk:=take_next i0 hi
   generalize hx : ix p.Params i = x at tk ⊢
   have d1:=capI_le x.Name.length
   have d2:=capI_le x.Values.length
   have e4 : min (x.Name.length : Int) 100000 = capI x.Name.length:=rfl
   have e5 : min (x.Values.length : Int) 100000 = capI x.Values.length:=rfl
   rw [e4,e5]
   refine ⟨i0,hi,⟨by omega,by omega⟩,⟨by omega,by omega⟩,fun m k=>0 <= k /\ k <= x.Values.length /\ k <= 31 /\ m = n + capI x.Name.length + capI x.Values.length + vsum (x.Values.take k.toNat),fun _ k=>((x.Values.length : Int) - k).toNat,⟨by omega,by omega,by omega,by simp [vsum]⟩,?_⟩
   rintro m k ⟨k0,k1,k2,hm⟩
   have lv:=vsum_le (x.Values.take k.toNat)
   rw [List.length_take] at lv
   refine ⟨fun ⟨hk,hk30⟩=>?_,fun hk=>⟨⟨by omega,by omega⟩,⟨by omega,by omega,by omega,?_⟩,by first | omega | (dsimp only; omega)⟩⟩
   . have tv:=take_next k0 hk
     generalize ix x.Values k = v at tv ⊢
     have e6 : min (v.length : Int) 100000 = capI v.length:=rfl
     have d3:=capI_le v.length
     rw [e6]
     exact ⟨k0,hk,⟨by omega,by omega⟩,⟨by omega,by omega⟩,⟨by omega,by omega,by omega,by rw [tv,vsum_app]; omega⟩,by first | omega | (dsimp only; omega)⟩
   . rw [take_end k0 k1 k2 hk] at hm
     rw [tk,psum_app]
     show m = _
     unfold xsum
     omega
 . rw [take_end i0 i1 i2 hi] at hn
   show _ = decide _
   unfold fewN
   rw [hn]
def c31s (p : Prp) : Q1 U:=⟨[],[],blB (fewP p)⟩
def c31 (a : List (SV U)) : Option (Q1 U):=match a with | [.agg [.str p0,.str p1,.sl 110 p2,.str p3]]=>some (c31s (⟨p0,p1,p2,p3⟩)) | _=>none
theorem c31_ok (args : List (SV U)) (q : Q1 U) (h : c31 args = some q) (ho : allP q.ob) : LendOK N69 34 args ⟨q.ob,q.hy,q.v,[]⟩:=by
 unfold c31 at h
 split at h
 . rename_i p0 p1 p2 p3
   cases h
   exact lend1 N69_ok (inlN_ok N69_ok an31 2) Tryz.func34 (k:=.bool) trivial (V31_ok (p31 (⟨p0,p1,p2,p3⟩) )) 0
 . cases h
noncomputable def N31 : Env:=N69.addL 34 c31
theorem N31_ok : EnvOK N31:=N69_ok.addL Tryz.call34 c31_ok
noncomputable def NI92 : Env:=N31.addI 92 Tryz.f92
theorem NI92_ok : EnvOK NI92:=N31_ok.addI Tryz.call92 Tryz.func92
noncomputable def NI71 : Env:=NI92.addI 71 Tryz.f71
theorem NI71_ok : EnvOK NI71:=NI92_ok.addI Tryz.call71 Tryz.func71
noncomputable def NI72 : Env:=NI71.addI 72 Tryz.f72
theorem NI72_ok : EnvOK NI72:=NI71_ok.addI Tryz.call72 Tryz.func72
noncomputable def NI96 : Env:=NI72.addI 96 Tryz.f96
theorem NI96_ok : EnvOK NI96:=NI72_ok.addI Tryz.call96 Tryz.func96
noncomputable def NI81 : Env:=NI96.addI 81 Tryz.f81
theorem NI81_ok : EnvOK NI81:=NI96_ok.addI Tryz.call81 Tryz.func81
noncomputable def NI82 : Env:=NI81.addI 82 Tryz.f82
theorem NI82_ok : EnvOK NI82:=NI81_ok.addI Tryz.call82 Tryz.func82
noncomputable def NI69 : Env:=NI82.addI 69 Tryz.f69
theorem NI69_ok : EnvOK NI69:=NI82_ok.addI Tryz.call69 Tryz.func69
def an102 : Nat -> Ann:=fun | 67=>⟨27,fun _=>none,fun  | _=>none⟩ | _=>⟨0,fun _=>none,fun _=>none⟩
def V102 (s : Str) (c : UInt8) (Q : Str -> Bool -> Prop) : Prop :=
(¬s = [] -> (0 : Int) <= 0) /\ (¬s = [] -> (0 : Int) < (↑(List.length s) : Int)) /\ (s = [] ∨ ix s (0 : Int) ≠ c -> Q s false) /\ (¬(s = [] ∨ ix s (0 : Int) ≠ c) -> (0 : Int) <= 1 /\ (1 : Int) <= (↑(List.length s) : Int) /\ Q (List.drop (Int.toNat (1 : Int)) s) true)
theorem V102_ok {s : Str} {c : UInt8} {Q : Str -> Bool -> Prop} (h : V102 s c Q) : vcFun (E:=NI69) (inlN an102 2) (an102 67) Tryz.f67 [.ref 0 0,.byte c] [(0,.own 128 [.str s])] [] 1 (resM NI69 128 1 1 [.str,.bool] Q):=Eq.mp (show V102 s c Q = vcFun (E:=NI69) (inlN an102 2) (an102 67) Tryz.f67 [.ref 0 0,.byte c] [(0,.own 128 [.str s])] [] 1 (resM NI69 128 1 1 [.str,.bool] Q) by kernel_rfl) h
theorem len_pos5 {α : Type} {s : List α} (h : ¬ s = []) : (0 : Int) < (s.length : Nat):=by
 have:=List.length_pos_iff.2 h; omega
theorem p102 (s : Str) (c : UInt8)  : V102 s c (fun y0 y1=>y0 = (hdIs c s).getD s /\ y1 = (hdIs c s).isSome):=by
 unfold V102
 refine ⟨fun _=>by omega,fun h=>len_pos5 h,fun h=>?_,fun h=>?_⟩
 . rw [hdIs_none (h.imp id id)]; exact ⟨rfl,rfl⟩
 . have hs : s ≠ []:=fun e=>h (.inl e)
   have hc : ix s 0 = c:=Classical.not_not.1 fun e=>h (.inr e)
   rw [hdIs_some hs hc]
   have:=len_pos5 hs
   exact ⟨by omega,by omega,rfl,rfl⟩
def m102 : MC U:=⟨128,fun a ce=>match a,ce with | [.byte c],[.str s]=>some ⟨[],[],blB ((hdIs c s).isSome),[.str ((hdIs c s).getD s)]⟩ | _,_=>none⟩
theorem m102_ok (args cells : List (SV U)) (r : MR U) (h : m102.C args cells = some r) (ho : allP r.ob) : MutOK Tryz.prog U eT G0 67 m102.S args cells r:=by
 unfold m102 at h
 simp only at h
 split at h
 . rename_i c s
   cases h
   exact mut_ok NI69_ok (inlN_ok NI69_ok an102 2) Tryz.func67 (m:=1) (n:=1) (ks:=[.str,.bool]) (X:=((hdIs c s).getD s,(hdIs c s).isSome,())) rfl (V102_ok (p102 s c ))
 . cases h
noncomputable def N102 : Env:=NI69.addI 67 Tryz.f67
theorem N102_ok : EnvOK N102:=NI69_ok.addI Tryz.call67 Tryz.func67
def M102 : Nat -> Option (MC U):=addF 67 m102 noM
theorem M102_ok : ∀ K o args cells r,M102 K = some o -> o.C args cells = some r -> allP r.ob -> MutOK Tryz.prog U eT G0 K o.S args cells r:=addM_ok m102_ok noM_ok
def an101 : Nat -> Ann:=fun | 66=>⟨13,fun _=>none,fun  | _=>none⟩ | 69=>⟨42,fun | 2=>some ⟨[0,1],[.slot 5 (.int .i64)]⟩ | _=>none,fun  | _=>none⟩ | _=>⟨0,fun _=>none,fun _=>none⟩
def V101 (s : Str) (Q : Str -> Str -> Err -> Prop) : Prop :=
∃ (I : Int -> Prop),∃ (m : Int -> Nat),I (0 : Int) /\ ∀ (x : Int),I x -> (x < (↑(List.length s) : Int) -> (0 : Int) <= x) /\ (x < (↑(List.length s) : Int) -> x < (↑(List.length s) : Int)) /\ (x < (↑(List.length s) : Int) /\ letterB (ix s x) = true -> in64 (x + 1) /\ I (x + 1) /\ m (x + 1) < m x) /\ (¬(x < (↑(List.length s) : Int) /\ letterB (ix s x) = true) -> (0 : Int) <= x /\ x <= (↑(List.length s) : Int) /\ (0 : Int) <= x /\ x <= (↑(List.length s) : Int) /\ (List.take x.toNat s = [] -> Q (List.drop x.toNat s) [] (Err.w (134 : Nat) ([110,97,109,101] : List UInt8) (Err.no (11 : Int)))) /\ (¬List.take x.toNat s = [] -> Q (List.drop x.toNat s) (upper (List.take x.toNat s)) Err.nil))
theorem V101_ok {s : Str} {Q : Str -> Str -> Err -> Prop} (h : V101 s Q) : vcFun (E:=N102) (inlMN N102 M102 an101 2) (an101 66) Tryz.f66 [.ref 0 0] [(0,.own 128 [.str s])] [] 1 (resM N102 128 1 2 [.str,.str,.err] Q):=Eq.mp (show V101 s Q = vcFun (E:=N102) (inlMN N102 M102 an101 2) (an101 66) Tryz.f66 [.ref 0 0] [(0,.own 128 [.str s])] [] 1 (resM N102 128 1 2 [.str,.str,.err] Q) by kernel_rfl) h
theorem p101 (s : Str) (hs : s.length <= 1000000000) : V101 s (fun y0 y1 y2=>y0 = s.dropWhile letterB /\ y1 = upper (s.takeWhile letterB) /\ y2 = nE s):=by
 unfold V101
 refine ⟨fun i=>0 <= i /\ i <= s.length /\ ∀ j : Int,0 <= j -> j < i -> letterB (ix s j) = true,fun i=>((s.length : Int) - i).toNat,⟨by omega,by omega,fun j _ _=>by omega⟩,?_⟩
 rintro i ⟨i0,i1,hi⟩
 refine ⟨fun _=>i0,fun h=>h,fun ⟨h,hc⟩=>⟨⟨by omega,by omega⟩,⟨by omega,by omega,fun j j0 j1=>?_⟩,by first | omega | (dsimp only; omega)⟩,fun he=>?_⟩
 . by_cases e : j = i
   . subst e; exact hc
   . exact hi j j0 (by omega)
 . obtain ⟨e1,e2⟩:=while_take i0 i1 hi he
   rw [e1,e2]
   refine ⟨i0,i1,i0,i1,fun h=>⟨rfl,?_,?_⟩,fun h=>⟨rfl,rfl,?_⟩⟩
   . rw [h]; rfl
   . unfold nE whyE; rw [if_pos h]
   . unfold nE; rw [if_neg h]
def m101 : MC U:=⟨128,fun a ce=>match a,ce with | [],[.str s]=>some ⟨[List.length (α:=UInt8) s <= 1000000000],[],.tup [.str (upper (s.takeWhile letterB)),.err (nE s)],[.str (s.dropWhile letterB)]⟩ | _,_=>none⟩
theorem m101_ok (args cells : List (SV U)) (r : MR U) (h : m101.C args cells = some r) (ho : allP r.ob) : MutOK Tryz.prog U eT G0 66 m101.S args cells r:=by
 unfold m101 at h
 simp only at h
 split at h
 . rename_i s
   cases h
   exact mut_ok N102_ok (inlMN_ok N102_ok M102_ok an101 2) Tryz.func66 (m:=1) (n:=2) (ks:=[.str,.str,.err]) (X:=(s.dropWhile letterB,upper (s.takeWhile letterB),nE s,())) rfl (V101_ok (p101 s ho.1))
 . cases h
noncomputable def N101 : Env:=N102.addI 66 Tryz.f66
theorem N101_ok : EnvOK N101:=N102_ok.addI Tryz.call66 Tryz.func66
def M101 : Nat -> Option (MC U):=addF 66 m101 M102
theorem M101_ok : ∀ K o args cells r,M101 K = some o -> o.C args cells = some r -> allP r.ob -> MutOK Tryz.prog U eT G0 K o.S args cells r:=addM_ok m101_ok M102_ok
end Go.Proofs.YtadgfmmmdhlljaaGreatDoor
end
section
namespace Go.Proofs.YtadgfmmmdhlljaaGreatDoor
open Go Go.Wk Go.Wl Go.Rx Go.Fo Go.Li Go.Co Go.Proofs Go.RowKit
def cIB (a : List (SV U)) : Option (Q1 U):=match a with | [.str s,.byte c]=>some ⟨[],[],.int .i64 (Lib.indexByte s c)⟩ | _=>none
theorem cIBU (args : List (SV U)) (q : Q1 U) (h : cIB args = some q) : LendU 109 args q:=by
 unfold cIB at h
 split at h
 . rename_i s c
   cases h
   intro D w vs ha
   obtain ⟨v1,r1,rfl,h1,ha⟩:=Rep.tup_cons ha
   obtain ⟨v2,r2,rfl,h2,ha⟩:=Rep.tup_cons ha
   obtain rfl:=tup0_inv ha
   cases h1 with | str hl =>
   cases h2 with | byte =>
   intro w1 hs
   have run:=Tryz.strings_IndexByte ⟨s.toArray⟩ (c.toNat : Int) w1
   have ec : ((c.toNat : Int)).toNat.toUInt8 = c:=by simp
   rw [ec] at run
   refine Calls.mono run fun e w2 ⟨g1,g2⟩=>?_
   subst g2
   have h1 : -1 <= Lib.indexByte (⟨s.toArray⟩ : ByteArray).data.toList c:=Lib.indexByte_ge s c
   have h2 : Lib.indexByte (⟨s.toArray⟩ : ByteArray).data.toList c < s.length:=indexByte_lt s c
   exact ⟨_,w2,g1,Sim.refl _,sim_ext hs (Ext.refl _ _),.int fun _=>⟨by omega,by omega⟩,trivial⟩
 . cases h
noncomputable def NIB : Env:=N101.addL 109 cIB
theorem NIB_ok : EnvOK NIB:=N101_ok.addL Tryz.call109 (fun a q h _ D w vs _ _ ha=>cIBU a q h D w vs ha)
end Go.Proofs.YtadgfmmmdhlljaaGreatDoor
end
section
namespace Go.Proofs.YtadgfmmmdhlljaaGreatDoor
open Go Go.Wk Go.Wl Go.Rx Go.Fo Go.Li Go.Co 
def an133 : Nat -> Ann:=fun | 108=>⟨10,fun _=>none,fun  | _=>none⟩ | _=>⟨0,fun _=>none,fun _=>none⟩
def V133 (c : UInt8) (Q : Bool -> Prop) : Prop :=
Q (decide (standsB c = true /\ Lib.indexByte ([34,59,58,44] : List UInt8) c < 0))
theorem V133_ok {c : UInt8} {Q : Bool -> Prop} (h : V133 c Q) : vcFun (E:=NIB) (inlMN NIB M101 an133 2) (an133 108) Tryz.f108 [.byte c] [] [] 0 (resP NIB [.bool] Q):=Eq.mp (show V133 c Q = vcFun (E:=NIB) (inlMN NIB M101 an133 2) (an133 108) Tryz.f108 [.byte c] [] [] 0 (resP NIB [.bool] Q) by kernel_rfl) h
theorem special8 (c : UInt8) : decide (Lib.indexByte [34,59,58,44] c < 0) = !(c == 34 || c == 59 || c == 58 || c == 44) :=
 all8 (P:=fun c=>decide (Lib.indexByte [34,59,58,44] c < 0) = !(c == 34 || c == 59 || c == 58 || c == 44)) (by decide +kernel) c
theorem p133 (c : UInt8)  : V133 c (fun y0=>y0 = plainB c):=by
 unfold V133
 show _ = _
 unfold plainB
 rw [<- special8,Bool.decide_and,Bool.decide_eq_true]
def c133 (a : List (SV U)) : Option (Q1 U):=match a with | [.byte c]=>some ⟨[],[],blB (plainB c)⟩ | _=>none
theorem c133_ok (args : List (SV U)) (q : Q1 U) (h : c133 args = some q) (ho : allP q.ob) : LendOK NIB 108 args ⟨q.ob,q.hy,q.v,[]⟩:=by
 unfold c133 at h
 split at h
 . rename_i c
   cases h
   exact lend1 NIB_ok (inlMN_ok NIB_ok M101_ok an133 2) Tryz.func108 (k:=.bool) (x:=plainB c) trivial (V133_ok (p133 c )) 0
 . cases h
noncomputable def N133 : Env:=NIB.addL 108 c133
theorem N133_ok : EnvOK N133:=NIB_ok.addL Tryz.call108 c133_ok
def an135 : Nat -> Ann:=fun | 110=>⟨9,fun _=>none,fun  | _=>none⟩ | _=>⟨0,fun _=>none,fun _=>none⟩
def V135 (c : UInt8) (Q : Bool -> Prop) : Prop :=
Q (decide (standsB c = true /\ c ≠ 34))
theorem V135_ok {c : UInt8} {Q : Bool -> Prop} (h : V135 c Q) : vcFun (E:=N133) (inlMN N133 M101 an135 2) (an135 110) Tryz.f110 [.byte c] [] [] 0 (resP N133 [.bool] Q):=Eq.mp (show V135 c Q = vcFun (E:=N133) (inlMN N133 M101 an135 2) (an135 110) Tryz.f110 [.byte c] [] [] 0 (resP N133 [.bool] Q) by kernel_rfl) h
theorem p135 (c : UInt8)  : V135 c (fun y0=>y0 = inB c):=by
 unfold V135
 show _ = _
 unfold inB
 rw [bne,beq_dec,Bool.decide_and,Bool.decide_eq_true]
 simp only [ne_eq,decide_not]
def c135 (a : List (SV U)) : Option (Q1 U):=match a with | [.byte c]=>some ⟨[],[],blB (inB c)⟩ | _=>none
theorem c135_ok (args : List (SV U)) (q : Q1 U) (h : c135 args = some q) (ho : allP q.ob) : LendOK N133 110 args ⟨q.ob,q.hy,q.v,[]⟩:=by
 unfold c135 at h
 split at h
 . rename_i c
   cases h
   exact lend1 N133_ok (inlMN_ok N133_ok M101_ok an135 2) Tryz.func110 (k:=.bool) (x:=inB c) trivial (V135_ok (p135 c )) 0
 . cases h
noncomputable def N135 : Env:=N133.addL 110 c135
theorem N135_ok : EnvOK N135:=N133_ok.addL Tryz.call110 c135_ok
def an121 : Nat -> Ann:=fun | 91=>⟨20,fun _=>none,fun  | _=>none⟩ | 69=>⟨42,fun | 2=>some ⟨[0,1],[.slot 5 (.int .i64)]⟩ | _=>none,fun  | _=>none⟩ | _=>⟨0,fun _=>none,fun _=>none⟩
def V121 (s : Str) (Q : Str -> Str -> Err -> Prop) : Prop :=
(¬(hdIs (34 : UInt8) s).isSome = true -> ∃ (I : Int -> Prop),∃ (m : Int -> Nat),I (0 : Int) /\ ∀ (x : Int),I x -> (x < (↑(List.length ((hdIs (34 : UInt8) s).getD s)) : Int) -> (0 : Int) <= x) /\ (x < (↑(List.length ((hdIs (34 : UInt8) s).getD s)) : Int) -> x < (↑(List.length ((hdIs (34 : UInt8) s).getD s)) : Int)) /\ (x < (↑(List.length ((hdIs (34 : UInt8) s).getD s)) : Int) /\ plainB (ix ((hdIs (34 : UInt8) s).getD s) x) = true -> in64 (x + 1) /\ I (x + 1) /\ m (x + 1) < m x) /\ (¬(x < (↑(List.length ((hdIs (34 : UInt8) s).getD s)) : Int) /\ plainB (ix ((hdIs (34 : UInt8) s).getD s) x) = true) -> (0 : Int) <= x /\ x <= (↑(List.length ((hdIs (34 : UInt8) s).getD s)) : Int) /\ (0 : Int) <= x /\ x <= (↑(List.length ((hdIs (34 : UInt8) s).getD s)) : Int) /\ (List.take x.toNat ((hdIs (34 : UInt8) s).getD s)).length <= 100000000 /\ Q (List.drop x.toNat ((hdIs (34 : UInt8) s).getD s)) (said (List.take x.toNat ((hdIs (34 : UInt8) s).getD s))) Err.nil)) /\ (¬¬(hdIs (34 : UInt8) s).isSome = true -> ∃ (I : Int -> Prop),∃ (m : Int -> Nat),I (0 : Int) /\ ∀ (x : Int),I x -> (x < (↑(List.length ((hdIs (34 : UInt8) s).getD s)) : Int) -> (0 : Int) <= x) /\ (x < (↑(List.length ((hdIs (34 : UInt8) s).getD s)) : Int) -> x < (↑(List.length ((hdIs (34 : UInt8) s).getD s)) : Int)) /\ (x < (↑(List.length ((hdIs (34 : UInt8) s).getD s)) : Int) /\ inB (ix ((hdIs (34 : UInt8) s).getD s) x) = true -> in64 (x + 1) /\ I (x + 1) /\ m (x + 1) < m x) /\ (¬(x < (↑(List.length ((hdIs (34 : UInt8) s).getD s)) : Int) /\ inB (ix ((hdIs (34 : UInt8) s).getD s) x) = true) -> (0 : Int) <= x /\ x <= (↑(List.length ((hdIs (34 : UInt8) s).getD s)) : Int) /\ (0 : Int) <= x /\ x <= (↑(List.length ((hdIs (34 : UInt8) s).getD s)) : Int) /\ (¬(hdIs (34 : UInt8) (List.drop x.toNat ((hdIs (34 : UInt8) s).getD s))).isSome = true -> Q ((hdIs (34 : UInt8) (List.drop x.toNat ((hdIs (34 : UInt8) s).getD s))).getD (List.drop x.toNat ((hdIs (34 : UInt8) s).getD s))) [] (Err.w (134 : Nat) ([113,117,111,116,101,100] : List UInt8) (Err.no (11 : Int)))) /\ (¬¬(hdIs (34 : UInt8) (List.drop x.toNat ((hdIs (34 : UInt8) s).getD s))).isSome = true -> (List.take x.toNat ((hdIs (34 : UInt8) s).getD s)).length <= 100000000 /\ Q ((hdIs (34 : UInt8) (List.drop x.toNat ((hdIs (34 : UInt8) s).getD s))).getD (List.drop x.toNat ((hdIs (34 : UInt8) s).getD s))) (said (List.take x.toNat ((hdIs (34 : UInt8) s).getD s))) Err.nil)))
theorem V121_ok {s : Str} {Q : Str -> Str -> Err -> Prop} (h : V121 s Q) : vcFun (E:=N135) (inlMN N135 M101 an121 2) (an121 91) Tryz.f91 [.ref 0 0] [(0,.own 128 [.str s])] [] 1 (resM N135 128 1 2 [.str,.str,.err] Q):=Eq.mp (show V121 s Q = vcFun (E:=N135) (inlMN N135 M101 an121 2) (an121 91) Tryz.f91 [.ref 0 0] [(0,.own 128 [.str s])] [] 1 (resM N135 128 1 2 [.str,.str,.err] Q) by kernel_rfl) h
theorem p121 (s : Str) (hs : s.length <= 100000000) : V121 s (fun y0 y1 y2=>y0 = (gV s).2.2 /\ y1 = (gV s).1 /\ y2 = (gV s).2.1):=by
 unfold V121
 unfold gV
 cases h1 : hdIs 34 s with
 | none =>
  simp only [Option.isSome_none,Option.getD_none]
  refine ⟨fun _=>?_,fun h=>absurd (by decide) h⟩
  refine ⟨fun i=>0 <= i /\ i <= s.length /\ ∀ j : Int,0 <= j -> j < i -> plainB (ix s j) = true,fun i=>((s.length : Int) - i).toNat,⟨by omega,by omega,fun j _ _=>by omega⟩,?_⟩
  rintro i ⟨i0,i1,hi⟩
  refine ⟨fun _=>i0,fun h=>h,fun ⟨h,hc⟩=>⟨⟨by omega,by omega⟩,⟨by omega,by omega,fun j j0 j1=>?_⟩,by first | omega | (dsimp only; omega)⟩,fun he=>?_⟩
  . by_cases e : j = i
    . subst e; exact hc
    . exact hi j j0 (by omega)
  . obtain ⟨e1,e2⟩:=while_take i0 i1 hi he
    have l1 : (s.take i.toNat).length <= s.length:=by rw [List.length_take]; omega
    rw [e1] at l1
    rw [e1,e2]
    exact ⟨i0,i1,i0,i1,by omega,by first | rfl | trivial,by first | rfl | trivial,by first | rfl | trivial⟩
 | some r =>
  have hr:=hdIs_len h1
  simp only [Option.isSome_some,Option.getD_some]
  refine ⟨fun h=>absurd (by decide) h,fun _=>?_⟩
  refine ⟨fun i=>0 <= i /\ i <= r.length /\ ∀ j : Int,0 <= j -> j < i -> inB (ix r j) = true,fun i=>((r.length : Int) - i).toNat,⟨by omega,by omega,fun j _ _=>by omega⟩,?_⟩
  rintro i ⟨i0,i1,hi⟩
  refine ⟨fun _=>i0,fun h=>h,fun ⟨h,hc⟩=>⟨⟨by omega,by omega⟩,⟨by omega,by omega,fun j j0 j1=>?_⟩,by first | omega | (dsimp only; omega)⟩,fun he=>?_⟩
  . by_cases e : j = i
    . subst e; exact hc
    . exact hi j j0 (by omega)
  . obtain ⟨e1,e2⟩:=while_take i0 i1 hi he
    have l1 : (r.take i.toNat).length <= r.length:=by rw [List.length_take]; omega
    rw [e1] at l1
    rw [e1,e2]
    skip
    cases h2 : hdIs 34 (r.dropWhile inB) with
    | none =>
     simp only [Option.isSome_none,Option.getD_none]
     exact ⟨i0,i1,i0,i1,fun _=>⟨by first | rfl | trivial,by first | rfl | trivial,by first | rfl | trivial⟩,fun h=>absurd (by decide) h⟩
    | some t =>
     simp only [Option.isSome_some,Option.getD_some]
     exact ⟨i0,i1,i0,i1,fun h=>absurd (by decide) h,fun _=>⟨by omega,by first | rfl | trivial,by first | rfl | trivial,by first | rfl | trivial⟩⟩
def m121 : MC U:=⟨128,fun a ce=>match a,ce with | [],[.str s]=>some ⟨[List.length (α:=UInt8) s <= 100000000],[],.tup [.str ((gV s).1),.err ((gV s).2.1)],[.str ((gV s).2.2)]⟩ | _,_=>none⟩
theorem m121_ok (args cells : List (SV U)) (r : MR U) (h : m121.C args cells = some r) (ho : allP r.ob) : MutOK Tryz.prog U eT G0 91 m121.S args cells r:=by
 unfold m121 at h
 simp only at h
 split at h
 . rename_i s
   cases h
   exact mut_ok N135_ok (inlMN_ok N135_ok M101_ok an121 2) Tryz.func91 (m:=1) (n:=2) (ks:=[.str,.str,.err]) (X:=((gV s).2.2,(gV s).1,(gV s).2.1,())) rfl (V121_ok (p121 s ho.1))
 . cases h
noncomputable def N121 : Env:=N135.addI 91 Tryz.f91
theorem N121_ok : EnvOK N121:=N135_ok.addI Tryz.call91 Tryz.func91
def M121 : Nat -> Option (MC U):=addF 91 m121 M101
theorem M121_ok : ∀ K o args cells r,M121 K = some o -> o.C args cells = some r -> allP r.ob -> MutOK Tryz.prog U eT G0 K o.S args cells r:=addM_ok m121_ok M101_ok
def an65 : Nat -> Ann:=fun | 48=>⟨30,fun | 2=>some ⟨[1,6,7],[.slot 8 (.int .i64)]⟩ | _=>none,fun  | _=>none⟩ | 71=>⟨9,fun _=>none,fun  | _=>none⟩ | 92=>⟨19,fun | 2=>some ⟨[0,1,7],[.slot 8 (.int .i64)]⟩ | _=>none,fun  | _=>none⟩ | 72=>⟨9,fun _=>none,fun  | _=>none⟩ | _=>⟨0,fun _=>none,fun _=>none⟩
def V65 (p : Prp) (Q : Bool -> Prop) : Prop :=
∃ (I : Int -> Prop),∃ (m : Int -> Nat),I (0 : Int) /\ ∀ (x : Int),I x -> (x < (↑p.Params.length : Int) -> (0 : Int) <= x /\ x < (↑p.Params.length : Int) /\ ((20 : Int) < (↑(ix p.Params x).Values.length : Int) -> Q true) /\ (¬(20 : Int) < (↑(ix p.Params x).Values.length : Int) -> (0 : Int) <= x /\ x <= (↑p.Params.length : Int) /\ ∃ (I_1 : Int -> Prop),∃ (m_1 : Int -> Nat),I_1 (0 : Int) /\ ∀ (x_1 : Int),I_1 x_1 -> (x_1 < (↑(List.take x.toNat p.Params).length : Int) -> (0 : Int) <= x_1 /\ x_1 < (↑(List.take x.toNat p.Params).length : Int) /\ ((ix (List.take x.toNat p.Params) x_1).Name = (ix p.Params x).Name -> ((0 : Int) <= x_1 -> Q true) /\ (¬(0 : Int) <= x_1 -> in64 (x + 1) /\ I (x + 1) /\ m (x + 1) < m x)) /\ (¬(ix (List.take x.toNat p.Params) x_1).Name = (ix p.Params x).Name -> in64 (x_1 + 1) /\ I_1 (x_1 + 1) /\ m_1 (x_1 + 1) < m_1 x_1)) /\ (¬x_1 < (↑(List.take x.toNat p.Params).length : Int) -> ((0 : Int) <= (-1 : Int) -> Q true) /\ (¬(0 : Int) <= (-1 : Int) -> in64 (x + 1) /\ I (x + 1) /\ m (x + 1) < m x)))) /\ (¬x < (↑p.Params.length : Int) -> Q (decide ((20 : Int) < (↑p.Params.length : Int))))
theorem V65_ok {p : Prp} {Q : Bool -> Prop} (h : V65 p Q) : vcFun (E:=N121) (inlMN N121 M121 an65 4) (an65 48) Tryz.f48 [.agg [.str p.Group,.str p.Name,.sl (N:=U) 110 p.Params,.str p.Value]] [] [] 0 (resP N121 [.bool] Q):=Eq.mp (show V65 p Q = vcFun (E:=N121) (inlMN N121 M121 an65 4) (an65 48) Tryz.f48 [.agg [.str p.Group,.str p.Name,.sl (N:=U) 110 p.Params,.str p.Value]] [] [] 0 (resP N121 [.bool] Q) by kernel_rfl) h
theorem ix_take {α : Type} [Inhabited α] {l : List α} {n : Nat} {j : Int} (h0 : 0 <= j) (h1 : j < n) : ix (l.take n) j = ix l j:=by
 unfold ix
 rw [List.getD_eq_getElem?_getD,List.getD_eq_getElem?_getD,List.getElem?_take_of_lt (by omega)]
theorem p65 (p : Prp) (hs : p.Params.length <= 1000000000) : V65 p (fun y0=>y0 = manyB p):=by
 unfold V65
 refine ⟨fun x=>0 <= x /\ x <= p.Params.length /\ (∀ j : Int,0 <= j -> j < x -> ¬ 20 < ((ix p.Params j).Values.length : Int)) /\ ∀ i j : Int,0 <= j -> j < i -> i < x -> (ix p.Params j).Name ≠ (ix p.Params i).Name,fun x=>((p.Params.length : Int) - x).toNat,⟨by omega,by omega,fun j _ _=>by omega,fun i j _ _ _=>by omega⟩,?_⟩
 rintro x ⟨x0,x1,hx,hn⟩
 refine ⟨fun hi=>⟨x0,hi,fun hb=>(many_long x0 hi hb).symm,fun hb=>⟨x0,x1,fun y=>0 <= y /\ y <= x /\ ∀ j : Int,0 <= j -> j < y -> (ix p.Params j).Name ≠ (ix p.Params x).Name,fun y=>(x - y).toNat,⟨by omega,by omega,fun j _ _=>by omega⟩,?_⟩⟩,fun hi=>?_⟩
 . rintro y ⟨y0,y1,hy⟩
   have lt : ((List.take x.toNat p.Params).length : Int) = x:=by rw [List.length_take]; omega
   rw [lt]
   refine ⟨fun hj=>?_,fun hj=>⟨fun h=>by omega,fun _=>⟨⟨by omega,by omega⟩,⟨by omega,by omega,fun j j0 j1=>?_,fun i j j0 j1 i1=>?_⟩,by first | omega | (dsimp only; omega)⟩⟩⟩
   . rw [ix_take y0 (by omega)]
     refine ⟨y0,hj,fun he=>⟨fun _=>(many_twice y0 hj hi he).symm,fun h=>absurd y0 h⟩,fun he=>⟨⟨by omega,by omega⟩,⟨by omega,by omega,fun j j0 j1=>?_⟩,by first | omega | (dsimp only; omega)⟩⟩
     by_cases e : j = y
     . subst e; exact he
     . exact hy j j0 (by omega)
   . by_cases e : j = x
     . subst e; exact hb
     . exact hx j j0 (by omega)
   . by_cases e : i = x
     . subst e; exact hy j j0 (by omega)
     . exact hn i j j0 j1 (by omega)
 . exact (many_none (fun j j0 j1=>hx j j0 (by omega)) (fun i j j0 j1 i1=>hn i j j0 j1 (by omega))).symm
def c65s (p : Prp) : Q1 U:=⟨[List.length (α:=Param) p.Params <= 1000000000],[],blB (manyB p)⟩
def c65 (a : List (SV U)) : Option (Q1 U):=match a with | [.agg [.str p0,.str p1,.sl 110 p2,.str p3]]=>some (c65s (⟨p0,p1,p2,p3⟩)) | _=>none
theorem c65_ok (args : List (SV U)) (q : Q1 U) (h : c65 args = some q) (ho : allP q.ob) : LendOK N121 48 args ⟨q.ob,q.hy,q.v,[]⟩:=by
 unfold c65 at h
 split at h
 . rename_i p0 p1 p2 p3
   cases h
   exact lend1 N121_ok (inlMN_ok N121_ok M121_ok an65 4) Tryz.func48 (k:=.bool) trivial (V65_ok (p65 (⟨p0,p1,p2,p3⟩) ho.1)) 0
 . cases h
noncomputable def N65 : Env:=N121.addL 48 c65
theorem N65_ok : EnvOK N65:=N121_ok.addL Tryz.call48 c65_ok
end Go.Proofs.YtadgfmmmdhlljaaGreatDoor
end
