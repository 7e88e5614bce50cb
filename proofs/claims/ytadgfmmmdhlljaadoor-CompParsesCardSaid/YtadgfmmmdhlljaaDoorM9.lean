/- 55 texts, one behind the other. -/
import Derived.Test.YtadgfmmmdhlljaaDoorM6
import Derived.Test.YtadgfmmmdhlljaaDoorMEt
import Derived.Laws.RangeString
import Derived.Laws.Runes
import Derived.WalkMore
import Derived.Deep.QuietTactic
import Derived.BigQuiet
import Derived.Laws.RangeAny
import Derived.Deep.LoopGhost
import Derived.Test.YtadgfmmmdhlljaaDoorM4
import Derived.Laws.IdiomStrings
import Derived.Lib.Bytealg
import Derived.Lib.Join
import Derived.Lib.MakeNoZero
import Derived.Laws.CopyOwn
import Derived.Shelf.Strings.Builder2
set_option linter.unusedVariables false
set_option linter.unusedSimpArgs false
section
namespace Go.Proofs.YtadgfmmmdhlljaaDoor
open Go Go.Wk Go.Wl Go.Rx Go.Fo Go.Li Go.Co Go.Proofs
theorem sim_bld {b : Nat} {w w1 : World} {x : Str} {F : List Nat} (hs : Sim w w1) (h : BldIs 78 5 b w x F) : BldIs 78 5 b w1 x F := by obtain ⟨k, rfl⟩ := hs; exact h
theorem sim_turn {w w1 w2 : World} {F F' : List Nat} (hs : Sim w w1) (h : Turn w1 w2 F F') : Turn w w2 F F' := by
  obtain ⟨k, rfl⟩ := hs
  exact ⟨⟨h.1.os, h.1.tape, h.1.output, h.1.size, h.1.block⟩, h.2⟩
theorem obc_of {K : Nat} {o : OC U} (hk : o.k = 0) {x : U.O o.k} {args : List (SV U)} {r : OR U o.k} (h : ∀ (D : Nat → Prop) (w : World) (vs : List Value), Rep U eT (fun _ => none) D w (.tuple vs.toArray) (.tup args) → ∃ v, Rep U eT (fun _ => none) (fun _ => False) w v r.r ∧ allP r.hy ∧ (∀ w', Rep U eT (fun _ => none) (fun _ => False) w' v r.r) ∧
    ∀ b w1 F, BldIs 78 5 b w1 (cast (by rw [hk]; rfl) x) F → Calls Tryd.prog K (Value.pointer (some ⟨b, 0, none⟩) :: vs).toArray w1 fun e w2 => e = .returned v ∧ ∃ F', BldIs 78 5 b w2 (cast (by rw [hk]; rfl) r.x) F' ∧ Turn w1 w2 F F') : ObcOK E0 K o x args r := by
  obtain ⟨k, C⟩ := o
  simp only at hk
  subst hk
  intro Z D w vs b F _ _ _ hb _ ha
  obtain ⟨v, _, hy, hr, hc⟩ := h D w vs ha
  intro w1 hs
  refine Calls.mono (hc b w1 F (sim_bld hs hb)) fun e w2 ⟨h1, F', h2, h3⟩ => ?_
  exact ⟨v, w2, h1, Sim.refl _, F', h2, sim_turn hs h3, hr w2, hy⟩
def oWS : OC U := ⟨0, fun (x : Str) a => match a with | [.str t] => some ⟨[x.length + t.length ≤ 140737488355328], [], .tup [.int .i64 t.length, .err .nil], (x ++ t : Str)⟩ | _ => none⟩
theorem oWS_ok (x : U.O oWS.k) (args : List (SV U)) (r : OR U oWS.k) (h : oWS.C x args = some r) (ho : allP r.ob) : ObcOK E0 52 oWS x args r := by
  unfold oWS at h
  simp only at h
  split at h
  · rename_i t
    cases h
    refine obc_of rfl fun D w vs ha => ?_
    obtain ⟨v1, r1, rfl, h1, ha⟩ := Rep.tup_cons ha
    obtain rfl := tup0_inv ha
    cases h1 with | str hl =>
    have hr : ∀ w', Rep U eT (fun _ => none) (fun _ => False) w' (.tuple #[.int .i64 t.length, .nilIface]) (.tup [.int .i64 t.length, .err .nil]) := fun w' => .tup1 (cs := [.nilIface]) (.int fun _ => ⟨by omega, by omega⟩) (.tup1 (cs := []) (.err .nil) .tup0)
    exact ⟨_, hr w, trivial, hr, fun b w1 F hb => bd_write b x t w1 F hb ho.1⟩
  · cases h
def oSt : OC U := ⟨0, fun (x : Str) a => match a with | [] => some ⟨[x.length ≤ 9223372036854775807], [], .str x, x⟩ | _ => none⟩
theorem oSt_ok (x : U.O oSt.k) (args : List (SV U)) (r : OR U oSt.k) (h : oSt.C x args = some r) (ho : allP r.ob) : ObcOK E0 53 oSt x args r := by
  unfold oSt at h
  simp only at h
  split at h
  · cases h
    refine obc_of rfl fun D w vs ha => ?_
    obtain rfl := tup0_inv ha
    exact ⟨_, .str ho.1, trivial, fun w' => .str ho.1, fun b w1 F hb => bd_string b x w1 F hb⟩
  · cases h
def oRe : OC U := ⟨0, fun (_ : Str) a => match a with | [] => some ⟨[], [], .tup [], ([] : Str)⟩ | _ => none⟩
theorem oRe_ok (x : U.O oRe.k) (args : List (SV U)) (r : OR U oRe.k) (h : oRe.C x args = some r) : ObcOK E0 57 oRe x args r := by
  unfold oRe at h
  simp only at h
  split at h
  · cases h
    refine obc_of rfl fun D w vs ha => ?_
    obtain rfl := tup0_inv ha
    exact ⟨_, .tup0, trivial, fun w' => .tup0, fun b w1 F hb => bd_reset b x w1 F hb⟩
  · cases h
def oLe : OC U := ⟨0, fun (x : Str) a => match a with | [] => some ⟨[x.length ≤ 9223372036854775807], [], .int .i64 x.length, x⟩ | _ => none⟩
theorem oLe_ok (x : U.O oLe.k) (args : List (SV U)) (r : OR U oLe.k) (h : oLe.C x args = some r) (ho : allP r.ob) : ObcOK E0 60 oLe x args r := by
  unfold oLe at h
  simp only at h
  split at h
  · cases h
    refine obc_of rfl fun D w vs ha => ?_
    obtain rfl := tup0_inv ha
    have hx : ((List.length (α := UInt8) x : Nat) : Int) ≤ 9223372036854775807 := by have := ho.1; omega
    have hr : ∀ w' : World, Rep U eT (fun _ => none) (fun _ => False) w' (.int .i64 (List.length (α := UInt8) x)) (.int .i64 (List.length (α := UInt8) x)) := fun w' => .int fun _ => ⟨by omega, hx⟩
    exact ⟨_, hr w, trivial, hr, fun b w1 F hb => (bd_len b x w1 F hb).mono fun e w2 ⟨h1, h2⟩ => by subst h2; exact ⟨h1, F, hb, Ext.refl _ _, fun k hk => .inl hk⟩⟩
  · cases h
theorem rep_bl {ρ : Env1} {Z : Nat → Prop} {w : World} {b : Bool} {p : Prop} {d : Decidable p} (h : b = @decide p d) : Rep U eT ρ Z w (.bool b) (.bl p d) := by rw [h]; exact .bl
def wAs : WC U := ⟨96, 81, fun a x => match a with | .err e => some ⟨[], [], .bl (e.num.isSome = true) inferInstance, e.num.getD x⟩ | _ => none⟩
theorem wAs_ok (a : SV U) (x : Int) (r : WR U) (h : wAs.C a x = some r) : WrcOK E0 55 wAs a x r := by
  unfold wAs at h
  simp only at h
  split at h
  · rename_i e
    cases h
    intro D w v b _ _ hg hv ho hx w1 hs
    have hs' := hs
    obtain ⟨k, rfl⟩ := hs'
    have hg1 : { w with drawn := k }.cell? ⟨2, 0, none⟩ = some errTypeV := hg.2.2
    have ht0 : { w with drawn := k }.cell? ⟨b, 0, none⟩ = some (.int .i64 x) := by rw [Sim.cell hs, Own.cellv ho]; rfl
    have hf0 : { w with drawn := k }.frozen? ⟨b, 0, none⟩ = false := by unfold Own at ho; simp [World.frozen?, ho]
    have hit : ∀ (m : Int) (W : World), Ext [] { w with drawn := k } W → Own (W.setCell ⟨b, 0, none⟩ (.int .i64 m)) b 81 [.int .i64 m] ∧ Ext [b] w (W.setCell ⟨b, 0, none⟩ (.int .i64 m)) := fun m W hW => by
      have ho1 : Own { w with drawn := k } b 81 [.int .i64 x] := ho
      have ho2 := ho1.ext hW (by simp)
      obtain ⟨k1, k2, _⟩ := Own.setCell ho2 0 (.int .i64 m)
      exact ⟨k1, sim_ext hs (hW.trans k2 (fun _ h => by cases h) (fun _ h => .inl h))⟩
    have al : ∀ (W : World) (o1 o2 o3 o4 : Obj), Ext [] W ((((W.alloc o1).alloc o2).alloc o3).alloc o4) := fun W o1 o2 o3 o4 => (((ext_alloc (B := []) o1).tr (ext_alloc o2)).tr (ext_alloc o3)).tr (ext_alloc o4)
    cases hv with | err hv =>
    cases hv with
    | nil => exact Calls.mono (as_nil _ _) fun _ w2 ⟨h1, h2⟩ => ⟨_, w2, h1, Sim.refl _, by subst h2; exact ⟨sim_ext hs (Ext.refl _ _), ho, hx, rep_bl rfl, trivial⟩⟩
    | @no m hm =>
      refine Calls.mono (asE_no m ⟨b, 0, none⟩ (.int .i64 x) _ hg1 ht0 hf0) fun _ w2 ⟨h1, h2⟩ => ⟨_, w2, h1, Sim.refl _, ?_⟩
      subst h2
      obtain ⟨k1, k2⟩ := hit m _ (al _ _ _ _ _)
      exact ⟨k2, k1, hm, rep_bl rfl, trivial⟩
    | @fault c at_ m hz hc hat hm =>
      refine Calls.mono (asE_fault c m ⟨b, 0, none⟩ (.int .i64 x) _ (by rw [Sim.cell hs, Own.cellv hc]; rfl) hg1 ht0 hf0) fun _ w2 ⟨h1, h2⟩ => ⟨_, w2, h1, Sim.refl _, ?_⟩
      subst h2
      obtain ⟨k1, k2⟩ := hit m _ (al _ _ _ _ _)
      exact ⟨k2, k1, hm, rep_bl rfl, trivial⟩
    | @w t k s m ht hm hk =>
      obtain ⟨rfl, rfl⟩ := wr_val ht
      refine Calls.mono (asE_w153 (sv s) m ⟨b, 0, none⟩ (.int .i64 x) _ hg1 ht0 hf0) fun _ w2 ⟨h1, h2⟩ => ⟨_, w2, h1, Sim.refl _, ?_⟩
      subst h2
      obtain ⟨k1, k2⟩ := hit m _ ((al _ _ _ _ _).tr (ext_alloc _))
      exact ⟨k2, k1, hm, rep_bl rfl, trivial⟩
  · cases h
end Go.Proofs.YtadgfmmmdhlljaaDoor
end
section
namespace Go.Proofs.YtadgfmmmdhlljaaDoor
open Go Go.Wk Go.Wl Go.Rx Go.Fo Go.Li Go.Co Go.Proofs Go.RowKit Go.Extern.Stop Go.Stop Go.Extern
theorem set_after {w w' : World} {T : TypeId} {o1 o2 o3 o4 : Obj} {v0 v : Value} (hw : w' = (((((w.alloc (.cells #[v0] T)).alloc o1).alloc o2).alloc o3).alloc o4).setCell ⟨w.heap.size, 0, none⟩ v) : Own w' w.heap.size T [v] ∧ Ext [] w w' := by
  subst hw
  have ho1 : Own (w.alloc (.cells #[v0] T)) w.heap.size T [v0] := by
    show (w.heap.push _)[w.heap.size]? = _
    simp
  have al : Ext [] (w.alloc (.cells #[v0] T)) (((((w.alloc (.cells #[v0] T)).alloc o1).alloc o2).alloc o3).alloc o4) := (((ext_alloc (B := []) o1).tr (ext_alloc o2)).tr (ext_alloc o3)).tr (ext_alloc o4)
  obtain ⟨k1, k2, _⟩ := Own.setCell (ho1.ext al (by simp)) 0 v
  exact ⟨k1, ((ext_alloc (B := []) _).tr al).trans k2 (fun _ h => by cases h) (fun b hb => .inr (by rw [List.mem_singleton.1 hb]; exact Nat.le_refl _))⟩
set_option maxRecDepth 100000 in
set_option maxHeartbeats 4000000 in
theorem place_nil (w : World) : Calls Tryd.prog 21 #[.nilIface] w fun e w' => e = .returned (.int .i64 0) ∧ Ext [] w w' := by
  go_enter Tryd.func21, Tryd.ntmps21
  go_wp2_with (go_at_call 55; refine (as_nil _ _).mono ?_; rintro e w' ⟨rfl, rfl⟩)
  go_ret
  exact ⟨rfl, ext_alloc _⟩
theorem errType_lt {w : World} (hg : w.cell? ⟨2, 0, none⟩ = some errTypeV) : 2 < w.heap.size := by
  rcases Nat.lt_or_ge 2 w.heap.size with h | h
  · exact h
  · simp [World.cell?, Array.getElem?_eq_none h] at hg
set_option maxRecDepth 100000 in
set_option maxHeartbeats 4000000 in
theorem place_no (n : Int) (w : World) (hg : w.cell? ⟨2, 0, none⟩ = some errTypeV) : Calls Tryd.prog 21 #[.iface 81 (.int .i64 n)] w fun e w' => e = .returned (.int .i64 0) ∧ Ext [] w w' := by
  have hlt := errType_lt hg
  have hgA : (w.alloc (.cells #[.pointer none] 82)).cell? ⟨2, 0, none⟩ = some errTypeV := by rw [World.cell?_alloc_lt _ _ ⟨2, 0, none⟩ hlt]; exact hg
  have htA : (w.alloc (.cells #[.pointer none] 82)).cell? ⟨w.heap.size, 0, none⟩ = some (.pointer none) := by simp
  have hfA : (w.alloc (.cells #[.pointer none] 82)).frozen? ⟨w.heap.size, 0, none⟩ = false := by simp
  go_enter Tryd.func21, Tryd.ntmps21
  go_wp2_with (go_at_call 55; refine (asF_no _ _ (.pointer none) _ hgA htA hfA).mono ?_; rintro e w' ⟨rfl, rfl⟩)
  go_ret
  exact ⟨rfl, ((ext_alloc (B := []) _).tr (ext_alloc _)).tr ((ext_alloc (B := []) _).tr (ext_alloc _))⟩
set_option maxRecDepth 100000 in
set_option maxHeartbeats 4000000 in
theorem place_fault (k : Nat) (a : Int) (w : World) (hc : w.cell? ⟨k, 0, none⟩ = some (.int .i64 a)) (hg : w.cell? ⟨2, 0, none⟩ = some errTypeV) : Calls Tryd.prog 21 #[.iface 82 (.pointer (some ⟨k, 0, none⟩))] w fun e w' => e = .returned (.int .i64 a) ∧ Ext [] w w' := by
  have hlt := errType_lt hg
  have hgA : (w.alloc (.cells #[.pointer none] 82)).cell? ⟨2, 0, none⟩ = some errTypeV := by rw [World.cell?_alloc_lt _ _ ⟨2, 0, none⟩ hlt]; exact hg
  have htA : (w.alloc (.cells #[.pointer none] 82)).cell? ⟨w.heap.size, 0, none⟩ = some (.pointer none) := by simp
  have hfA : (w.alloc (.cells #[.pointer none] 82)).frozen? ⟨w.heap.size, 0, none⟩ = false := by simp
  go_enter Tryd.func21, Tryd.ntmps21
  go_wp2_with (go_at_call 55; refine (asF_fault ⟨k, 0, none⟩ _ (.pointer none) _ hgA htA hfA).mono ?_)
  rintro e w' ⟨rfl, hw⟩
  have hkl : k < w.heap.size := by
    rcases Nat.lt_or_ge k w.heap.size with h | h
    · exact h
    · simp [World.cell?, Array.getElem?_eq_none h] at hc
  have fin : w'.cell? ⟨w.heap.size, 0, none⟩ = some (.pointer (some ⟨k, 0, none⟩)) ∧ Ext [] w w' ∧ w'.cell? ⟨k, 0, none⟩ = some (.int .i64 a) := by
    obtain ⟨k1, x3⟩ := set_after hw
    refine ⟨by rw [Own.cellv k1]; rfl, x3, ?_⟩
    unfold World.cell?
    rw [x3.block k hkl (by simp)]
    exact hc
  clear hw
  obtain ⟨c1, x3, c2⟩ := fin
  go_wp2
  go_ret
  exact ⟨rfl, x3⟩
set_option maxRecDepth 100000 in
set_option maxHeartbeats 4000000 in
theorem place_w (v : Value) (n : Int) (w : World) (hg : w.cell? ⟨2, 0, none⟩ = some errTypeV) : Calls Tryd.prog 21 #[.iface 153 (.agg #[v, .int .i64 n])] w fun e w' => e = .returned (.int .i64 0) ∧ Ext [] w w' := by
  have hlt := errType_lt hg
  have hgA : (w.alloc (.cells #[.pointer none] 82)).cell? ⟨2, 0, none⟩ = some errTypeV := by rw [World.cell?_alloc_lt _ _ ⟨2, 0, none⟩ hlt]; exact hg
  have htA : (w.alloc (.cells #[.pointer none] 82)).cell? ⟨w.heap.size, 0, none⟩ = some (.pointer none) := by simp
  have hfA : (w.alloc (.cells #[.pointer none] 82)).frozen? ⟨w.heap.size, 0, none⟩ = false := by simp
  go_enter Tryd.func21, Tryd.ntmps21
  go_wp2_with (go_at_call 55; refine (asF_w153 v _ _ (.pointer none) _ hgA htA hfA).mono ?_; rintro e w' ⟨rfl, rfl⟩)
  go_ret
  exact ⟨rfl, (((ext_alloc (B := []) _).tr (ext_alloc _)).tr ((ext_alloc (B := []) _).tr (ext_alloc _))).tr (ext_alloc _)⟩
def cPl (a : List (SV U)) : Option (Q1 U) := match a with | [.err e] => some ⟨[], [], .int .i64 e.at_⟩ | _ => none
theorem cPl_ok (args : List (SV U)) (q : Q1 U) (h : cPl args = some q) : LendOK E0 21 args ⟨q.ob, q.hy, q.v, []⟩ := by
  unfold cPl at h
  split at h
  · rename_i e
    cases h
    intro D w vs _ hg ha w1 hs
    obtain ⟨v1, r1, rfl, h1, ha⟩ := Rep.tup_cons ha
    obtain rfl := tup0_inv ha
    have hg1 : w1.cell? ⟨2, 0, none⟩ = some errTypeV := by rw [Sim.cell hs]; exact hg.2.2
    cases h1 with | err h1 =>
    cases h1 with
    | nil => exact Calls.mono (place_nil w1) fun _ w2 ⟨h1, h2⟩ => ⟨_, w2, h1, Sim.refl _, sim_ext hs h2, .int fun _ => ⟨by decide, by decide⟩, trivial⟩
    | @no m hm => exact Calls.mono (place_no m w1 hg1) fun _ w2 ⟨h1, h2⟩ => ⟨_, w2, h1, Sim.refl _, sim_ext hs h2, .int fun _ => ⟨by decide, by decide⟩, trivial⟩
    | @fault c at_ m hz hc hat hm => exact Calls.mono (place_fault c at_ w1 (by rw [Sim.cell hs, Own.cellv hc]; rfl) hg1) fun _ w2 ⟨h1, h2⟩ => ⟨_, w2, h1, Sim.refl _, sim_ext hs h2, .int fun _ => hat, trivial⟩
    | @w t k s m ht hm hk =>
      obtain ⟨rfl, rfl⟩ := wr_val ht
      exact Calls.mono (place_w (sv s) m w1 hg1) fun _ w2 ⟨h1, h2⟩ => ⟨_, w2, h1, Sim.refl _, sim_ext hs h2, .int fun _ => ⟨by decide, by decide⟩, trivial⟩
  · cases h
end Go.Proofs.YtadgfmmmdhlljaaDoor
end
section
namespace Go.Proofs.YtadgfmmmdhlljaaDoor
open Go Go.Wk Go.Wl Go.Rx Go.Fo Go.Li Go.Co 
noncomputable def EL0 : Env := (((E0.addL 50 cIs).addL 119 cIx).addL 59 cTr).addL 21 cPl
theorem EL0_ok : EnvOK EL0 := (((E0_ok.addL Tryd.call50 (fun a q h _ => cIs_ok a q h)).addL Tryd.call119 cIx_ok).addL Tryd.call59 (fun a q h _ => cTr_ok a q h)).addL Tryd.call21 (fun a q h _ => cPl_ok a q h)
noncomputable def EL : Env := ((((EL0.addO 52 oWS).addO 53 oSt).addO 57 oRe).addO 60 oLe).addW 55 wAs
theorem EL_ok : EnvOK EL := ((((EL0_ok.addO Tryd.call52 oWS_ok).addO Tryd.call53 oSt_ok).addO Tryd.call57 (fun x a r h _ => oRe_ok x a r h)).addO Tryd.call60 oLe_ok).addW Tryd.call55 (fun a x r h _ => wAs_ok a x r h)
theorem ix_snoc {α : Type} [Inhabited α] {a : List α} {c : α} {i : Int} (h : i = a.length) : ix (a ++ [c]) i = c := by
  subst h
  rw [ix_get (by simp)]; simp
end Go.Proofs.YtadgfmmmdhlljaaDoor
end
section
namespace Go.Proofs.YtadgfmmmdhlljaaDoor
open Go Go.Wk Go.Wl Go.Rx Go.Fo Go.Li Go.Co 
noncomputable def NI99 : Env := EL.addI 99 Tryd.f99
theorem NI99_ok : EnvOK NI99 := EL_ok.addI Tryd.call99 Tryd.func99
end Go.Proofs.YtadgfmmmdhlljaaDoor
end
section
namespace Go.Proofs.YtadgfmmmdhlljaaDoor
open Go Go.Wk Go.Wl Go.Rx Go.Fo Go.Li Go.Co 
theorem len_pos {α : Type} {s : List α} (h : ¬ s = []) : (0 : Int) < (s.length : Nat) := by
  have := List.length_pos_iff.2 h; omega
def an58 : Nat → Ann := fun | 58 => ⟨13, fun _ => none, fun  | _ => none⟩ | _ => ⟨0, fun _ => none, fun _ => none⟩
def V58 (s : Str) (t : Str) (Q : Str → Str → Bool → Prop) : Prop :=
List.length t = (1 : Nat) ∧
  ((0 : Int) ≤ Lib.indexByte s (ix t (0 : Int)) →
      (0 : Int) ≤ Lib.indexByte s (ix t (0 : Int)) ∧
        Lib.indexByte s (ix t (0 : Int)) ≤ (↑(List.length s) : Int) ∧
          in64 (Lib.indexByte s (ix t (0 : Int)) + (↑(List.length t) : Int)) ∧
            (0 : Int) ≤ Lib.indexByte s (ix t (0 : Int)) + (↑(List.length t) : Int) ∧
              Lib.indexByte s (ix t (0 : Int)) + (↑(List.length t) : Int) ≤ (↑(List.length s) : Int) ∧
                Q (List.take (Lib.indexByte s (ix t (0 : Int))).toNat s) (List.drop (Lib.indexByte s (ix t (0 : Int)) + (↑(List.length t) : Int)).toNat s) true) ∧
    (¬(0 : Int) ≤ Lib.indexByte s (ix t (0 : Int)) → Q s [] false)
set_option maxRecDepth 100000 in
theorem V58_ok {s : Str} {t : Str} {Q : Str → Str → Bool → Prop} (h : V58 s t Q) : vcFun (E := NI99) (inlN an58 2) (an58 58) Tryd.f58 [.str s, .str t] [] [] 0 (resP NI99 [.str, .str, .bool] Q) := Eq.mp (show V58 s t Q = vcFun (E := NI99) (inlN an58 2) (an58 58) Tryd.f58 [.str s, .str t] [] [] 0 (resP NI99 [.str, .str, .bool] Q) by kernel_rfl) h
theorem p58 (s : Str) (t : Str) (ht : t = [10]) (hs : s.length ≤ 1000000) : V58 s t (fun y0 y1 y2 => y0 = hd s ∧ y1 = tl s ∧ y2 = decide (10 ∈ s)) := by
  subst ht
  unfold V58
  have e : ix ([10] : Str) 0 = 10 := rfl
  rw [e]
  obtain ⟨h1, h2⟩ := index_nl s
  have hlt := indexByte_lt s 10
  refine ⟨rfl, fun h => ?_, fun h => ?_⟩
  · have hm : (10 : UInt8) ∈ s := Classical.byContradiction fun hm => by have := h2 hm; omega
    obtain ⟨_, h3, h4⟩ := h1 hm
    have el : ((([10] : Str).length : Nat) : Int) = 1 := rfl
    rw [el]
    exact ⟨h, by omega, ⟨by omega, by omega⟩, by omega, by omega, h3, h4, (decide_eq_true hm).symm⟩
  · have hm : (10 : UInt8) ∉ s := fun hm => by have := (h1 hm).1; omega
    exact ⟨(hd_all hm).1.symm, (hd_all hm).2.symm, (decide_eq_false hm).symm⟩
def c58 (a : List (SV U)) : Option (Q1 U) := match a with | [.str s, .str t] => some ⟨[t = [10], s.length ≤ 1000000], [], .tup [.str (hd s), .str (tl s), blB (decide (10 ∈ s))]⟩ | _ => none
set_option maxRecDepth 100000 in
theorem c58_ok (args : List (SV U)) (q : Q1 U) (h : c58 args = some q) (ho : allP q.ob) : LendOK NI99 58 args ⟨q.ob, q.hy, q.v, []⟩ := by
  unfold c58 at h
  split at h
  · rename_i s t
    cases h
    exact lend3 NI99_ok (inlN_ok NI99_ok an58 2) Tryd.func58 (k1 := .str) (k2 := .str) (k3 := .bool) (x1 := hd s) (x2 := tl s) (x3 := decide (10 ∈ s)) trivial trivial trivial (V58_ok (p58 s t ho.1 ho.2.1)) 0
  · cases h
noncomputable def N58 : Env := NI99.addL 58 c58
theorem N58_ok : EnvOK N58 := NI99_ok.addL Tryd.call58 c58_ok
end Go.Proofs.YtadgfmmmdhlljaaDoor
end
section
namespace Go.Proofs.YtadgfmmmdhlljaaDoor
open Go Go.Wk Go.Wl Go.Rx Go.Fo Go.Li Go.Co 
def an61 : Nat → Ann := fun | 61 => ⟨50, fun | 4 => some ⟨[0], [.slot 3 (.acc 9), .slot 4 (.int .i64), .slot 5 (.int .i64)]⟩ | _ => none, fun  | _ => none⟩ | _ => ⟨0, fun _ => none, fun _ => none⟩
def V61 (s : Str) (Q : List Str → Prop) : Prop :=
∃ (I : List (List UInt8) → Int → Int → Prop),
  ∃ (m : List (List UInt8) → Int → Int → Nat),
    I [] (0 : Int) (0 : Int) ∧
      ∀ (x : List (List UInt8)) (x_1 x_2 : Int),
        I x x_1 x_2 →
          (x_2 < (↑(List.length s) : Int) →
              (0 : Int) ≤ x_2 ∧
                x_2 < (↑(List.length s) : Int) ∧
                  (ix s x_2 ≠ (10 : UInt8) → in64 (x_2 + (1 : Int)) ∧ I x x_1 (x_2 + (1 : Int)) ∧ m x x_1 (x_2 + (1 : Int)) < m x x_1 x_2) ∧
                    (¬ix s x_2 ≠ (10 : UInt8) →
                      (x_1 < x_2 → in64 (x_2 - (1 : Int))) ∧
                        (x_1 < x_2 → (0 : Int) ≤ x_2 - (1 : Int)) ∧
                          (x_1 < x_2 → x_2 - (1 : Int) < (↑(List.length s) : Int)) ∧
                            (x_1 < x_2 ∧ ix s (x_2 - (1 : Int)) = (13 : UInt8) →
                                in64 (x_2 - (1 : Int)) ∧
                                  (0 : Int) ≤ x_1 ∧
                                    x_1 ≤ x_2 - (1 : Int) ∧
                                      x_2 - (1 : Int) ≤ (↑(List.length s) : Int) ∧
                                        (x.length + [List.drop x_1.toNat (List.take (x_2 - (1 : Int)).toNat s)].length) * (some (16 : Nat)).getD (0 : Nat) ≤ (140737488355328 : Nat) ∧
                                          in64 (x_2 + (1 : Int)) ∧
                                            in64 (x_2 + (1 : Int)) ∧
                                              I (x ++ [List.drop x_1.toNat (List.take (x_2 - (1 : Int)).toNat s)]) (x_2 + (1 : Int)) (x_2 + (1 : Int)) ∧
                                                m (x ++ [List.drop x_1.toNat (List.take (x_2 - (1 : Int)).toNat s)]) (x_2 + (1 : Int)) (x_2 + (1 : Int)) < m x x_1 x_2) ∧
                              (¬(x_1 < x_2 ∧ ix s (x_2 - (1 : Int)) = (13 : UInt8)) →
                                (0 : Int) ≤ x_1 ∧
                                  x_1 ≤ x_2 ∧
                                    x_2 ≤ (↑(List.length s) : Int) ∧
                                      (x.length + [List.drop x_1.toNat (List.take x_2.toNat s)].length) * (some (16 : Nat)).getD (0 : Nat) ≤ (140737488355328 : Nat) ∧
                                        in64 (x_2 + (1 : Int)) ∧
                                          in64 (x_2 + (1 : Int)) ∧
                                            I (x ++ [List.drop x_1.toNat (List.take x_2.toNat s)]) (x_2 + (1 : Int)) (x_2 + (1 : Int)) ∧
                                              m (x ++ [List.drop x_1.toNat (List.take x_2.toNat s)]) (x_2 + (1 : Int)) (x_2 + (1 : Int)) < m x x_1 x_2))) ∧
            (¬x_2 < (↑(List.length s) : Int) →
              (x_1 < (↑(List.length s) : Int) →
                  (0 : Int) ≤ x_1 ∧
                    x_1 ≤ (↑(List.length s) : Int) ∧ (x.length + [List.drop x_1.toNat s].length) * (some (16 : Nat)).getD (0 : Nat) ≤ (140737488355328 : Nat) ∧ Q (x ++ [List.drop x_1.toNat s])) ∧
                (¬x_1 < (↑(List.length s) : Int) → Q x))
set_option maxRecDepth 100000 in
theorem V61_ok {s : Str} {Q : List Str → Prop} (h : V61 s Q) : vcFun (E := N58) (inlN an61 2) (an61 61) Tryd.f61 [.str s] [] [] 0 (resP N58 [.acc 9] Q) := Eq.mp (show V61 s Q = vcFun (E := N58) (inlN an61 2) (an61 61) Tryd.f61 [.str s] [] [] 0 (resP N58 [.acc 9] Q) by kernel_rfl) h
theorem p61 (s : Str) (hs : s.length ≤ 100000) : V61 s (fun y0 => y0 = linesOf s) := by
  unfold V61
  refine ⟨fun out fr i => 0 ≤ fr ∧ fr ≤ i ∧ i ≤ s.length ∧ out.length ≤ i ∧ linesOf s = out ++ linesOf (s.drop fr.toNat) ∧ ∀ k : Int, fr ≤ k → k < i → ix s k ≠ 10, fun _ _ i => ((s.length : Int) - i).toNat, ⟨by omega, by omega, by omega, by simp, rfl, fun k _ _ => by omega⟩, ?_⟩
  rintro out fr i ⟨h0, h1, h2, h3, h4, h5⟩
  refine ⟨fun hi => ⟨by omega, hi, fun hc => ⟨⟨by omega, by omega⟩, ⟨h0, by omega, by omega, by omega, h4, fun k k0 k1 => ?_⟩, by dsimp only; omega⟩, fun hc => ?_⟩, fun hi => ?_⟩
  · by_cases e : k = i
    · subst e; exact hc
    · exact h5 k k0 (by omega)
  · have hc : ix s i = 10 := Classical.not_not.1 hc
    have hsp := split_at h0 h1 hi hc h5
    rw [trim_at h0 h1 (by omega)] at hsp
    refine ⟨fun h => ⟨by omega, by omega⟩, fun h => by omega, fun h => by omega, fun h => ⟨⟨by omega, by omega⟩, h0, by omega, by omega, ?_, ⟨by omega, by omega⟩, ⟨by omega, by omega⟩, ⟨by omega, by omega, by omega, ?_, ?_, fun k k0 k1 => by omega⟩, by dsimp only; omega⟩, fun h => ⟨h0, h1, by omega, ?_, ⟨by omega, by omega⟩, ⟨by omega, by omega⟩, ⟨by omega, by omega, by omega, ?_, ?_, fun k k0 k1 => by omega⟩, by dsimp only; omega⟩⟩
    · simp only [List.length_cons, List.length_nil, Option.getD_some]; omega
    · simp only [List.length_append, List.length_cons, List.length_nil]; omega
    · rw [if_pos h] at hsp
      rw [h4, hsp, List.append_assoc]; rfl
    · simp only [List.length_cons, List.length_nil, Option.getD_some]; omega
    · simp only [List.length_append, List.length_cons, List.length_nil]; omega
    · rw [if_neg h] at hsp
      rw [h4, hsp, List.append_assoc]; rfl
  · have hr := split_rest h0 (fun k k0 k1 => h5 k k0 (by omega))
    refine ⟨fun h => ⟨h0, by omega, ?_, ?_⟩, fun h => ?_⟩
    · simp only [List.length_cons, List.length_nil, Option.getD_some]; omega
    · rw [h4, hr, if_pos h]
    · rw [h4, hr, if_neg h, List.append_nil]
def c61 (a : List (SV U)) (nx : Nat) : Option (CR U) := match a with | [.str s] => some ⟨[s.length ≤ 100000], [], .acc nx, [.ac 9 (linesOf s)]⟩ | _ => none
set_option maxRecDepth 100000 in
theorem c61_ok (args : List (SV U)) (nx : Nat) (c : CR U) (h : c61 args nx = some c) (hp : args.all pureS = true) (ho : allP c.ob) : ConOK N58.P N58.N N58.T N58.G 61 args nx c := by
  unfold c61 at h
  split at h
  · rename_i s
    cases h
    exact con1 N58_ok (inlN_ok N58_ok an61 2) Tryd.func61 (k := .acc 9) (x := linesOf s) hp (V61_ok (p61 s ho.1))
  · cases h
noncomputable def N61 : Env := N58.addC 61 c61
theorem N61_ok : EnvOK N61 := N58_ok.addC Tryd.call61 c61_ok
end Go.Proofs.YtadgfmmmdhlljaaDoor
end
section
namespace Go.Proofs.YtadgfmmmdhlljaaDoor
open Go Go.Wk Go.Wl Go.Rx Go.Fo Go.Li Go.Co 
def an23 : Nat → Ann := fun | 23 => ⟨93, fun | 4 => some ⟨[5], [.slot 6 (.acc 40), .slot 7 (.int .i64)]⟩ | _ => none, fun  | _ => none⟩ | _ => ⟨0, fun _ => none, fun _ => none⟩
def V23 (s : Str) (Q : List Row → Int → Int → Prop) : Prop :=
List.length s ≤ (100000 : Nat) ∧
  ∃ (I : List Row → Int → Prop),
    ∃ (m : List Row → Int → Nat),
      I [] (0 : Int) ∧
        ∀ (x : List Row) (x_1 : Int),
          I x x_1 →
            (x_1 < (↑(linesOf s).length : Int) →
                (0 : Int) ≤ x_1 ∧
                  x_1 < (↑(linesOf s).length : Int) ∧
                    (ix (linesOf s) x_1 = [] → in64 (x_1 + (1 : Int)) ∧ I x (x_1 + (1 : Int)) ∧ m x (x_1 + (1 : Int)) < m x x_1) ∧
                      (¬ix (linesOf s) x_1 = [] →
                        in64 ((↑x.length : Int) - (1 : Int)) ∧
                          (0 : Int) ≤ x_1 ∧
                            x_1 < (↑(linesOf s).length : Int) ∧
                              (0 : Int) ≤ (0 : Int) ∧
                                (0 : Int) < (↑(ix (linesOf s) x_1).length : Int) ∧
                                  (¬ix (ix (linesOf s) x_1) (0 : Int) = (32 : UInt8) → (0 : Int) ≤ x_1) ∧
                                    (¬ix (ix (linesOf s) x_1) (0 : Int) = (32 : UInt8) → x_1 < (↑(linesOf s).length : Int)) ∧
                                      (¬ix (ix (linesOf s) x_1) (0 : Int) = (32 : UInt8) → (0 : Int) ≤ (0 : Int)) ∧
                                        (¬ix (ix (linesOf s) x_1) (0 : Int) = (32 : UInt8) → (0 : Int) < (↑(ix (linesOf s) x_1).length : Int)) ∧
                                          (ix (ix (linesOf s) x_1) (0 : Int) = (32 : UInt8) ∨ ix (ix (linesOf s) x_1) (0 : Int) = (9 : UInt8) →
                                              (¬x_1 = (0 : Int) → in64 (x_1 - (1 : Int))) ∧
                                                (¬x_1 = (0 : Int) → (0 : Int) ≤ x_1 - (1 : Int)) ∧
                                                  (¬x_1 = (0 : Int) → x_1 - (1 : Int) < (↑(linesOf s).length : Int)) ∧
                                                    (x_1 = (0 : Int) ∨ ix (linesOf s) (x_1 - (1 : Int)) = [] → in64 (x_1 + (1 : Int)) ∧ Q [] (11 : Int) (x_1 + (1 : Int))) ∧
                                                      (¬(x_1 = (0 : Int) ∨ ix (linesOf s) (x_1 - (1 : Int)) = []) →
                                                        ((0 : Int) ≤ (↑x.length : Int) - (1 : Int) ∧ (↑x.length : Int) - (1 : Int) < (↑x.length : Int)) ∧
                                                          ((0 : Int) ≤ x_1 ∧ x_1 < (↑(linesOf s).length : Int)) ∧
                                                            ((0 : Int) ≤ (1 : Int) ∧ (1 : Int) ≤ (↑(ix (linesOf s) x_1).length : Int)) ∧
                                                              (in64 (ix x ((↑x.length : Int) - (1 : Int))).At →
                                                                  List.length (ix x ((↑x.length : Int) - (1 : Int))).Text + (List.drop (Int.toNat (1 : Int)) (ix (linesOf s) x_1)).length ≤
                                                                    (9223372036854775807 : Nat)) ∧
                                                                (in64 (ix x ((↑x.length : Int) - (1 : Int))).At →
                                                                    (0 : Int) ≤ (↑x.length : Int) - (1 : Int) ∧ (↑x.length : Int) - (1 : Int) < (↑x.length : Int)) ∧
                                                                  (in64 (ix x ((↑x.length : Int) - (1 : Int))).At →
                                                                    (0 : Int) ≤ (↑x.length : Int) - (1 : Int) ∧
                                                                      (↑x.length : Int) - (1 : Int) <
                                                                          (↑(x.set ((↑x.length : Int) - (1 : Int)).toNat
                                                                                  (Row.mk (ix x ((↑x.length : Int) - (1 : Int))).At
                                                                                    ((ix x ((↑x.length : Int) - (1 : Int))).Text ++ List.drop (Int.toNat (1 : Int)) (ix (linesOf s) x_1)))).length :
                                                                            Int) ∧
                                                                        (in64
                                                                            (ix
                                                                                (x.set ((↑x.length : Int) - (1 : Int)).toNat
                                                                                  (Row.mk (ix x ((↑x.length : Int) - (1 : Int))).At
                                                                                    ((ix x ((↑x.length : Int) - (1 : Int))).Text ++ List.drop (Int.toNat (1 : Int)) (ix (linesOf s) x_1))))
                                                                                ((↑x.length : Int) - (1 : Int))).At →
                                                                          ((5000 : Int) <
                                                                                (↑(List.length
                                                                                      (ix
                                                                                          (x.set ((↑x.length : Int) - (1 : Int)).toNat
                                                                                            (Row.mk (ix x ((↑x.length : Int) - (1 : Int))).At
                                                                                              ((ix x ((↑x.length : Int) - (1 : Int))).Text ++ List.drop (Int.toNat (1 : Int)) (ix (linesOf s) x_1))))
                                                                                          ((↑x.length : Int) - (1 : Int))).Text) :
                                                                                  Int) →
                                                                              in64 (x_1 + (1 : Int)) ∧ Q [] (4 : Int) (x_1 + (1 : Int))) ∧
                                                                            (¬(5000 : Int) <
                                                                                  (↑(List.length
                                                                                        (ix
                                                                                            (x.set ((↑x.length : Int) - (1 : Int)).toNat
                                                                                              (Row.mk (ix x ((↑x.length : Int) - (1 : Int))).At
                                                                                                ((ix x ((↑x.length : Int) - (1 : Int))).Text ++ List.drop (Int.toNat (1 : Int)) (ix (linesOf s) x_1))))
                                                                                            ((↑x.length : Int) - (1 : Int))).Text) :
                                                                                    Int) →
                                                                              ((1000 : Int) <
                                                                                    (↑(x.set ((↑x.length : Int) - (1 : Int)).toNat
                                                                                            (Row.mk (ix x ((↑x.length : Int) - (1 : Int))).At
                                                                                              ((ix x ((↑x.length : Int) - (1 : Int))).Text ++
                                                                                                List.drop (Int.toNat (1 : Int)) (ix (linesOf s) x_1)))).length :
                                                                                      Int) →
                                                                                  in64 (x_1 + (1 : Int)) ∧ Q [] (5 : Int) (x_1 + (1 : Int))) ∧
                                                                                (¬(1000 : Int) <
                                                                                      (↑(x.set ((↑x.length : Int) - (1 : Int)).toNat
                                                                                              (Row.mk (ix x ((↑x.length : Int) - (1 : Int))).At
                                                                                                ((ix x ((↑x.length : Int) - (1 : Int))).Text ++
                                                                                                  List.drop (Int.toNat (1 : Int)) (ix (linesOf s) x_1)))).length :
                                                                                        Int) →
                                                                                  in64 (x_1 + (1 : Int)) ∧
                                                                                    I
                                                                                        (x.set ((↑x.length : Int) - (1 : Int)).toNat
                                                                                          (Row.mk (ix x ((↑x.length : Int) - (1 : Int))).At
                                                                                            ((ix x ((↑x.length : Int) - (1 : Int))).Text ++ List.drop (Int.toNat (1 : Int)) (ix (linesOf s) x_1))))
                                                                                        (x_1 + (1 : Int)) ∧
                                                                                      m
                                                                                          (x.set ((↑x.length : Int) - (1 : Int)).toNat
                                                                                            (Row.mk (ix x ((↑x.length : Int) - (1 : Int))).At
                                                                                              ((ix x ((↑x.length : Int) - (1 : Int))).Text ++ List.drop (Int.toNat (1 : Int)) (ix (linesOf s) x_1))))
                                                                                          (x_1 + (1 : Int)) <
                                                                                        m x x_1)))))) ∧
                                            (¬(ix (ix (linesOf s) x_1) (0 : Int) = (32 : UInt8) ∨ ix (ix (linesOf s) x_1) (0 : Int) = (9 : UInt8)) →
                                              in64 (x_1 + (1 : Int)) ∧
                                                (0 : Int) ≤ x_1 ∧
                                                  x_1 < (↑(linesOf s).length : Int) ∧
                                                    (x.length + [Row.mk (x_1 + (1 : Int)) (ix (linesOf s) x_1)].length) * (some (24 : Nat)).getD (0 : Nat) ≤ (140737488355328 : Nat) ∧
                                                      in64 ((↑x.length : Int) - (1 : Int) + (1 : Int)) ∧
                                                        (0 : Int) ≤ (↑x.length : Int) - (1 : Int) + (1 : Int) ∧
                                                          (↑x.length : Int) - (1 : Int) + (1 : Int) < (↑(x ++ [Row.mk (x_1 + (1 : Int)) (ix (linesOf s) x_1)]).length : Int) ∧
                                                            (in64 (ix (x ++ [Row.mk (x_1 + (1 : Int)) (ix (linesOf s) x_1)]) ((↑x.length : Int) - (1 : Int) + (1 : Int))).At →
                                                              ((5000 : Int) <
                                                                    (↑(List.length (ix (x ++ [Row.mk (x_1 + (1 : Int)) (ix (linesOf s) x_1)]) ((↑x.length : Int) - (1 : Int) + (1 : Int))).Text) :
                                                                      Int) →
                                                                  in64 (x_1 + (1 : Int)) ∧ Q [] (4 : Int) (x_1 + (1 : Int))) ∧
                                                                (¬(5000 : Int) <
                                                                      (↑(List.length (ix (x ++ [Row.mk (x_1 + (1 : Int)) (ix (linesOf s) x_1)]) ((↑x.length : Int) - (1 : Int) + (1 : Int))).Text) :
                                                                        Int) →
                                                                  ((1000 : Int) < (↑(x ++ [Row.mk (x_1 + (1 : Int)) (ix (linesOf s) x_1)]).length : Int) →
                                                                      in64 (x_1 + (1 : Int)) ∧ Q [] (5 : Int) (x_1 + (1 : Int))) ∧
                                                                    (¬(1000 : Int) < (↑(x ++ [Row.mk (x_1 + (1 : Int)) (ix (linesOf s) x_1)]).length : Int) →
                                                                      in64 (x_1 + (1 : Int)) ∧
                                                                        I (x ++ [Row.mk (x_1 + (1 : Int)) (ix (linesOf s) x_1)]) (x_1 + (1 : Int)) ∧
                                                                          m (x ++ [Row.mk (x_1 + (1 : Int)) (ix (linesOf s) x_1)]) (x_1 + (1 : Int)) < m x x_1)))))) ∧
              (¬x_1 < (↑(linesOf s).length : Int) → Q x (0 : Int) (0 : Int))
set_option maxRecDepth 100000 in
theorem V23_ok {s : Str} {Q : List Row → Int → Int → Prop} (h : V23 s Q) : vcFun (E := N61) (inlN an23 2) (an23 23) Tryd.f23 [.str s] [] [] 0 (resP N61 [.acc 40, .int .i64, .int .i64] Q) := Eq.mp (show V23 s Q = vcFun (E := N61) (inlN an23 2) (an23 23) Tryd.f23 [.str s] [] [] 0 (resP N61 [.acc 40, .int .i64, .int .i64] Q) by kernel_rfl) h
def uR (r : Except (Int × Int) (List Row)) : List Row × Int × Int := match r with | .ok l => (l, 0, 0) | .error e => ([], e.1, e.2)
theorem uTop_long {a : Int} {out : List Row} (h : (5000 : Int) < (out.getLastD default).Text.length) : uTop a out = .error (4, a) := by rw [uTop, if_pos (by omega)]
theorem uTop_many {a : Int} {out : List Row} (h : ¬ (5000 : Int) < (out.getLastD default).Text.length) (h2 : (1000 : Int) < out.length) : uTop a out = .error (5, a) := by rw [uTop, if_neg (by omega), if_pos (by omega)]
theorem uTop_ok {a : Int} {out : List Row} (h : ¬ (5000 : Int) < (out.getLastD default).Text.length) (h2 : ¬ (1000 : Int) < out.length) : uTop a out = .ok (out, true) := by rw [uTop, if_neg (by omega), if_neg (by omega)]
theorem p23 (s : Str) (hs : s.length ≤ 100000) : V23 s (fun y0 y1 y2 => y0 = (uR (unfoldS s)).1 ∧ y1 = (uR (unfoldS s)).2.1 ∧ y2 = (uR (unfoldS s)).2.2) := by
  unfold V23
  refine ⟨hs, ?_⟩
  have hLl : (linesOf s).length ≤ 100000 := Nat.le_trans (linesOf_len _ s (Nat.le_refl _)) hs
  have hLe : ∀ i : Int, 0 ≤ i → i < (linesOf s).length → (ix (linesOf s) i).length ≤ 100000 := fun i h0 h1 => Nat.le_trans (mem_linesOf _ s (Nat.le_refl _) _ (by rw [ix_get (by omega)]; exact List.getElem_mem _)) hs
  have key : unfoldS s = uGo (linesOf s) 1 [] false := rfl
  generalize unfoldS s = R at key ⊢
  generalize linesOf s = L at hLl hLe key ⊢
  refine ⟨fun out i => 0 ≤ i ∧ i ≤ L.length ∧ out.length ≤ 1000 ∧ (0 < i ∧ ix L (i - 1) ≠ [] → out ≠ [] ∧ (ix out ((out.length : Int) - 1)).Text.length ≤ 5000) ∧ R = uGo (L.drop i.toNat) (i + 1) out (decide (0 < i ∧ ix L (i - 1) ≠ [])), fun _ i => ((L.length : Int) - i).toNat, ⟨by omega, by omega, by simp, fun h => by omega, by rw [key]; simp⟩, ?_⟩
  rintro out i ⟨h0, h1, h2, h3, h4⟩
  clear key
  refine ⟨fun hi => ?_, fun hi => ?_⟩
  · rw [ix_drop h0 hi] at h4
    have hle := hLe i h0 hi
    have hnx : ∀ (b : Bool), (b = true ↔ ix L i ≠ []) → b = decide (0 < i + 1 ∧ ix L (i + 1 - 1) ≠ []) := fun b hb => by
      rw [show i + 1 - 1 = i by omega]
      by_cases e : ix L i = []
      · have : b = false := by cases b; rfl; exact absurd e (hb.1 rfl)
        rw [this, decide_eq_false (fun h => h.2 e)]
      · rw [hb.2 e, decide_eq_true ⟨by omega, e⟩]
    have hnn : ∀ {P : Prop}, (ix L i ≠ [] → P) → (0 < i + 1 ∧ ix L (i + 1 - 1) ≠ [] → P) := fun h hh => h (by rw [show i + 1 - 1 = i by omega] at hh; exact hh.2)
    generalize ix L i = LI at h4 hle hnx hnn ⊢
    refine ⟨h0, hi, fun hE => ⟨⟨by omega, by omega⟩, ⟨by omega, by omega, h2, hnn fun h => absurd hE h, ?_⟩, by dsimp only; omega⟩, fun hN => ?_⟩
    · rw [h4, uGo_ok (show uStep (i + 1) LI out _ = .ok (out, false) by rw [uStep, if_pos hE]), ← hnx false ⟨fun h => (by cases h), fun h => absurd hE h⟩]
    · have hp := len_pos hN
      refine ⟨⟨by omega, by omega⟩, h0, hi, by omega, hp, fun _ => h0, fun _ => hi, fun _ => by omega, fun _ => hp, fun hsp => ⟨fun _ => ⟨by omega, by omega⟩, fun _ => by omega, fun _ => by omega, fun hb => ⟨⟨by omega, by omega⟩, ?_⟩, fun hb => ?_⟩, fun hsp => ?_⟩
      · have ho : decide (0 < i ∧ ix L (i - 1) ≠ []) = false := decide_eq_false (fun h => hb.elim (fun e => by omega) h.2)
        rw [ho] at h4
        rw [h4, uGo_err (show uStep (i + 1) LI out false = .error (11, i + 1) by rw [uStep, if_neg hN, if_pos (show spTab LI from hsp), if_neg (by simp)])]
        exact ⟨rfl, rfl, rfl⟩
      · have hcond : 0 < i ∧ ix L (i - 1) ≠ [] := ⟨by have : ¬ i = 0 := fun e => hb (.inl e); omega, fun e => hb (.inr e)⟩
        obtain ⟨hne, hl5⟩ := h3 hcond
        have hpo := len_pos hne
        rw [decide_eq_true hcond] at h4
        have e1 : Int.toNat (1 : Int) = 1 := rfl
        rw [e1]
        have hla := lastAdd_set (t := LI.drop 1) hne
        have hk : ((out.length : Int) - 1).toNat = out.length - 1 := by omega
        rw [← hk] at hla
        have hst : uStep (i + 1) LI out true = uTop (i + 1) (lastAdd out (LI.drop 1)) := by rw [uStep, if_neg hN, if_pos (show spTab LI from hsp), if_pos rfl]
        rw [hla] at hst
        have hXl : (out.set ((out.length : Int) - 1).toNat (⟨(ix out ((out.length : Int) - 1)).At, (ix out ((out.length : Int) - 1)).Text ++ LI.drop 1⟩ : Row)).length = out.length := by simp
        have hdl : (LI.drop 1).length ≤ LI.length := by simp
        have hcat : ((ix out ((out.length : Int) - 1)).Text ++ LI.drop 1).length ≤ 200000 := by rw [List.length_append]; omega
        generalize hX : out.set ((out.length : Int) - 1).toNat (⟨(ix out ((out.length : Int) - 1)).At, (ix out ((out.length : Int) - 1)).Text ++ LI.drop 1⟩ : Row) = X at hst hXl ⊢
        have hXne : X ≠ [] := fun e => by rw [e] at hXl; simp at hXl; exact hne (List.eq_nil_of_length_eq_zero hXl.symm)
        have hD := lastD_ix hXne
        rw [hXl] at hD
        refine ⟨⟨by omega, by omega⟩, ⟨h0, hi⟩, ⟨by omega, by omega⟩, fun _ => by omega, fun _ => ⟨by omega, by omega⟩, fun _ => ⟨by omega, by omega, fun _ => ⟨fun h5 => ⟨⟨by omega, by omega⟩, ?_⟩, fun h5 => ⟨fun h6 => by omega, fun h6 => ⟨⟨by omega, by omega⟩, ⟨by omega, by omega, by omega, hnn fun _ => ⟨hXne, by rw [hXl]; omega⟩, ?_⟩, by dsimp only; omega⟩⟩⟩⟩⟩
        · rw [h4, uGo_err (hst.trans (uTop_long (by rw [hD]; exact h5)))]; exact ⟨rfl, rfl, rfl⟩
        · rw [h4, uGo_ok (hst.trans (uTop_ok (by rw [hD]; exact h5) (by omega))), ← hnx true ⟨fun _ => hN, fun _ => rfl⟩]
      · have hst : uStep (i + 1) LI out (decide (0 < i ∧ ix L (i - 1) ≠ [])) = uTop (i + 1) (out ++ [⟨i + 1, LI⟩]) := by rw [uStep, if_neg hN, if_neg (show ¬ spTab LI from hsp)]
        have hD : (out ++ [(⟨i + 1, LI⟩ : Row)]).getLastD default = ⟨i + 1, LI⟩ := getLastD_snoc
        have hxs : ix (out ++ [(⟨i + 1, LI⟩ : Row)]) ((out.length : Int) - 1 + 1) = ⟨i + 1, LI⟩ := ix_snoc (by omega)
        have hle2 : (out ++ [(⟨i + 1, LI⟩ : Row)]).length = out.length + 1 := by simp
        simp only [hxs, hle2]
        refine ⟨⟨by omega, by omega⟩, h0, hi, ?_, ⟨by omega, by omega⟩, by omega, by omega, fun _ => ⟨fun h5 => ⟨⟨by omega, by omega⟩, ?_⟩, fun h5 => ⟨fun h6 => ⟨⟨by omega, by omega⟩, ?_⟩, fun h6 => ⟨⟨by omega, by omega⟩, ⟨by omega, by omega, by omega, hnn fun _ => ⟨by simp, ?_⟩, ?_⟩, by omega⟩⟩⟩⟩
        · simp only [List.length_cons, List.length_nil, Option.getD_some]; omega
        · rw [h4, uGo_err (hst.trans (uTop_long (by rw [hD]; exact h5)))]; exact ⟨rfl, rfl, rfl⟩
        · rw [h4, uGo_err (hst.trans (uTop_many (by rw [hD]; exact h5) (by omega)))]; exact ⟨rfl, rfl, rfl⟩
        · rw [ix_snoc (by omega)]; show LI.length ≤ 5000; omega
        · rw [h4, uGo_ok (hst.trans (uTop_ok (by rw [hD]; exact h5) (by omega))), ← hnx true ⟨fun _ => hN, fun _ => rfl⟩]
  · rw [drop_all (by omega)] at h4
    rw [h4]; exact ⟨rfl, rfl, rfl⟩
def c23 (a : List (SV U)) (nx : Nat) : Option (CR U) := match a with | [.str s] => some ⟨[s.length ≤ 100000], [], .tup [.acc nx, .int .i64 ((uR (unfoldS s)).2.1), .int .i64 ((uR (unfoldS s)).2.2)], [.ac 40 ((uR (unfoldS s)).1)]⟩ | _ => none
set_option maxRecDepth 100000 in
theorem c23_ok (args : List (SV U)) (nx : Nat) (c : CR U) (h : c23 args nx = some c) (hp : args.all pureS = true) (ho : allP c.ob) : ConOK N61.P N61.N N61.T N61.G 23 args nx c := by
  unfold c23 at h
  split at h
  · rename_i s
    cases h
    exact con3 N61_ok (inlN_ok N61_ok an23 2) Tryd.func23 (k1 := .acc 40) (k2 := .int .i64) (k3 := .int .i64) (x1 := (uR (unfoldS s)).1) (x2 := (uR (unfoldS s)).2.1) (x3 := (uR (unfoldS s)).2.2) rfl rfl hp (V23_ok (p23 s ho.1))
  · cases h
noncomputable def N23 : Env := N61.addC 23 c23
theorem N23_ok : EnvOK N23 := N61_ok.addC Tryd.call23 c23_ok
end Go.Proofs.YtadgfmmmdhlljaaDoor
end
section
namespace Go.Proofs.YtadgfmmmdhlljaaDoor
open Go Go.Wk Go.Wl Go.Rx Go.Fo Go.Li Go.Co 
def an20 : Nat → Ann := fun | 20 => ⟨15, fun | 4 => some ⟨[0], [.slot 3 (.int .i64)]⟩ | _ => none, fun  | _ => none⟩ | _ => ⟨0, fun _ => none, fun _ => none⟩
def V20 (e : Err) (Q : Int → Prop) : Prop :=
(e = Err.nil → Q (0 : Int)) ∧
  (¬e = Err.nil →
    ∃ (I : Int → Prop),
      ∃ (m : Int → Nat),
        I (1 : Int) ∧ ∀ (x : Int), I x → (x ≤ (16 : Int) → (e.is x → Q x) ∧ (¬e.is x → in64 (x + (1 : Int)) ∧ I (x + (1 : Int)) ∧ m (x + (1 : Int)) < m x)) ∧ (¬x ≤ (16 : Int) → Q (-1 : Int)))
set_option maxRecDepth 100000 in
theorem V20_ok {e : Err} {Q : Int → Prop} (h : V20 e Q) : vcFun (E := N23) (inlN an20 2) (an20 20) Tryd.f20 [.err e] [] [] 0 (resP N23 [.int .i64] Q) := Eq.mp (show V20 e Q = vcFun (E := N23) (inlN an20 2) (an20 20) Tryd.f20 [.err e] [] [] 0 (resP N23 [.int .i64] Q) by kernel_rfl) h
theorem nr_some {e : Err} {n : Int} (h : ¬ e = .nil) (hn : e.num = some n) : e.nr = if 1 ≤ n ∧ n ≤ 16 then n else -1 := by
  cases e with
  | nil => exact absurd rfl h
  | _ => unfold Err.nr; simp only [hn]
theorem nr_none {e : Err} (h : ¬ e = .nil) (hn : e.num = none) : e.nr = -1 := by
  cases e with
  | nil => exact absurd rfl h
  | _ => unfold Err.nr; simp only [hn]
theorem p20 (e : Err)  : V20 e (fun y0 => y0 = e.nr) := by
  unfold V20
  refine ⟨fun h => by subst h; rfl, fun h => ⟨fun x => 1 ≤ x ∧ x ≤ 17 ∧ ∀ j : Int, 1 ≤ j → j < x → ¬ e.is j, fun x => (17 - x).toNat, ⟨by omega, by omega, fun j _ _ => by omega⟩, ?_⟩⟩
  rintro x ⟨h0, h1, h2⟩
  refine ⟨fun hx => ⟨fun hi => ?_, fun hi => ⟨⟨by omega, by omega⟩, ⟨by omega, by omega, fun j j0 j1 => ?_⟩, by dsimp only; omega⟩⟩, fun hx => ?_⟩
  · have hi : e.num = some x := hi
    rw [nr_some h hi, if_pos ⟨h0, hx⟩]
  · by_cases e1 : j = x
    · subst e1; exact hi
    · exact h2 j j0 (by omega)
  · cases hn : e.num with
    | none => rw [nr_none h hn]
    | some n => rw [nr_some h hn, if_neg (fun hh => h2 n hh.1 (by omega) hn)]
def c20 (a : List (SV U)) : Option (Q1 U) := match a with | [.err e] => some ⟨[], [], .int .i64 e.nr⟩ | _ => none
set_option maxRecDepth 100000 in
theorem c20_ok (args : List (SV U)) (q : Q1 U) (h : c20 args = some q) (ho : allP q.ob) : LendOK N23 20 args ⟨q.ob, q.hy, q.v, []⟩ := by
  unfold c20 at h
  split at h
  · rename_i e
    cases h
    exact lend1 N23_ok (inlN_ok N23_ok an20 2) Tryd.func20 (k := .int .i64) (x := e.nr) trivial (V20_ok (p20 e )) 0
  · cases h
noncomputable def N20 : Env := N23.addL 20 c20
theorem N20_ok : EnvOK N20 := N23_ok.addL Tryd.call20 c20_ok
end Go.Proofs.YtadgfmmmdhlljaaDoor
end
section
namespace Go.Proofs.YtadgfmmmdhlljaaDoor
open Go Go.Wk Go.Wl Go.Rx Go.Fo Go.Li Go.Co 
noncomputable def NI56 : Env := N20.addI 56 Tryd.f56
theorem NI56_ok : EnvOK NI56 := N20_ok.addI Tryd.call56 Tryd.func56
end Go.Proofs.YtadgfmmmdhlljaaDoor
end
section
namespace Go.Proofs.YtadgfmmmdhlljaaDoor
open Go Go.Wk Go.Wl Go.Rx Go.Fo Go.Li Go.Co 
def an22 : Nat → Ann := fun | 22 => ⟨89, fun | 6 => some ⟨[4, 5, 6, 7], [.slot 0 .str, .slot 8 (.int .i64), .own 4 [(.acc 40)], .ob 5 0, .own 6 [.bool]]⟩ | _ => none, fun | 11 => some ⟨[4, 5, 6, 7, 8, 10], [.slot 9 .str]⟩ | 24 => some ⟨[0, 4, 5, 6, 7, 8], [.slot 12 .err, .own 4 [(.acc 40)], .ob 5 0, .own 6 [.bool]]⟩ | _ => none⟩ | 56 => ⟨12, fun _ => none, fun  | _ => none⟩ | _ => ⟨0, fun _ => none, fun _ => none⟩
def V22 (s : Str) (Q : List Row → Err → Prop) : Prop :=
∃ (I : List UInt8 → Int → List Row → List UInt8 → Bool → Prop),
  ∃ (m : List UInt8 → Int → List Row → List UInt8 → Bool → Nat),
    I s (1 : Int) [] [] false ∧
      ∀ (x : List UInt8) (x_1 : Int) (x_2 : List Row) (x_3 : List UInt8) (x_4 : Bool),
        I x x_1 x_2 x_3 x_4 →
          (x ≠ [] →
              [(10 : UInt8)] = [(10 : UInt8)] ∧
                x.length ≤ (1000000 : Nat) ∧
                  ∃ (J : List UInt8 → Prop),
                    (((↑(List.length (hd x)) : Int) < (↑x.length : Int) → J (Lib.trimSuffix (hd x) [(13 : UInt8)])) ∧ (¬(↑(List.length (hd x)) : Int) < (↑x.length : Int) → J (hd x))) ∧
                      ∀ (x_5 : List UInt8),
                        J x_5 →
                          ∃ (J : Err → List Row → List UInt8 → Bool → Prop),
                            ((x_5 = [] →
                                  (x_4 = true →
                                      in64 ((↑x_2.length : Int) - (1 : Int)) ∧
                                        x_3.length ≤ (9223372036854775807 : Nat) ∧
                                          ((0 : Int) ≤ (↑x_2.length : Int) - (1 : Int) ∧ (↑x_2.length : Int) - (1 : Int) < (↑x_2.length : Int)) ∧
                                            J Err.nil (x_2.set ((↑x_2.length : Int) - (1 : Int)).toNat (Row.mk (ix x_2 ((↑x_2.length : Int) - (1 : Int))).At x_3)) [] false) ∧
                                    (¬x_4 = true → J Err.nil x_2 [] false)) ∧
                                (¬x_5 = [] →
                                  (0 : Int) ≤ (0 : Int) ∧
                                    (0 : Int) < (↑x_5.length : Int) ∧
                                      (¬ix x_5 (0 : Int) = (32 : UInt8) → (0 : Int) ≤ (0 : Int)) ∧
                                        (¬ix x_5 (0 : Int) = (32 : UInt8) → (0 : Int) < (↑x_5.length : Int)) ∧
                                          (ix x_5 (0 : Int) = (32 : UInt8) ∨ ix x_5 (0 : Int) = (9 : UInt8) →
                                              (0 : Int) ≤ (1 : Int) ∧
                                                (1 : Int) ≤ (↑x_5.length : Int) ∧
                                                  x_3.length + (List.drop (Int.toNat (1 : Int)) x_5).length ≤ (140737488355328 : Nat) ∧
                                                    (¬x_4 = true → J (Err.no (11 : Int)) x_2 (x_3 ++ List.drop (Int.toNat (1 : Int)) x_5) (decide (x_4 = true))) ∧
                                                      (¬¬x_4 = true → J Err.nil x_2 (x_3 ++ List.drop (Int.toNat (1 : Int)) x_5) (decide (x_4 = true)))) ∧
                                            (¬(ix x_5 (0 : Int) = (32 : UInt8) ∨ ix x_5 (0 : Int) = (9 : UInt8)) →
                                              (x_4 = true →
                                                  in64 ((↑x_2.length : Int) - (1 : Int)) ∧
                                                    x_3.length ≤ (9223372036854775807 : Nat) ∧
                                                      ((0 : Int) ≤ (↑x_2.length : Int) - (1 : Int) ∧ (↑x_2.length : Int) - (1 : Int) < (↑x_2.length : Int)) ∧
                                                        ((x_2.set ((↑x_2.length : Int) - (1 : Int)).toNat (Row.mk (ix x_2 ((↑x_2.length : Int) - (1 : Int))).At x_3)).length + [Row.mk x_1 []].length) *
                                                              (some (24 : Nat)).getD (0 : Nat) ≤
                                                            (140737488355328 : Nat) ∧
                                                          ([] : List UInt8).length + x_5.length ≤ (140737488355328 : Nat) ∧
                                                            J Err.nil (x_2.set ((↑x_2.length : Int) - (1 : Int)).toNat (Row.mk (ix x_2 ((↑x_2.length : Int) - (1 : Int))).At x_3) ++ [Row.mk x_1 []])
                                                              ([] ++ x_5) true) ∧
                                                (¬x_4 = true →
                                                  (x_2.length + [Row.mk x_1 []].length) * (some (24 : Nat)).getD (0 : Nat) ≤ (140737488355328 : Nat) ∧
                                                    ([] : List UInt8).length + x_5.length ≤ (140737488355328 : Nat) ∧ J Err.nil (x_2 ++ [Row.mk x_1 []]) ([] ++ x_5) true)))) ∧
                              ∀ (x_6 : Err) (x_7 : List Row) (x_8 : List UInt8) (x_9 : Bool),
                                J x_6 x_7 x_8 x_9 →
                                  (x_6.num.isSome = true → Q [] (Err.fault x_1 (x_6.num.getD (0 : Int)))) ∧
                                    (¬x_6.num.isSome = true →
                                      x_8.length ≤ (9223372036854775807 : Nat) ∧
                                        ((5000 : Int) < (↑x_8.length : Int) → Q [] (Err.fault x_1 (4 : Int))) ∧
                                          (¬(5000 : Int) < (↑x_8.length : Int) →
                                            ((1000 : Int) < (↑x_7.length : Int) → Q [] (Err.fault x_1 (5 : Int))) ∧
                                              (¬(1000 : Int) < (↑x_7.length : Int) →
                                                in64 (x_1 + (1 : Int)) ∧
                                                  I (tl x) (x_1 + (1 : Int)) x_7 x_8 (decide (x_9 = true)) ∧ m (tl x) (x_1 + (1 : Int)) x_7 x_8 (decide (x_9 = true)) < m x x_1 x_2 x_3 x_4)))) ∧
            (¬x ≠ [] →
              (x_4 = true →
                  in64 ((↑x_2.length : Int) - (1 : Int)) ∧
                    x_3.length ≤ (9223372036854775807 : Nat) ∧
                      ((0 : Int) ≤ (↑x_2.length : Int) - (1 : Int) ∧ (↑x_2.length : Int) - (1 : Int) < (↑x_2.length : Int)) ∧
                        Q (x_2.set ((↑x_2.length : Int) - (1 : Int)).toNat (Row.mk (ix x_2 ((↑x_2.length : Int) - (1 : Int))).At x_3)) Err.nil) ∧
                (¬x_4 = true → Q x_2 Err.nil))
set_option maxRecDepth 100000 in
theorem V22_ok {s : Str} {Q : List Row → Err → Prop} (h : V22 s Q) : vcFun (E := NI56) (inlN an22 2) (an22 22) Tryd.f22 [.str s] [] [] 0 (resP NI56 [.acc 40, .err] Q) := Eq.mp (show V22 s Q = vcFun (E := NI56) (inlN an22 2) (an22 22) Tryd.f22 [.str s] [] [] 0 (resP NI56 [.acc 40, .err] Q) by kernel_rfl) h
def uE (r : Except (Int × Int) (List Row)) : Err := match r with | .ok _ => .nil | .error e => .fault e.2 e.1
def topGo (r : List Str) (a : Int) (out : List Row) : Except (Int × Int) (List Row) := match uTop a out with | .error e => .error e | .ok q => uGo r (a + 1) q.1 q.2
theorem uGo_top {l : Str} {r : List Str} {a : Int} {out out' : List Row} {o : Bool} (h : uStep a l out o = uTop a out') : uGo (l :: r) a out o = topGo r a out' := by rw [uGo, h]; rfl
theorem lastSet_eq {out : List Row} {t : Str} (h : out ≠ []) : out.set ((out.length : Int) - 1).toNat (Row.mk (ix out ((out.length : Int) - 1)).At t) = lastSet out t := by
  have hp := len_pos h
  unfold lastSet
  rw [show ((out.length : Int) - 1).toNat = out.length - 1 by omega]
theorem lastSet_text {out : List Row} {t : Str} (h : out ≠ []) : ((lastSet out t).getLastD default).Text = t := by
  obtain ⟨a, x, rfl⟩ := snoc h
  rw [lastSet_snoc, getLastD_snoc]
theorem lastAdd_lastSet {out : List Row} {t d : Str} (h : out ≠ []) : lastAdd (lastSet out t) d = lastSet out (t ++ d) := by
  obtain ⟨a, x, rfl⟩ := snoc h
  rw [lastSet_snoc, lastAdd_snoc, lastSet_snoc]
theorem hd_lt {s : Str} (h : 10 ∈ s) : (hd s).length < s.length := by
  obtain ⟨h1, h2, _⟩ := (index_nl s).1 h
  have h3 := indexByte_lt s 10
  rw [← h2, List.length_take]; omega
theorem trimR_len (l : Str) : (trimR l).length ≤ l.length := by
  unfold trimR
  split
  · rw [List.length_dropLast]; omega
  · exact Nat.le_refl _
theorem p22 (s : Str) (hs : s.length ≤ 100000) : V22 s (fun y0 y1 => y0 = (uR (unfoldS s)).1 ∧ y1 = uE (unfoldS s)) := by
  unfold V22
  have key : unfoldS s = uGo (linesOf s) 1 [] false := rfl
  generalize unfoldS s = R at key ⊢
  refine ⟨fun x a out long o => 1 ≤ a ∧ a + x.length ≤ s.length + 1 ∧ out.length ≤ 1000 ∧ long.length ≤ 5000 ∧ (o = true → out ≠ []) ∧ (o = false → long = []) ∧ R = uGo (linesOf x) a (cur out long o) o, fun x _ _ _ _ => x.length, ⟨by omega, by omega, by simp, by simp, fun h => (by cases h), fun _ => rfl, key⟩, ?_⟩
  rintro x a out long o ⟨h0, h1, h2, h3, h4, h5, h6⟩
  clear key
  refine ⟨fun hx => ⟨rfl, by omega, fun line => linesOf x = line :: linesOf (tl x) ∧ line.length ≤ x.length, ⟨fun hc => ?_, fun hc => ?_⟩, ?_⟩, fun hx => ?_⟩
  · have hm : (10 : UInt8) ∈ x := Classical.byContradiction fun hm => by rw [(hd_all hm).1] at hc; omega
    refine ⟨by rw [linesOf_cons hx, if_pos hm, trim13], ?_⟩
    rw [trim13]
    have := trimR_len (hd x); omega
  · have hm : (10 : UInt8) ∉ x := fun hm => by have := hd_lt hm; omega
    exact ⟨by rw [linesOf_cons hx, if_neg hm, (hd_all hm).1], by rw [(hd_all hm).1]; exact Nat.le_refl _⟩
  · rintro line ⟨hl, hll⟩
    rw [hl] at h6
    have htl := tl_lt hx
    clear hl
    generalize tl x = x' at h6 htl ⊢
    refine ⟨fun e o' l' p' => (e = .no 11 ∧ R = .error (11, a)) ∨ (e = .nil ∧ o'.length ≤ 1001 ∧ l'.length ≤ 300000 ∧ (p' = false → l' = [] ∧ o'.length ≤ 1000 ∧ R = uGo (linesOf x') (a + 1) o' false) ∧ (p' = true → o' ≠ [] ∧ R = topGo (linesOf x') a (lastSet o' l'))), ⟨fun hE => ⟨fun ho => ?_, fun ho => ?_⟩, fun hN => ?_⟩, ?_⟩
    · have hne := h4 ho
      have hp := len_pos hne
      rw [lastSet_eq hne]
      subst ho
      refine ⟨⟨by omega, by omega⟩, by omega, ⟨by omega, by omega⟩, .inr ⟨rfl, by rw [lastSet_len]; omega, by simp, fun _ => ⟨rfl, by rw [lastSet_len]; exact h2, ?_⟩, fun h => (by cases h)⟩⟩
      rw [h6, uGo_ok (show uStep a line (cur out long true) true = .ok (lastSet out long, false) by rw [uStep, if_pos hE]; rfl)]
    · have ho : o = false := by simpa using ho
      subst ho
      refine .inr ⟨rfl, by omega, by simp, fun _ => ⟨rfl, h2, ?_⟩, fun h => (by cases h)⟩
      rw [h6, uGo_ok (show uStep a line (cur out long false) false = .ok (out, false) by rw [uStep, if_pos hE]; rfl)]
    · have hp := len_pos hN
      refine ⟨by omega, hp, fun _ => by omega, fun _ => hp, fun hsp => ⟨by omega, by omega, ?_, fun ho => ?_, fun ho => ?_⟩, fun hsp => ⟨fun ho => ?_, fun ho => ?_⟩⟩
      · rw [List.length_drop]; omega
      · have ho : o = false := by simpa using ho
        subst ho
        exact .inl ⟨rfl, by rw [h6, uGo_err (show uStep a line (cur out long false) false = .error (11, a) by rw [uStep, if_neg hN, if_pos (show spTab line from hsp), if_neg (by simp)])]⟩
      · have ho : o = true := Classical.not_not.1 ho
        have hne := h4 ho
        subst ho
        have e1 : Int.toNat (1 : Int) = 1 := rfl
        rw [e1]
        refine .inr ⟨rfl, by omega, by rw [List.length_append, List.length_drop]; omega, fun h => (by cases h), fun _ => ⟨hne, ?_⟩⟩
        rw [h6]
        refine uGo_top ?_
        rw [uStep, if_neg hN, if_pos (show spTab line from hsp), if_pos rfl]
        show uTop a (lastAdd (lastSet out long) _) = _
        rw [lastAdd_lastSet hne]
      · have hne := h4 ho
        have hpo := len_pos hne
        subst ho
        rw [lastSet_eq hne]
        refine ⟨⟨by omega, by omega⟩, by omega, ⟨by omega, by omega⟩, ?_, ?_, .inr ⟨rfl, ?_, ?_, fun h => (by cases h), fun _ => ⟨by simp, ?_⟩⟩⟩
        · simp only [lastSet_len, List.length_cons, List.length_nil, Option.getD_some]; omega
        · simp only [List.length_nil]; omega
        · simp only [List.length_append, lastSet_len, List.length_cons, List.length_nil]; omega
        · simp only [List.nil_append]; omega
        · rw [h6, lastSet_snoc]
          refine uGo_top ?_
          rw [uStep, if_neg hN, if_neg (show ¬ spTab line from hsp)]; rfl
      · have ho : o = false := by simpa using ho
        subst ho
        refine ⟨?_, ?_, .inr ⟨rfl, ?_, ?_, fun h => (by cases h), fun _ => ⟨by simp, ?_⟩⟩⟩
        · simp only [List.length_cons, List.length_nil, Option.getD_some]; omega
        · simp only [List.length_nil]; omega
        · simp only [List.length_append, List.length_cons, List.length_nil]; omega
        · simp only [List.nil_append]; omega
        · rw [h6, lastSet_snoc]
          refine uGo_top ?_
          rw [uStep, if_neg hN, if_neg (show ¬ spTab line from hsp)]; rfl
    · rintro e o' l' p' (⟨rfl, hR⟩ | ⟨rfl, k1, k2, k3, k4⟩)
      · refine ⟨fun _ => by rw [hR]; exact ⟨rfl, rfl⟩, fun h => absurd rfl h⟩
      · refine ⟨fun h => absurd h (by decide), fun _ => ⟨by omega, fun h5' => ?_, fun h5' => ⟨fun h6' => ?_, fun h6' => ⟨⟨by omega, by omega⟩, ?_, htl⟩⟩⟩⟩
        · have hp : p' = true := by
            cases p' with
            | false => rw [(k3 rfl).1] at h5'; simp at h5'
            | true => rfl
          obtain ⟨hne, hR⟩ := k4 hp
          rw [hR, topGo, uTop_long (by rw [lastSet_text hne]; exact h5')]; exact ⟨rfl, rfl⟩
        · have hp : p' = true := by
            cases p' with
            | false => have := (k3 rfl).2.1; omega
            | true => rfl
          obtain ⟨hne, hR⟩ := k4 hp
          rw [hR, topGo, uTop_many (by rw [lastSet_text hne]; exact h5') (by rw [lastSet_len]; exact h6')]; exact ⟨rfl, rfl⟩
        · cases p' with
          | false =>
            obtain ⟨e1, _, hR⟩ := k3 rfl
            exact ⟨by omega, by omega, by omega, by omega, fun h => (by cases h), fun _ => e1, hR⟩
          | true =>
            obtain ⟨hne, hR⟩ := k4 rfl
            rw [topGo, uTop_ok (by rw [lastSet_text hne]; exact h5') (by rw [lastSet_len]; exact h6')] at hR
            exact ⟨by omega, by omega, by omega, by omega, fun _ => hne, fun h => (by cases h), hR⟩
  · have hx := Classical.not_not.1 hx
    subst hx
    rw [linesOf_nil] at h6
    refine ⟨fun ho => ?_, fun ho => ?_⟩
    · have hne := h4 ho
      have hpo := len_pos hne
      subst ho
      rw [lastSet_eq hne]
      refine ⟨⟨by omega, by omega⟩, by omega, ⟨by omega, by omega⟩, ?_⟩
      rw [h6]; exact ⟨rfl, rfl⟩
    · have ho : o = false := by simpa using ho
      subst ho
      rw [h6]; exact ⟨rfl, rfl⟩
def c22 (a : List (SV U)) (nx : Nat) : Option (CR U) := match a with | [.str s] => some ⟨[List.length (α := UInt8) s ≤ 100000], [], .tup [.acc nx, .err (uE (unfoldS s))], [.ac 40 ((uR (unfoldS s)).1)]⟩ | _ => none
set_option maxRecDepth 100000 in
theorem c22_ok (args : List (SV U)) (nx : Nat) (c : CR U) (h : c22 args nx = some c) (hp : args.all pureS = true) (ho : allP c.ob) : ConOK NI56.P NI56.N NI56.T NI56.G 22 args nx c := by
  unfold c22 at h
  split at h
  · rename_i s
    cases h
    exact con2 NI56_ok (inlN_ok NI56_ok an22 2) Tryd.func22 (k1 := .acc 40) (k2 := .err) (x1 := (uR (unfoldS s)).1) (x2 := uE (unfoldS s)) rfl hp (V22_ok (p22 s ho.1))
  · cases h
noncomputable def N22 : Env := NI56.addC 22 c22
theorem N22_ok : EnvOK N22 := NI56_ok.addC Tryd.call22 c22_ok
end Go.Proofs.YtadgfmmmdhlljaaDoor
end
section

end
section
namespace Go.Proofs.YtadgfmmmdhlljaaDoor
open Go Go.Wk Go.Wl Go.Rx Go.Fo Go.Proofs Go.RowKit
theorem Ext.iter (w : World) (s : ByteArray) (p : Nat) : Ext [] w (w.iter s p) := ⟨rfl, rfl, rfl, by show _ ≤ (w.heap.push _).size; rw [Array.size_push]; omega, fun b hb _ => by
  show (w.heap.push _)[b]? = _
  rw [Array.getElem?_push, if_neg (by omega)]⟩
theorem Ext.drawn (w : World) (k : Nat) : Ext [] w { w with drawn := k } := ⟨rfl, rfl, rfl, Nat.le_refl _, fun _ _ _ => rfl⟩
end Go.Proofs.YtadgfmmmdhlljaaDoor
end
section
namespace Go.Proofs.YtadgfmmmdhlljaaDoor
open Go Go.Wk Go.Wl Go.Rx Go.Fo Go.Proofs Go.RowKit
def At (w : World) (s : ByteArray) (i : Nat) (wx : World) : Prop := wx.heap[w.heap.size]? = some (.stringIter s i) ∧ Ext [] w wx
theorem At.start (w : World) (s : ByteArray) : At w s 0 (w.iter s 0) := ⟨World.iter_heap _ _ _, Ext.iter _ _ _⟩
theorem At.step {w : World} {s : ByteArray} {i : Nat} {wx : World} (h : At w s i wx) (j : Nat) : At w s j { wx with heap := wx.heap.setIfInBounds w.heap.size (.stringIter s j) } := by
  obtain ⟨h1, h2⟩ := h
  have hl : w.heap.size < wx.heap.size := by
    apply Classical.byContradiction
    intro hc
    rw [Array.getElem?_eq_none (by omega)] at h1
    cases h1
  refine ⟨?_, h2.os, h2.tape, h2.output, by simpa using h2.size, fun b hb hB => ?_⟩
  · simp [hl]
  · show (wx.heap.setIfInBounds _ _)[b]? = _
    rw [Array.getElem?_setIfInBounds_ne (by omega)]
    exact h2.block b hb hB
theorem At.ext {w : World} {s : ByteArray} {i : Nat} {wx wy : World} (h : At w s i wx) (e : Ext [] wx wy) : At w s i wy := by
  obtain ⟨h1, h2⟩ := h
  have hl : w.heap.size < wx.heap.size := by
    apply Classical.byContradiction
    intro hc
    rw [Array.getElem?_eq_none (by omega)] at h1
    cases h1
  exact ⟨by rw [e.block _ hl (by simp)]; exact h1, e.os.trans h2.os, e.tape.trans h2.tape, e.output.trans h2.output, by have := h2.size; have := e.size; omega, fun b hb hB => by rw [e.block b (by omega) hB]; exact h2.block b hb hB⟩
end Go.Proofs.YtadgfmmmdhlljaaDoor
end
section

end
section

end
section
namespace Go.Li
open Go Go.Wk Go.Wl
def letterB (c : UInt8) : Bool := (decide (65 ≤ c) && decide (c ≤ 90)) || (decide (97 ≤ c) && decide (c ≤ 122)) || (decide (48 ≤ c) && decide (c ≤ 57)) || c == 45
def standsB (c : UInt8) : Bool := c == 9 || (decide (32 ≤ c) && c != 127)
def upB (c : UInt8) : UInt8 := if 97 ≤ c ∧ c ≤ 122 then c - 32 else c
def upper (s : Str) : Str := s.map upB
def said : Str → Str
  | [] => []
  | [c] => [c]
  | c :: d :: r => if c = 94 ∧ d = 110 then 10 :: said r else if c = 94 ∧ d = 39 then 34 :: said r else if c = 94 ∧ d = 94 then 94 :: said r else c :: said (d :: r)
def escB (c : UInt8) : Str := if c = 94 then [94, 94] else if c = 34 then [94, 39] else if c = 10 then [94, 110] else [c]
def esc (v : Str) : Str := v.flatMap escB
def quoteB (c : UInt8) : Bool := c == 59 || c == 58 || c == 44
def told (v : Str) : Str := if v.any quoteB = true then 34 :: (esc v ++ [34]) else esc v
def pName (s : Str) : Option (Str × Str) := if s.takeWhile letterB = [] then none else some (upper (s.takeWhile letterB), s.dropWhile letterB)
def plainB (c : UInt8) : Bool := standsB c && !(c == 34 || c == 59 || c == 58 || c == 44)
def inB (c : UInt8) : Bool := standsB c && c != 34
def hdIs (c : UInt8) : Str → Option Str
  | d :: r => if d = c then some r else none
  | [] => none
theorem hdIs_len {c : UInt8} {s r : Str} (h : hdIs c s = some r) : r.length < s.length := by
  cases s with
  | nil => cases h
  | cons d t =>
    by_cases e : d = c
    · simp only [hdIs, if_pos e, Option.some.injEq] at h
      subst h; simp
    · simp only [hdIs, if_neg e] at h
      cases h
theorem hdIs_cons (c : UInt8) (r : Str) : hdIs c (c :: r) = some r := by simp [hdIs]
theorem hdIs_ne {c d : UInt8} (h : d ≠ c) (r : Str) : hdIs c (d :: r) = none := by simp [hdIs, h]
def pValue (s : Str) : Option (Str × Str) :=
  match hdIs 34 s with
  | some r => match hdIs 34 (r.dropWhile inB) with
    | some t => some (said (r.takeWhile inB), t)
    | none => none
  | none => some (said (s.takeWhile plainB), s.dropWhile plainB)
theorem drop_len (p : UInt8 → Bool) (s : Str) : (s.dropWhile p).length ≤ s.length := (List.dropWhile_sublist p).length_le
theorem pValue_len {s : Str} {v r : Str} (h : pValue s = some (v, r)) : r.length ≤ s.length := by
  unfold pValue at h
  split at h
  · rename_i t ht
    split at h
    · rename_i u hu
      cases h
      have := hdIs_len ht
      have := hdIs_len hu
      have := drop_len inB t
      omega
    · cases h
  · cases h; exact drop_len _ _
def pVals (s : Str) : Option (List Str × Str) :=
  match hv : pValue s with
  | none => none
  | some (v, r) => match hr : hdIs 44 r with
    | none => some ([v], r)
    | some t => match pVals t with
      | none => none
      | some (l, u) => some (v :: l, u)
termination_by s.length
decreasing_by have := pValue_len hv; have := hdIs_len hr; omega
theorem pVals_eq (s : Str) : pVals s = match pValue s with
    | none => none
    | some (v, r) => match hdIs 44 r with
      | none => some ([v], r)
      | some t => match pVals t with
        | none => none
        | some (l, u) => some (v :: l, u) := by
  rw [pVals]
  split <;> rename_i h1 <;> simp only [h1]
  split <;> rename_i h2 <;> simp only [h2]
theorem pVals_len : ∀ (n : Nat) (s : Str), s.length ≤ n → ∀ l r, pVals s = some (l, r) → r.length ≤ s.length
  | n, s, hn, l, r, h => by
    rw [pVals_eq] at h
    split at h
    · cases h
    · rename_i v t ht
      have h1 := pValue_len ht
      split at h
      · cases h; exact h1
      · rename_i u hu
        have h2 := hdIs_len hu
        split at h
        · cases h
        · rename_i l' r' h'
          cases h
          match n with
          | 0 => omega
          | n + 1 => have := pVals_len n u (by omega) _ _ h'; omega
def pParam (s : Str) : Option (Param × Str) :=
  match pName s with
  | none => none
  | some (n, r) => match hdIs 61 r with
    | none => none
    | some t => match pVals t with
      | none => none
      | some (l, u) => some (⟨n, l⟩, u)
theorem pName_len {s n r : Str} (h : pName s = some (n, r)) : r.length ≤ s.length := by
  unfold pName at h
  split at h
  · cases h
  · cases h; exact drop_len _ _
theorem pParam_len {s r : Str} {x : Param} (h : pParam s = some (x, r)) : r.length ≤ s.length := by
  unfold pParam at h
  split at h
  · cases h
  · rename_i n t ht
    split at h
    · cases h
    · rename_i u hu
      split at h
      · cases h
      · rename_i l' r' h'
        cases h
        have := pName_len ht
        have := hdIs_len hu
        have := pVals_len _ _ (Nat.le_refl _) _ _ h'
        omega
def pParams (s : Str) : Option (List Param × Str) :=
  match hs : hdIs 59 s with
  | none => some ([], s)
  | some t => match hp : pParam t with
    | none => none
    | some (x, r) => match pParams r with
      | none => none
      | some (l, u) => some (x :: l, u)
termination_by s.length
decreasing_by have := pParam_len hp; have := hdIs_len hs; omega
theorem pParams_eq (s : Str) : pParams s = match hdIs 59 s with
    | none => some ([], s)
    | some t => match pParam t with
      | none => none
      | some (x, r) => match pParams r with
        | none => none
        | some (l, u) => some (x :: l, u) := by
  rw [pParams]
  split <;> rename_i h1 <;> simp only [h1]
  split <;> rename_i h2 <;> simp only [h2]
def pHead (s : Str) : Option (Str × Str × Str) :=
  match pName s with
  | none => none
  | some (n, r) => match hdIs 46 r with
    | none => some ([], n, r)
    | some t => match pName t with
      | none => none
      | some (m, u) => some (n, m, u)
def pProp (s : Str) : Option Prp :=
  match pHead s with
  | none => none
  | some (g, n, r) => match pParams r with
    | none => none
    | some (l, t) => match hdIs 58 t with
      | none => none
      | some v => if v.all standsB = true then some ⟨g, n, l, v⟩ else none
def joinV : List Str → Str
  | [] => []
  | [v] => told v
  | v :: l => told v ++ 44 :: joinV l
def tellP (x : Param) : Str := 59 :: (x.Name ++ 61 :: joinV x.Values)
def tell (p : Prp) : Str := (if p.Group = [] then p.Name else p.Group ++ 46 :: p.Name) ++ p.Params.flatMap tellP ++ 58 :: p.Value
def isName (s : Str) : Prop := s ≠ [] ∧ s.all letterB = true ∧ upper s = s
def saysB (c : UInt8) : Bool := standsB c || c == 10
def rightX (x : Param) : Prop := isName x.Name ∧ x.Values ≠ [] ∧ ∀ v ∈ x.Values, v.all saysB = true
def right0 (p : Prp) : Prop := isName p.Name ∧ (p.Group ≠ [] → isName p.Group) ∧ p.Value.all standsB = true ∧ ∀ x ∈ p.Params, rightX x
theorem while_app {p : UInt8 → Bool} {a : Str} (h : a.all p = true) {c : UInt8} (hc : p c = false) (r : Str) : (a ++ c :: r).takeWhile p = a ∧ (a ++ c :: r).dropWhile p = c :: r := by
  have h' : ∀ x ∈ a, p x = true := fun x hx => List.all_eq_true.1 h x hx
  rw [List.takeWhile_append_of_pos h', List.dropWhile_append_of_pos h', List.takeWhile_cons_of_neg (by simp [hc]), List.dropWhile_cons_of_neg (by simp [hc])]
  simp
end Go.Li
end
section
namespace Go.Proofs.YtadgfmmmdhlljaaDoor
open Go Go.Wk Go.Wl Go.Rx Go.Fo Go.Li Go.Proofs Go.RowKit
def mixed (s : Str) (i j : Nat) : UInt8 := if j < i then upB (s.getD j 0) else s.getD j 0
structure UpAt (w : World) (s : Str) (i : Nat) (wx : World) : Prop where
  cell : ∀ j, j < s.length → wx.cell? ⟨w.heap.size, j, none⟩ = some (.int .u8 (mixed s i j).toNat)
  frz : ∀ j, j < s.length → wx.frozen? ⟨w.heap.size, j, none⟩ = false
  ext : Ext [] w wx
  lt : w.heap.size < wx.heap.size
theorem UpAt.start (w : World) (s : Str) (cap : Nat) : UpAt w s 0 (w.drew.alloc (.cells (bytesRow ⟨s.toArray⟩ cap) 5 ((bytesRow ⟨s.toArray⟩ cap).size, (bytesRow ⟨s.toArray⟩ cap).size + 1))) := by
  have hz : s.length ≤ (bytesRow ⟨s.toArray⟩ cap).size := by unfold bytesRow; rw [Array.size_append, Array.size_map]; show s.length ≤ s.toArray.size + _; simp
  refine ⟨fun j hj => ?_, fun j hj => ?_, ⟨rfl, rfl, rfl, ?_, fun b hb _ => ?_⟩, ?_⟩
  · have h1 := World.cell?_alloc_mark w.drew (bytesRow ⟨s.toArray⟩ cap) 5 ((bytesRow ⟨s.toArray⟩ cap).size, (bytesRow ⟨s.toArray⟩ cap).size + 1) j
    have h2 := bytesRow_at ⟨s.toArray⟩ cap j (by simpa using hj)
    refine h1.trans (h2.trans ?_)
    simp [mixed, List.getD_eq_getElem?_getD, hj]
  · have h1 := World.frozen?_alloc_mark w.drew (bytesRow ⟨s.toArray⟩ cap) 5 (bytesRow ⟨s.toArray⟩ cap).size ((bytesRow ⟨s.toArray⟩ cap).size + 1) j
    refine h1.trans ?_
    rw [decide_eq_false (by omega)]; rfl
  · show _ ≤ (w.heap.push _).size
    rw [Array.size_push]; omega
  · show (w.heap.push _)[b]? = _
    rw [Array.getElem?_push, if_neg (by omega)]
  · show _ < (w.heap.push _).size
    rw [Array.size_push]; omega
theorem UpAt.same {w : World} {s : Str} {i : Nat} {wx : World} (h : UpAt w s i wx) (hu : upB (s.getD i 0) = s.getD i 0) : UpAt w s (i + 1) wx := by
  refine ⟨fun j hj => ?_, h.frz, h.ext, h.lt⟩
  rw [h.cell j hj]
  have e : mixed s i j = mixed s (i + 1) j := by
    unfold mixed
    by_cases h1 : j < i
    · rw [if_pos h1, if_pos (by omega)]
    · rw [if_neg h1]
      by_cases h2 : j = i
      · subst h2; rw [if_pos (by omega), hu]
      · rw [if_neg (by omega)]
  rw [e]
theorem UpAt.step {w : World} {s : Str} {i : Nat} {wx : World} (h : UpAt w s i wx) (hi : i < s.length) : UpAt w s (i + 1) (wx.setCell ⟨w.heap.size, i, none⟩ (.int .u8 (upB (s.getD i 0)).toNat)) := by
  refine ⟨fun j hj => ?_, fun j hj => ?_, ⟨h.ext.os, h.ext.tape, h.ext.output, ?_, fun b hb hB => ?_⟩, ?_⟩
  · by_cases e : j = i
    · subst e
      rw [World.cell?_setCell_same (h := h.cell j hj)]
      simp [mixed]
    · rw [World.cell?_setCell_other (h := fun e' : (⟨w.heap.size, i, none⟩ : Addr) = ⟨w.heap.size, j, none⟩ => e (by injection e' with _ e'; exact e'.symm)), h.cell j hj]
      unfold mixed
      by_cases h1 : j < i
      · rw [if_pos h1, if_pos (by omega)]
      · rw [if_neg h1, if_neg (by omega)]
  · rw [World.frozen?_setCell]; exact h.frz j hj
  · rw [World.size_setCell]; exact h.ext.size
  · rw [heap_setCell_other _ _ _ _ (by show b ≠ w.heap.size; omega)]; exact h.ext.block b hb hB
  · rw [World.size_setCell]; exact h.lt
theorem UpAt.drew {w : World} {s : Str} {i : Nat} {wx : World} (h : UpAt w s i wx) : UpAt w s i wx.drew := ⟨h.cell, h.frz, ⟨h.ext.os, h.ext.tape, h.ext.output, h.ext.size, h.ext.block⟩, h.lt⟩
set_option maxRecDepth 1000000 in
set_option maxHeartbeats 8000000 in
theorem up_ok (s : Str) (w : World) (hs : s.length ≤ 9223372036854775807) :
    Calls Tryd.prog 67 #[.string ⟨s.toArray⟩] w fun e w' => e = .returned (.string ⟨(upper s).toArray⟩) ∧ Ext [] w w' := by
  have hcv := fun w => run_bytes_of_string (P := Tryd.prog) w 9 55 5 ⟨s.toArray⟩ Tryd.underlying9 Tryd.underlying55 Tryd.underlying5
  have hst : ∀ w, UpAt w s 0 _ := fun w => UpAt.start w s (grownCap w s.length 0 5)
  have hsz : (ByteArray.mk s.toArray).size = s.length := rfl
  rw [hsz] at hcv
  go_enter Tryd.func67, Tryd.ntmps67
  go_wp2
  go_loopg [4] s.length (fun gk s0 wx => ∃ i : Nat, i + gk = s.length ∧ s0 = .int .i64 i ∧ UpAt w s i wx)
  case atStart => exact ⟨0, by omega, rfl, hst _⟩
  case round =>
    obtain ⟨i, hig, rfl, hat⟩ := hrel
    cases gk with
    | zero =>
      obtain rfl : i = s.length := by omega
      have hnl : ¬ ((s.length : Int) < (s.length : Int)) := by omega
      have hbk : ∀ wx cap, UpAt w s s.length wx → (convert 55 9 (.slice (some ⟨w.heap.size, 0, none⟩) s.length cap)).run Tryd.prog wx = .ok (.string ⟨(upper s).toArray⟩) wx := fun wx cap h => by
        have hl : (upper s).length = s.length := by simp [upper]
        have := run_convert_bytes_back (P := Tryd.prog) wx 55 9 5 ⟨w.heap.size, 0, none⟩ cap (upper s) Tryd.underlying55 Tryd.underlying5 Tryd.underlying9 (fun j hj => by
          have hj' : j < s.length := by omega
          have e : (Addr.add ⟨w.heap.size, 0, none⟩ j : Addr) = ⟨w.heap.size, j, none⟩ := by simp [Addr.add]; omega
          rw [e, h.cell j hj']
          simp [mixed, hj', upper])
        rw [hl] at this
        exact this
      have hb0 := hbk wr
      have hb1 := hb0 (grownCap w s.length 0 5) hat
      go_wp2
      go_ret
      exact ⟨rfl, hat.ext⟩
    | succ g =>
      have hi : i < s.length := by omega
      have hil : (i : Int) < (s.length : Int) := by omega
      have hc := hat.cell i hi
      have hf := hat.frz i hi
      have hm : mixed s i i = s.getD i 0 := by unfold mixed; rw [if_neg (by omega)]
      rw [hm] at hc
      have hnx : UpAt w s (i + 1) (wr.setCell ⟨w.heap.size, i, none⟩ (.int .u8 (upB (s.getD i 0)).toNat)) := hat.step hi
      have hsm : upB (s.getD i 0) = s.getD i 0 → UpAt w s (i + 1) wr := hat.same
      generalize s.getD i 0 = x at hc hnx hsm
      by_cases h97 : 97 ≤ x
      · have z97 : (97 : Int) ≤ (x.toNat : Int) := by have : (97 : UInt8).toNat ≤ x.toNat := h97; exact_mod_cast this
        by_cases h122 : x ≤ 122
        · have z122 : (x.toNat : Int) ≤ 122 := by have : x.toNat ≤ (122 : UInt8).toNat := h122; exact_mod_cast this
          have eu : ((upB x).toNat : Int) = (x.toNat : Int) - 32 := by
            unfold upB
            rw [if_pos ⟨h97, h122⟩, UInt8.toNat_sub_of_le _ _ (by show (32 : UInt8).toNat ≤ x.toNat; have : (32 : UInt8).toNat = 32 := rfl; omega)]
            have : (32 : UInt8).toNat = 32 := rfl
            omega
          rw [eu] at hnx
          have hw : IntKind.u8.wrap ((x.toNat : Int) - 32) = (x.toNat : Int) - 32 := by
            have := x.toNat_lt
            have hb : IntKind.u8.bits = 8 := rfl
            simp only [IntKind.wrap, hb]
            simp; omega
          go_wp2
          go_roundg g
          case measure => omega
          case rel => exact ⟨i + 1, by omega, by simp, hnx⟩
        · have z122 : ¬ (x.toNat : Int) ≤ 122 := fun e => h122 (by show x.toNat ≤ (122 : UInt8).toNat; exact_mod_cast e)
          have hs2 := hsm (by unfold upB; rw [if_neg (fun e => h122 e.2)])
          go_wp2
          go_roundg g
          case measure => omega
          case rel => exact ⟨i + 1, by omega, by simp, hs2⟩
      · have z97 : ¬ (97 : Int) ≤ (x.toNat : Int) := fun e => h97 (by show (97 : UInt8).toNat ≤ x.toNat; exact_mod_cast e)
        have hs2 := hsm (by unfold upB; rw [if_neg (fun e => h97 e.1)])
        go_wp2
        go_roundg g
        case measure => omega
        case rel => exact ⟨i + 1, by omega, by simp, hs2⟩
end Go.Proofs.YtadgfmmmdhlljaaDoor
end
section
namespace Go.Proofs.YtadgfmmmdhlljaaDoor
open Go Go.Wk Go.Wl Go.Rx Go.Fo Go.Li Go.Proofs Go.RowKit
set_option maxRecDepth 1000000 in
set_option maxHeartbeats 8000000 in
theorem upl_ok (s : Str) (w : World) (hs : s.length ≤ 9223372036854775807) :
    Calls Tryd.prog 113 #[.string ⟨s.toArray⟩] w fun e w' => e = .returned (.string ⟨(upper s).toArray⟩) ∧ Ext [] w w' := by
  have hcv := fun w => run_bytes_of_string (P := Tryd.prog) w 9 55 5 ⟨s.toArray⟩ Tryd.underlying9 Tryd.underlying55 Tryd.underlying5
  have hst : ∀ w, UpAt w s 0 _ := fun w => UpAt.start w s (grownCap w s.length 0 5)
  have hsz : (ByteArray.mk s.toArray).size = s.length := rfl
  rw [hsz] at hcv
  go_enter Tryd.func113, Tryd.ntmps113
  go_wp2
  go_loopg [10] s.length (fun gk s0 wx => ∃ i : Nat, i + gk = s.length ∧ s0 = .int .i64 i ∧ UpAt w s i wx)
  case atStart => exact ⟨0, by omega, rfl, hst _⟩
  case round =>
    obtain ⟨i, hig, rfl, hat⟩ := hrel
    cases gk with
    | zero =>
      obtain rfl : i = s.length := by omega
      have hnl : ¬ ((s.length : Int) < (s.length : Int)) := by omega
      have hbk : ∀ wx cap, UpAt w s s.length wx → (convert 55 9 (.slice (some ⟨w.heap.size, 0, none⟩) s.length cap)).run Tryd.prog wx = .ok (.string ⟨(upper s).toArray⟩) wx := fun wx cap h => by
        have hl : (upper s).length = s.length := by simp [upper]
        have := run_convert_bytes_back (P := Tryd.prog) wx 55 9 5 ⟨w.heap.size, 0, none⟩ cap (upper s) Tryd.underlying55 Tryd.underlying5 Tryd.underlying9 (fun j hj => by
          have hj' : j < s.length := by omega
          have e : (Addr.add ⟨w.heap.size, 0, none⟩ j : Addr) = ⟨w.heap.size, j, none⟩ := by simp [Addr.add]; omega
          rw [e, h.cell j hj']
          simp [mixed, hj', upper])
        rw [hl] at this
        exact this
      have hb0 := hbk wr
      have hb1 := hb0 (grownCap w s.length 0 5) hat
      go_wp2
      go_ret
      exact ⟨rfl, hat.ext⟩
    | succ g =>
      have hi : i < s.length := by omega
      have hil : (i : Int) < (s.length : Int) := by omega
      have hc := hat.cell i hi
      have hf := hat.frz i hi
      have hm : mixed s i i = s.getD i 0 := by unfold mixed; rw [if_neg (by omega)]
      rw [hm] at hc
      have hnx : UpAt w s (i + 1) (wr.setCell ⟨w.heap.size, i, none⟩ (.int .u8 (upB (s.getD i 0)).toNat)) := hat.step hi
      have hsm : upB (s.getD i 0) = s.getD i 0 → UpAt w s (i + 1) wr := hat.same
      generalize s.getD i 0 = x at hc hnx hsm
      by_cases h97 : 97 ≤ x
      · have z97 : (97 : Int) ≤ (x.toNat : Int) := by have : (97 : UInt8).toNat ≤ x.toNat := h97; exact_mod_cast this
        by_cases h122 : x ≤ 122
        · have z122 : (x.toNat : Int) ≤ 122 := by have : x.toNat ≤ (122 : UInt8).toNat := h122; exact_mod_cast this
          have eu : ((upB x).toNat : Int) = (x.toNat : Int) - 32 := by
            unfold upB
            rw [if_pos ⟨h97, h122⟩, UInt8.toNat_sub_of_le _ _ (by show (32 : UInt8).toNat ≤ x.toNat; have : (32 : UInt8).toNat = 32 := rfl; omega)]
            have : (32 : UInt8).toNat = 32 := rfl
            omega
          rw [eu] at hnx
          have hw : IntKind.u8.wrap ((x.toNat : Int) - 32) = (x.toNat : Int) - 32 := by
            have := x.toNat_lt
            have hb : IntKind.u8.bits = 8 := rfl
            simp only [IntKind.wrap, hb]
            simp; omega
          go_wp2
          go_roundg g
          case measure => omega
          case rel => exact ⟨i + 1, by omega, by simp, hnx⟩
        · have z122 : ¬ (x.toNat : Int) ≤ 122 := fun e => h122 (by show x.toNat ≤ (122 : UInt8).toNat; exact_mod_cast e)
          have hs2 := hsm (by unfold upB; rw [if_neg (fun e => h122 e.2)])
          go_wp2
          go_roundg g
          case measure => omega
          case rel => exact ⟨i + 1, by omega, by simp, hs2⟩
      · have z97 : ¬ (97 : Int) ≤ (x.toNat : Int) := fun e => h97 (by show (97 : UInt8).toNat ≤ x.toNat; exact_mod_cast e)
        have hs2 := hsm (by unfold upB; rw [if_neg (fun e => h97 e.1)])
        go_wp2
        go_roundg g
        case measure => omega
        case rel => exact ⟨i + 1, by omega, by simp, hs2⟩
end Go.Proofs.YtadgfmmmdhlljaaDoor
end
section
namespace Go.Li
open Go Go.Wk Go.Wl
theorem all8 {P : UInt8 → Prop} (h : ∀ n : Fin 256, P (UInt8.ofNat n.val)) (c : UInt8) : P c := by
  have := h ⟨c.toNat, c.toNat_lt⟩
  simpa using this
theorem letter_up (c : UInt8) : letterB c = true → letterB (upB c) = true ∧ upB (upB c) = upB c :=
  all8 (P := fun c => letterB c = true → letterB (upB c) = true ∧ upB (upB c) = upB c) (by decide +kernel) c
theorem upper_right {a : Str} (h : a.all letterB = true) : (upper a).all letterB = true ∧ upper (upper a) = upper a := by
  induction a with
  | nil => exact ⟨rfl, rfl⟩
  | cons c a ih =>
    rw [List.all_cons, Bool.and_eq_true] at h
    obtain ⟨h1, h2⟩ := letter_up c h.1
    obtain ⟨h3, h4⟩ := ih h.2
    refine ⟨by show ((upB c) :: upper a).all letterB = true; rw [List.all_cons, h1, h3]; rfl, ?_⟩
    show upB (upB c) :: upper (upper a) = upB c :: upper a
    rw [h2, h4]
theorem take_all (p : UInt8 → Bool) (s : Str) : (s.takeWhile p).all p = true := by
  induction s with
  | nil => rfl
  | cons c s ih =>
    rw [List.takeWhile_cons]
    split
    · rename_i h; rw [List.all_cons, h, ih]; rfl
    · rfl
theorem pName_right {s n r : Str} (h : pName s = some (n, r)) : isName n := by
  unfold pName at h
  split at h
  · cases h
  · rename_i hn
    cases h
    obtain ⟨h1, h2⟩ := upper_right (take_all letterB s)
    refine ⟨fun e => hn ?_, h1, h2⟩
    exact List.map_eq_nil_iff.1 e
theorem said_all : ∀ (n : Nat) (s : Str), s.length ≤ n → s.all standsB = true → (said s).all saysB = true := by
  have st : ∀ c, standsB c = true → saysB c = true := fun c h => by unfold saysB; rw [h]; rfl
  intro n
  induction n with
  | zero => intro s h _; obtain rfl := List.eq_nil_of_length_eq_zero (Nat.le_zero.1 h); rfl
  | succ n ih =>
    intro s hs h
    match s, hs, h with
    | [], _, _ => rfl
    | [c], _, h => rw [List.all_cons, Bool.and_eq_true] at h; show List.all [c] saysB = true; rw [List.all_cons, st c h.1]; rfl
    | c :: d :: r, hs, h =>
      rw [List.all_cons, List.all_cons, Bool.and_eq_true, Bool.and_eq_true] at h
      obtain ⟨h1, h2, h3⟩ := h
      simp only [List.length_cons] at hs
      have i1 := ih r (by omega) h3
      have i2 := ih (d :: r) (by simp only [List.length_cons]; omega) (by rw [List.all_cons, h2, h3]; rfl)
      rw [said]
      split
      · rw [List.all_cons, i1]; rfl
      · split
        · rw [List.all_cons, i1]; rfl
        · split
          · rw [List.all_cons, i1]; rfl
          · rw [List.all_cons, i2, st c h1]; rfl
theorem all_imp {p q : UInt8 → Bool} (hpq : ∀ c, p c = true → q c = true) {s : Str} (h : s.all p = true) : s.all q = true := List.all_eq_true.2 fun c hc => hpq c (List.all_eq_true.1 h c hc)
theorem pValue_right {s v r : Str} (h : pValue s = some (v, r)) : v.all saysB = true := by
  unfold pValue at h
  split at h
  · rename_i t ht
    split at h
    · cases h
      exact said_all _ _ (Nat.le_refl _) (all_imp (fun c hc => by unfold inB at hc; rw [Bool.and_eq_true] at hc; exact hc.1) (take_all inB t))
    · cases h
  · cases h
    exact said_all _ _ (Nat.le_refl _) (all_imp (fun c hc => by unfold plainB at hc; rw [Bool.and_eq_true] at hc; exact hc.1) (take_all plainB s))
theorem pVals_right : ∀ (n : Nat) (s : Str), s.length ≤ n → ∀ l r, pVals s = some (l, r) → l ≠ [] ∧ ∀ v ∈ l, v.all saysB = true := by
  intro n
  induction n with
  | zero =>
    intro s hs l r h
    rw [pVals_eq] at h
    split at h
    · cases h
    · rename_i v t ht
      have h1 := pValue_len ht
      have h0 := pValue_right ht
      split at h
      · cases h; exact ⟨by simp, fun x hx => by rw [List.mem_singleton.1 hx]; exact h0⟩
      · rename_i u hu
        have := hdIs_len hu
        omega
  | succ n ih =>
    intro s hs l r h
    rw [pVals_eq] at h
    split at h
    · cases h
    · rename_i v t ht
      have h1 := pValue_len ht
      have h0 := pValue_right ht
      split at h
      · cases h; exact ⟨by simp, fun x hx => by rw [List.mem_singleton.1 hx]; exact h0⟩
      · rename_i u hu
        have := hdIs_len hu
        split at h
        · cases h
        · rename_i l' r' h'
          cases h
          obtain ⟨_, i2⟩ := ih u (by omega) _ _ h'
          refine ⟨by simp, fun x hx => ?_⟩
          rcases List.mem_cons.1 hx with rfl | hx
          · exact h0
          · exact i2 x hx
theorem pParam_right {s r : Str} {x : Param} (h : pParam s = some (x, r)) : rightX x := by
  unfold pParam at h
  split at h
  · cases h
  · rename_i n t ht
    split at h
    · cases h
    · rename_i u hu
      split at h
      · cases h
      · rename_i l' r' h'
        cases h
        obtain ⟨h1, h2⟩ := pVals_right _ _ (Nat.le_refl _) _ _ h'
        exact ⟨pName_right ht, h1, h2⟩
theorem pParams_right : ∀ (n : Nat) (s : Str), s.length ≤ n → ∀ l r, pParams s = some (l, r) → ∀ x ∈ l, rightX x := by
  intro n
  induction n with
  | zero =>
    intro s hs l r h
    rw [pParams_eq] at h
    split at h
    · cases h; intro x hx; cases hx
    · rename_i t ht
      have := hdIs_len ht
      omega
  | succ n ih =>
    intro s hs l r h
    rw [pParams_eq] at h
    split at h
    · cases h; intro x hx; cases hx
    · rename_i t ht
      have h1 := hdIs_len ht
      split at h
      · cases h
      · rename_i x t' hp
        have h2 := pParam_len hp
        split at h
        · cases h
        · rename_i l' r' h'
          cases h
          intro y hy
          rcases List.mem_cons.1 hy with rfl | hy
          · exact pParam_right hp
          · exact ih _ (by omega) _ _ h' y hy
theorem read_right {s : Str} {p : Prp} (h : pProp s = some p) : right0 p := by
  unfold pProp at h
  split at h
  · cases h
  · rename_i g n r hh
    split at h
    · cases h
    · rename_i l t hl
      split at h
      · cases h
      · rename_i v hv
        split at h
        · rename_i hs
          cases h
          have hp := pParams_right _ _ (Nat.le_refl _) _ _ hl
          unfold pHead at hh
          split at hh
          · cases hh
          · rename_i m u hm
            split at hh
            · cases hh
              exact ⟨pName_right hm, fun e => absurd rfl e, hs, hp⟩
            · split at hh
              · cases hh
              · rename_i m2 u2 hm2
                cases hh
                exact ⟨pName_right hm2, fun _ => pName_right hm, hs, hp⟩
        · cases h
end Go.Li
end
section
namespace Go.Fo
open Go Go.Wk Go.Wl
theorem take_next {α : Type} [Inhabited α] {L : List α} {k : Int} (h0 : 0 ≤ k) (h1 : k < L.length) : L.take (k + 1).toNat = L.take k.toNat ++ [ix L k] := by
  rw [show (k + 1).toNat = k.toNat + 1 by omega, List.take_succ_eq_append_getElem (by omega), ix_get (by omega)]
theorem mem_of_ix {α : Type} [Inhabited α] {l : List α} {i : Int} (h0 : 0 ≤ i) (h1 : i < l.length) : ix l i ∈ l := by
  rw [ix_get (by omega)]; exact List.getElem_mem _
end Go.Fo
end
section

end
section

end
section
namespace Go.Proofs.YtadgfmmmdhlljaaDoor
open Go Go.Wk Go.Wl Go.Rx Go.Fo Go.Li Go.Co Go.Proofs Go.RowKit
def G0 : Glob where
  is := fun _ _ => True
  stab := fun _ _ _ _ => trivial
noncomputable def EV0 : Env := { E0 with G := G0 }
theorem EV0_ok : EnvOK EV0 := by
  refine ⟨E0_ok.mixed, E0_ok.zob, E0_ok.call, E0_ok.inl, fun K f args nx c h => ?_, fun K f args nx c h => ?_, fun K o x args r h => ?_, fun K o a x r h => ?_⟩
  · cases h
  · cases h
  · cases h
  · cases h
theorem LendU.okV {K : Nat} {args : List (SV U)} {q : Q1 U} (h : LendU K args q) : LendOK EV0 K args ⟨q.ob, q.hy, q.v, []⟩ := fun D w vs _ _ ha => h D w vs ha
def cUp (a : List (SV U)) : Option (Q1 U) := match a with | [.str s] => some ⟨[], [], .str (upper s)⟩ | _ => none
theorem cUp_of {K : Nat} (hK : ∀ (s : Str) (w : World), s.length ≤ 9223372036854775807 → Calls Tryd.prog K #[.string ⟨s.toArray⟩] w fun e w' => e = .returned (.string ⟨(upper s).toArray⟩) ∧ Ext [] w w') (args : List (SV U)) (q : Q1 U) (h : cUp args = some q) : LendU K args q := by
  unfold cUp at h
  split at h
  · rename_i s
    cases h
    intro D w vs ha
    obtain ⟨v1, r1, rfl, h1, ha⟩ := Rep.tup_cons ha
    obtain rfl := tup0_inv ha
    cases h1 with | str hl =>
    intro w1 hs
    refine Calls.mono (hK s w1 hl) fun e w2 ⟨h1, h2⟩ => ?_
    exact ⟨_, w2, h1, Sim.refl _, sim_ext hs h2, .str (by unfold upper; rw [List.length_map]; exact hl), trivial⟩
  · cases h
noncomputable def EV1 : Env := ((EV0.addL 67 cUp).addL 113 cUp).addL 50 cIs
theorem EV1_ok : EnvOK EV1 := ((EV0_ok.addL Tryd.call67 (fun a q h _ => (cUp_of up_ok a q h).okV)).addL Tryd.call113 (fun a q h _ => (cUp_of upl_ok a q h).okV)).addL Tryd.call50 (fun a q h _ => (cIsU a q h).okV)
end Go.Proofs.YtadgfmmmdhlljaaDoor
end
section
namespace Go.Proofs.YtadgfmmmdhlljaaDoor
open Go Go.Wk Go.Wl Go.Rx Go.Fo Go.Li Go.Co 
noncomputable def EV : Env := EV1
theorem EV_ok : EnvOK EV := EV1_ok
end Go.Proofs.YtadgfmmmdhlljaaDoor
end
section
namespace Go.Proofs.YtadgfmmmdhlljaaDoor
open Go Go.Wk Go.Wl Go.Rx Go.Fo Go.Li Go.Co 
def an108 : Nat → Ann := fun | 108 => ⟨29, fun _ => none, fun  | _ => none⟩ | _ => ⟨0, fun _ => none, fun _ => none⟩
def V108 (c : UInt8) (Q : Bool → Prop) : Prop :=
Q (decide ((((65 : UInt8) ≤ c ∧ c ≤ (90 : UInt8) ∨ (97 : UInt8) ≤ c ∧ c ≤ (122 : UInt8)) ∨ (48 : UInt8) ≤ c ∧ c ≤ (57 : UInt8)) ∨ c = (45 : UInt8)))
set_option maxRecDepth 100000 in
theorem V108_ok {c : UInt8} {Q : Bool → Prop} (h : V108 c Q) : vcFun (E := EV) (inlN an108 2) (an108 108) Tryd.f108 [.byte c] [] [] 0 (resP EV [.bool] Q) := Eq.mp (show V108 c Q = vcFun (E := EV) (inlN an108 2) (an108 108) Tryd.f108 [.byte c] [] [] 0 (resP EV [.bool] Q) by kernel_rfl) h
theorem beq_dec (a b : UInt8) : (a == b) = decide (a = b) := by
  by_cases h : a = b
  · subst h; simp
  · simp [h]
theorem p108 (c : UInt8)  : V108 c (fun y0 => y0 = letterB c) := by
  unfold V108 letterB
  rw [beq_dec]
  simp only [Bool.decide_or, Bool.decide_and]
def c108 (a : List (SV U)) : Option (Q1 U) := match a with | [.byte c] => some ⟨[], [], blB (letterB c)⟩ | _ => none
set_option maxRecDepth 100000 in
theorem c108_ok (args : List (SV U)) (q : Q1 U) (h : c108 args = some q) (ho : allP q.ob) : LendOK EV 108 args ⟨q.ob, q.hy, q.v, []⟩ := by
  unfold c108 at h
  split at h
  · rename_i c
    cases h
    exact lend1 EV_ok (inlN_ok EV_ok an108 2) Tryd.func108 (k := .bool) (x := letterB c) trivial (V108_ok (p108 c )) 0
  · cases h
noncomputable def N108 : Env := EV.addL 108 c108
theorem N108_ok : EnvOK N108 := EV_ok.addL Tryd.call108 c108_ok
end Go.Proofs.YtadgfmmmdhlljaaDoor
end
section
namespace Go.Proofs.YtadgfmmmdhlljaaDoor
open Go Go.Wk Go.Wl Go.Rx Go.Fo Go.Li Go.Co 
def an36 : Nat → Ann := fun | 36 => ⟨13, fun _ => none, fun  | _ => none⟩ | _ => ⟨0, fun _ => none, fun _ => none⟩
def V36 (c : UInt8) (Q : Bool → Prop) : Prop :=
Q (decide (c = (9 : UInt8) ∨ (32 : UInt8) ≤ c ∧ c ≠ (127 : UInt8)))
set_option maxRecDepth 100000 in
theorem V36_ok {c : UInt8} {Q : Bool → Prop} (h : V36 c Q) : vcFun (E := N108) (inlN an36 2) (an36 36) Tryd.f36 [.byte c] [] [] 0 (resP N108 [.bool] Q) := Eq.mp (show V36 c Q = vcFun (E := N108) (inlN an36 2) (an36 36) Tryd.f36 [.byte c] [] [] 0 (resP N108 [.bool] Q) by kernel_rfl) h
theorem p36 (c : UInt8)  : V36 c (fun y0 => y0 = standsB c) := by
  unfold V36 standsB
  rw [bne, beq_dec, beq_dec]
  simp only [Bool.decide_or, Bool.decide_and, ne_eq, decide_not]
def c36 (a : List (SV U)) : Option (Q1 U) := match a with | [.byte c] => some ⟨[], [], blB (standsB c)⟩ | _ => none
set_option maxRecDepth 100000 in
theorem c36_ok (args : List (SV U)) (q : Q1 U) (h : c36 args = some q) (ho : allP q.ob) : LendOK N108 36 args ⟨q.ob, q.hy, q.v, []⟩ := by
  unfold c36 at h
  split at h
  · rename_i c
    cases h
    exact lend1 N108_ok (inlN_ok N108_ok an36 2) Tryd.func36 (k := .bool) (x := standsB c) trivial (V36_ok (p36 c )) 0
  · cases h
noncomputable def N36 : Env := N108.addL 36 c36
theorem N36_ok : EnvOK N36 := N108_ok.addL Tryd.call36 c36_ok
end Go.Proofs.YtadgfmmmdhlljaaDoor
end
section
namespace Go.Proofs.YtadgfmmmdhlljaaDoor
open Go Go.Wk Go.Wl Go.Rx Go.Fo Go.Li Go.Co 
def an109 : Nat → Ann := fun | 109 => ⟨85, fun | 3 => some ⟨[0], [.slot 3 .str, .slot 4 (.int .i64)]⟩ | _ => none, fun  | _ => none⟩ | _ => ⟨0, fun _ => none, fun _ => none⟩
def V109 (s : Str) (Q : Str → Prop) : Prop :=
∃ (I : List UInt8 → Int → Prop),
  ∃ (m : List UInt8 → Int → Nat),
    I [] (0 : Int) ∧
      ∀ (x : List UInt8) (x_1 : Int),
        I x x_1 →
          (x_1 < (↑(List.length s) : Int) →
              (0 : Int) ≤ x_1 ∧
                x_1 < (↑(List.length s) : Int) ∧
                  (ix s x_1 = (94 : UInt8) → in64 (x_1 + (1 : Int))) ∧
                    (ix s x_1 = (94 : UInt8) ∧ x_1 + (1 : Int) < (↑(List.length s) : Int) → in64 (x_1 + (1 : Int))) ∧
                      (ix s x_1 = (94 : UInt8) ∧ x_1 + (1 : Int) < (↑(List.length s) : Int) → (0 : Int) ≤ x_1 + (1 : Int)) ∧
                        (ix s x_1 = (94 : UInt8) ∧ x_1 + (1 : Int) < (↑(List.length s) : Int) → x_1 + (1 : Int) < (↑(List.length s) : Int)) ∧
                          ((ix s x_1 = (94 : UInt8) ∧ x_1 + (1 : Int) < (↑(List.length s) : Int)) ∧ ix s (x_1 + (1 : Int)) = (110 : UInt8) →
                              x.length + [(10 : UInt8)].length ≤ (9223372036854775807 : Nat) ∧
                                in64 (x_1 + (1 : Int)) ∧
                                  in64 (x_1 + (1 : Int) + (1 : Int)) ∧ I (x ++ [(10 : UInt8)]) (x_1 + (1 : Int) + (1 : Int)) ∧ m (x ++ [(10 : UInt8)]) (x_1 + (1 : Int) + (1 : Int)) < m x x_1) ∧
                            (¬((ix s x_1 = (94 : UInt8) ∧ x_1 + (1 : Int) < (↑(List.length s) : Int)) ∧ ix s (x_1 + (1 : Int)) = (110 : UInt8)) →
                              (0 : Int) ≤ x_1 ∧
                                x_1 < (↑(List.length s) : Int) ∧
                                  (ix s x_1 = (94 : UInt8) → in64 (x_1 + (1 : Int))) ∧
                                    (ix s x_1 = (94 : UInt8) ∧ x_1 + (1 : Int) < (↑(List.length s) : Int) → in64 (x_1 + (1 : Int))) ∧
                                      (ix s x_1 = (94 : UInt8) ∧ x_1 + (1 : Int) < (↑(List.length s) : Int) → (0 : Int) ≤ x_1 + (1 : Int)) ∧
                                        (ix s x_1 = (94 : UInt8) ∧ x_1 + (1 : Int) < (↑(List.length s) : Int) → x_1 + (1 : Int) < (↑(List.length s) : Int)) ∧
                                          ((ix s x_1 = (94 : UInt8) ∧ x_1 + (1 : Int) < (↑(List.length s) : Int)) ∧ ix s (x_1 + (1 : Int)) = (39 : UInt8) →
                                              x.length + [(34 : UInt8)].length ≤ (9223372036854775807 : Nat) ∧
                                                in64 (x_1 + (1 : Int)) ∧
                                                  in64 (x_1 + (1 : Int) + (1 : Int)) ∧
                                                    I (x ++ [(34 : UInt8)]) (x_1 + (1 : Int) + (1 : Int)) ∧ m (x ++ [(34 : UInt8)]) (x_1 + (1 : Int) + (1 : Int)) < m x x_1) ∧
                                            (¬((ix s x_1 = (94 : UInt8) ∧ x_1 + (1 : Int) < (↑(List.length s) : Int)) ∧ ix s (x_1 + (1 : Int)) = (39 : UInt8)) →
                                              (0 : Int) ≤ x_1 ∧
                                                x_1 < (↑(List.length s) : Int) ∧
                                                  (ix s x_1 = (94 : UInt8) → in64 (x_1 + (1 : Int))) ∧
                                                    (ix s x_1 = (94 : UInt8) ∧ x_1 + (1 : Int) < (↑(List.length s) : Int) → in64 (x_1 + (1 : Int))) ∧
                                                      (ix s x_1 = (94 : UInt8) ∧ x_1 + (1 : Int) < (↑(List.length s) : Int) → (0 : Int) ≤ x_1 + (1 : Int)) ∧
                                                        (ix s x_1 = (94 : UInt8) ∧ x_1 + (1 : Int) < (↑(List.length s) : Int) → x_1 + (1 : Int) < (↑(List.length s) : Int)) ∧
                                                          ((ix s x_1 = (94 : UInt8) ∧ x_1 + (1 : Int) < (↑(List.length s) : Int)) ∧ ix s (x_1 + (1 : Int)) = (94 : UInt8) →
                                                              x.length + [(94 : UInt8)].length ≤ (9223372036854775807 : Nat) ∧
                                                                in64 (x_1 + (1 : Int)) ∧
                                                                  in64 (x_1 + (1 : Int) + (1 : Int)) ∧
                                                                    I (x ++ [(94 : UInt8)]) (x_1 + (1 : Int) + (1 : Int)) ∧ m (x ++ [(94 : UInt8)]) (x_1 + (1 : Int) + (1 : Int)) < m x x_1) ∧
                                                            (¬((ix s x_1 = (94 : UInt8) ∧ x_1 + (1 : Int) < (↑(List.length s) : Int)) ∧ ix s (x_1 + (1 : Int)) = (94 : UInt8)) →
                                                              in64 (x_1 + (1 : Int)) ∧
                                                                (0 : Int) ≤ x_1 ∧
                                                                  x_1 ≤ x_1 + (1 : Int) ∧
                                                                    x_1 + (1 : Int) ≤ (↑(List.length s) : Int) ∧
                                                                      x.length + (List.drop x_1.toNat (List.take (x_1 + (1 : Int)).toNat s)).length ≤ (9223372036854775807 : Nat) ∧
                                                                        in64 (x_1 + (1 : Int)) ∧
                                                                          I (x ++ List.drop x_1.toNat (List.take (x_1 + (1 : Int)).toNat s)) (x_1 + (1 : Int)) ∧
                                                                            m (x ++ List.drop x_1.toNat (List.take (x_1 + (1 : Int)).toNat s)) (x_1 + (1 : Int)) < m x x_1)))) ∧
            (¬x_1 < (↑(List.length s) : Int) → Q x)
set_option maxRecDepth 100000 in
theorem V109_ok {s : Str} {Q : Str → Prop} (h : V109 s Q) : vcFun (E := N36) (inlN an109 2) (an109 109) Tryd.f109 [.str s] [] [] 0 (resP N36 [.str] Q) := Eq.mp (show V109 s Q = vcFun (E := N36) (inlN an109 2) (an109 109) Tryd.f109 [.str s] [] [] 0 (resP N36 [.str] Q) by kernel_rfl) h
theorem said_hit {c d e : UInt8} {r : Str} (h : c = 94 ∧ d = 110 ∧ e = 10 ∨ c = 94 ∧ d = 39 ∧ e = 34 ∨ c = 94 ∧ d = 94 ∧ e = 94) : said (c :: d :: r) = e :: said r := by
  rw [said]
  rcases h with ⟨rfl, rfl, rfl⟩ | ⟨rfl, rfl, rfl⟩ | ⟨rfl, rfl, rfl⟩
  · rw [if_pos (by decide)]
  · rw [if_neg (by decide), if_pos (by decide)]
  · rw [if_neg (by decide), if_neg (by decide), if_pos (by decide)]
theorem said_one {c : UInt8} {r : Str} (h : ¬ (c = 94 ∧ r ≠ [] ∧ (ix r 0 = 110 ∨ ix r 0 = 39 ∨ ix r 0 = 94))) : said (c :: r) = c :: said r := by
  cases r with
  | nil => rfl
  | cons d r =>
    have e : ix (d :: r) 0 = d := rfl
    rw [e] at h
    rw [said, if_neg (fun x => h ⟨x.1, by simp, .inl x.2⟩), if_neg (fun x => h ⟨x.1, by simp, .inr (.inl x.2)⟩), if_neg (fun x => h ⟨x.1, by simp, .inr (.inr x.2)⟩)]
theorem said_drop2 {s : Str} {i : Int} {e : UInt8} (h0 : 0 ≤ i) (h1 : i + 1 < s.length) (h : ix s i = 94 ∧ ix s (i + 1) = 110 ∧ e = 10 ∨ ix s i = 94 ∧ ix s (i + 1) = 39 ∧ e = 34 ∨ ix s i = 94 ∧ ix s (i + 1) = 94 ∧ e = 94) : said (s.drop i.toNat) = e :: said (s.drop (i + 1 + 1).toNat) := by
  rw [ix_drop h0 (by omega), ix_drop (i := i + 1) (by omega) h1, said_hit h]
theorem said_drop1 {s : Str} {i : Int} (h0 : 0 ≤ i) (h1 : i < s.length) (h : ¬ (ix s i = 94 ∧ i + 1 < s.length ∧ (ix s (i + 1) = 110 ∨ ix s (i + 1) = 39 ∨ ix s (i + 1) = 94))) : said (s.drop i.toNat) = ix s i :: said (s.drop (i + 1).toNat) := by
  rw [ix_drop h0 h1, said_one]
  intro ⟨e1, e2, e3⟩
  have hl : i + 1 < s.length := by
    have := List.length_pos_iff.2 e2
    rw [List.length_drop] at this; omega
  rw [ix_drop (i := i + 1) (by omega) hl] at e3
  exact h ⟨e1, hl, e3⟩
theorem said_len : ∀ (n : Nat) (s : Str), s.length ≤ n → (said s).length ≤ s.length := by
  intro n
  induction n with
  | zero => intro s h; obtain rfl := List.eq_nil_of_length_eq_zero (Nat.le_zero.1 h); exact Nat.le_refl _
  | succ n ih =>
    intro s hs
    match s, hs with
    | [], _ => exact Nat.le_refl _
    | [c], _ => exact Nat.le_refl _
    | c :: d :: r, hs =>
      simp only [List.length_cons] at hs
      have i1 := ih r (by omega)
      have i2 := ih (d :: r) (by simp only [List.length_cons]; omega)
      simp only [List.length_cons] at i2
      rw [said]
      split
      · simp only [List.length_cons]; omega
      · split
        · simp only [List.length_cons]; omega
        · split <;> (simp only [List.length_cons]; omega)
theorem one_at {s : Str} {i : Int} (h0 : 0 ≤ i) (h1 : i < s.length) : List.drop i.toNat (List.take (i + 1).toNat s) = [ix s i] := by
  rw [List.drop_take, show (i + 1).toNat - i.toNat = 1 by omega, ix_drop h0 h1]; rfl
theorem p109 (s : Str) (hs : s.length ≤ 100000000) : V109 s (fun y0 => y0 = said s) := by
  unfold V109
  have hl := said_len s.length s (Nat.le_refl _)
  refine ⟨fun x i => 0 ≤ i ∧ i ≤ s.length ∧ x ++ said (s.drop i.toNat) = said s, fun _ i => ((s.length : Int) - i).toNat, ⟨by omega, by omega, rfl⟩, ?_⟩
  rintro x i ⟨i0, i1, hx⟩
  have lx := congrArg List.length hx
  rw [List.length_append] at lx
  have hit : ∀ e, i + 1 < s.length → (ix s i = 94 ∧ ix s (i + 1) = 110 ∧ e = 10 ∨ ix s i = 94 ∧ ix s (i + 1) = 39 ∧ e = 34 ∨ ix s i = 94 ∧ ix s (i + 1) = 94 ∧ e = 94) → (x ++ [e]) ++ said (s.drop (i + 1 + 1).toNat) = said s := fun e h1 h => by
    rw [← hx, said_drop2 i0 h1 h]; simp
  refine ⟨fun hi => ?_, fun hi => ?_⟩
  · have f1 : ∀ {p : Prop}, p → in64 (i + 1) := fun _ => ⟨by omega, by omega⟩
    refine ⟨i0, hi, fun _ => ⟨by omega, by omega⟩, fun _ => ⟨by omega, by omega⟩, fun _ => by omega, fun h => h.2, fun h => ?_, fun h => ⟨i0, hi, fun _ => ⟨by omega, by omega⟩, fun _ => ⟨by omega, by omega⟩, fun _ => by omega, fun h => h.2, fun h2 => ?_, fun h2 => ⟨i0, hi, fun _ => ⟨by omega, by omega⟩, fun _ => ⟨by omega, by omega⟩, fun _ => by omega, fun h => h.2, fun h3 => ?_, fun h3 => ?_⟩⟩⟩
    · obtain ⟨⟨a, b⟩, c⟩ := h
      exact ⟨by simp only [List.length_cons, List.length_nil]; omega, ⟨by omega, by omega⟩, ⟨by omega, by omega⟩, ⟨by omega, by omega, hit 10 b (.inl ⟨a, c, rfl⟩)⟩, by dsimp only; omega⟩
    · obtain ⟨⟨a, b⟩, c⟩ := h2
      exact ⟨by simp only [List.length_cons, List.length_nil]; omega, ⟨by omega, by omega⟩, ⟨by omega, by omega⟩, ⟨by omega, by omega, hit 34 b (.inr (.inl ⟨a, c, rfl⟩))⟩, by dsimp only; omega⟩
    · obtain ⟨⟨a, b⟩, c⟩ := h3
      exact ⟨by simp only [List.length_cons, List.length_nil]; omega, ⟨by omega, by omega⟩, ⟨by omega, by omega⟩, ⟨by omega, by omega, hit 94 b (.inr (.inr ⟨a, c, rfl⟩))⟩, by dsimp only; omega⟩
    · rw [one_at i0 hi]
      have e := said_drop1 i0 hi (fun ⟨a, b, c⟩ => by
        rcases c with c | c | c
        · exact h ⟨⟨a, b⟩, c⟩
        · exact h2 ⟨⟨a, b⟩, c⟩
        · exact h3 ⟨⟨a, b⟩, c⟩)
      exact ⟨⟨by omega, by omega⟩, i0, by omega, by omega, by simp only [List.length_cons, List.length_nil]; omega, ⟨by omega, by omega⟩, ⟨by omega, by omega, by rw [← hx, e]; simp⟩, by dsimp only; omega⟩
  · rw [drop_all (by omega)] at hx
    have : said [] = [] := rfl
    rw [this, List.append_nil] at hx
    exact hx
def c109 (a : List (SV U)) : Option (Q1 U) := match a with | [.str s] => some ⟨[List.length (α := UInt8) s ≤ 100000000], [], .str (said s)⟩ | _ => none
set_option maxRecDepth 100000 in
theorem c109_ok (args : List (SV U)) (q : Q1 U) (h : c109 args = some q) (ho : allP q.ob) : LendOK N36 109 args ⟨q.ob, q.hy, q.v, []⟩ := by
  unfold c109 at h
  split at h
  · rename_i s
    cases h
    exact lend1 N36_ok (inlN_ok N36_ok an109 2) Tryd.func109 (k := .str) (x := said s) trivial (V109_ok (p109 s ho.1)) 0
  · cases h
noncomputable def N109 : Env := N36.addL 109 c109
theorem N109_ok : EnvOK N109 := N36_ok.addL Tryd.call109 c109_ok
end Go.Proofs.YtadgfmmmdhlljaaDoor
end
section
namespace Go.Proofs.YtadgfmmmdhlljaaDoor
open Go Go.Wk Go.Wl Go.Rx Go.Fo Go.Li Go.Co 
def an112 : Nat → Ann := fun | 112 => ⟨29, fun _ => none, fun  | _ => none⟩ | _ => ⟨0, fun _ => none, fun _ => none⟩
def V112 (c : UInt8) (Q : Bool → Prop) : Prop :=
Q (decide ((((65 : UInt8) ≤ c ∧ c ≤ (90 : UInt8) ∨ (97 : UInt8) ≤ c ∧ c ≤ (122 : UInt8)) ∨ (48 : UInt8) ≤ c ∧ c ≤ (57 : UInt8)) ∨ c = (45 : UInt8)))
set_option maxRecDepth 100000 in
theorem V112_ok {c : UInt8} {Q : Bool → Prop} (h : V112 c Q) : vcFun (E := N109) (inlN an112 2) (an112 112) Tryd.f112 [.byte c] [] [] 0 (resP N109 [.bool] Q) := Eq.mp (show V112 c Q = vcFun (E := N109) (inlN an112 2) (an112 112) Tryd.f112 [.byte c] [] [] 0 (resP N109 [.bool] Q) by kernel_rfl) h
theorem p112 (c : UInt8)  : V112 c (fun y0 => y0 = letterB c) := by
  unfold V112 letterB
  rw [beq_dec]
  simp only [Bool.decide_or, Bool.decide_and]
def c112 (a : List (SV U)) : Option (Q1 U) := match a with | [.byte c] => some ⟨[], [], blB (letterB c)⟩ | _ => none
set_option maxRecDepth 100000 in
theorem c112_ok (args : List (SV U)) (q : Q1 U) (h : c112 args = some q) (ho : allP q.ob) : LendOK N109 112 args ⟨q.ob, q.hy, q.v, []⟩ := by
  unfold c112 at h
  split at h
  · rename_i c
    cases h
    exact lend1 N109_ok (inlN_ok N109_ok an112 2) Tryd.func112 (k := .bool) (x := letterB c) trivial (V112_ok (p112 c )) 0
  · cases h
noncomputable def N112 : Env := N109.addL 112 c112
theorem N112_ok : EnvOK N112 := N109_ok.addL Tryd.call112 c112_ok
end Go.Proofs.YtadgfmmmdhlljaaDoor
end
section
namespace Go.Proofs.YtadgfmmmdhlljaaDoor
open Go Go.Wk Go.Wl Go.Rx Go.Fo Go.Li Go.Co 
def an105 : Nat → Ann := fun | 105 => ⟨13, fun _ => none, fun  | _ => none⟩ | _ => ⟨0, fun _ => none, fun _ => none⟩
def V105 (c : UInt8) (Q : Bool → Prop) : Prop :=
Q (decide (c = (9 : UInt8) ∨ (32 : UInt8) ≤ c ∧ c ≠ (127 : UInt8)))
set_option maxRecDepth 100000 in
theorem V105_ok {c : UInt8} {Q : Bool → Prop} (h : V105 c Q) : vcFun (E := N112) (inlN an105 2) (an105 105) Tryd.f105 [.byte c] [] [] 0 (resP N112 [.bool] Q) := Eq.mp (show V105 c Q = vcFun (E := N112) (inlN an105 2) (an105 105) Tryd.f105 [.byte c] [] [] 0 (resP N112 [.bool] Q) by kernel_rfl) h
theorem p105 (c : UInt8)  : V105 c (fun y0 => y0 = standsB c) := by
  unfold V105 standsB
  rw [bne, beq_dec, beq_dec]
  simp only [Bool.decide_or, Bool.decide_and, ne_eq, decide_not]
def c105 (a : List (SV U)) : Option (Q1 U) := match a with | [.byte c] => some ⟨[], [], blB (standsB c)⟩ | _ => none
set_option maxRecDepth 100000 in
theorem c105_ok (args : List (SV U)) (q : Q1 U) (h : c105 args = some q) (ho : allP q.ob) : LendOK N112 105 args ⟨q.ob, q.hy, q.v, []⟩ := by
  unfold c105 at h
  split at h
  · rename_i c
    cases h
    exact lend1 N112_ok (inlN_ok N112_ok an105 2) Tryd.func105 (k := .bool) (x := standsB c) trivial (V105_ok (p105 c )) 0
  · cases h
noncomputable def N105 : Env := N112.addL 105 c105
theorem N105_ok : EnvOK N105 := N112_ok.addL Tryd.call105 c105_ok
end Go.Proofs.YtadgfmmmdhlljaaDoor
end
section
namespace Go.Proofs.YtadgfmmmdhlljaaDoor
open Go Go.Wk Go.Wl Go.Rx Go.Fo Go.Li Go.Co 
def an66 : Nat → Ann := fun | 66 => ⟨18, fun | 1 => some ⟨[0], [.slot 1 (.int .i64)]⟩ | _ => none, fun  | _ => none⟩ | _ => ⟨0, fun _ => none, fun _ => none⟩
def V66 (s : Str) (i : Int) (Q : Int → Prop) : Prop :=
∃ (I : Int → Prop),
  ∃ (m : Int → Nat),
    I i ∧
      ∀ (x : Int),
        I x →
          (x < (↑(List.length s) : Int) → (0 : Int) ≤ x) ∧
            (x < (↑(List.length s) : Int) → x < (↑(List.length s) : Int)) ∧
              (x < (↑(List.length s) : Int) ∧ letterB (ix s x) = true → in64 (x + (1 : Int)) ∧ I (x + (1 : Int)) ∧ m (x + (1 : Int)) < m x) ∧
                (¬(x < (↑(List.length s) : Int) ∧ letterB (ix s x) = true) → Q x)
set_option maxRecDepth 100000 in
theorem V66_ok {s : Str} {i : Int} {Q : Int → Prop} (h : V66 s i Q) : vcFun (E := N105) (inlN an66 2) (an66 66) Tryd.f66 [.str s, .int .i64 i] [] [] 0 (resP N105 [.int .i64] Q) := Eq.mp (show V66 s i Q = vcFun (E := N105) (inlN an66 2) (an66 66) Tryd.f66 [.str s, .int .i64 i] [] [] 0 (resP N105 [.int .i64] Q) by kernel_rfl) h
def nameLen (s : Str) (i : Int) : Int := (((s.drop i.toNat).takeWhile letterB).length : Nat)
theorem nameLen_in {s : Str} {i : Int} (h0 : 0 ≤ i) (h1 : i < s.length) (h : letterB (ix s i) = true) : nameLen s i = 1 + nameLen s (i + 1) := by
  unfold nameLen
  rw [ix_drop h0 h1, List.takeWhile_cons_of_pos h, List.length_cons]; omega
theorem nameLen_out {s : Str} {i : Int} (h0 : 0 ≤ i) (h : ¬ (i < s.length ∧ letterB (ix s i) = true)) : nameLen s i = 0 := by
  unfold nameLen
  by_cases h1 : i < s.length
  · rw [ix_drop h0 h1, List.takeWhile_cons_of_neg (fun e => h ⟨h1, e⟩)]; rfl
  · rw [drop_all (by omega)]; rfl
theorem p66 (s : Str) (i : Int) (h0 : 0 ≤ i) (h1 : i ≤ (s.length : Int)) (hs : s.length ≤ 100000000) : V66 s i (fun y0 => y0 = i + nameLen s i) := by
  unfold V66
  refine ⟨fun x => i ≤ x ∧ x ≤ s.length ∧ x + nameLen s x = i + nameLen s i, fun x => ((s.length : Int) - x).toNat, ⟨Int.le_refl _, h1, rfl⟩, ?_⟩
  rintro x ⟨x0, x1, hx⟩
  refine ⟨fun _ => by omega, fun h => h, fun ⟨a, b⟩ => ?_, fun h => ?_⟩
  · have e := nameLen_in (by omega) a b
    exact ⟨⟨by omega, by omega⟩, ⟨by omega, by omega, by omega⟩, by dsimp only; omega⟩
  · have e := nameLen_out (by omega) h
    show x = _
    omega
def c66 (a : List (SV U)) : Option (Q1 U) := match a with | [.str s, .int .i64 i] => some ⟨[0 ≤ i, i ≤ (s.length : Int), List.length (α := UInt8) s ≤ 100000000], [], .int .i64 (i + nameLen s i)⟩ | _ => none
set_option maxRecDepth 100000 in
theorem c66_ok (args : List (SV U)) (q : Q1 U) (h : c66 args = some q) (ho : allP q.ob) : LendOK N105 66 args ⟨q.ob, q.hy, q.v, []⟩ := by
  unfold c66 at h
  split at h
  · rename_i s i
    cases h
    exact lend1 N105_ok (inlN_ok N105_ok an66 2) Tryd.func66 (k := .int .i64) (x := i + nameLen s i) trivial (V66_ok (p66 s i ho.1 ho.2.1 ho.2.2.1)) 0
  · cases h
noncomputable def N66 : Env := N105.addL 66 c66
theorem N66_ok : EnvOK N66 := N105_ok.addL Tryd.call66 c66_ok
end Go.Proofs.YtadgfmmmdhlljaaDoor
end
section
namespace Go.Proofs.YtadgfmmmdhlljaaDoor
open Go Go.Wk Go.Wl Go.Rx Go.Fo Go.Li Go.Co 
def an132 : Nat → Ann := fun | 132 => ⟨46, fun | 3 => some ⟨[0], [.slot 3 (.acc 5), .slot 4 (.int .i64)]⟩ | _ => none, fun  | _ => none⟩ | _ => ⟨0, fun _ => none, fun _ => none⟩
def V132 (s : Str) (Q : Str → Prop) : Prop :=
∃ (I : List UInt8 → Int → Prop),
  ∃ (m : List UInt8 → Int → Nat),
    I [] (0 : Int) ∧
      ∀ (x : List UInt8) (x_1 : Int),
        I x x_1 →
          (x_1 < (↑(List.length s) : Int) →
              (0 : Int) ≤ x_1 ∧
                x_1 < (↑(List.length s) : Int) ∧
                  (ix s x_1 = (94 : UInt8) → in64 (x_1 + (1 : Int))) ∧
                    (ix s x_1 = (94 : UInt8) ∧ x_1 + (1 : Int) < (↑(List.length s) : Int) →
                        in64 (x_1 + (1 : Int)) ∧
                          (0 : Int) ≤ x_1 + (1 : Int) ∧
                            x_1 + (1 : Int) < (↑(List.length s) : Int) ∧
                              (ix s (x_1 + (1 : Int)) = (110 : UInt8) →
                                  in64 (x_1 + (1 : Int)) ∧
                                    (x.length + [(10 : UInt8)].length) * (some (1 : Nat)).getD (0 : Nat) ≤ (140737488355328 : Nat) ∧
                                      in64 (x_1 + (1 : Int) + (1 : Int)) ∧ I (x ++ [(10 : UInt8)]) (x_1 + (1 : Int) + (1 : Int)) ∧ m (x ++ [(10 : UInt8)]) (x_1 + (1 : Int) + (1 : Int)) < m x x_1) ∧
                                (¬ix s (x_1 + (1 : Int)) = (110 : UInt8) →
                                  (ix s (x_1 + (1 : Int)) = (39 : UInt8) →
                                      in64 (x_1 + (1 : Int)) ∧
                                        (x.length + [(34 : UInt8)].length) * (some (1 : Nat)).getD (0 : Nat) ≤ (140737488355328 : Nat) ∧
                                          in64 (x_1 + (1 : Int) + (1 : Int)) ∧
                                            I (x ++ [(34 : UInt8)]) (x_1 + (1 : Int) + (1 : Int)) ∧ m (x ++ [(34 : UInt8)]) (x_1 + (1 : Int) + (1 : Int)) < m x x_1) ∧
                                    (¬ix s (x_1 + (1 : Int)) = (39 : UInt8) →
                                      (ix s (x_1 + (1 : Int)) = (94 : UInt8) →
                                          in64 (x_1 + (1 : Int)) ∧
                                            (x.length + [ix s x_1].length) * (some (1 : Nat)).getD (0 : Nat) ≤ (140737488355328 : Nat) ∧
                                              in64 (x_1 + (1 : Int) + (1 : Int)) ∧ I (x ++ [ix s x_1]) (x_1 + (1 : Int) + (1 : Int)) ∧ m (x ++ [ix s x_1]) (x_1 + (1 : Int) + (1 : Int)) < m x x_1) ∧
                                        (¬ix s (x_1 + (1 : Int)) = (94 : UInt8) →
                                          (x.length + [ix s x_1].length) * (some (1 : Nat)).getD (0 : Nat) ≤ (140737488355328 : Nat) ∧
                                            in64 (x_1 + (1 : Int)) ∧ I (x ++ [ix s x_1]) (x_1 + (1 : Int)) ∧ m (x ++ [ix s x_1]) (x_1 + (1 : Int)) < m x x_1)))) ∧
                      (¬(ix s x_1 = (94 : UInt8) ∧ x_1 + (1 : Int) < (↑(List.length s) : Int)) →
                        ((0 : UInt8) = (110 : UInt8) →
                            in64 (x_1 + (1 : Int)) ∧
                              (x.length + [(10 : UInt8)].length) * (some (1 : Nat)).getD (0 : Nat) ≤ (140737488355328 : Nat) ∧
                                in64 (x_1 + (1 : Int) + (1 : Int)) ∧ I (x ++ [(10 : UInt8)]) (x_1 + (1 : Int) + (1 : Int)) ∧ m (x ++ [(10 : UInt8)]) (x_1 + (1 : Int) + (1 : Int)) < m x x_1) ∧
                          (¬(0 : UInt8) = (110 : UInt8) →
                            ((0 : UInt8) = (39 : UInt8) →
                                in64 (x_1 + (1 : Int)) ∧
                                  (x.length + [(34 : UInt8)].length) * (some (1 : Nat)).getD (0 : Nat) ≤ (140737488355328 : Nat) ∧
                                    in64 (x_1 + (1 : Int) + (1 : Int)) ∧ I (x ++ [(34 : UInt8)]) (x_1 + (1 : Int) + (1 : Int)) ∧ m (x ++ [(34 : UInt8)]) (x_1 + (1 : Int) + (1 : Int)) < m x x_1) ∧
                              (¬(0 : UInt8) = (39 : UInt8) →
                                ((0 : UInt8) = (94 : UInt8) →
                                    in64 (x_1 + (1 : Int)) ∧
                                      (x.length + [ix s x_1].length) * (some (1 : Nat)).getD (0 : Nat) ≤ (140737488355328 : Nat) ∧
                                        in64 (x_1 + (1 : Int) + (1 : Int)) ∧ I (x ++ [ix s x_1]) (x_1 + (1 : Int) + (1 : Int)) ∧ m (x ++ [ix s x_1]) (x_1 + (1 : Int) + (1 : Int)) < m x x_1) ∧
                                  (¬(0 : UInt8) = (94 : UInt8) →
                                    (x.length + [ix s x_1].length) * (some (1 : Nat)).getD (0 : Nat) ≤ (140737488355328 : Nat) ∧
                                      in64 (x_1 + (1 : Int)) ∧ I (x ++ [ix s x_1]) (x_1 + (1 : Int)) ∧ m (x ++ [ix s x_1]) (x_1 + (1 : Int)) < m x x_1))))) ∧
            (¬x_1 < (↑(List.length s) : Int) → Q x)
set_option maxRecDepth 100000 in
theorem V132_ok {s : Str} {Q : Str → Prop} (h : V132 s Q) : vcFun (E := N66) (inlN an132 2) (an132 132) Tryd.f132 [.str s] [] [] 0 (resP N66 [.str] Q) := Eq.mp (show V132 s Q = vcFun (E := N66) (inlN an132 2) (an132 132) Tryd.f132 [.str s] [] [] 0 (resP N66 [.str] Q) by kernel_rfl) h
theorem p132 (s : Str) (hs : s.length ≤ 100000000) : V132 s (fun y0 => y0 = said s) := by
  unfold V132
  have hl := said_len s.length s (Nat.le_refl _)
  refine ⟨fun x i => 0 ≤ i ∧ i ≤ s.length ∧ x ++ said (s.drop i.toNat) = said s, fun _ i => ((s.length : Int) - i).toNat, ⟨by omega, by omega, rfl⟩, ?_⟩
  rintro x i ⟨i0, i1, hx⟩
  have lx := congrArg List.length hx
  rw [List.length_append] at lx
  have hit : ∀ e, i + 1 < s.length → (ix s i = 94 ∧ ix s (i + 1) = 110 ∧ e = 10 ∨ ix s i = 94 ∧ ix s (i + 1) = 39 ∧ e = 34 ∨ ix s i = 94 ∧ ix s (i + 1) = 94 ∧ e = 94) → (x ++ [e]) ++ said (s.drop (i + 1 + 1).toNat) = said s := fun e h1 h => by
    rw [← hx, said_drop2 i0 h1 h]; simp
  have one : ¬ (ix s i = 94 ∧ i + 1 < s.length ∧ (ix s (i + 1) = 110 ∨ ix s (i + 1) = 39 ∨ ix s (i + 1) = 94)) → i < s.length → (x ++ [ix s i]) ++ said (s.drop (i + 1).toNat) = said s := fun h hi => by
    rw [← hx, said_drop1 i0 hi h]; simp
  simp only [List.length_cons, List.length_nil, Option.getD_some]
  refine ⟨fun hi => ⟨i0, hi, fun _ => ⟨by omega, by omega⟩, fun ⟨a, b⟩ => ⟨⟨by omega, by omega⟩, by omega, b, fun h => ?_, fun h => ⟨fun h2 => ?_, fun h2 => ⟨fun h3 => ?_, fun h3 => ?_⟩⟩⟩, fun hn => ⟨fun h => absurd h (by decide), fun _ => ⟨fun h => absurd h (by decide), fun _ => ⟨fun h => absurd h (by decide), fun _ => ?_⟩⟩⟩⟩, fun hi => ?_⟩
  · exact ⟨⟨by omega, by omega⟩, by omega, ⟨by omega, by omega⟩, ⟨by omega, by omega, hit 10 b (.inl ⟨a, h, rfl⟩)⟩, by omega⟩
  · exact ⟨⟨by omega, by omega⟩, by omega, ⟨by omega, by omega⟩, ⟨by omega, by omega, hit 34 b (.inr (.inl ⟨a, h2, rfl⟩))⟩, by omega⟩
  · exact ⟨⟨by omega, by omega⟩, by omega, ⟨by omega, by omega⟩, ⟨by omega, by omega, by rw [a]; exact hit 94 b (.inr (.inr ⟨a, h3, rfl⟩))⟩, by omega⟩
  · refine ⟨by omega, ⟨by omega, by omega⟩, ⟨by omega, by omega, one (fun ⟨_, _, c⟩ => ?_) hi⟩, by omega⟩
    rcases c with c | c | c
    · exact h c
    · exact h2 c
    · exact h3 c
  · exact ⟨by omega, ⟨by omega, by omega⟩, ⟨by omega, by omega, one (fun ⟨a, b, _⟩ => hn ⟨a, b⟩) hi⟩, by omega⟩
  · rw [drop_all (by omega)] at hx
    have : said [] = [] := rfl
    rw [this, List.append_nil] at hx
    exact hx
def c132 (a : List (SV U)) : Option (Q1 U) := match a with | [.str s] => some ⟨[List.length (α := UInt8) s ≤ 100000000], [], .str (said s)⟩ | _ => none
set_option maxRecDepth 100000 in
theorem c132_ok (args : List (SV U)) (q : Q1 U) (h : c132 args = some q) (ho : allP q.ob) : LendOK N66 132 args ⟨q.ob, q.hy, q.v, []⟩ := by
  unfold c132 at h
  split at h
  · rename_i s
    cases h
    exact lend1 N66_ok (inlN_ok N66_ok an132 2) Tryd.func132 (k := .str) (x := said s) trivial (V132_ok (p132 s ho.1)) 0
  · cases h
noncomputable def N132 : Env := N66.addL 132 c132
theorem N132_ok : EnvOK N132 := N66_ok.addL Tryd.call132 c132_ok
end Go.Proofs.YtadgfmmmdhlljaaDoor
end
section
namespace Go.Proofs.YtadgfmmmdhlljaaDoor
open Go Go.Wk Go.Wl Go.Rx Go.Fo Go.Li Go.Co 
def nameB (s : Str) : Bool := decide (s ≠ [] ∧ s.all letterB = true ∧ upper s = s)
theorem all_ix {p : UInt8 → Bool} {s : Str} (h : ∀ j : Int, 0 ≤ j → j < s.length → p (ix s j) = true) : s.all p = true := by
  rw [List.all_eq_true]
  intro c hc
  obtain ⟨j, hj, rfl⟩ := List.getElem_of_mem hc
  have := h j (by omega) (by omega)
  rw [ix_get (by simpa using hj)] at this
  simpa using this
theorem not_all {p : UInt8 → Bool} {s : Str} {x : Int} (h0 : 0 ≤ x) (h1 : x < s.length) (h : ¬ p (ix s x) = true) : ¬ s.all p = true := fun e => h (List.all_eq_true.1 e _ (mem_of_ix h0 h1))
def an77 : Nat → Ann := fun | 77 => ⟨18, fun _ => none, fun  | _ => none⟩ | _ => ⟨0, fun _ => none, fun _ => none⟩
def V77 (s : Str) (Q : Bool → Prop) : Prop :=
(s ≠ [] → (0 : Int) ≤ (0 : Int)) ∧
  (s ≠ [] → (0 : Int) ≤ (↑(List.length s) : Int)) ∧ (s ≠ [] → List.length s ≤ (100000000 : Nat)) ∧ Q (decide ((s ≠ [] ∧ (0 : Int) + nameLen s (0 : Int) = (↑(List.length s) : Int)) ∧ upper s = s))
set_option maxRecDepth 100000 in
theorem V77_ok {s : Str} {Q : Bool → Prop} (h : V77 s Q) : vcFun (E := N132) (inlN an77 2) (an77 77) Tryd.f77 [.str s] [] [] 0 (resP N132 [.bool] Q) := Eq.mp (show V77 s Q = vcFun (E := N132) (inlN an77 2) (an77 77) Tryd.f77 [.str s] [] [] 0 (resP N132 [.bool] Q) by kernel_rfl) h
theorem while_len (p : UInt8 → Bool) : ∀ s : Str, (s.takeWhile p).length = s.length ↔ s.all p = true
  | [] => by simp
  | c :: s => by
    have ih := while_len p s
    rw [List.takeWhile_cons, List.all_cons]
    split
    · rename_i h; rw [h, Bool.true_and, List.length_cons, List.length_cons, ← ih]; omega
    · rename_i h
      have h' : p c = false := by simpa using h
      rw [h']; simp
theorem nameLen_all {s : Str} : 0 + nameLen s 0 = (s.length : Int) ↔ s.all letterB = true := by
  rw [← while_len letterB s]
  unfold nameLen
  show 0 + (((s.drop 0).takeWhile letterB).length : Int) = _ ↔ _
  rw [List.drop_zero]; omega
theorem p77 (s : Str) (hs : s.length ≤ 100000000) : V77 s (fun y0 => y0 = nameB s) := by
  unfold V77
  refine ⟨fun _ => Int.le_refl _, fun _ => by omega, fun _ => hs, ?_⟩
  show _ = decide _
  exact decide_eq_decide.2 ⟨fun ⟨⟨a, b⟩, c⟩ => ⟨a, nameLen_all.1 b, c⟩, fun ⟨a, b, c⟩ => ⟨⟨a, nameLen_all.2 b⟩, c⟩⟩
def c77 (a : List (SV U)) : Option (Q1 U) := match a with | [.str s] => some ⟨[List.length (α := UInt8) s ≤ 100000000], [], blB (nameB s)⟩ | _ => none
set_option maxRecDepth 100000 in
theorem c77_ok (args : List (SV U)) (q : Q1 U) (h : c77 args = some q) (ho : allP q.ob) : LendOK N132 77 args ⟨q.ob, q.hy, q.v, []⟩ := by
  unfold c77 at h
  split at h
  · rename_i s
    cases h
    exact lend1 N132_ok (inlN_ok N132_ok an77 2) Tryd.func77 (k := .bool) (x := nameB s) trivial (V77_ok (p77 s ho.1)) 0
  · cases h
noncomputable def N77 : Env := N132.addL 77 c77
theorem N77_ok : EnvOK N77 := N132_ok.addL Tryd.call77 c77_ok
end Go.Proofs.YtadgfmmmdhlljaaDoor
end
section
namespace Go.Proofs.YtadgfmmmdhlljaaDoor
open Go Go.Wk Go.Wl Go.Rx Go.Fo Go.Li Go.Co 
def an30 : Nat → Ann := fun | 30 => ⟨86, fun | 4 => some ⟨[2, 3], [.slot 5 (.int .i64)]⟩ | 11 => some ⟨[2, 3, 5, 6, 7], [.slot 8 (.int .i64)]⟩ | _ => none, fun  | _ => none⟩ | _ => ⟨0, fun _ => none, fun _ => none⟩
def V30 (p : Prp) (q : Prp) (Q : Bool → Prop) : Prop :=
(((p.Group ≠ q.Group ∨ p.Name ≠ q.Name) ∨ p.Value ≠ q.Value) ∨ (↑p.Params.length : Int) ≠ (↑q.Params.length : Int) → Q false) ∧
  (¬(((p.Group ≠ q.Group ∨ p.Name ≠ q.Name) ∨ p.Value ≠ q.Value) ∨ (↑p.Params.length : Int) ≠ (↑q.Params.length : Int)) →
    ∃ (I : Int → Prop),
      ∃ (m : Int → Nat),
        I (0 : Int) ∧
          ∀ (x : Int),
            I x →
              (x < (↑p.Params.length : Int) →
                  (0 : Int) ≤ x ∧
                    x < (↑p.Params.length : Int) ∧
                      (0 : Int) ≤ x ∧
                        x < (↑q.Params.length : Int) ∧
                          ((ix p.Params x).Name ≠ (ix q.Params x).Name ∨ (↑(ix p.Params x).Values.length : Int) ≠ (↑(ix q.Params x).Values.length : Int) → Q false) ∧
                            (¬((ix p.Params x).Name ≠ (ix q.Params x).Name ∨ (↑(ix p.Params x).Values.length : Int) ≠ (↑(ix q.Params x).Values.length : Int)) →
                              ∃ (I_1 : Int → Prop),
                                ∃ (m_1 : Int → Nat),
                                  I_1 (0 : Int) ∧
                                    ∀ (x_1 : Int),
                                      I_1 x_1 →
                                        (x_1 < (↑(ix p.Params x).Values.length : Int) →
                                            (0 : Int) ≤ x_1 ∧
                                              x_1 < (↑(ix p.Params x).Values.length : Int) ∧
                                                (0 : Int) ≤ x_1 ∧
                                                  x_1 < (↑(ix q.Params x).Values.length : Int) ∧
                                                    (ix (ix p.Params x).Values x_1 ≠ ix (ix q.Params x).Values x_1 → Q false) ∧
                                                      (¬ix (ix p.Params x).Values x_1 ≠ ix (ix q.Params x).Values x_1 →
                                                        in64 (x_1 + (1 : Int)) ∧ I_1 (x_1 + (1 : Int)) ∧ m_1 (x_1 + (1 : Int)) < m_1 x_1)) ∧
                                          (¬x_1 < (↑(ix p.Params x).Values.length : Int) → in64 (x + (1 : Int)) ∧ I (x + (1 : Int)) ∧ m (x + (1 : Int)) < m x))) ∧
                (¬x < (↑p.Params.length : Int) → Q true))
set_option maxRecDepth 100000 in
theorem V30_ok {p : Prp} {q : Prp} {Q : Bool → Prop} (h : V30 p q Q) : vcFun (E := N77) (inlN an30 2) (an30 30) Tryd.f30 [.agg [.str p.Group, .str p.Name, .sl (N := U) 59 p.Params, .str p.Value], .agg [.str q.Group, .str q.Name, .sl (N := U) 59 q.Params, .str q.Value]] [] [] 0 (resP N77 [.bool] Q) := Eq.mp (show V30 p q Q = vcFun (E := N77) (inlN an30 2) (an30 30) Tryd.f30 [.agg [.str p.Group, .str p.Name, .sl (N := U) 59 p.Params, .str p.Value], .agg [.str q.Group, .str q.Name, .sl (N := U) 59 q.Params, .str q.Value]] [] [] 0 (resP N77 [.bool] Q) by kernel_rfl) h
theorem list_ix {α : Type} [Inhabited α] {a b : List α} (hl : a.length = b.length) (h : ∀ j : Int, 0 ≤ j → j < a.length → ix a j = ix b j) : a = b := by
  refine List.ext_getElem hl fun j h1 h2 => ?_
  have := h j (by omega) (by omega)
  rw [ix_get (by simpa using h1), ix_get (by simpa using h2)] at this
  simpa using this
theorem p30 (p : Prp) (q : Prp) (hs : p.Params.length ≤ 9223372036854775807) (ht : ∀ x ∈ p.Params, x.Values.length ≤ 9223372036854775807) : V30 p q (fun y0 => y0 = decide (p = q)) := by
  unfold V30
  refine ⟨fun h => (decide_eq_false fun e => by subst e; simp at h).symm, fun h => ?_⟩
  have hg : p.Group = q.Group := Classical.byContradiction fun n => h (.inl (.inl (.inl n)))
  have hn : p.Name = q.Name := Classical.byContradiction fun n => h (.inl (.inl (.inr n)))
  have hv : p.Value = q.Value := Classical.byContradiction fun n => h (.inl (.inr n))
  have hl : (p.Params.length : Int) = q.Params.length := Classical.byContradiction fun n => h (.inr n)
  clear h
  refine ⟨fun x => 0 ≤ x ∧ x ≤ p.Params.length ∧ ∀ j : Int, 0 ≤ j → j < x → ix p.Params j = ix q.Params j, fun x => ((p.Params.length : Int) - x).toNat, ⟨by omega, by omega, fun j _ _ => by omega⟩, ?_⟩
  rintro x ⟨x0, x1, hx⟩
  refine ⟨fun hi => ⟨x0, hi, x0, by omega, fun hb => (decide_eq_false fun e => by subst e; simp at hb).symm, fun hb => ⟨fun y => 0 ≤ y ∧ y ≤ ((ix p.Params x).Values.length : Int) ∧ ∀ j : Int, 0 ≤ j → j < y → ix (ix p.Params x).Values j = ix (ix q.Params x).Values j, fun y => (((ix p.Params x).Values.length : Int) - y).toNat, ⟨by omega, by omega, fun j _ _ => by omega⟩, ?_⟩⟩, fun hi => ?_⟩
  · have bn : (ix p.Params x).Name = (ix q.Params x).Name := Classical.byContradiction fun n => hb (.inl n)
    have bl : ((ix p.Params x).Values.length : Int) = (ix q.Params x).Values.length := Classical.byContradiction fun n => hb (.inr n)
    have hvl := ht _ (mem_of_ix x0 hi)
    rintro y ⟨y0, y1, hy⟩
    refine ⟨fun hj => ⟨y0, hj, y0, by omega, fun hne => (decide_eq_false fun e => by subst e; exact hne rfl).symm, fun he => ⟨⟨by omega, by omega⟩, ⟨by omega, by omega, fun j j0 j1 => ?_⟩, by dsimp only; omega⟩⟩, fun hj => ⟨⟨by omega, by omega⟩, ⟨by omega, by omega, fun j j0 j1 => ?_⟩, by dsimp only; omega⟩⟩
    · by_cases e : j = y
      · subst e; exact Classical.not_not.1 he
      · exact hy j j0 (by omega)
    · by_cases e : j = x
      · subst e
        have ev : (ix p.Params j).Values = (ix q.Params j).Values := list_ix (by omega) fun k k0 k1 => hy k k0 (by omega)
        generalize ix p.Params j = a at bn ev
        generalize ix q.Params j = b at bn ev
        cases a; cases b
        simp only at bn ev
        rw [bn, ev]
      · exact hx j j0 (by omega)
  · have ep : p.Params = q.Params := list_ix (by omega) fun j j0 j1 => hx j j0 (by omega)
    refine (decide_eq_true ?_).symm
    cases p; cases q
    simp only at hg hn hv ep
    rw [hg, hn, hv, ep]
def c30s (p : Prp) (q : Prp) : Q1 U := ⟨[List.length (α := Param) p.Params ≤ 9223372036854775807, ∀ x ∈ p.Params, List.length (α := Str) x.Values ≤ 9223372036854775807], [], blB (decide (p = q))⟩
def c30 (a : List (SV U)) : Option (Q1 U) := match a with | [.agg [.str p0, .str p1, .sl 59 p2, .str p3], .agg [.str q0, .str q1, .sl 59 q2, .str q3]] => some (c30s (⟨p0, p1, p2, p3⟩) (⟨q0, q1, q2, q3⟩)) | _ => none
set_option maxRecDepth 100000 in
theorem c30_ok (args : List (SV U)) (q : Q1 U) (h : c30 args = some q) (ho : allP q.ob) : LendOK N77 30 args ⟨q.ob, q.hy, q.v, []⟩ := by
  unfold c30 at h
  split at h
  · rename_i p0 p1 p2 p3 q0 q1 q2 q3
    cases h
    exact lend1 N77_ok (inlN_ok N77_ok an30 2) Tryd.func30 (k := .bool) trivial (V30_ok (p30 (⟨p0, p1, p2, p3⟩) (⟨q0, q1, q2, q3⟩) ho.1 ho.2.1)) 0
  · cases h
noncomputable def N30 : Env := N77.addL 30 c30
theorem N30_ok : EnvOK N30 := N77_ok.addL Tryd.call30 c30_ok
end Go.Proofs.YtadgfmmmdhlljaaDoor
end
section
namespace Go.Li
open Go Go.Wk Go.Wl Go.Rx
def whyE (s : Str) : Err := .w 153 s (.no 11)
def nE (s : Str) : Err := if s.takeWhile letterB = [] then whyE [110, 97, 109, 101] else .nil
def gV (s : Str) : Str × Err × Str := match hdIs 34 s with
  | none => (said (s.takeWhile plainB), .nil, s.dropWhile plainB)
  | some r => match hdIs 34 (r.dropWhile inB) with
    | none => ([], whyE [113, 117, 111, 116, 101, 100], r.dropWhile inB)
    | some t => (said (r.takeWhile inB), .nil, t)
theorem hdIs_some {c : UInt8} {s : Str} (h : s ≠ []) (e : ix s 0 = c) : hdIs c s = some (s.drop 1) := by
  cases s with
  | nil => exact absurd rfl h
  | cons d s => have e : d = c := e; subst e; simp [hdIs]
theorem hdIs_none {c : UInt8} {s : Str} (h : s = [] ∨ ix s 0 ≠ c) : hdIs c s = none := by
  cases s with
  | nil => rfl
  | cons d s =>
    rcases h with h | h
    · cases h
    · have h : d ≠ c := h
      simp [hdIs, h]
theorem while_take {p : UInt8 → Bool} {s : Str} {i : Int} (h0 : 0 ≤ i) (h1 : i ≤ s.length) (h : ∀ j : Int, 0 ≤ j → j < i → p (ix s j) = true) (he : ¬ (i < s.length ∧ p (ix s i) = true)) : s.take i.toNat = s.takeWhile p ∧ s.drop i.toNat = s.dropWhile p := by
  obtain ⟨n, rfl⟩ : ∃ n : Nat, i = n := ⟨i.toNat, by omega⟩
  simp only [Int.toNat_natCast]
  clear h0
  induction s generalizing n with
  | nil => have : n = 0 := by simp at h1; omega
           subst this; exact ⟨rfl, rfl⟩
  | cons c s ih =>
    cases n with
    | zero =>
      have hc : ¬ p c = true := fun hc => he ⟨by simp only [List.length_cons]; omega, hc⟩
      simp [List.takeWhile_cons, List.dropWhile_cons, hc]
    | succ n =>
      have hc : p c = true := h 0 (by omega) (by omega)
      have sh : ∀ j : Int, 0 ≤ j → ix (c :: s) (j + 1) = ix s j := fun j hj => by
        unfold ix
        have : (j + 1).toNat = j.toNat + 1 := by omega
        rw [this]; rfl
      obtain ⟨a, b⟩ := ih n (by simp at h1; omega) (fun j j0 j1 => by rw [← sh j j0]; exact h (j + 1) (by omega) (by omega)) (fun ⟨x, y⟩ => he ⟨by simp; omega, by
        have := sh n (by omega)
        push_cast
        rw [this]; exact y⟩)
      simp [List.takeWhile_cons, List.dropWhile_cons, hc, a, b]
end Go.Li
end
section
namespace Go.Li
open Go Go.Wk Go.Wl Go.Rx
def gVs : Nat → Str → List Str × Err × Str
  | 0, s => ([], .nil, s)
  | n + 1, s => if (gV s).2.1 ≠ .nil then ([], (gV s).2.1, (gV s).2.2) else match hdIs 44 (gV s).2.2 with
    | none => ([(gV s).1], .nil, (gV s).2.2)
    | some t => ((gV s).1 :: (gVs n t).1, (gVs n t).2.1, (gVs n t).2.2)
def gP (s : Str) : Param × Err × Str := if nE s ≠ .nil then (⟨[], []⟩, nE s, s.dropWhile letterB) else match hdIs 61 (s.dropWhile letterB) with
  | none => (⟨[], []⟩, whyE [112, 97, 114, 97, 109], s.dropWhile letterB)
  | some t => (⟨upper (s.takeWhile letterB), (gVs (t.length + 1) t).1⟩, (gVs (t.length + 1) t).2.1, (gVs (t.length + 1) t).2.2)
def okE (e : Err) : Prop := e = .nil ∨ ∃ s, e = whyE s
theorem nE_ok (s : Str) : okE (nE s) := by unfold nE; split; exact .inr ⟨_, rfl⟩; exact .inl rfl
theorem gV_ok (s : Str) : okE (gV s).2.1 := by
  unfold gV
  split
  · exact .inl rfl
  · split
    · exact .inr ⟨_, rfl⟩
    · exact .inl rfl
theorem gVs_ok : ∀ (n : Nat) (s : Str), okE (gVs n s).2.1
  | 0, s => .inl rfl
  | n + 1, s => by
    unfold gVs
    split
    · exact gV_ok s
    · split
      · exact .inl rfl
      · exact gVs_ok n _
theorem gP_ok (s : Str) : okE (gP s).2.1 := by
  unfold gP
  split
  · exact nE_ok s
  · split
    · exact .inr ⟨_, rfl⟩
    · exact gVs_ok _ _
theorem okE_is {e : Err} (h : okE e) (hn : e ≠ .nil) : e.is 11 := by
  rcases h with h | ⟨s, rfl⟩
  · exact absurd h hn
  · rfl
theorem why_ne (s : Str) : whyE s ≠ .nil := by unfold whyE; intro h; cases h
theorem pName_g (s : Str) : pName s = if nE s = .nil then some (upper (s.takeWhile letterB), s.dropWhile letterB) else none := by
  unfold pName nE
  by_cases h : s.takeWhile letterB = []
  · rw [if_pos h, if_pos h, if_neg (why_ne _)]
  · rw [if_neg h, if_neg h, if_pos rfl]
theorem pValue_g (s : Str) : pValue s = if (gV s).2.1 = .nil then some ((gV s).1, (gV s).2.2) else none := by
  unfold pValue gV
  cases hdIs 34 s with
  | none => rfl
  | some r =>
    simp only
    cases hdIs 34 (r.dropWhile inB) with
    | none => exact (if_neg (why_ne _)).symm
    | some t => rfl
theorem gV_len (s : Str) : (gV s).2.2.length ≤ s.length := by
  unfold gV
  cases h : hdIs 34 s with
  | none => exact drop_len _ _
  | some r =>
    have h1 := hdIs_len h
    have h2 := drop_len inB r
    simp only
    cases h3 : hdIs 34 (r.dropWhile inB) with
    | none => simp only; omega
    | some t => have := hdIs_len h3; simp only; omega
theorem gVs_err {n : Nat} {s : Str} (h : (gV s).2.1 ≠ .nil) : gVs (n + 1) s = ([], (gV s).2.1, (gV s).2.2) := by unfold gVs; rw [if_pos h]
theorem gVs_end {n : Nat} {s : Str} (h : (gV s).2.1 = .nil) (h1 : hdIs 44 (gV s).2.2 = none) : gVs (n + 1) s = ([(gV s).1], .nil, (gV s).2.2) := by
  unfold gVs; rw [if_neg (fun x => x h), h1]
theorem gVs_on {n : Nat} {s t : Str} (h : (gV s).2.1 = .nil) (h1 : hdIs 44 (gV s).2.2 = some t) : gVs (n + 1) s = ((gV s).1 :: (gVs n t).1, (gVs n t).2.1, (gVs n t).2.2) := by
  conv => lhs; unfold gVs
  rw [if_neg (fun x => x h), h1]
theorem pVals_g : ∀ (n : Nat) (s : Str), s.length < n → pVals s = if (gVs n s).2.1 = .nil then some ((gVs n s).1, (gVs n s).2.2) else none
  | 0, s, h => by omega
  | n + 1, s, h => by
    rw [pVals_eq, pValue_g]
    by_cases he : (gV s).2.1 = .nil
    · rw [if_pos he]
      cases h1 : hdIs 44 (gV s).2.2 with
      | none => rw [gVs_end he h1]; simp only [h1, if_true]
      | some t =>
        have h2 := hdIs_len h1
        have h3 := gV_len s
        rw [gVs_on he h1]
        simp only [h1]
        rw [pVals_g n t (by omega)]
        by_cases h4 : (gVs n t).2.1 = .nil
        · simp only [h4, if_true]
        · simp only [h4, if_false]
    · rw [if_neg he, gVs_err he]
      simp only [he, if_false]
theorem gVs_len : ∀ (n : Nat) (s : Str), (gVs n s).2.2.length ≤ s.length ∧ (gVs n s).1.length ≤ s.length + 1
  | 0, s => ⟨Nat.le_refl _, Nat.zero_le _⟩
  | n + 1, s => by
    have hl := gV_len s
    unfold gVs
    split
    · exact ⟨hl, Nat.zero_le _⟩
    · split
      · exact ⟨hl, by simp⟩
      · rename_i t ht
        have h2 := hdIs_len ht
        obtain ⟨a, b⟩ := gVs_len n t
        refine ⟨by dsimp only; omega, ?_⟩
        simp only [List.length_cons]
        omega
theorem gP_len (s : Str) : (gP s).2.2.length ≤ s.length := by
  have h1 := drop_len letterB s
  unfold gP
  split
  · exact h1
  · split
    · exact h1
    · rename_i t ht
      have := hdIs_len ht
      have := (gVs_len (t.length + 1) t).1
      dsimp only; omega
theorem gP_err {s : Str} (h : nE s ≠ .nil) : gP s = (⟨[], []⟩, nE s, s.dropWhile letterB) := by unfold gP; rw [if_pos h]
theorem gP_no {s : Str} (h : nE s = .nil) (h1 : hdIs 61 (s.dropWhile letterB) = none) : gP s = (⟨[], []⟩, whyE [112, 97, 114, 97, 109], s.dropWhile letterB) := by
  unfold gP; rw [if_neg (fun x => x h), h1]
theorem gP_on {s t : Str} (h : nE s = .nil) (h1 : hdIs 61 (s.dropWhile letterB) = some t) : gP s = (⟨upper (s.takeWhile letterB), (gVs (t.length + 1) t).1⟩, (gVs (t.length + 1) t).2.1, (gVs (t.length + 1) t).2.2) := by
  unfold gP; rw [if_neg (fun x => x h), h1]
theorem pParam_g (s : Str) : pParam s = if (gP s).2.1 = .nil then some ((gP s).1, (gP s).2.2) else none := by
  unfold pParam
  rw [pName_g]
  by_cases he : nE s = .nil
  · rw [if_pos he]
    cases h1 : hdIs 61 (s.dropWhile letterB) with
    | none => rw [gP_no he h1]; simp only [h1, why_ne, if_false]
    | some t =>
      rw [gP_on he h1]
      simp only [h1]
      rw [pVals_g (t.length + 1) t (by omega)]
      by_cases h4 : (gVs (t.length + 1) t).2.1 = .nil
      · simp only [h4, if_true]
      · simp only [h4, if_false]
  · rw [if_neg he, gP_err he]
    simp only [he, if_false]
end Go.Li
end
section
namespace Go.Li
open Go Go.Wk Go.Wl Go.Rx
def manyB (p : Prp) : Bool := decide (20 < p.Params.length) || p.Params.any (fun x => decide (20 < x.Values.length)) || !decide ((p.Params.map Param.Name).Nodup)
def prp0 : Prp := ⟨[], [], [], []⟩
def finS (o : Option Prp) : Prp × Err := match o with
  | none => (prp0, .no 11)
  | some p => if manyB p = true then (prp0, .no 5) else (p, .nil)
def parseS (s : Str) : Prp × Err := finS (pProp s)
def tailS (g n : Str) (l : List Param) (r : Str) : Option Prp := match pParams r with
  | none => none
  | some (l', t) => match hdIs 58 t with
    | none => none
    | some v => if v.all standsB = true then some ⟨g, n, l ++ l', v⟩ else none
theorem prop_tail (s : Str) : pProp s = match pHead s with | none => none | some (g, n, r) => tailS g n [] r := by
  unfold pProp tailS
  cases pHead s with
  | none => rfl
  | some x => rfl
theorem prop_err {s : Str} (h : nE s ≠ .nil) : pProp s = none := by
  rw [prop_tail]; unfold pHead; rw [pName_g, if_neg h]
theorem prop_plain {s : Str} (h : nE s = .nil) (h1 : hdIs 46 (s.dropWhile letterB) = none) : pProp s = tailS [] (upper (s.takeWhile letterB)) [] (s.dropWhile letterB) := by
  rw [prop_tail]; unfold pHead; rw [pName_g, if_pos h]; simp only [h1]
theorem prop_group {s t : Str} (h : nE s = .nil) (h1 : hdIs 46 (s.dropWhile letterB) = some t) : pProp s = if nE t = .nil then tailS (upper (s.takeWhile letterB)) (upper (t.takeWhile letterB)) [] (t.dropWhile letterB) else none := by
  rw [prop_tail]; unfold pHead; rw [pName_g, if_pos h]; simp only [h1]
  rw [pName_g]
  by_cases h2 : nE t = .nil
  · simp only [h2, if_true]
  · simp only [h2, if_false]
theorem tail_err {g n r t : Str} {l : List Param} (h : hdIs 59 r = some t) (h1 : (gP t).2.1 ≠ .nil) : tailS g n l r = none := by
  unfold tailS; rw [pParams_eq, h]; simp only [pParam_g, if_neg h1]
theorem tail_on {g n r t : Str} {l : List Param} (h : hdIs 59 r = some t) (h1 : (gP t).2.1 = .nil) : tailS g n l r = tailS g n (l ++ [(gP t).1]) (gP t).2.2 := by
  unfold tailS; rw [pParams_eq, h]; simp only [pParam_g, if_pos h1]
  cases pParams (gP t).2.2 with
  | none => rfl
  | some x => simp
theorem tail_no {g n r : Str} {l : List Param} (h : hdIs 59 r = none) (h1 : hdIs 58 r = none) : tailS g n l r = none := by
  unfold tailS; rw [pParams_eq, h]; simp only [h1]
theorem tail_end {g n r v : Str} {l : List Param} (h : hdIs 59 r = none) (h1 : hdIs 58 r = some v) : tailS g n l r = if v.all standsB = true then some ⟨g, n, l, v⟩ else none := by
  unfold tailS; rw [pParams_eq, h]; simp only [h1, List.append_nil]
theorem while_nil {p : UInt8 → Bool} {s : Str} : s.dropWhile p = [] ↔ s.all p = true := by
  induction s with
  | nil => simp
  | cons c s ih =>
    rw [List.dropWhile_cons, List.all_cons]
    by_cases h : p c = true
    · rw [if_pos h, h, Bool.true_and]; exact ih
    · rw [if_neg h]
      have : p c = false := by simpa using h
      rw [this]; simp
theorem while_all {p : UInt8 → Bool} {s : Str} (h : s.dropWhile p = []) : s.takeWhile p = s := by
  have := List.takeWhile_append_dropWhile (p := p) (l := s)
  rw [h, List.append_nil] at this; exact this
end Go.Li
end
section
namespace Go.Proofs.YtadgfmmmdhlljaaDoor
open Go Go.Wk Go.Wl Go.Rx Go.Fo Go.Li Go.Co 
def an69 : Nat → Ann := fun | 69 => ⟨42, fun | 2 => some ⟨[1], [.slot 3 (.int .i64)]⟩ | 7 => some ⟨[1, 3], [.slot 4 (.int .i64)]⟩ | _ => none, fun  | _ => none⟩ | _ => ⟨0, fun _ => none, fun _ => none⟩
def V69 (p : Prp) (Q : Bool → Prop) : Prop :=
∃ (I : Int → Prop),
  ∃ (m : Int → Nat),
    I (0 : Int) ∧
      ∀ (x : Int),
        I x →
          (x < (↑p.Params.length : Int) →
              (0 : Int) ≤ x ∧
                x < (↑p.Params.length : Int) ∧
                  ((20 : Int) < (↑(ix p.Params x).Values.length : Int) → Q true) ∧
                    (¬(20 : Int) < (↑(ix p.Params x).Values.length : Int) →
                      ∃ (I_1 : Int → Prop),
                        ∃ (m_1 : Int → Nat),
                          I_1 (0 : Int) ∧
                            ∀ (x_1 : Int),
                              I_1 x_1 →
                                (x_1 < x →
                                    (0 : Int) ≤ x_1 ∧
                                      x_1 < (↑p.Params.length : Int) ∧
                                        (0 : Int) ≤ x ∧
                                          x < (↑p.Params.length : Int) ∧
                                            ((ix p.Params x_1).Name = (ix p.Params x).Name → Q true) ∧
                                              (¬(ix p.Params x_1).Name = (ix p.Params x).Name → in64 (x_1 + (1 : Int)) ∧ I_1 (x_1 + (1 : Int)) ∧ m_1 (x_1 + (1 : Int)) < m_1 x_1)) ∧
                                  (¬x_1 < x → in64 (x + (1 : Int)) ∧ I (x + (1 : Int)) ∧ m (x + (1 : Int)) < m x))) ∧
            (¬x < (↑p.Params.length : Int) → Q (decide ((20 : Int) < (↑p.Params.length : Int))))
set_option maxRecDepth 100000 in
theorem V69_ok {p : Prp} {Q : Bool → Prop} (h : V69 p Q) : vcFun (E := N30) (inlN an69 2) (an69 69) Tryd.f69 [.agg [.str p.Group, .str p.Name, .sl (N := U) 59 p.Params, .str p.Value]] [] [] 0 (resP N30 [.bool] Q) := Eq.mp (show V69 p Q = vcFun (E := N30) (inlN an69 2) (an69 69) Tryd.f69 [.agg [.str p.Group, .str p.Name, .sl (N := U) 59 p.Params, .str p.Value]] [] [] 0 (resP N30 [.bool] Q) by kernel_rfl) h
theorem many_long {p : Prp} {x : Int} (h0 : 0 ≤ x) (h1 : x < p.Params.length) (h : 20 < ((ix p.Params x).Values.length : Int)) : manyB p = true := by
  unfold manyB
  have : p.Params.any (fun x => decide (20 < x.Values.length)) = true := List.any_eq_true.2 ⟨_, mem_of_ix h0 h1, decide_eq_true (by omega)⟩
  rw [this]; simp
theorem many_twice {p : Prp} {x y : Int} (h0 : 0 ≤ y) (h1 : y < x) (h2 : x < p.Params.length) (h : (ix p.Params y).Name = (ix p.Params x).Name) : manyB p = true := by
  unfold manyB
  have : ¬ (p.Params.map Param.Name).Nodup := fun hn => by
    have hn : List.Pairwise (· ≠ ·) (p.Params.map Param.Name) := hn
    refine List.pairwise_iff_getElem.1 hn y.toNat x.toNat (by rw [List.length_map]; omega) (by rw [List.length_map]; omega) (by omega) ?_
    rw [ix_get (by omega), ix_get (by omega)] at h
    rw [List.getElem_map, List.getElem_map, h]
  rw [decide_eq_false this]; simp
theorem many_none {p : Prp} (h1 : ∀ x : Int, 0 ≤ x → x < p.Params.length → ¬ 20 < ((ix p.Params x).Values.length : Int)) (h2 : ∀ x y : Int, 0 ≤ y → y < x → x < p.Params.length → (ix p.Params y).Name ≠ (ix p.Params x).Name) : manyB p = decide (20 < (p.Params.length : Int)) := by
  unfold manyB
  have e1 : p.Params.any (fun x => decide (20 < x.Values.length)) = false := by
    rw [List.any_eq_false]
    intro x hx
    obtain ⟨j, hj, rfl⟩ := List.getElem_of_mem hx
    have := h1 j (by omega) (by omega)
    rw [ix_get (by simpa using hj)] at this
    simp only [Int.toNat_natCast] at this
    simp only [decide_eq_true_eq]
    omega
  have e2 : (p.Params.map Param.Name).Nodup := by
    show List.Pairwise (· ≠ ·) (p.Params.map Param.Name)
    rw [List.pairwise_iff_getElem]
    intro i j hi hj hij he
    rw [List.length_map] at hi hj
    have := h2 j i (by omega) (by omega) (by omega)
    rw [ix_get (by omega), ix_get (by omega)] at this
    rw [List.getElem_map, List.getElem_map] at he
    simp only [Int.toNat_natCast] at this
    exact this he
  rw [e1, decide_eq_true e2]
  simp only [Bool.or_false, Bool.not_true]
  exact decide_eq_decide.2 (by omega)
theorem p69 (p : Prp) (hs : p.Params.length ≤ 1000000000) : V69 p (fun y0 => y0 = manyB p) := by
  unfold V69
  refine ⟨fun x => 0 ≤ x ∧ x ≤ p.Params.length ∧ (∀ j : Int, 0 ≤ j → j < x → ¬ 20 < ((ix p.Params j).Values.length : Int)) ∧ ∀ i j : Int, 0 ≤ j → j < i → i < x → (ix p.Params j).Name ≠ (ix p.Params i).Name, fun x => ((p.Params.length : Int) - x).toNat, ⟨by omega, by omega, fun j _ _ => by omega, fun i j _ _ _ => by omega⟩, ?_⟩
  rintro x ⟨x0, x1, hx, hn⟩
  refine ⟨fun hi => ⟨x0, hi, fun hb => (many_long x0 hi hb).symm, fun hb => ⟨fun y => 0 ≤ y ∧ y ≤ x ∧ ∀ j : Int, 0 ≤ j → j < y → (ix p.Params j).Name ≠ (ix p.Params x).Name, fun y => (x - y).toNat, ⟨by omega, by omega, fun j _ _ => by omega⟩, ?_⟩⟩, fun hi => ?_⟩
  · rintro y ⟨y0, y1, hy⟩
    refine ⟨fun hj => ⟨y0, by omega, x0, hi, fun he => (many_twice y0 hj hi he).symm, fun he => ⟨⟨by omega, by omega⟩, ⟨by omega, by omega, fun j j0 j1 => ?_⟩, by dsimp only; omega⟩⟩, fun hj => ⟨⟨by omega, by omega⟩, ⟨by omega, by omega, fun j j0 j1 => ?_, fun i j j0 j1 i1 => ?_⟩, by dsimp only; omega⟩⟩
    · by_cases e : j = y
      · subst e; exact he
      · exact hy j j0 (by omega)
    · by_cases e : j = x
      · subst e; exact hb
      · exact hx j j0 (by omega)
    · by_cases e : i = x
      · subst e; exact hy j j0 (by omega)
      · exact hn i j j0 j1 (by omega)
  · exact (many_none (fun j j0 j1 => hx j j0 (by omega)) (fun i j j0 j1 i1 => hn i j j0 j1 (by omega))).symm
def c69s (p : Prp) : Q1 U := ⟨[List.length (α := Param) p.Params ≤ 1000000000], [], blB (manyB p)⟩
def c69 (a : List (SV U)) : Option (Q1 U) := match a with | [.agg [.str p0, .str p1, .sl 59 p2, .str p3]] => some (c69s (⟨p0, p1, p2, p3⟩)) | _ => none
set_option maxRecDepth 100000 in
theorem c69_ok (args : List (SV U)) (q : Q1 U) (h : c69 args = some q) (ho : allP q.ob) : LendOK N30 69 args ⟨q.ob, q.hy, q.v, []⟩ := by
  unfold c69 at h
  split at h
  · rename_i p0 p1 p2 p3
    cases h
    exact lend1 N30_ok (inlN_ok N30_ok an69 2) Tryd.func69 (k := .bool) trivial (V69_ok (p69 (⟨p0, p1, p2, p3⟩) ho.1)) 0
  · cases h
noncomputable def N69 : Env := N30.addL 69 c69
theorem N69_ok : EnvOK N69 := N30_ok.addL Tryd.call69 c69_ok
end Go.Proofs.YtadgfmmmdhlljaaDoor
end
section
namespace Go.Proofs.YtadgfmmmdhlljaaDoor
open Go Go.Wk Go.Wl Go.Rx Go.Fo Go.Li Go.Co 
noncomputable def NI79 : Env := N69.addI 79 Tryd.f79
theorem NI79_ok : EnvOK NI79 := N69_ok.addI Tryd.call79 Tryd.func79
end Go.Proofs.YtadgfmmmdhlljaaDoor
end
section
namespace Go.Proofs.YtadgfmmmdhlljaaDoor
open Go Go.Wk Go.Wl Go.Rx Go.Fo Go.Li Go.Co 
noncomputable def NI106 : Env := NI79.addI 106 Tryd.f106
theorem NI106_ok : EnvOK NI106 := NI79_ok.addI Tryd.call106 Tryd.func106
end Go.Proofs.YtadgfmmmdhlljaaDoor
end
section
namespace Go.Proofs.YtadgfmmmdhlljaaDoor
open Go Go.Wk Go.Wl Go.Rx Go.Fo Go.Li Go.Co 
noncomputable def NI107 : Env := NI106.addI 107 Tryd.f107
theorem NI107_ok : EnvOK NI107 := NI106_ok.addI Tryd.call107 Tryd.func107
end Go.Proofs.YtadgfmmmdhlljaaDoor
end
section
namespace Go.Proofs.YtadgfmmmdhlljaaDoor
open Go Go.Wk Go.Wl Go.Rx Go.Fo Go.Li Go.Co 
noncomputable def NI104 : Env := NI107.addI 104 Tryd.f104
theorem NI104_ok : EnvOK NI104 := NI107_ok.addI Tryd.call104 Tryd.func104
end Go.Proofs.YtadgfmmmdhlljaaDoor
end
section
namespace Go.Proofs.YtadgfmmmdhlljaaDoor
open Go Go.Wk Go.Wl Go.Rx Go.Fo Go.Li Go.Co 
def an102 : Nat → Ann := fun | 102 => ⟨27, fun _ => none, fun  | _ => none⟩ | _ => ⟨0, fun _ => none, fun _ => none⟩
def V102 (s : Str) (c : UInt8) (Q : Str → Bool → Prop) : Prop :=
(¬s = [] → (0 : Int) ≤ (0 : Int)) ∧
  (¬s = [] → (0 : Int) < (↑(List.length s) : Int)) ∧
    (s = [] ∨ ix s (0 : Int) ≠ c → Q s false) ∧ (¬(s = [] ∨ ix s (0 : Int) ≠ c) → (0 : Int) ≤ (1 : Int) ∧ (1 : Int) ≤ (↑(List.length s) : Int) ∧ Q (List.drop (Int.toNat (1 : Int)) s) true)
set_option maxRecDepth 100000 in
theorem V102_ok {s : Str} {c : UInt8} {Q : Str → Bool → Prop} (h : V102 s c Q) : vcFun (E := NI104) (inlN an102 2) (an102 102) Tryd.f102 [.ref 0 0, .byte c] [(0, .own 148 [.str s])] [] 1 (resM NI104 148 1 1 [.str, .bool] Q) := Eq.mp (show V102 s c Q = vcFun (E := NI104) (inlN an102 2) (an102 102) Tryd.f102 [.ref 0 0, .byte c] [(0, .own 148 [.str s])] [] 1 (resM NI104 148 1 1 [.str, .bool] Q) by kernel_rfl) h
theorem len_pos5 {α : Type} {s : List α} (h : ¬ s = []) : (0 : Int) < (s.length : Nat) := by
  have := List.length_pos_iff.2 h; omega
theorem p102 (s : Str) (c : UInt8)  : V102 s c (fun y0 y1 => y0 = (hdIs c s).getD s ∧ y1 = (hdIs c s).isSome) := by
  unfold V102
  refine ⟨fun _ => by omega, fun h => len_pos5 h, fun h => ?_, fun h => ?_⟩
  · rw [hdIs_none (h.imp id id)]; exact ⟨rfl, rfl⟩
  · have hs : s ≠ [] := fun e => h (.inl e)
    have hc : ix s 0 = c := Classical.not_not.1 fun e => h (.inr e)
    rw [hdIs_some hs hc]
    have := len_pos5 hs
    exact ⟨by omega, by omega, rfl, rfl⟩
def m102 : MC U := ⟨148, fun a ce => match a, ce with | [.byte c], [.str s] => some ⟨[], [], blB ((hdIs c s).isSome), [.str ((hdIs c s).getD s)]⟩ | _, _ => none⟩
set_option maxRecDepth 100000 in
theorem m102_ok (args cells : List (SV U)) (r : MR U) (h : m102.C args cells = some r) (ho : allP r.ob) : MutOK Tryd.prog U eT G0 102 m102.S args cells r := by
  unfold m102 at h
  simp only at h
  split at h
  · rename_i c s
    cases h
    exact mut_ok NI104_ok (inlN_ok NI104_ok an102 2) Tryd.func102 (m := 1) (n := 1) (ks := [.str, .bool]) (X := ((hdIs c s).getD s, (hdIs c s).isSome, ())) rfl (V102_ok (p102 s c ))
  · cases h
noncomputable def N102 : Env := NI104.addI 102 Tryd.f102
theorem N102_ok : EnvOK N102 := NI104_ok.addI Tryd.call102 Tryd.func102
def M102 : Nat → Option (MC U) := addF 102 m102 noM
theorem M102_ok : ∀ K o args cells r, M102 K = some o → o.C args cells = some r → allP r.ob → MutOK Tryd.prog U eT G0 K o.S args cells r := addM_ok m102_ok noM_ok
end Go.Proofs.YtadgfmmmdhlljaaDoor
end
section
namespace Go.Proofs.YtadgfmmmdhlljaaDoor
open Go Go.Wk Go.Wl Go.Rx Go.Fo Go.Li Go.Co 
def an101 : Nat → Ann := fun | 101 => ⟨13, fun _ => none, fun  | _ => none⟩ | 104 => ⟨42, fun | 2 => some ⟨[0, 1], [.slot 5 (.int .i64)]⟩ | _ => none, fun  | _ => none⟩ | _ => ⟨0, fun _ => none, fun _ => none⟩
def V101 (s : Str) (Q : Str → Str → Err → Prop) : Prop :=
∃ (I : Int → Prop),
  ∃ (m : Int → Nat),
    I (0 : Int) ∧
      ∀ (x : Int),
        I x →
          (x < (↑(List.length s) : Int) → (0 : Int) ≤ x) ∧
            (x < (↑(List.length s) : Int) → x < (↑(List.length s) : Int)) ∧
              (x < (↑(List.length s) : Int) ∧ letterB (ix s x) = true → in64 (x + (1 : Int)) ∧ I (x + (1 : Int)) ∧ m (x + (1 : Int)) < m x) ∧
                (¬(x < (↑(List.length s) : Int) ∧ letterB (ix s x) = true) →
                  (0 : Int) ≤ x ∧
                    x ≤ (↑(List.length s) : Int) ∧
                      (0 : Int) ≤ x ∧
                        x ≤ (↑(List.length s) : Int) ∧
                          (List.take x.toNat s = [] → Q (List.drop x.toNat s) [] (Err.w (153 : Nat) [(110 : UInt8), (97 : UInt8), (109 : UInt8), (101 : UInt8)] (Err.no (11 : Int)))) ∧
                            (¬List.take x.toNat s = [] → Q (List.drop x.toNat s) (upper (List.take x.toNat s)) Err.nil))
set_option maxRecDepth 100000 in
theorem V101_ok {s : Str} {Q : Str → Str → Err → Prop} (h : V101 s Q) : vcFun (E := N102) (inlMN N102 M102 an101 2) (an101 101) Tryd.f101 [.ref 0 0] [(0, .own 148 [.str s])] [] 1 (resM N102 148 1 2 [.str, .str, .err] Q) := Eq.mp (show V101 s Q = vcFun (E := N102) (inlMN N102 M102 an101 2) (an101 101) Tryd.f101 [.ref 0 0] [(0, .own 148 [.str s])] [] 1 (resM N102 148 1 2 [.str, .str, .err] Q) by kernel_rfl) h
theorem p101 (s : Str) (hs : s.length ≤ 1000000000) : V101 s (fun y0 y1 y2 => y0 = s.dropWhile letterB ∧ y1 = upper (s.takeWhile letterB) ∧ y2 = nE s) := by
  unfold V101
  refine ⟨fun i => 0 ≤ i ∧ i ≤ s.length ∧ ∀ j : Int, 0 ≤ j → j < i → letterB (ix s j) = true, fun i => ((s.length : Int) - i).toNat, ⟨by omega, by omega, fun j _ _ => by omega⟩, ?_⟩
  rintro i ⟨i0, i1, hi⟩
  refine ⟨fun _ => i0, fun h => h, fun ⟨h, hc⟩ => ⟨⟨by omega, by omega⟩, ⟨by omega, by omega, fun j j0 j1 => ?_⟩, by first | omega | (dsimp only; omega)⟩, fun he => ?_⟩
  · by_cases e : j = i
    · subst e; exact hc
    · exact hi j j0 (by omega)
  · obtain ⟨e1, e2⟩ := while_take i0 i1 hi he
    rw [e1, e2]
    refine ⟨i0, i1, i0, i1, fun h => ⟨rfl, ?_, ?_⟩, fun h => ⟨rfl, rfl, ?_⟩⟩
    · rw [h]; rfl
    · unfold nE whyE; rw [if_pos h]
    · unfold nE; rw [if_neg h]
def m101 : MC U := ⟨148, fun a ce => match a, ce with | [], [.str s] => some ⟨[List.length (α := UInt8) s ≤ 1000000000], [], .tup [.str (upper (s.takeWhile letterB)), .err (nE s)], [.str (s.dropWhile letterB)]⟩ | _, _ => none⟩
set_option maxRecDepth 100000 in
theorem m101_ok (args cells : List (SV U)) (r : MR U) (h : m101.C args cells = some r) (ho : allP r.ob) : MutOK Tryd.prog U eT G0 101 m101.S args cells r := by
  unfold m101 at h
  simp only at h
  split at h
  · rename_i s
    cases h
    exact mut_ok N102_ok (inlMN_ok N102_ok M102_ok an101 2) Tryd.func101 (m := 1) (n := 2) (ks := [.str, .str, .err]) (X := (s.dropWhile letterB, upper (s.takeWhile letterB), nE s, ())) rfl (V101_ok (p101 s ho.1))
  · cases h
noncomputable def N101 : Env := N102.addI 101 Tryd.f101
theorem N101_ok : EnvOK N101 := N102_ok.addI Tryd.call101 Tryd.func101
def M101 : Nat → Option (MC U) := addF 101 m101 M102
theorem M101_ok : ∀ K o args cells r, M101 K = some o → o.C args cells = some r → allP r.ob → MutOK Tryd.prog U eT G0 K o.S args cells r := addM_ok m101_ok M102_ok
end Go.Proofs.YtadgfmmmdhlljaaDoor
end
section
namespace Go.Proofs.YtadgfmmmdhlljaaDoor
open Go Go.Wk Go.Wl Go.Rx Go.Fo Go.Li Go.Co Go.Proofs Go.RowKit
def cIB (a : List (SV U)) : Option (Q1 U) := match a with | [.str s, .byte c] => some ⟨[], [], .int .i64 (Lib.indexByte s c)⟩ | _ => none
theorem cIBU (args : List (SV U)) (q : Q1 U) (h : cIB args = some q) : LendU 134 args q := by
  unfold cIB at h
  split at h
  · rename_i s c
    cases h
    intro D w vs ha
    obtain ⟨v1, r1, rfl, h1, ha⟩ := Rep.tup_cons ha
    obtain ⟨v2, r2, rfl, h2, ha⟩ := Rep.tup_cons ha
    obtain rfl := tup0_inv ha
    cases h1 with | str hl =>
    cases h2 with | byte =>
    intro w1 hs
    have run := Tryd.strings_IndexByte ⟨s.toArray⟩ (c.toNat : Int) w1
    have ec : ((c.toNat : Int)).toNat.toUInt8 = c := by simp
    rw [ec] at run
    refine Calls.mono run fun e w2 ⟨g1, g2⟩ => ?_
    subst g2
    have h1 : -1 ≤ Lib.indexByte (⟨s.toArray⟩ : ByteArray).data.toList c := Lib.indexByte_ge s c
    have h2 : Lib.indexByte (⟨s.toArray⟩ : ByteArray).data.toList c < s.length := indexByte_lt s c
    exact ⟨_, w2, g1, Sim.refl _, sim_ext hs (Ext.refl _ _), .int fun _ => ⟨by omega, by omega⟩, trivial⟩
  · cases h
noncomputable def NIB : Env := N101.addL 134 cIB
theorem NIB_ok : EnvOK NIB := N101_ok.addL Tryd.call134 (fun a q h _ D w vs _ _ ha => cIBU a q h D w vs ha)
end Go.Proofs.YtadgfmmmdhlljaaDoor
end
section
namespace Go.Proofs.YtadgfmmmdhlljaaDoor
open Go Go.Wk Go.Wl Go.Rx Go.Fo Go.Li Go.Co 
def an133 : Nat → Ann := fun | 133 => ⟨10, fun _ => none, fun  | _ => none⟩ | _ => ⟨0, fun _ => none, fun _ => none⟩
def V133 (c : UInt8) (Q : Bool → Prop) : Prop :=
Q (decide (standsB c = true ∧ Lib.indexByte [(34 : UInt8), (59 : UInt8), (58 : UInt8), (44 : UInt8)] c < (0 : Int)))
set_option maxRecDepth 100000 in
theorem V133_ok {c : UInt8} {Q : Bool → Prop} (h : V133 c Q) : vcFun (E := NIB) (inlMN NIB M101 an133 2) (an133 133) Tryd.f133 [.byte c] [] [] 0 (resP NIB [.bool] Q) := Eq.mp (show V133 c Q = vcFun (E := NIB) (inlMN NIB M101 an133 2) (an133 133) Tryd.f133 [.byte c] [] [] 0 (resP NIB [.bool] Q) by kernel_rfl) h
theorem special8 (c : UInt8) : decide (Lib.indexByte [34, 59, 58, 44] c < 0) = !(c == 34 || c == 59 || c == 58 || c == 44) :=
  all8 (P := fun c => decide (Lib.indexByte [34, 59, 58, 44] c < 0) = !(c == 34 || c == 59 || c == 58 || c == 44)) (by decide +kernel) c
theorem p133 (c : UInt8)  : V133 c (fun y0 => y0 = plainB c) := by
  unfold V133
  show _ = _
  unfold plainB
  rw [← special8, Bool.decide_and, Bool.decide_eq_true]
def c133 (a : List (SV U)) : Option (Q1 U) := match a with | [.byte c] => some ⟨[], [], blB (plainB c)⟩ | _ => none
set_option maxRecDepth 100000 in
theorem c133_ok (args : List (SV U)) (q : Q1 U) (h : c133 args = some q) (ho : allP q.ob) : LendOK NIB 133 args ⟨q.ob, q.hy, q.v, []⟩ := by
  unfold c133 at h
  split at h
  · rename_i c
    cases h
    exact lend1 NIB_ok (inlMN_ok NIB_ok M101_ok an133 2) Tryd.func133 (k := .bool) (x := plainB c) trivial (V133_ok (p133 c )) 0
  · cases h
noncomputable def N133 : Env := NIB.addL 133 c133
theorem N133_ok : EnvOK N133 := NIB_ok.addL Tryd.call133 c133_ok
end Go.Proofs.YtadgfmmmdhlljaaDoor
end
section
namespace Go.Proofs.YtadgfmmmdhlljaaDoor
open Go Go.Wk Go.Wl Go.Rx Go.Fo Go.Li Go.Co 
def an135 : Nat → Ann := fun | 135 => ⟨9, fun _ => none, fun  | _ => none⟩ | _ => ⟨0, fun _ => none, fun _ => none⟩
def V135 (c : UInt8) (Q : Bool → Prop) : Prop :=
Q (decide (standsB c = true ∧ c ≠ (34 : UInt8)))
set_option maxRecDepth 100000 in
theorem V135_ok {c : UInt8} {Q : Bool → Prop} (h : V135 c Q) : vcFun (E := N133) (inlMN N133 M101 an135 2) (an135 135) Tryd.f135 [.byte c] [] [] 0 (resP N133 [.bool] Q) := Eq.mp (show V135 c Q = vcFun (E := N133) (inlMN N133 M101 an135 2) (an135 135) Tryd.f135 [.byte c] [] [] 0 (resP N133 [.bool] Q) by kernel_rfl) h
theorem p135 (c : UInt8)  : V135 c (fun y0 => y0 = inB c) := by
  unfold V135
  show _ = _
  unfold inB
  rw [bne, beq_dec, Bool.decide_and, Bool.decide_eq_true]
  simp only [ne_eq, decide_not]
def c135 (a : List (SV U)) : Option (Q1 U) := match a with | [.byte c] => some ⟨[], [], blB (inB c)⟩ | _ => none
set_option maxRecDepth 100000 in
theorem c135_ok (args : List (SV U)) (q : Q1 U) (h : c135 args = some q) (ho : allP q.ob) : LendOK N133 135 args ⟨q.ob, q.hy, q.v, []⟩ := by
  unfold c135 at h
  split at h
  · rename_i c
    cases h
    exact lend1 N133_ok (inlMN_ok N133_ok M101_ok an135 2) Tryd.func135 (k := .bool) (x := inB c) trivial (V135_ok (p135 c )) 0
  · cases h
noncomputable def N135 : Env := N133.addL 135 c135
theorem N135_ok : EnvOK N135 := N133_ok.addL Tryd.call135 c135_ok
end Go.Proofs.YtadgfmmmdhlljaaDoor
end
section
namespace Go.Proofs.YtadgfmmmdhlljaaDoor
open Go Go.Wk Go.Wl Go.Rx Go.Fo Go.Li Go.Co 
def an121 : Nat → Ann := fun | 121 => ⟨20, fun _ => none, fun  | _ => none⟩ | 104 => ⟨42, fun | 2 => some ⟨[0, 1], [.slot 5 (.int .i64)]⟩ | _ => none, fun  | _ => none⟩ | _ => ⟨0, fun _ => none, fun _ => none⟩
def V121 (s : Str) (Q : Str → Str → Err → Prop) : Prop :=
(¬(hdIs (34 : UInt8) s).isSome = true →
    ∃ (I : Int → Prop),
      ∃ (m : Int → Nat),
        I (0 : Int) ∧
          ∀ (x : Int),
            I x →
              (x < (↑(List.length ((hdIs (34 : UInt8) s).getD s)) : Int) → (0 : Int) ≤ x) ∧
                (x < (↑(List.length ((hdIs (34 : UInt8) s).getD s)) : Int) → x < (↑(List.length ((hdIs (34 : UInt8) s).getD s)) : Int)) ∧
                  (x < (↑(List.length ((hdIs (34 : UInt8) s).getD s)) : Int) ∧ plainB (ix ((hdIs (34 : UInt8) s).getD s) x) = true →
                      in64 (x + (1 : Int)) ∧ I (x + (1 : Int)) ∧ m (x + (1 : Int)) < m x) ∧
                    (¬(x < (↑(List.length ((hdIs (34 : UInt8) s).getD s)) : Int) ∧ plainB (ix ((hdIs (34 : UInt8) s).getD s) x) = true) →
                      (0 : Int) ≤ x ∧
                        x ≤ (↑(List.length ((hdIs (34 : UInt8) s).getD s)) : Int) ∧
                          (0 : Int) ≤ x ∧
                            x ≤ (↑(List.length ((hdIs (34 : UInt8) s).getD s)) : Int) ∧
                              (List.take x.toNat ((hdIs (34 : UInt8) s).getD s)).length ≤ (100000000 : Nat) ∧
                                Q (List.drop x.toNat ((hdIs (34 : UInt8) s).getD s)) (said (List.take x.toNat ((hdIs (34 : UInt8) s).getD s))) Err.nil)) ∧
  (¬¬(hdIs (34 : UInt8) s).isSome = true →
    ∃ (I : Int → Prop),
      ∃ (m : Int → Nat),
        I (0 : Int) ∧
          ∀ (x : Int),
            I x →
              (x < (↑(List.length ((hdIs (34 : UInt8) s).getD s)) : Int) → (0 : Int) ≤ x) ∧
                (x < (↑(List.length ((hdIs (34 : UInt8) s).getD s)) : Int) → x < (↑(List.length ((hdIs (34 : UInt8) s).getD s)) : Int)) ∧
                  (x < (↑(List.length ((hdIs (34 : UInt8) s).getD s)) : Int) ∧ inB (ix ((hdIs (34 : UInt8) s).getD s) x) = true → in64 (x + (1 : Int)) ∧ I (x + (1 : Int)) ∧ m (x + (1 : Int)) < m x) ∧
                    (¬(x < (↑(List.length ((hdIs (34 : UInt8) s).getD s)) : Int) ∧ inB (ix ((hdIs (34 : UInt8) s).getD s) x) = true) →
                      (0 : Int) ≤ x ∧
                        x ≤ (↑(List.length ((hdIs (34 : UInt8) s).getD s)) : Int) ∧
                          (0 : Int) ≤ x ∧
                            x ≤ (↑(List.length ((hdIs (34 : UInt8) s).getD s)) : Int) ∧
                              (¬(hdIs (34 : UInt8) (List.drop x.toNat ((hdIs (34 : UInt8) s).getD s))).isSome = true →
                                  Q ((hdIs (34 : UInt8) (List.drop x.toNat ((hdIs (34 : UInt8) s).getD s))).getD (List.drop x.toNat ((hdIs (34 : UInt8) s).getD s))) []
                                    (Err.w (153 : Nat) [(113 : UInt8), (117 : UInt8), (111 : UInt8), (116 : UInt8), (101 : UInt8), (100 : UInt8)] (Err.no (11 : Int)))) ∧
                                (¬¬(hdIs (34 : UInt8) (List.drop x.toNat ((hdIs (34 : UInt8) s).getD s))).isSome = true →
                                  (List.take x.toNat ((hdIs (34 : UInt8) s).getD s)).length ≤ (100000000 : Nat) ∧
                                    Q ((hdIs (34 : UInt8) (List.drop x.toNat ((hdIs (34 : UInt8) s).getD s))).getD (List.drop x.toNat ((hdIs (34 : UInt8) s).getD s)))
                                      (said (List.take x.toNat ((hdIs (34 : UInt8) s).getD s))) Err.nil)))
set_option maxRecDepth 100000 in
theorem V121_ok {s : Str} {Q : Str → Str → Err → Prop} (h : V121 s Q) : vcFun (E := N135) (inlMN N135 M101 an121 2) (an121 121) Tryd.f121 [.ref 0 0] [(0, .own 148 [.str s])] [] 1 (resM N135 148 1 2 [.str, .str, .err] Q) := Eq.mp (show V121 s Q = vcFun (E := N135) (inlMN N135 M101 an121 2) (an121 121) Tryd.f121 [.ref 0 0] [(0, .own 148 [.str s])] [] 1 (resM N135 148 1 2 [.str, .str, .err] Q) by kernel_rfl) h
theorem p121 (s : Str) (hs : s.length ≤ 100000000) : V121 s (fun y0 y1 y2 => y0 = (gV s).2.2 ∧ y1 = (gV s).1 ∧ y2 = (gV s).2.1) := by
  unfold V121
  unfold gV
  cases h1 : hdIs 34 s with
  | none =>
    simp only [Option.isSome_none, Option.getD_none]
    refine ⟨fun _ => ?_, fun h => absurd (by decide) h⟩
    refine ⟨fun i => 0 ≤ i ∧ i ≤ s.length ∧ ∀ j : Int, 0 ≤ j → j < i → plainB (ix s j) = true, fun i => ((s.length : Int) - i).toNat, ⟨by omega, by omega, fun j _ _ => by omega⟩, ?_⟩
    rintro i ⟨i0, i1, hi⟩
    refine ⟨fun _ => i0, fun h => h, fun ⟨h, hc⟩ => ⟨⟨by omega, by omega⟩, ⟨by omega, by omega, fun j j0 j1 => ?_⟩, by first | omega | (dsimp only; omega)⟩, fun he => ?_⟩
    · by_cases e : j = i
      · subst e; exact hc
      · exact hi j j0 (by omega)
    · obtain ⟨e1, e2⟩ := while_take i0 i1 hi he
      have l1 : (s.take i.toNat).length ≤ s.length := by rw [List.length_take]; omega
      rw [e1] at l1
      rw [e1, e2]
      exact ⟨i0, i1, i0, i1, by omega, by first | rfl | trivial, by first | rfl | trivial, by first | rfl | trivial⟩
  | some r =>
    have hr := hdIs_len h1
    simp only [Option.isSome_some, Option.getD_some]
    refine ⟨fun h => absurd (by decide) h, fun _ => ?_⟩
    refine ⟨fun i => 0 ≤ i ∧ i ≤ r.length ∧ ∀ j : Int, 0 ≤ j → j < i → inB (ix r j) = true, fun i => ((r.length : Int) - i).toNat, ⟨by omega, by omega, fun j _ _ => by omega⟩, ?_⟩
    rintro i ⟨i0, i1, hi⟩
    refine ⟨fun _ => i0, fun h => h, fun ⟨h, hc⟩ => ⟨⟨by omega, by omega⟩, ⟨by omega, by omega, fun j j0 j1 => ?_⟩, by first | omega | (dsimp only; omega)⟩, fun he => ?_⟩
    · by_cases e : j = i
      · subst e; exact hc
      · exact hi j j0 (by omega)
    · obtain ⟨e1, e2⟩ := while_take i0 i1 hi he
      have l1 : (r.take i.toNat).length ≤ r.length := by rw [List.length_take]; omega
      rw [e1] at l1
      rw [e1, e2]
      skip
      cases h2 : hdIs 34 (r.dropWhile inB) with
      | none =>
        simp only [Option.isSome_none, Option.getD_none]
        exact ⟨i0, i1, i0, i1, fun _ => ⟨by first | rfl | trivial, by first | rfl | trivial, by first | rfl | trivial⟩, fun h => absurd (by decide) h⟩
      | some t =>
        simp only [Option.isSome_some, Option.getD_some]
        exact ⟨i0, i1, i0, i1, fun h => absurd (by decide) h, fun _ => ⟨by omega, by first | rfl | trivial, by first | rfl | trivial, by first | rfl | trivial⟩⟩
def m121 : MC U := ⟨148, fun a ce => match a, ce with | [], [.str s] => some ⟨[List.length (α := UInt8) s ≤ 100000000], [], .tup [.str ((gV s).1), .err ((gV s).2.1)], [.str ((gV s).2.2)]⟩ | _, _ => none⟩
set_option maxRecDepth 100000 in
theorem m121_ok (args cells : List (SV U)) (r : MR U) (h : m121.C args cells = some r) (ho : allP r.ob) : MutOK Tryd.prog U eT G0 121 m121.S args cells r := by
  unfold m121 at h
  simp only at h
  split at h
  · rename_i s
    cases h
    exact mut_ok N135_ok (inlMN_ok N135_ok M101_ok an121 2) Tryd.func121 (m := 1) (n := 2) (ks := [.str, .str, .err]) (X := ((gV s).2.2, (gV s).1, (gV s).2.1, ())) rfl (V121_ok (p121 s ho.1))
  · cases h
noncomputable def N121 : Env := N135.addI 121 Tryd.f121
theorem N121_ok : EnvOK N121 := N135_ok.addI Tryd.call121 Tryd.func121
def M121 : Nat → Option (MC U) := addF 121 m121 M101
theorem M121_ok : ∀ K o args cells r, M121 K = some o → o.C args cells = some r → allP r.ob → MutOK Tryd.prog U eT G0 K o.S args cells r := addM_ok m121_ok M101_ok
end Go.Proofs.YtadgfmmmdhlljaaDoor
end
section
namespace Go.Proofs.YtadgfmmmdhlljaaDoor
open Go Go.Wk Go.Wl Go.Rx Go.Fo Go.Li Go.Co 
def an65 : Nat → Ann := fun | 65 => ⟨30, fun | 2 => some ⟨[1, 6, 7], [.slot 8 (.int .i64)]⟩ | _ => none, fun  | _ => none⟩ | 106 => ⟨9, fun _ => none, fun  | _ => none⟩ | 79 => ⟨19, fun | 2 => some ⟨[0, 1, 7], [.slot 8 (.int .i64)]⟩ | _ => none, fun  | _ => none⟩ | 107 => ⟨9, fun _ => none, fun  | _ => none⟩ | _ => ⟨0, fun _ => none, fun _ => none⟩
def V65 (p : Prp) (Q : Bool → Prop) : Prop :=
∃ (I : Int → Prop),
  ∃ (m : Int → Nat),
    I (0 : Int) ∧
      ∀ (x : Int),
        I x →
          (x < (↑p.Params.length : Int) →
              (0 : Int) ≤ x ∧
                x < (↑p.Params.length : Int) ∧
                  ((20 : Int) < (↑(ix p.Params x).Values.length : Int) → Q true) ∧
                    (¬(20 : Int) < (↑(ix p.Params x).Values.length : Int) →
                      (0 : Int) ≤ x ∧
                        x ≤ (↑p.Params.length : Int) ∧
                          ∃ (I_1 : Int → Prop),
                            ∃ (m_1 : Int → Nat),
                              I_1 (0 : Int) ∧
                                ∀ (x_1 : Int),
                                  I_1 x_1 →
                                    (x_1 < (↑(List.take x.toNat p.Params).length : Int) →
                                        (0 : Int) ≤ x_1 ∧
                                          x_1 < (↑(List.take x.toNat p.Params).length : Int) ∧
                                            ((ix (List.take x.toNat p.Params) x_1).Name = (ix p.Params x).Name →
                                                ((0 : Int) ≤ x_1 → Q true) ∧ (¬(0 : Int) ≤ x_1 → in64 (x + (1 : Int)) ∧ I (x + (1 : Int)) ∧ m (x + (1 : Int)) < m x)) ∧
                                              (¬(ix (List.take x.toNat p.Params) x_1).Name = (ix p.Params x).Name → in64 (x_1 + (1 : Int)) ∧ I_1 (x_1 + (1 : Int)) ∧ m_1 (x_1 + (1 : Int)) < m_1 x_1)) ∧
                                      (¬x_1 < (↑(List.take x.toNat p.Params).length : Int) →
                                        ((0 : Int) ≤ (-1 : Int) → Q true) ∧ (¬(0 : Int) ≤ (-1 : Int) → in64 (x + (1 : Int)) ∧ I (x + (1 : Int)) ∧ m (x + (1 : Int)) < m x)))) ∧
            (¬x < (↑p.Params.length : Int) → Q (decide ((20 : Int) < (↑p.Params.length : Int))))
set_option maxRecDepth 100000 in
theorem V65_ok {p : Prp} {Q : Bool → Prop} (h : V65 p Q) : vcFun (E := N121) (inlMN N121 M121 an65 4) (an65 65) Tryd.f65 [.agg [.str p.Group, .str p.Name, .sl (N := U) 59 p.Params, .str p.Value]] [] [] 0 (resP N121 [.bool] Q) := Eq.mp (show V65 p Q = vcFun (E := N121) (inlMN N121 M121 an65 4) (an65 65) Tryd.f65 [.agg [.str p.Group, .str p.Name, .sl (N := U) 59 p.Params, .str p.Value]] [] [] 0 (resP N121 [.bool] Q) by kernel_rfl) h
theorem ix_take {α : Type} [Inhabited α] {l : List α} {n : Nat} {j : Int} (h0 : 0 ≤ j) (h1 : j < n) : ix (l.take n) j = ix l j := by
  unfold ix
  rw [List.getD_eq_getElem?_getD, List.getD_eq_getElem?_getD, List.getElem?_take_of_lt (by omega)]
theorem p65 (p : Prp) (hs : p.Params.length ≤ 1000000000) : V65 p (fun y0 => y0 = manyB p) := by
  unfold V65
  refine ⟨fun x => 0 ≤ x ∧ x ≤ p.Params.length ∧ (∀ j : Int, 0 ≤ j → j < x → ¬ 20 < ((ix p.Params j).Values.length : Int)) ∧ ∀ i j : Int, 0 ≤ j → j < i → i < x → (ix p.Params j).Name ≠ (ix p.Params i).Name, fun x => ((p.Params.length : Int) - x).toNat, ⟨by omega, by omega, fun j _ _ => by omega, fun i j _ _ _ => by omega⟩, ?_⟩
  rintro x ⟨x0, x1, hx, hn⟩
  refine ⟨fun hi => ⟨x0, hi, fun hb => (many_long x0 hi hb).symm, fun hb => ⟨x0, x1, fun y => 0 ≤ y ∧ y ≤ x ∧ ∀ j : Int, 0 ≤ j → j < y → (ix p.Params j).Name ≠ (ix p.Params x).Name, fun y => (x - y).toNat, ⟨by omega, by omega, fun j _ _ => by omega⟩, ?_⟩⟩, fun hi => ?_⟩
  · rintro y ⟨y0, y1, hy⟩
    have lt : ((List.take x.toNat p.Params).length : Int) = x := by rw [List.length_take]; omega
    rw [lt]
    refine ⟨fun hj => ?_, fun hj => ⟨fun h => by omega, fun _ => ⟨⟨by omega, by omega⟩, ⟨by omega, by omega, fun j j0 j1 => ?_, fun i j j0 j1 i1 => ?_⟩, by first | omega | (dsimp only; omega)⟩⟩⟩
    · rw [ix_take y0 (by omega)]
      refine ⟨y0, hj, fun he => ⟨fun _ => (many_twice y0 hj hi he).symm, fun h => absurd y0 h⟩, fun he => ⟨⟨by omega, by omega⟩, ⟨by omega, by omega, fun j j0 j1 => ?_⟩, by first | omega | (dsimp only; omega)⟩⟩
      by_cases e : j = y
      · subst e; exact he
      · exact hy j j0 (by omega)
    · by_cases e : j = x
      · subst e; exact hb
      · exact hx j j0 (by omega)
    · by_cases e : i = x
      · subst e; exact hy j j0 (by omega)
      · exact hn i j j0 j1 (by omega)
  · exact (many_none (fun j j0 j1 => hx j j0 (by omega)) (fun i j j0 j1 i1 => hn i j j0 j1 (by omega))).symm
def c65s (p : Prp) : Q1 U := ⟨[List.length (α := Param) p.Params ≤ 1000000000], [], blB (manyB p)⟩
def c65 (a : List (SV U)) : Option (Q1 U) := match a with | [.agg [.str p0, .str p1, .sl 59 p2, .str p3]] => some (c65s (⟨p0, p1, p2, p3⟩)) | _ => none
set_option maxRecDepth 100000 in
theorem c65_ok (args : List (SV U)) (q : Q1 U) (h : c65 args = some q) (ho : allP q.ob) : LendOK N121 65 args ⟨q.ob, q.hy, q.v, []⟩ := by
  unfold c65 at h
  split at h
  · rename_i p0 p1 p2 p3
    cases h
    exact lend1 N121_ok (inlMN_ok N121_ok M121_ok an65 4) Tryd.func65 (k := .bool) trivial (V65_ok (p65 (⟨p0, p1, p2, p3⟩) ho.1)) 0
  · cases h
noncomputable def N65 : Env := N121.addL 65 c65
theorem N65_ok : EnvOK N65 := N121_ok.addL Tryd.call65 c65_ok
end Go.Proofs.YtadgfmmmdhlljaaDoor
end
section
namespace Go.Proofs.YtadgfmmmdhlljaaDoor
open Go Go.Wk Go.Wl Go.Rx Go.Fo Go.Li Go.Co 
def an103 : Nat → Ann := fun | 103 => ⟨45, fun | 7 => some ⟨[0, 2, 6], [.own 0 [.str], .own 2 [.str, (.acc 9)], .own 6 [.str, (.acc 9)]]⟩ | _ => none, fun  | _ => none⟩ | _ => ⟨0, fun _ => none, fun _ => none⟩
def V103 (s : Str) (Q : Str → Param → Err → Prop) : Prop :=
List.length s ≤ (1000000000 : Nat) ∧
  (nE s ≠ Err.nil → Q (List.dropWhile letterB s) (Param.mk [] []) (nE s)) ∧
    (¬nE s ≠ Err.nil →
      (¬(hdIs (61 : UInt8) (List.dropWhile letterB s)).isSome = true →
          Q ((hdIs (61 : UInt8) (List.dropWhile letterB s)).getD (List.dropWhile letterB s)) (Param.mk [] [])
            (Err.w (153 : Nat) [(112 : UInt8), (97 : UInt8), (114 : UInt8), (97 : UInt8), (109 : UInt8)] (Err.no (11 : Int)))) ∧
        (¬¬(hdIs (61 : UInt8) (List.dropWhile letterB s)).isSome = true →
          ∃ (I : List UInt8 → List UInt8 → List (List UInt8) → List UInt8 → List (List UInt8) → Prop),
            ∃ (m : List UInt8 → List UInt8 → List (List UInt8) → List UInt8 → List (List UInt8) → Nat),
              I ((hdIs (61 : UInt8) (List.dropWhile letterB s)).getD (List.dropWhile letterB s)) [] [] (upper (List.takeWhile letterB s)) [] ∧
                ∀ (x x_1 : List UInt8) (x_2 : List (List UInt8)) (x_3 : List UInt8) (x_4 : List (List UInt8)),
                  I x x_1 x_2 x_3 x_4 →
                    x.length ≤ (100000000 : Nat) ∧
                      ((gV x).snd.fst ≠ Err.nil → Q (gV x).snd.snd (Param.mk x_3 x_4) (gV x).snd.fst) ∧
                        (¬(gV x).snd.fst ≠ Err.nil →
                          (x_4.length + [(gV x).fst].length) * (some (16 : Nat)).getD (0 : Nat) ≤ (140737488355328 : Nat) ∧
                            (¬(hdIs (44 : UInt8) (gV x).snd.snd).isSome = true → Q ((hdIs (44 : UInt8) (gV x).snd.snd).getD (gV x).snd.snd) (Param.mk x_3 (x_4 ++ [(gV x).fst])) Err.nil) ∧
                              (¬¬(hdIs (44 : UInt8) (gV x).snd.snd).isSome = true →
                                I ((hdIs (44 : UInt8) (gV x).snd.snd).getD (gV x).snd.snd) x_1 x_2 x_3 (x_4 ++ [(gV x).fst]) ∧
                                  m ((hdIs (44 : UInt8) (gV x).snd.snd).getD (gV x).snd.snd) x_1 x_2 x_3 (x_4 ++ [(gV x).fst]) < m x x_1 x_2 x_3 x_4))))
set_option maxRecDepth 100000 in
theorem V103_ok {s : Str} {Q : Str → Param → Err → Prop} (h : V103 s Q) : vcFun (E := N65) (inlMN N65 M121 an103 2) (an103 103) Tryd.f103 [.ref 0 0] [(0, .own 148 [.str s])] [] 1 (resM N65 148 1 2 [.str, .val 59, .err] Q) := Eq.mp (show V103 s Q = vcFun (E := N65) (inlMN N65 M121 an103 2) (an103 103) Tryd.f103 [.ref 0 0] [(0, .own 148 [.str s])] [] 1 (resM N65 148 1 2 [.str, .val 59, .err] Q) by kernel_rfl) h
theorem p103 (s : Str) (hs : s.length ≤ 100000000) : V103 s (fun y0 y1 y2 => y0 = (gP s).2.2 ∧ y1 = (gP s).1 ∧ y2 = (gP s).2.1) := by
  unfold V103
  have hd := drop_len letterB s
  refine ⟨by omega, fun he => ?_, fun he => ?_⟩
  · rw [gP_err he]; exact ⟨rfl, rfl, rfl⟩
  have he : nE s = .nil := Classical.not_not.1 he
  refine ⟨fun h1 => ?_, fun h1 => ?_⟩
  · have h1 : hdIs 61 (s.dropWhile letterB) = none := by simpa using h1
    rw [h1, gP_no he h1]; exact ⟨rfl, rfl, rfl⟩
  obtain ⟨t, h1⟩ := Option.isSome_iff_exists.1 (Classical.not_not.1 h1)
  have ht := hdIs_len h1
  rw [h1, gP_on he h1]
  simp only [Option.getD_some]
  refine ⟨fun x a b n vs => a = [] ∧ b = [] ∧ n = upper (s.takeWhile letterB) ∧ vs.length + x.length ≤ s.length ∧ ∃ k, x.length < k ∧ vs ++ (gVs k x).1 = (gVs (t.length + 1) t).1 ∧ (gVs k x).2 = (gVs (t.length + 1) t).2, fun x _ _ _ _ => x.length, ⟨rfl, rfl, rfl, by simp; omega, t.length + 1, by omega, rfl, rfl⟩, ?_⟩
  rintro x a b n vs ⟨rfl, rfl, rfl, hl, k, hk, h2, h3⟩
  obtain ⟨k, rfl⟩ : ∃ j, k = j + 1 := ⟨k - 1, by omega⟩
  have gl := gV_len x
  refine ⟨by omega, fun hv => ?_, fun hv => ⟨by simp; omega, fun h4 => ?_, fun h4 => ?_⟩⟩
  · rw [gVs_err hv] at h2 h3
    rw [← h2, ← h3]; simp
  · have hv : (gV x).2.1 = .nil := Classical.not_not.1 hv
    have h4 : hdIs 44 (gV x).2.2 = none := by simpa using h4
    rw [gVs_end hv h4] at h2 h3
    rw [← h2, ← h3, h4]; simp
  · have hv : (gV x).2.1 = .nil := Classical.not_not.1 hv
    obtain ⟨u, h4⟩ := Option.isSome_iff_exists.1 (Classical.not_not.1 h4)
    have hu := hdIs_len h4
    rw [gVs_on hv h4] at h2 h3
    rw [h4]
    simp only [Option.getD_some]
    refine ⟨⟨by first | rfl | trivial, by first | rfl | trivial, by first | rfl | trivial, by simp; omega, k, by omega, by rw [← h2]; simp, h3⟩, by omega⟩
def m103 : MC U := ⟨148, fun a ce => match a, ce with | [], [.str s] => some ⟨[List.length (α := UInt8) s ≤ 100000000], [], .tup [.agg [.str ((gP s).1).Name, .sl 9 ((gP s).1).Values], .err ((gP s).2.1)], [.str ((gP s).2.2)]⟩ | _, _ => none⟩
set_option maxRecDepth 100000 in
theorem m103_ok (args cells : List (SV U)) (r : MR U) (h : m103.C args cells = some r) (ho : allP r.ob) : MutOK Tryd.prog U eT G0 103 m103.S args cells r := by
  unfold m103 at h
  simp only at h
  split at h
  · rename_i s
    cases h
    exact mut_ok N65_ok (inlMN_ok N65_ok M121_ok an103 2) Tryd.func103 (m := 1) (n := 2) (ks := [.str, .val 59, .err]) (X := ((gP s).2.2, (gP s).1, (gP s).2.1, ())) rfl (V103_ok (p103 s ho.1))
  · cases h
noncomputable def N103 : Env := N65.addI 103 Tryd.f103
theorem N103_ok : EnvOK N103 := N65_ok.addI Tryd.call103 Tryd.func103
def M103 : Nat → Option (MC U) := addF 103 m103 M121
theorem M103_ok : ∀ K o args cells r, M103 K = some o → o.C args cells = some r → allP r.ob → MutOK Tryd.prog U eT G0 K o.S args cells r := addM_ok m103_ok M121_ok
end Go.Proofs.YtadgfmmmdhlljaaDoor
end
section
namespace Go.Proofs.YtadgfmmmdhlljaaDoor
open Go Go.Wk Go.Wl Go.Rx Go.Fo Go.Li Go.Co 
noncomputable def NI64 : Env := N103.addI 64 Tryd.f64
theorem NI64_ok : EnvOK NI64 := N103_ok.addI Tryd.call64 Tryd.func64
end Go.Proofs.YtadgfmmmdhlljaaDoor
end
section
namespace Go.Rx
open Go Go.Wk Go.Wl
def HZ (E : Env) (inl : Inl E) (an : Ann) (fn : Func) (args : List E.SV) (n : Nat) (ks : List VK) (X : Vals E.N ks) : Prop := vcFun inl an fn args [] [] 0 (resZ E n ks (eqs E.N ks X []))
theorem conH {E : Env} {inl : Inl E} {nx K n : Nat} {fn : Func} {an : Ann} {ks : List VK} {X : Vals E.N ks} {args : List E.SV} {ob : List Prop} (hE : EnvOK E) (hI : InlOK E inl) (hf : E.P.funcs[K]? = some fn) (hk : ks.all noAcc = true) (hp : args.all pureS = true)
    (hv : HZ E inl an fn args n ks X) : ConOK E.P E.N E.T E.G K args nx ⟨ob, [], tellA n (tell E ks X), []⟩ := conZ hE hI hf hk hp hv
end Go.Rx
end
section
namespace Go.Proofs.YtadgfmmmdhlljaaDoor
open Go Go.Wk Go.Wl Go.Rx Go.Fo Go.Li Go.Co 
def an28 : Nat → Ann := fun | 28 => ⟨23, fun _ => none, fun  | _ => none⟩ | 64 => ⟨72, fun | 10 => some ⟨[2, 4, 5], [.own 2 [.str, .str, (.acc 59), .str], .own 4 [.str], .own 5 [.str, .str, (.acc 59), .str]]⟩ | _ => none, fun | 7 => some ⟨[2, 3, 4, 5], [.slot 6 .str, .slot 7 .err, .own 4 [.str], .own 5 [.str, .str, (.acc 59), .str]]⟩ | _ => none⟩ | 104 => ⟨42, fun | 2 => some ⟨[0, 1], [.slot 5 (.int .i64)]⟩ | _ => none, fun  | _ => none⟩ | _ => ⟨0, fun _ => none, fun _ => none⟩
def V28 (s : Str) (Q : Prp → Err → Prop) : Prop :=
List.length s ≤ (1000000000 : Nat) ∧
  ∃ (J : List UInt8 → Err → List UInt8 → List UInt8 → List UInt8 → List Param → List UInt8 → Prop),
    ((nE s = Err.nil →
          ((hdIs (46 : UInt8) (List.dropWhile letterB s)).isSome = true →
              List.length ((hdIs (46 : UInt8) (List.dropWhile letterB s)).getD (List.dropWhile letterB s)) ≤ (1000000000 : Nat) ∧
                J (upper (List.takeWhile letterB ((hdIs (46 : UInt8) (List.dropWhile letterB s)).getD (List.dropWhile letterB s))))
                  (nE ((hdIs (46 : UInt8) (List.dropWhile letterB s)).getD (List.dropWhile letterB s)))
                  (List.dropWhile letterB ((hdIs (46 : UInt8) (List.dropWhile letterB s)).getD (List.dropWhile letterB s))) (upper (List.takeWhile letterB s)) [] [] []) ∧
            (¬(hdIs (46 : UInt8) (List.dropWhile letterB s)).isSome = true →
              J (upper (List.takeWhile letterB s)) (nE s) ((hdIs (46 : UInt8) (List.dropWhile letterB s)).getD (List.dropWhile letterB s)) [] [] [] [])) ∧
        (¬nE s = Err.nil → J (upper (List.takeWhile letterB s)) (nE s) (List.dropWhile letterB s) [] [] [] [])) ∧
      ∀ (x : List UInt8) (x_1 : Err) (x_2 x_3 x_4 : List UInt8) (x_5 : List Param) (x_6 : List UInt8),
        J x x_1 x_2 x_3 x_4 x_5 x_6 →
          (x_1 ≠ Err.nil →
              (x_1.is (11 : Int) → Q (Prp.mk [] [] [] []) (Err.no (11 : Int))) ∧
                (¬x_1.is (11 : Int) →
                  x_5.length ≤ (1000000000 : Nat) ∧
                    (manyB (Prp.mk x_3 x_4 x_5 x_6) = true → Q (Prp.mk [] [] [] []) (Err.no (5 : Int))) ∧ (¬manyB (Prp.mk x_3 x_4 x_5 x_6) = true → Q (Prp.mk x_3 x_4 x_5 x_6) Err.nil))) ∧
            (¬x_1 ≠ Err.nil →
              ∃ (I : List UInt8 → List UInt8 → List Param → List UInt8 → List UInt8 → List UInt8 → List UInt8 → List Param → List UInt8 → Prop),
                ∃ (m : List UInt8 → List UInt8 → List Param → List UInt8 → List UInt8 → List UInt8 → List UInt8 → List Param → List UInt8 → Nat),
                  I [] [] [] [] x_2 x_3 x x_5 x_6 ∧
                    ∀ (x x_7 : List UInt8) (x_8 : List Param) (x_9 x_10 x_11 x_12 : List UInt8) (x_13 : List Param) (x_14 : List UInt8),
                      I x x_7 x_8 x_9 x_10 x_11 x_12 x_13 x_14 →
                        ((hdIs (59 : UInt8) x_10).isSome = true →
                            List.length ((hdIs (59 : UInt8) x_10).getD x_10) ≤ (100000000 : Nat) ∧
                              ((gP ((hdIs (59 : UInt8) x_10).getD x_10)).snd.fst ≠ Err.nil →
                                  ((gP ((hdIs (59 : UInt8) x_10).getD x_10)).snd.fst.is (11 : Int) → Q (Prp.mk [] [] [] []) (Err.no (11 : Int))) ∧
                                    (¬(gP ((hdIs (59 : UInt8) x_10).getD x_10)).snd.fst.is (11 : Int) →
                                      x_13.length ≤ (1000000000 : Nat) ∧
                                        (manyB (Prp.mk x_11 x_12 x_13 x_14) = true → Q (Prp.mk [] [] [] []) (Err.no (5 : Int))) ∧
                                          (¬manyB (Prp.mk x_11 x_12 x_13 x_14) = true → Q (Prp.mk x_11 x_12 x_13 x_14) Err.nil))) ∧
                                (¬(gP ((hdIs (59 : UInt8) x_10).getD x_10)).snd.fst ≠ Err.nil →
                                  (x_13.length + [Param.mk (gP ((hdIs (59 : UInt8) x_10).getD x_10)).fst.Name (gP ((hdIs (59 : UInt8) x_10).getD x_10)).fst.Values].length) *
                                        (some (40 : Nat)).getD (0 : Nat) ≤
                                      (140737488355328 : Nat) ∧
                                    I x x_7 x_8 x_9 (gP ((hdIs (59 : UInt8) x_10).getD x_10)).snd.snd x_11 x_12
                                        (x_13 ++ [Param.mk (gP ((hdIs (59 : UInt8) x_10).getD x_10)).fst.Name (gP ((hdIs (59 : UInt8) x_10).getD x_10)).fst.Values]) x_14 ∧
                                      m x x_7 x_8 x_9 (gP ((hdIs (59 : UInt8) x_10).getD x_10)).snd.snd x_11 x_12
                                          (x_13 ++ [Param.mk (gP ((hdIs (59 : UInt8) x_10).getD x_10)).fst.Name (gP ((hdIs (59 : UInt8) x_10).getD x_10)).fst.Values]) x_14 <
                                        m x x_7 x_8 x_9 x_10 x_11 x_12 x_13 x_14)) ∧
                          (¬(hdIs (59 : UInt8) x_10).isSome = true →
                            (¬(hdIs (58 : UInt8) ((hdIs (59 : UInt8) x_10).getD x_10)).isSome = true →
                                ((Err.w (153 : Nat) [(118 : UInt8), (97 : UInt8), (108 : UInt8), (117 : UInt8), (101 : UInt8)] (Err.no (11 : Int))).is (11 : Int) →
                                    Q (Prp.mk [] [] [] []) (Err.no (11 : Int))) ∧
                                  (¬(Err.w (153 : Nat) [(118 : UInt8), (97 : UInt8), (108 : UInt8), (117 : UInt8), (101 : UInt8)] (Err.no (11 : Int))).is (11 : Int) →
                                    x_13.length ≤ (1000000000 : Nat) ∧
                                      (manyB (Prp.mk x_11 x_12 x_13 x_14) = true → Q (Prp.mk [] [] [] []) (Err.no (5 : Int))) ∧
                                        (¬manyB (Prp.mk x_11 x_12 x_13 x_14) = true → Q (Prp.mk x_11 x_12 x_13 x_14) Err.nil))) ∧
                              (¬¬(hdIs (58 : UInt8) ((hdIs (59 : UInt8) x_10).getD x_10)).isSome = true →
                                ∃ (I : Int → Prop),
                                  ∃ (m : Int → Nat),
                                    I (0 : Int) ∧
                                      ∀ (x : Int),
                                        I x →
                                          (x < (↑(List.length ((hdIs (58 : UInt8) ((hdIs (59 : UInt8) x_10).getD x_10)).getD ((hdIs (59 : UInt8) x_10).getD x_10))) : Int) → (0 : Int) ≤ x) ∧
                                            (x < (↑(List.length ((hdIs (58 : UInt8) ((hdIs (59 : UInt8) x_10).getD x_10)).getD ((hdIs (59 : UInt8) x_10).getD x_10))) : Int) →
                                                x < (↑(List.length ((hdIs (58 : UInt8) ((hdIs (59 : UInt8) x_10).getD x_10)).getD ((hdIs (59 : UInt8) x_10).getD x_10))) : Int)) ∧
                                              (x < (↑(List.length ((hdIs (58 : UInt8) ((hdIs (59 : UInt8) x_10).getD x_10)).getD ((hdIs (59 : UInt8) x_10).getD x_10))) : Int) ∧
                                                    standsB (ix ((hdIs (58 : UInt8) ((hdIs (59 : UInt8) x_10).getD x_10)).getD ((hdIs (59 : UInt8) x_10).getD x_10)) x) = true →
                                                  in64 (x + (1 : Int)) ∧ I (x + (1 : Int)) ∧ m (x + (1 : Int)) < m x) ∧
                                                (¬(x < (↑(List.length ((hdIs (58 : UInt8) ((hdIs (59 : UInt8) x_10).getD x_10)).getD ((hdIs (59 : UInt8) x_10).getD x_10))) : Int) ∧
                                                      standsB (ix ((hdIs (58 : UInt8) ((hdIs (59 : UInt8) x_10).getD x_10)).getD ((hdIs (59 : UInt8) x_10).getD x_10)) x) = true) →
                                                  (0 : Int) ≤ x ∧
                                                    x ≤ (↑(List.length ((hdIs (58 : UInt8) ((hdIs (59 : UInt8) x_10).getD x_10)).getD ((hdIs (59 : UInt8) x_10).getD x_10))) : Int) ∧
                                                      (0 : Int) ≤ x ∧
                                                        x ≤ (↑(List.length ((hdIs (58 : UInt8) ((hdIs (59 : UInt8) x_10).getD x_10)).getD ((hdIs (59 : UInt8) x_10).getD x_10))) : Int) ∧
                                                          (List.drop x.toNat ((hdIs (58 : UInt8) ((hdIs (59 : UInt8) x_10).getD x_10)).getD ((hdIs (59 : UInt8) x_10).getD x_10)) ≠ [] →
                                                              ((Err.w (153 : Nat) [(118 : UInt8), (97 : UInt8), (108 : UInt8), (117 : UInt8), (101 : UInt8)] (Err.no (11 : Int))).is (11 : Int) →
                                                                  Q (Prp.mk [] [] [] []) (Err.no (11 : Int))) ∧
                                                                (¬(Err.w (153 : Nat) [(118 : UInt8), (97 : UInt8), (108 : UInt8), (117 : UInt8), (101 : UInt8)] (Err.no (11 : Int))).is (11 : Int) →
                                                                  x_13.length ≤ (1000000000 : Nat) ∧
                                                                    (manyB
                                                                            (Prp.mk x_11 x_12 x_13
                                                                              (List.take x.toNat
                                                                                ((hdIs (58 : UInt8) ((hdIs (59 : UInt8) x_10).getD x_10)).getD ((hdIs (59 : UInt8) x_10).getD x_10)))) =
                                                                          true →
                                                                        Q (Prp.mk [] [] [] []) (Err.no (5 : Int))) ∧
                                                                      (¬manyB
                                                                              (Prp.mk x_11 x_12 x_13
                                                                                (List.take x.toNat
                                                                                  ((hdIs (58 : UInt8) ((hdIs (59 : UInt8) x_10).getD x_10)).getD ((hdIs (59 : UInt8) x_10).getD x_10)))) =
                                                                            true →
                                                                        Q
                                                                          (Prp.mk x_11 x_12 x_13
                                                                            (List.take x.toNat ((hdIs (58 : UInt8) ((hdIs (59 : UInt8) x_10).getD x_10)).getD ((hdIs (59 : UInt8) x_10).getD x_10))))
                                                                          Err.nil))) ∧
                                                            (¬List.drop x.toNat ((hdIs (58 : UInt8) ((hdIs (59 : UInt8) x_10).getD x_10)).getD ((hdIs (59 : UInt8) x_10).getD x_10)) ≠ [] →
                                                              (Err.nil.is (11 : Int) → Q (Prp.mk [] [] [] []) (Err.no (11 : Int))) ∧
                                                                (¬Err.nil.is (11 : Int) →
                                                                  x_13.length ≤ (1000000000 : Nat) ∧
                                                                    (manyB
                                                                            (Prp.mk x_11 x_12 x_13
                                                                              (List.take x.toNat
                                                                                ((hdIs (58 : UInt8) ((hdIs (59 : UInt8) x_10).getD x_10)).getD ((hdIs (59 : UInt8) x_10).getD x_10)))) =
                                                                          true →
                                                                        Q (Prp.mk [] [] [] []) (Err.no (5 : Int))) ∧
                                                                      (¬manyB
                                                                              (Prp.mk x_11 x_12 x_13
                                                                                (List.take x.toNat
                                                                                  ((hdIs (58 : UInt8) ((hdIs (59 : UInt8) x_10).getD x_10)).getD ((hdIs (59 : UInt8) x_10).getD x_10)))) =
                                                                            true →
                                                                        Q
                                                                          (Prp.mk x_11 x_12 x_13
                                                                            (List.take x.toNat ((hdIs (58 : UInt8) ((hdIs (59 : UInt8) x_10).getD x_10)).getD ((hdIs (59 : UInt8) x_10).getD x_10))))
                                                                          Err.nil)))))))
def W28 (s : Str) (Q : Prp → Err → Prop) : Prop := vcFun (E := NI64) (inlMN NI64 M103 an28 4) (an28 28) Tryd.f28 [.str s] [] [] 0 (resZ NI64 2 [.val 45, .err] Q)
attribute [local irreducible] W28 HZ
set_option maxRecDepth 100000 in
theorem V28_eq {s : Str} {Q : Prp → Err → Prop} : V28 s Q = W28 s Q := by kernel_rfl
set_option maxRecDepth 100000 in
theorem V28_ok {s : Str} {Q : Prp → Err → Prop} (h : V28 s Q) : W28 s Q := by rw [← V28_eq]; exact h
theorem p28 (s : Str) (hs : s.length ≤ 100000000) : V28 s (fun y0 y1 => y0 = (parseS s).1 ∧ y1 = (parseS s).2) := by
  unfold V28
  have hd := drop_len letterB s
  have bad : pProp s = none → prp0 = (parseS s).1 ∧ Err.no 11 = (parseS s).2 := fun h => by unfold parseS; rw [h]; exact ⟨rfl, rfl⟩
  refine ⟨by omega, fun nm e r g b c d => (b = [] ∧ c = [] ∧ d = []) ∧ okE e ∧ (e ≠ .nil → pProp s = none) ∧ (e = .nil → pProp s = tailS g nm [] r) ∧ r.length ≤ s.length, ⟨fun he => ⟨fun h1 => ?_, fun h1 => ?_⟩, fun he => ?_⟩, ?_⟩
  · obtain ⟨t, h1⟩ := Option.isSome_iff_exists.1 h1
    have ht := hdIs_len h1
    have hdt := drop_len letterB t
    have hp := prop_group he h1
    rw [h1]
    simp only [Option.getD_some]
    refine ⟨by omega, ⟨by first | rfl | trivial, by first | rfl | trivial, by first | rfl | trivial⟩, nE_ok t, fun h => by rw [hp, if_neg h], fun h => by rw [hp, if_pos h], by omega⟩
  · have h1 : hdIs 46 (s.dropWhile letterB) = none := by simpa using h1
    rw [h1]
    exact ⟨⟨rfl, rfl, rfl⟩, nE_ok s, fun h => absurd he h, fun h => prop_plain he h1, hd⟩
  · exact ⟨⟨rfl, rfl, rfl⟩, nE_ok s, fun h => prop_err he, fun h => absurd h he, hd⟩
  rintro nm e r g b c d ⟨⟨rfl, rfl, rfl⟩, ho, h1, h2, hl⟩
  refine ⟨fun he => ⟨fun _ => bad (h1 he), fun h => absurd (okE_is ho he) h⟩, fun he => ?_⟩
  have h2 := h2 (Classical.not_not.1 he)
  clear he h1 ho
  refine ⟨fun a1 a2 a3 a4 x g' nm' l v => (a1 = [] ∧ a2 = [] ∧ a3 = [] ∧ a4 = [] ∧ g' = g ∧ nm' = nm ∧ v = []) ∧ pProp s = tailS g nm l x ∧ l.length + x.length ≤ s.length, fun _ _ _ _ x _ _ _ _ => x.length, ⟨⟨rfl, rfl, rfl, rfl, rfl, rfl, rfl⟩, h2, by simp; omega⟩, ?_⟩
  rintro a1 a2 a3 a4 x g' nm' l v ⟨⟨rfl, rfl, rfl, rfl, rfl, rfl, rfl⟩, hp, hl⟩
  refine ⟨fun h3 => ?_, fun h3 => ?_⟩
  · obtain ⟨t, h3⟩ := Option.isSome_iff_exists.1 h3
    have ht := hdIs_len h3
    have hg := gP_len t
    rw [h3]
    simp only [Option.getD_some]
    refine ⟨by omega, fun he => ⟨fun _ => bad (by rw [hp, tail_err h3 he]), fun h => absurd (okE_is (gP_ok t) he) h⟩, fun he => ?_⟩
    have he := Classical.not_not.1 he
    refine ⟨by simp; omega, ⟨⟨by first | rfl | trivial, by first | rfl | trivial, by first | rfl | trivial, by first | rfl | trivial, by first | rfl | trivial, by first | rfl | trivial, by first | rfl | trivial⟩, by rw [hp, tail_on h3 he], by simp; omega⟩, by omega⟩
  have h3 : hdIs 59 x = none := by simpa using h3
  rw [h3]
  simp only [Option.getD_none]
  refine ⟨fun h4 => ?_, fun h4 => ?_⟩
  · have h4 : hdIs 58 x = none := by simpa using h4
    exact ⟨fun _ => bad (by rw [hp, tail_no h3 h4]), fun h => absurd rfl h⟩
  obtain ⟨v, h4⟩ := Option.isSome_iff_exists.1 (Classical.not_not.1 h4)
  have hv := hdIs_len h4
  have hpe := tail_end (g := g') (n := nm') (l := l) h3 h4
  rw [h4]
  simp only [Option.getD_some]
  refine ⟨fun i => 0 ≤ i ∧ i ≤ v.length ∧ ∀ j : Int, 0 ≤ j → j < i → standsB (ix v j) = true, fun i => ((v.length : Int) - i).toNat, ⟨by omega, by omega, fun j _ _ => by omega⟩, ?_⟩
  rintro i ⟨i0, i1, hi⟩
  refine ⟨fun _ => i0, fun h => h, fun ⟨h, hc⟩ => ⟨⟨by omega, by omega⟩, ⟨by omega, by omega, fun j j0 j1 => ?_⟩, by first | omega | (dsimp only; omega)⟩, fun he => ?_⟩
  · by_cases e : j = i
    · subst e; exact hc
    · exact hi j j0 (by omega)
  · obtain ⟨e1, e2⟩ := while_take i0 i1 hi he
    have l1 : (v.take i.toNat).length ≤ v.length := by rw [List.length_take]; omega
    rw [e1] at l1
    rw [e1, e2]
    skip
    refine ⟨i0, i1, i0, i1, fun hn => ⟨fun _ => bad ?_, fun h => absurd rfl h⟩, fun hn => ⟨fun h => ?_, fun _ => ?_⟩⟩
    · rw [hp, hpe, if_neg (fun h => hn (while_nil.2 h))]
    · simp [Err.is, Err.num] at h
    · have hn := Classical.not_not.1 hn
      have ha := while_nil.1 hn
      rw [while_all hn]
      rw [if_pos ha] at hpe
      rw [hpe] at hp
      unfold parseS
      rw [hp]
      refine ⟨by omega, fun h => ?_, fun h => ?_⟩
      · simp only [finS, if_pos h]; exact ⟨by first | rfl | trivial, by first | rfl | trivial⟩
      · simp only [finS, if_neg h]; exact ⟨by first | rfl | trivial, by first | rfl | trivial⟩
set_option maxRecDepth 100000 in
theorem Y28_eq {s : Str} : W28 s (fun y0 y1 => y0 = (parseS s).1 ∧ y1 = (parseS s).2) = HZ NI64 (inlMN NI64 M103 an28 4) (an28 28) Tryd.f28 [.str s] 2 [.val 45, .err] ((parseS s).1, (parseS s).2, ()) := by kernel_rfl
theorem Y28_ok (s : Str) (hs : s.length ≤ 100000000) : HZ NI64 (inlMN NI64 M103 an28 4) (an28 28) Tryd.f28 [.str s] 2 [.val 45, .err] ((parseS s).1, (parseS s).2, ()) := by
  rw [← Y28_eq]
  exact V28_ok (p28 s hs)
def c28r (s : Str) : CR U := ⟨[List.length (α := UInt8) s ≤ 100000000], [], .tup [.agg [.str ((parseS s).1).Group, .str ((parseS s).1).Name, .sl 59 ((parseS s).1).Params, .str ((parseS s).1).Value], .err ((parseS s).2)], []⟩
set_option maxRecDepth 100000 in
theorem c28r_eq (s : Str) : (⟨[List.length (α := UInt8) s ≤ 100000000], [], tellA 2 (tell NI64 [.val 45, .err] ((parseS s).1, (parseS s).2, ())), []⟩ : CR NI64.N) = c28r s := by kernel_rfl
set_option maxRecDepth 100000 in
theorem c28r_ok (s : Str) (hs : s.length ≤ 100000000) (nx : Nat) (hp : ([.str s] : List (SV U)).all pureS = true) : ConOK NI64.P NI64.N NI64.T NI64.G 28 [.str s] nx (c28r s) := by
  rw [← c28r_eq]
  exact conH NI64_ok (inlMN_ok NI64_ok M103_ok an28 4) Tryd.func28 rfl hp (Y28_ok s hs)
def c28 (a : List (SV U)) (nx : Nat) : Option (CR U) := match a with | [.str s] => some (c28r s) | _ => none
theorem c28_ok (args : List (SV U)) (nx : Nat) (c : CR U) (h : c28 args nx = some c) (hp : args.all pureS = true) (ho : allP c.ob) : ConOK NI64.P NI64.N NI64.T NI64.G 28 args nx c := by
  unfold c28 at h
  split at h
  · rename_i s
    cases h
    exact c28r_ok s ho.1 nx hp
  · cases h
noncomputable def N28 : Env := NI64.addC 28 c28
theorem N28_ok : EnvOK N28 := NI64_ok.addC Tryd.call28 c28_ok
end Go.Proofs.YtadgfmmmdhlljaaDoor
end
section
namespace Go.Li
open Go Go.Wk Go.Wl Go.Rx Go.Fo
theorem ix_from {α : Type} [Inhabited α] {s : List α} {i j : Int} (i0 : 0 ≤ i) (j0 : 0 ≤ j) : ix (s.drop i.toNat) j = ix s (i + j) := by
  unfold ix
  rw [List.getD_eq_getElem?_getD, List.getD_eq_getElem?_getD, List.getElem?_drop]
  congr 2
  omega
theorem while_from {p : UInt8 → Bool} {s : Str} {i x : Int} (i0 : 0 ≤ i) (ix0 : i ≤ x) (x1 : x ≤ s.length) (h : ∀ j : Int, i ≤ j → j < x → p (ix s j) = true) (he : ¬ (x < s.length ∧ p (ix s x) = true)) :
    (s.take x.toNat).drop i.toNat = (s.drop i.toNat).takeWhile p ∧ s.drop x.toNat = (s.drop i.toNat).dropWhile p := by
  have hl : ((s.drop i.toNat).length : Int) = s.length - i := by rw [List.length_drop]; omega
  obtain ⟨a, b⟩ := while_take (p := p) (s := s.drop i.toNat) (i := x - i) (by omega) (by omega) (fun j j0 j1 => by rw [ix_from i0 j0]; exact h _ (by omega) (by omega)) (fun ⟨y, z⟩ => he ⟨by omega, by
    rw [ix_from i0 (by omega)] at z
    have : i + (x - i) = x := by omega
    rw [this] at z; exact z⟩)
  refine ⟨?_, ?_⟩
  · rw [List.drop_take, ← a]; congr 1; omega
  · rw [← b, List.drop_drop]; congr 1; omega
def valS (s : Str) (i : Int) : Str × Int := match pValue (s.drop i.toNat) with
  | none => ([], -1)
  | some (v, r) => (v, (s.length : Int) - r.length)
theorem hdIs_at {s : Str} {i : Int} {c : UInt8} (i0 : 0 ≤ i) (h : i < s.length ∧ ix s i = c) : hdIs c (s.drop i.toNat) = some (s.drop (i + 1).toNat) := by
  rw [ix_drop i0 h.1, h.2, hdIs_cons]
theorem hdIs_not {s : Str} {i : Int} {c : UInt8} (i0 : 0 ≤ i) (h : ¬ (i < s.length ∧ ix s i = c)) : hdIs c (s.drop i.toNat) = none := by
  by_cases hl : i < s.length
  · rw [ix_drop i0 hl]
    exact hdIs_ne (fun e => h ⟨hl, e⟩) _
  · rw [drop_all (by omega)]; rfl
end Go.Li
end
section
namespace Go.Proofs.YtadgfmmmdhlljaaDoor
open Go Go.Wk Go.Wl Go.Rx Go.Fo Go.Li Go.Co 
def an68 : Nat → Ann := fun | 68 => ⟨99, fun | 9 => some ⟨[0, 1], [.slot 7 (.int .i64)]⟩ | 3 => some ⟨[0, 1], [.slot 6 (.int .i64)]⟩ | _ => none, fun  | _ => none⟩ | _ => ⟨0, fun _ => none, fun _ => none⟩
def V68 (s : Str) (i : Int) (Q : Str → Int → Prop) : Prop :=
(i < (↑(List.length s) : Int) → (0 : Int) ≤ i) ∧
  (i < (↑(List.length s) : Int) → i < (↑(List.length s) : Int)) ∧
    (i < (↑(List.length s) : Int) ∧ ix s i = (34 : UInt8) →
        in64 (i + (1 : Int)) ∧
          ∃ (I : Int → Prop),
            ∃ (m : Int → Nat),
              I (i + (1 : Int)) ∧
                ∀ (x : Int),
                  I x →
                    (x < (↑(List.length s) : Int) → (0 : Int) ≤ x) ∧
                      (x < (↑(List.length s) : Int) → x < (↑(List.length s) : Int)) ∧
                        (x < (↑(List.length s) : Int) ∧ ix s x ≠ (34 : UInt8) → (0 : Int) ≤ x) ∧
                          (x < (↑(List.length s) : Int) ∧ ix s x ≠ (34 : UInt8) → x < (↑(List.length s) : Int)) ∧
                            ((x < (↑(List.length s) : Int) ∧ ix s x ≠ (34 : UInt8)) ∧ standsB (ix s x) = true → in64 (x + (1 : Int)) ∧ I (x + (1 : Int)) ∧ m (x + (1 : Int)) < m x) ∧
                              (¬((x < (↑(List.length s) : Int) ∧ ix s x ≠ (34 : UInt8)) ∧ standsB (ix s x) = true) →
                                (¬(↑(List.length s) : Int) ≤ x → (0 : Int) ≤ x) ∧
                                  (¬(↑(List.length s) : Int) ≤ x → x < (↑(List.length s) : Int)) ∧
                                    ((↑(List.length s) : Int) ≤ x ∨ ix s x ≠ (34 : UInt8) → Q [] (-1 : Int)) ∧
                                      (¬((↑(List.length s) : Int) ≤ x ∨ ix s x ≠ (34 : UInt8)) →
                                        in64 (i + (1 : Int)) ∧
                                          (0 : Int) ≤ i + (1 : Int) ∧
                                            i + (1 : Int) ≤ x ∧
                                              x ≤ (↑(List.length s) : Int) ∧
                                                (List.drop (i + (1 : Int)).toNat (List.take x.toNat s)).length ≤ (100000000 : Nat) ∧
                                                  in64 (x + (1 : Int)) ∧ Q (said (List.drop (i + (1 : Int)).toNat (List.take x.toNat s))) (x + (1 : Int))))) ∧
      (¬(i < (↑(List.length s) : Int) ∧ ix s i = (34 : UInt8)) →
        ∃ (I : Int → Prop),
          ∃ (m : Int → Nat),
            I i ∧
              ∀ (x : Int),
                I x →
                  (x < (↑(List.length s) : Int) → (0 : Int) ≤ x) ∧
                    (x < (↑(List.length s) : Int) → x < (↑(List.length s) : Int)) ∧
                      (x < (↑(List.length s) : Int) ∧ standsB (ix s x) = true → (0 : Int) ≤ x) ∧
                        (x < (↑(List.length s) : Int) ∧ standsB (ix s x) = true → x < (↑(List.length s) : Int)) ∧
                          ((x < (↑(List.length s) : Int) ∧ standsB (ix s x) = true) ∧ ix s x ≠ (34 : UInt8) → (0 : Int) ≤ x) ∧
                            ((x < (↑(List.length s) : Int) ∧ standsB (ix s x) = true) ∧ ix s x ≠ (34 : UInt8) → x < (↑(List.length s) : Int)) ∧
                              (((x < (↑(List.length s) : Int) ∧ standsB (ix s x) = true) ∧ ix s x ≠ (34 : UInt8)) ∧ ix s x ≠ (59 : UInt8) → (0 : Int) ≤ x) ∧
                                (((x < (↑(List.length s) : Int) ∧ standsB (ix s x) = true) ∧ ix s x ≠ (34 : UInt8)) ∧ ix s x ≠ (59 : UInt8) → x < (↑(List.length s) : Int)) ∧
                                  ((((x < (↑(List.length s) : Int) ∧ standsB (ix s x) = true) ∧ ix s x ≠ (34 : UInt8)) ∧ ix s x ≠ (59 : UInt8)) ∧ ix s x ≠ (58 : UInt8) → (0 : Int) ≤ x) ∧
                                    ((((x < (↑(List.length s) : Int) ∧ standsB (ix s x) = true) ∧ ix s x ≠ (34 : UInt8)) ∧ ix s x ≠ (59 : UInt8)) ∧ ix s x ≠ (58 : UInt8) →
                                        x < (↑(List.length s) : Int)) ∧
                                      (((((x < (↑(List.length s) : Int) ∧ standsB (ix s x) = true) ∧ ix s x ≠ (34 : UInt8)) ∧ ix s x ≠ (59 : UInt8)) ∧ ix s x ≠ (58 : UInt8)) ∧ ix s x ≠ (44 : UInt8) →
                                          in64 (x + (1 : Int)) ∧ I (x + (1 : Int)) ∧ m (x + (1 : Int)) < m x) ∧
                                        (¬(((((x < (↑(List.length s) : Int) ∧ standsB (ix s x) = true) ∧ ix s x ≠ (34 : UInt8)) ∧ ix s x ≠ (59 : UInt8)) ∧ ix s x ≠ (58 : UInt8)) ∧
                                              ix s x ≠ (44 : UInt8)) →
                                          (0 : Int) ≤ i ∧
                                            i ≤ x ∧
                                              x ≤ (↑(List.length s) : Int) ∧
                                                (List.drop i.toNat (List.take x.toNat s)).length ≤ (100000000 : Nat) ∧ Q (said (List.drop i.toNat (List.take x.toNat s))) x))
set_option maxRecDepth 100000 in
theorem V68_ok {s : Str} {i : Int} {Q : Str → Int → Prop} (h : V68 s i Q) : vcFun (E := N28) (inlMN N28 M103 an68 2) (an68 68) Tryd.f68 [.str s, .int .i64 i] [] [] 0 (resP N28 [.str, .int .i64] Q) := Eq.mp (show V68 s i Q = vcFun (E := N28) (inlMN N28 M103 an68 2) (an68 68) Tryd.f68 [.str s, .int .i64 i] [] [] 0 (resP N28 [.str, .int .i64] Q) by kernel_rfl) h
theorem inB_iff (c : UInt8) : inB c = true ↔ (c ≠ 34 ∧ standsB c = true) := by
  unfold inB; rw [Bool.and_eq_true, bne_iff_ne]; exact And.comm
theorem plainB_iff (c : UInt8) : plainB c = true ↔ ((((standsB c = true ∧ c ≠ 34) ∧ c ≠ 59) ∧ c ≠ 58) ∧ c ≠ 44) := by
  unfold plainB
  simp only [Bool.and_eq_true, Bool.not_eq_true', Bool.or_eq_false_iff, beq_eq_false_iff_ne, ne_eq]
  exact ⟨fun ⟨a, ⟨⟨b, c⟩, d⟩, e⟩ => ⟨⟨⟨⟨a, b⟩, c⟩, d⟩, e⟩, fun ⟨⟨⟨⟨a, b⟩, c⟩, d⟩, e⟩ => ⟨a, ⟨⟨b, c⟩, d⟩, e⟩⟩
theorem p68 (s : Str) (i : Int) (h0 : 0 ≤ i) (h1 : i ≤ (s.length : Int)) (hs : s.length ≤ 100000000) : V68 s i (fun y0 y1 => y0 = (valS s i).1 ∧ y1 = (valS s i).2) := by
  unfold V68
  refine ⟨fun _ => h0, fun h => h, fun hq => ?_, fun hq => ?_⟩
  · have hh := hdIs_at h0 hq
    refine ⟨⟨by omega, by omega⟩, fun x => i + 1 ≤ x ∧ x ≤ s.length ∧ ∀ j : Int, i + 1 ≤ j → j < x → inB (ix s j) = true, fun x => ((s.length : Int) - x).toNat, ⟨by omega, by omega, fun j _ _ => by omega⟩, ?_⟩
    rintro x ⟨x0, x1, hx⟩
    refine ⟨fun _ => by omega, fun h => h, fun _ => by omega, fun h => h.1, fun ⟨⟨a, b⟩, c⟩ => ⟨⟨by omega, by omega⟩, ⟨by omega, by omega, fun j j0 j1 => ?_⟩, by first | omega | (dsimp only; omega)⟩, fun he => ?_⟩
    · by_cases e : j = x
      · subst e; exact (inB_iff _).2 ⟨b, c⟩
      · exact hx j j0 (by omega)
    · obtain ⟨w1, w2⟩ := while_from (p := inB) (i := i + 1) (by omega) x0 x1 hx (fun ⟨a, b⟩ => he ⟨⟨a, ((inB_iff _).1 b).1⟩, ((inB_iff _).1 b).2⟩)
      refine ⟨fun _ => by omega, fun h => by omega, fun hb => ?_, fun hb => ?_⟩
      · have hn := hdIs_not (s := s) (i := x) (c := 34) (by omega) (fun ⟨a, b⟩ => by rcases hb with hb | hb; omega; exact hb b)
        rw [w2] at hn
        have : pValue (s.drop i.toNat) = none := by unfold pValue; rw [hh]; simp only [hn]
        unfold valS; rw [this]; exact ⟨rfl, rfl⟩
      · have hx34 : x < s.length ∧ ix s x = 34 := ⟨Classical.byContradiction fun h => hb (.inl (by omega)), Classical.byContradiction fun h => hb (.inr h)⟩
        have hn := hdIs_at (by omega) hx34
        rw [w2] at hn
        have : pValue (s.drop i.toNat) = some (said ((s.drop (i + 1).toNat).takeWhile inB), s.drop (x + 1).toNat) := by unfold pValue; rw [hh]; simp only [hn]
        have hl : ((s.take x.toNat).drop (i + 1).toNat).length ≤ s.length := by rw [List.length_drop, List.length_take]; omega
        refine ⟨⟨by omega, by omega⟩, by omega, by omega, by omega, by omega, ⟨by omega, by omega⟩, ?_⟩
        unfold valS; rw [this, w1]
        exact ⟨rfl, by simp only [List.length_drop]; omega⟩
  · have hh := hdIs_not h0 hq
    refine ⟨fun x => i ≤ x ∧ x ≤ s.length ∧ ∀ j : Int, i ≤ j → j < x → plainB (ix s j) = true, fun x => ((s.length : Int) - x).toNat, ⟨by omega, by omega, fun j _ _ => by omega⟩, ?_⟩
    rintro x ⟨x0, x1, hx⟩
    refine ⟨fun _ => by omega, fun h => h, fun _ => by omega, fun h => h.1, fun _ => by omega, fun h => h.1.1, fun _ => by omega, fun h => h.1.1.1, fun _ => by omega, fun h => h.1.1.1.1, fun ⟨⟨⟨⟨⟨a, b⟩, c⟩, d⟩, e⟩, f⟩ => ⟨⟨by omega, by omega⟩, ⟨by omega, by omega, fun j j0 j1 => ?_⟩, by first | omega | (dsimp only; omega)⟩, fun he => ?_⟩
    · by_cases ej : j = x
      · subst ej; exact (plainB_iff _).2 ⟨⟨⟨⟨b, c⟩, d⟩, e⟩, f⟩
      · exact hx j j0 (by omega)
    · obtain ⟨w1, w2⟩ := while_from (p := plainB) h0 x0 x1 hx (fun ⟨a, b⟩ => he (by
        obtain ⟨⟨⟨⟨b1, b2⟩, b3⟩, b4⟩, b5⟩ := (plainB_iff _).1 b
        exact ⟨⟨⟨⟨⟨a, b1⟩, b2⟩, b3⟩, b4⟩, b5⟩))
      have : pValue (s.drop i.toNat) = some (said ((s.drop i.toNat).takeWhile plainB), (s.drop i.toNat).dropWhile plainB) := by unfold pValue; rw [hh]
      have hl : ((s.take x.toNat).drop i.toNat).length ≤ s.length := by rw [List.length_drop, List.length_take]; omega
      refine ⟨h0, x0, x1, by omega, ?_⟩
      unfold valS; rw [this, w1]
      refine ⟨rfl, ?_⟩
      simp only
      rw [← w2, List.length_drop]; omega
def c68 (a : List (SV U)) : Option (Q1 U) := match a with | [.str s, .int .i64 i] => some ⟨[0 ≤ i, i ≤ (s.length : Int), List.length (α := UInt8) s ≤ 100000000], [], .tup [.str ((valS s i).1), .int .i64 ((valS s i).2)]⟩ | _ => none
set_option maxRecDepth 100000 in
theorem c68_ok (args : List (SV U)) (q : Q1 U) (h : c68 args = some q) (ho : allP q.ob) : LendOK N28 68 args ⟨q.ob, q.hy, q.v, []⟩ := by
  unfold c68 at h
  split at h
  · rename_i s i
    cases h
    exact lend2 N28_ok (inlMN_ok N28_ok M103_ok an68 2) Tryd.func68 (k1 := .str) (k2 := .int .i64) (x1 := (valS s i).1) (x2 := (valS s i).2) trivial trivial (V68_ok (p68 s i ho.1 ho.2.1 ho.2.2.1)) 0
  · cases h
noncomputable def N68 : Env := N28.addL 68 c68
theorem N68_ok : EnvOK N68 := N28_ok.addL Tryd.call68 c68_ok
end Go.Proofs.YtadgfmmmdhlljaaDoor
end
section
namespace Go.Li
open Go Go.Wk Go.Wl Go.Rx Go.Fo
theorem hdIs_suf {c : UInt8} {s r : Str} (h : hdIs c s = some r) : r <:+ s := by
  cases s with
  | nil => cases h
  | cons d t =>
    by_cases e : d = c
    · simp only [hdIs, if_pos e, Option.some.injEq] at h
      subst h; exact List.suffix_cons _ _
    · simp only [hdIs, if_neg e] at h
      cases h
theorem pValue_suf {s v r : Str} (h : pValue s = some (v, r)) : r <:+ s := by
  unfold pValue at h
  split at h
  · rename_i t ht
    split at h
    · rename_i u hu
      cases h
      exact (hdIs_suf hu).trans ((List.dropWhile_suffix _).trans (hdIs_suf ht))
    · cases h
  · cases h; exact List.dropWhile_suffix _
theorem suf_drop {s r : Str} {i : Int} (i0 : 0 ≤ i) (i1 : i ≤ s.length) (h : r <:+ s.drop i.toNat) : r = s.drop ((s.length : Int) - r.length).toNat ∧ i ≤ (s.length : Int) - r.length := by
  have hl := h.length_le
  rw [List.length_drop] at hl
  have e := List.suffix_iff_eq_drop.1 (h.trans (List.drop_suffix _ _))
  have e2 : ((s.length : Int) - r.length).toNat = s.length - r.length := by omega
  rw [e2]
  exact ⟨e, by omega⟩
theorem valS_none {s : Str} {i : Int} (h : pValue (s.drop i.toNat) = none) : valS s i = ([], -1) := by unfold valS; rw [h]
theorem valS_some {s v r : Str} {i : Int} (h : pValue (s.drop i.toNat) = some (v, r)) : valS s i = (v, (s.length : Int) - r.length) := by unfold valS; rw [h]
def valsS (vs : List Str) (t : Str) : Option (List Str × Str) := match pVals t with
  | none => none
  | some (l, u) => some (vs ++ l, u)
theorem valsS_nil (t : Str) : valsS [] t = pVals t := by
  unfold valsS
  cases pVals t with
  | none => rfl
  | some x => rfl
theorem valsS_none {vs : List Str} {t : Str} (h : pValue t = none) : valsS vs t = none := by
  unfold valsS; rw [pVals_eq, h]
theorem valsS_end {vs : List Str} {t v r : Str} (h : pValue t = some (v, r)) (h1 : hdIs 44 r = none) : valsS vs t = some (vs ++ [v], r) := by
  unfold valsS; rw [pVals_eq, h]; simp only [h1]
theorem valsS_on {vs : List Str} {t v r u : Str} (h : pValue t = some (v, r)) (h1 : hdIs 44 r = some u) : valsS vs t = valsS (vs ++ [v]) u := by
  unfold valsS; rw [pVals_eq, h]; simp only [h1]
  cases pVals u with
  | none => rfl
  | some x => simp
theorem tail_p {g n r t : Str} {l : List Param} (h : hdIs 59 r = some t) : tailS g n l r = match pParam t with | none => none | some (x, u) => tailS g n (l ++ [x]) u := by
  unfold tailS; rw [pParams_eq, h]
  simp only
  cases pParam t with
  | none => rfl
  | some x =>
    obtain ⟨x, u⟩ := x
    simp only
    cases pParams u with
    | none => rfl
    | some y => simp
theorem pParam_no {t : Str} (h : t.takeWhile letterB = [] ∨ hdIs 61 (t.dropWhile letterB) = none) : pParam t = none := by
  unfold pParam pName
  by_cases h0 : t.takeWhile letterB = []
  · rw [if_pos h0]
  · rw [if_neg h0]
    simp only [h.resolve_left h0]
theorem pParam_on {t u : Str} (h : t.takeWhile letterB ≠ []) (h1 : hdIs 61 (t.dropWhile letterB) = some u) : pParam t = match pVals u with | none => none | some (l, w) => some (⟨upper (t.takeWhile letterB), l⟩, w) := by
  unfold pParam pName
  rw [if_neg h]
  cases hv : pVals u with
  | none => simp only [h1, hv]
  | some x => simp only [h1, hv]
def parseR (s : Str) : Prp × Int := match pProp s with
  | none => (prp0, 11)
  | some p => if manyB p = true then (prp0, 5) else (p, 0)
theorem prop_no {s : Str} (h : s.takeWhile letterB = []) : pProp s = none := by
  rw [prop_tail]; unfold pHead pName; rw [if_pos h]
theorem prop_one {s : Str} (h : s.takeWhile letterB ≠ []) (h1 : hdIs 46 (s.dropWhile letterB) = none) : pProp s = tailS [] (upper (s.takeWhile letterB)) [] (s.dropWhile letterB) := by
  rw [prop_tail]; unfold pHead pName; rw [if_neg h]; simp only [h1]
theorem prop_two {s t : Str} (h : s.takeWhile letterB ≠ []) (h1 : hdIs 46 (s.dropWhile letterB) = some t) : pProp s = if t.takeWhile letterB = [] then none else tailS (upper (s.takeWhile letterB)) (upper (t.takeWhile letterB)) [] (t.dropWhile letterB) := by
  rw [prop_tail]; unfold pHead pName; rw [if_neg h]; simp only [h1]
  by_cases h2 : t.takeWhile letterB = []
  · simp only [h2, if_true]
  · simp only [h2, if_false]
theorem take_while {p : UInt8 → Bool} (t : Str) : t.take (t.takeWhile p).length = t.takeWhile p ∧ t.drop (t.takeWhile p).length = t.dropWhile p := by
  have e := List.takeWhile_append_dropWhile (p := p) (l := t)
  generalize t.takeWhile p = a at *
  generalize t.dropWhile p = b at *
  subst e
  exact ⟨List.take_left, List.drop_left⟩
instance (s : Str) : Decidable (isName s) := by unfold isName; infer_instance
def rightXB (x : Param) : Bool := decide (isName x.Name) && decide (x.Values ≠ []) && x.Values.all fun v => v.all saysB
def rightB (p : Prp) : Bool := decide (isName p.Name) && (decide (p.Group = []) || decide (isName p.Group)) && !manyB p && p.Value.all standsB && p.Params.all rightXB
theorem rightXB_iff {x : Param} : rightXB x = true ↔ rightX x := by
  unfold rightXB rightX
  simp only [Bool.and_eq_true, decide_eq_true_eq, List.all_eq_true]
  exact ⟨fun ⟨⟨a, b⟩, c⟩ => ⟨a, b, c⟩, fun ⟨a, b, c⟩ => ⟨⟨a, b⟩, c⟩⟩
theorem rightB_iff {p : Prp} : rightB p = true ↔ right0 p ∧ manyB p = false := by
  unfold rightB right0
  simp only [Bool.and_eq_true, Bool.or_eq_true, decide_eq_true_eq, Bool.not_eq_true']
  have e : p.Params.all rightXB = true ↔ ∀ x ∈ p.Params, rightX x := by
    rw [List.all_eq_true]
    exact ⟨fun h x hx => rightXB_iff.1 (h x hx), fun h x hx => rightXB_iff.2 (h x hx)⟩
  rw [e]
  constructor
  · rintro ⟨⟨⟨⟨a, b⟩, c⟩, d⟩, e⟩
    exact ⟨⟨a, fun h => b.resolve_left h, d, e⟩, c⟩
  · rintro ⟨⟨a, b, d, e⟩, c⟩
    refine ⟨⟨⟨⟨a, ?_⟩, c⟩, d⟩, e⟩
    by_cases h : p.Group = []
    · exact .inl h
    · exact .inr (b h)
structure smallX (x : Param) : Prop where
  name : x.Name.length ≤ 5000
  vals : x.Values.length ≤ 5000
  val : ∀ v ∈ x.Values.take 31, v.length ≤ 5000
structure smallP (p : Prp) : Prop where
  name : p.Name.length ≤ 5000
  group : p.Group.length ≤ 5000
  value : p.Value.length ≤ 5000
  params : p.Params.length ≤ 5000
  param : ∀ x ∈ p.Params, smallX x
theorem small_val {p : Prp} (h : smallP p) (hm : manyB p = false) {x : Param} (hx : x ∈ p.Params) : x.Values.length ≤ 20 ∧ ∀ v ∈ x.Values, v.length ≤ 5000 := by
  have h1 : x.Values.length ≤ 20 := by
    unfold manyB at hm
    simp only [Bool.or_eq_false_iff, List.any_eq_false, decide_eq_true_eq] at hm
    have := hm.1.2 x hx
    omega
  refine ⟨h1, fun v hv => (h.param x hx).val v ?_⟩
  rw [List.take_of_length_le (by omega)]; exact hv
theorem small_params {p : Prp} (hm : manyB p = false) : p.Params.length ≤ 20 := by
  unfold manyB at hm
  simp only [Bool.or_eq_false_iff, decide_eq_false_iff_not] at hm
  omega
theorem esc_len2 : ∀ s : Str, (esc s).length ≤ 2 * s.length
  | [] => Nat.le_refl _
  | c :: s => by
    have ih := esc_len2 s
    have e : esc (c :: s) = escB c ++ esc s := by simp [esc]
    have : (escB c).length ≤ 2 := by unfold escB; split <;> (try split) <;> (try split) <;> simp
    rw [e, List.length_append, List.length_cons]; omega
theorem told_len (v : Str) : (told v).length ≤ 2 * v.length + 2 := by
  have := esc_len2 v
  unfold told
  split
  · simp only [List.length_cons, List.length_append, List.length_nil]; omega
  · omega
theorem joinV_len {k : Nat} : ∀ {l : List Str}, (∀ v ∈ l, v.length ≤ k) → (joinV l).length ≤ l.length * (2 * k + 3)
  | [], _ => Nat.zero_le _
  | [v], h => by
    have := told_len v
    have := h v (by simp)
    simp only [joinV, List.length_cons, List.length_nil]; omega
  | v :: w :: l, h => by
    have ih := joinV_len (k := k) (l := w :: l) fun x hx => h x (by simp [hx])
    have := told_len v
    have := h v (by simp)
    simp only [joinV, List.length_append, List.length_cons] at ih ⊢
    have e : (l.length + 1 + 1) * (2 * k + 3) = (l.length + 1) * (2 * k + 3) + (2 * k + 3) := Nat.succ_mul _ _
    rw [e]; omega
theorem tellP_len {p : Prp} (h : smallP p) (hm : manyB p = false) {x : Param} (hx : x ∈ p.Params) : (joinV x.Values).length ≤ 200060 ∧ (tellP x).length ≤ 210000 := by
  obtain ⟨h1, h2⟩ := small_val h hm hx
  have h3 := joinV_len h2
  have h4 : x.Values.length * (2 * 5000 + 3) ≤ 20 * (2 * 5000 + 3) := Nat.mul_le_mul_right _ h1
  have h5 := (h.param x hx).name
  unfold tellP
  simp only [List.length_cons, List.length_append]
  omega
theorem flat_len {α : Type} {f : α → Str} {k : Nat} : ∀ {l : List α}, (∀ x ∈ l, (f x).length ≤ k) → (l.flatMap f).length ≤ l.length * k
  | [], _ => Nat.zero_le _
  | x :: l, h => by
    have ih := flat_len (f := f) (k := k) (l := l) fun y hy => h y (by simp [hy])
    have := h x (by simp)
    rw [List.flatMap_cons, List.length_append, List.length_cons, Nat.succ_mul]
    omega
theorem tell_len {p : Prp} (h : smallP p) (hm : manyB p = false) : (p.Params.flatMap tellP).length ≤ 4200000 ∧ (tell p).length ≤ 5000000 := by
  have h1 := flat_len (f := tellP) (k := 210000) (l := p.Params) fun x hx => (tellP_len h hm hx).2
  have h2 := Nat.mul_le_mul_right 210000 (small_params hm)
  have h3 := h.name
  have h4 := h.group
  have h5 := h.value
  refine ⟨by omega, ?_⟩
  unfold tell
  simp only [List.length_append, List.length_cons]
  split
  · omega
  · simp only [List.length_append, List.length_cons]; omega
end Go.Li
end
