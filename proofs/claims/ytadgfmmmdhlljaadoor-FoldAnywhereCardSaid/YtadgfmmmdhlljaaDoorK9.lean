/- 25 texts, one behind the other. -/
import Derived.Test.YtadgfmmmdhlljaaDoorK6
import Derived.Test.YtadgfmmmdhlljaaDoorKEt
import Derived.Laws.RangeString
import Derived.Laws.Runes
import Derived.WalkMore
import Derived.Deep.QuietTactic
import Derived.BigQuiet
import Derived.Laws.RangeAny
import Derived.Deep.LoopGhost
set_option linter.unusedVariables false
set_option linter.unusedSimpArgs false
section
namespace Go.Proofs.YtadgfmmmdhlljaaDoor
open Go Go.Wk Go.Wl Go.Rx Go.Fo Go.Li Go.Proofs
theorem sim_bld {b : Nat} {w w1 : World} {x : Str} {F : List Nat} (hs : Sim w w1) (h : BldIs 78 5 b w x F) : BldIs 78 5 b w1 x F := by obtain ⟨k, rfl⟩ := hs; exact h
theorem sim_turn {w w1 w2 : World} {F F' : List Nat} (hs : Sim w w1) (h : Turn w1 w2 F F') : Turn w w2 F F' := by
  obtain ⟨k, rfl⟩ := hs
  exact ⟨⟨h.1.os, h.1.tape, h.1.output, h.1.size, h.1.block⟩, h.2⟩
theorem sim_ext {w w1 w2 : World} {B : List Nat} (hs : Sim w w1) (h : Ext B w1 w2) : Ext B w w2 := by
  obtain ⟨k, rfl⟩ := hs
  exact ⟨h.os, h.tape, h.output, h.size, h.block⟩
theorem obc_of {K : Nat} {o : OC U} (hk : o.k = 0) {x : U.O o.k} {args : List (SV U)} {r : OR U o.k} (h : ∀ (D : Nat → Prop) (w : World) (vs : List Value), Rep U eT (fun _ => none) D w (.tuple vs.toArray) (.tup args) → ∃ v, Rep U eT (fun _ => none) (fun _ => False) w v r.r ∧ allP r.hy ∧ (∀ w', Rep U eT (fun _ => none) (fun _ => False) w' v r.r) ∧
    ∀ b w1 F, BldIs 78 5 b w1 (cast (by rw [hk]; rfl) x) F → Calls Tryd.prog K (Value.pointer (some ⟨b, 0, none⟩) :: vs).toArray w1 fun e w2 => e = .returned v ∧ ∃ F', BldIs 78 5 b w2 (cast (by rw [hk]; rfl) r.x) F' ∧ Turn w1 w2 F F') : ObcOK E0 K o x args r := by
  obtain ⟨k, C⟩ := o
  simp only at hk
  subst hk
  intro Z D w vs b F _ _ _ hb _ ha
  obtain ⟨v, _, hy, hr, hc⟩ := h D w vs ha
  intro w1 hs
  refine Calls.mono (hc b w1 F (sim_bld hs hb)) fun e w2 ⟨h1, F', h2, h3⟩ => ?_
  exact ⟨v, w2, h1, Sim.refl _, F', h2, sim_turn hs h3, hr w2, hy⟩
def oWS : OC U := ⟨0, fun (x : Str) a => match a with | [.str t] => some ⟨[x.length + t.length ≤ 140737488355328], [], .tup [.int .i64 t.length, .err .nil], (x ++ t : Str)⟩ | _ => none⟩
theorem oWS_ok (x : U.O oWS.k) (args : List (SV U)) (r : OR U oWS.k) (h : oWS.C x args = some r) (ho : allP r.ob) : ObcOK E0 52 oWS x args r := by
  unfold oWS at h
  simp only at h
  split at h
  · rename_i t
    cases h
    refine obc_of rfl fun D w vs ha => ?_
    obtain ⟨v1, r1, rfl, h1, ha⟩ := Rep.tup_cons ha
    obtain rfl := tup0_inv ha
    cases h1 with | str hl =>
    have hr : ∀ w', Rep U eT (fun _ => none) (fun _ => False) w' (.tuple #[.int .i64 t.length, .nilIface]) (.tup [.int .i64 t.length, .err .nil]) := fun w' => .tup1 (cs := [.nilIface]) (.int fun _ => ⟨by omega, by omega⟩) (.tup1 (cs := []) (.err .nil) .tup0)
    exact ⟨_, hr w, trivial, hr, fun b w1 F hb => bd_write b x t w1 F hb ho.1⟩
  · cases h
def oSt : OC U := ⟨0, fun (x : Str) a => match a with | [] => some ⟨[x.length ≤ 9223372036854775807], [], .str x, x⟩ | _ => none⟩
theorem oSt_ok (x : U.O oSt.k) (args : List (SV U)) (r : OR U oSt.k) (h : oSt.C x args = some r) (ho : allP r.ob) : ObcOK E0 53 oSt x args r := by
  unfold oSt at h
  simp only at h
  split at h
  · cases h
    refine obc_of rfl fun D w vs ha => ?_
    obtain rfl := tup0_inv ha
    exact ⟨_, .str ho.1, trivial, fun w' => .str ho.1, fun b w1 F hb => bd_string b x w1 F hb⟩
  · cases h
def oRe : OC U := ⟨0, fun (_ : Str) a => match a with | [] => some ⟨[], [], .tup [], ([] : Str)⟩ | _ => none⟩
theorem oRe_ok (x : U.O oRe.k) (args : List (SV U)) (r : OR U oRe.k) (h : oRe.C x args = some r) : ObcOK E0 57 oRe x args r := by
  unfold oRe at h
  simp only at h
  split at h
  · cases h
    refine obc_of rfl fun D w vs ha => ?_
    obtain rfl := tup0_inv ha
    exact ⟨_, .tup0, trivial, fun w' => .tup0, fun b w1 F hb => bd_reset b x w1 F hb⟩
  · cases h
def oLe : OC U := ⟨0, fun (x : Str) a => match a with | [] => some ⟨[x.length ≤ 9223372036854775807], [], .int .i64 x.length, x⟩ | _ => none⟩
theorem oLe_ok (x : U.O oLe.k) (args : List (SV U)) (r : OR U oLe.k) (h : oLe.C x args = some r) (ho : allP r.ob) : ObcOK E0 60 oLe x args r := by
  unfold oLe at h
  simp only at h
  split at h
  · cases h
    refine obc_of rfl fun D w vs ha => ?_
    obtain rfl := tup0_inv ha
    have hx : ((List.length (α := UInt8) x : Nat) : Int) ≤ 9223372036854775807 := by have := ho.1; omega
    have hr : ∀ w' : World, Rep U eT (fun _ => none) (fun _ => False) w' (.int .i64 (List.length (α := UInt8) x)) (.int .i64 (List.length (α := UInt8) x)) := fun w' => .int fun _ => ⟨by omega, hx⟩
    exact ⟨_, hr w, trivial, hr, fun b w1 F hb => (bd_len b x w1 F hb).mono fun e w2 ⟨h1, h2⟩ => by subst h2; exact ⟨h1, F, hb, Ext.refl _ _, fun k hk => .inl hk⟩⟩
  · cases h
theorem rep_bl {ρ : Env1} {Z : Nat → Prop} {w : World} {b : Bool} {p : Prop} {d : Decidable p} (h : b = @decide p d) : Rep U eT ρ Z w (.bool b) (.bl p d) := by rw [h]; exact .bl
/-- errors.As at a number. -/
def wAs : WC U := ⟨96, 81, fun a x => match a with | .err e => some ⟨[], [], .bl (e.num.isSome = true) inferInstance, e.num.getD x⟩ | _ => none⟩
theorem wAs_ok (a : SV U) (x : Int) (r : WR U) (h : wAs.C a x = some r) : WrcOK E0 55 wAs a x r := by
  unfold wAs at h
  simp only at h
  split at h
  · rename_i e
    cases h
    intro D w v b _ _ hg hv ho hx w1 hs
    have hs' := hs
    obtain ⟨k, rfl⟩ := hs'
    have hg1 : { w with drawn := k }.cell? ⟨2, 0, none⟩ = some errTypeV := hg.2.2.2
    have ht0 : { w with drawn := k }.cell? ⟨b, 0, none⟩ = some (.int .i64 x) := by rw [Sim.cell hs, Own.cellv ho]; rfl
    have hf0 : { w with drawn := k }.frozen? ⟨b, 0, none⟩ = false := by unfold Own at ho; simp [World.frozen?, ho]
    have hit : ∀ (m : Int) (W : World), Ext [] { w with drawn := k } W → Own (W.setCell ⟨b, 0, none⟩ (.int .i64 m)) b 81 [.int .i64 m] ∧ Ext [b] w (W.setCell ⟨b, 0, none⟩ (.int .i64 m)) := fun m W hW => by
      have ho1 : Own { w with drawn := k } b 81 [.int .i64 x] := ho
      have ho2 := ho1.ext hW (by simp)
      obtain ⟨k1, k2, _⟩ := Own.setCell ho2 0 (.int .i64 m)
      exact ⟨k1, sim_ext hs (hW.trans k2 (fun _ h => by cases h) (fun _ h => .inl h))⟩
    have al : ∀ (W : World) (o1 o2 o3 o4 : Obj), Ext [] W ((((W.alloc o1).alloc o2).alloc o3).alloc o4) := fun W o1 o2 o3 o4 => (((ext_alloc (B := []) o1).tr (ext_alloc o2)).tr (ext_alloc o3)).tr (ext_alloc o4)
    cases hv with | err hv =>
    cases hv with
    | nil => exact Calls.mono (as_nil _ _) fun _ w2 ⟨h1, h2⟩ => ⟨_, w2, h1, Sim.refl _, by subst h2; exact ⟨sim_ext hs (Ext.refl _ _), ho, hx, rep_bl rfl, trivial⟩⟩
    | @no m hm =>
      refine Calls.mono (asE_no m ⟨b, 0, none⟩ (.int .i64 x) _ hg1 ht0 hf0) fun _ w2 ⟨h1, h2⟩ => ⟨_, w2, h1, Sim.refl _, ?_⟩
      subst h2
      obtain ⟨k1, k2⟩ := hit m _ (al _ _ _ _ _)
      exact ⟨k2, k1, hm, rep_bl rfl, trivial⟩
    | @fault c at_ m hz hc hat hm =>
      refine Calls.mono (asE_fault c m ⟨b, 0, none⟩ (.int .i64 x) _ (by rw [Sim.cell hs, Own.cellv hc]; rfl) hg1 ht0 hf0) fun _ w2 ⟨h1, h2⟩ => ⟨_, w2, h1, Sim.refl _, ?_⟩
      subst h2
      obtain ⟨k1, k2⟩ := hit m _ (al _ _ _ _ _)
      exact ⟨k2, k1, hm, rep_bl rfl, trivial⟩
  · cases h
end Go.Proofs.YtadgfmmmdhlljaaDoor
end
section
namespace Go.Proofs.YtadgfmmmdhlljaaDoor
open Go Go.Wk Go.Wl Go.Rx Go.Fo Go.Li Go.Proofs Go.RowKit Go.Extern.Stop Go.Stop Go.Extern
theorem set_after {w w' : World} {T : TypeId} {o1 o2 o3 o4 : Obj} {v0 v : Value} (hw : w' = (((((w.alloc (.cells #[v0] T)).alloc o1).alloc o2).alloc o3).alloc o4).setCell ⟨w.heap.size, 0, none⟩ v) : Own w' w.heap.size T [v] ∧ Ext [] w w' := by
  subst hw
  have ho1 : Own (w.alloc (.cells #[v0] T)) w.heap.size T [v0] := by
    show (w.heap.push _)[w.heap.size]? = _
    simp
  have al : Ext [] (w.alloc (.cells #[v0] T)) (((((w.alloc (.cells #[v0] T)).alloc o1).alloc o2).alloc o3).alloc o4) := (((ext_alloc (B := []) o1).tr (ext_alloc o2)).tr (ext_alloc o3)).tr (ext_alloc o4)
  obtain ⟨k1, k2, _⟩ := Own.setCell (ho1.ext al (by simp)) 0 v
  exact ⟨k1, ((ext_alloc (B := []) _).tr al).trans k2 (fun _ h => by cases h) (fun b hb => .inr (by rw [List.mem_singleton.1 hb]; exact Nat.le_refl _))⟩
set_option maxRecDepth 100000 in
set_option maxHeartbeats 4000000 in
theorem place_nil (w : World) : Calls Tryd.prog 21 #[.nilIface] w fun e w' => e = .returned (.int .i64 0) ∧ Ext [] w w' := by
  go_enter Tryd.func21, Tryd.ntmps21
  go_wp2_with (go_at_call 55; refine (as_nil _ _).mono ?_; rintro e w' ⟨rfl, rfl⟩)
  go_ret
  exact ⟨rfl, ext_alloc _⟩
theorem errType_lt {w : World} (hg : w.cell? ⟨2, 0, none⟩ = some errTypeV) : 2 < w.heap.size := by
  rcases Nat.lt_or_ge 2 w.heap.size with h | h
  · exact h
  · simp [World.cell?, Array.getElem?_eq_none h] at hg
set_option maxRecDepth 100000 in
set_option maxHeartbeats 4000000 in
theorem place_no (n : Int) (w : World) (hg : w.cell? ⟨2, 0, none⟩ = some errTypeV) : Calls Tryd.prog 21 #[.iface 81 (.int .i64 n)] w fun e w' => e = .returned (.int .i64 0) ∧ Ext [] w w' := by
  have hlt := errType_lt hg
  have hgA : (w.alloc (.cells #[.pointer none] 82)).cell? ⟨2, 0, none⟩ = some errTypeV := by rw [World.cell?_alloc_lt _ _ ⟨2, 0, none⟩ hlt]; exact hg
  have htA : (w.alloc (.cells #[.pointer none] 82)).cell? ⟨w.heap.size, 0, none⟩ = some (.pointer none) := by simp
  have hfA : (w.alloc (.cells #[.pointer none] 82)).frozen? ⟨w.heap.size, 0, none⟩ = false := by simp
  go_enter Tryd.func21, Tryd.ntmps21
  go_wp2_with (go_at_call 55; refine (asF_no _ _ (.pointer none) _ hgA htA hfA).mono ?_; rintro e w' ⟨rfl, rfl⟩)
  go_ret
  exact ⟨rfl, ((ext_alloc (B := []) _).tr (ext_alloc _)).tr ((ext_alloc (B := []) _).tr (ext_alloc _))⟩
set_option maxRecDepth 100000 in
set_option maxHeartbeats 4000000 in
theorem place_fault (k : Nat) (a : Int) (w : World) (hc : w.cell? ⟨k, 0, none⟩ = some (.int .i64 a)) (hg : w.cell? ⟨2, 0, none⟩ = some errTypeV) : Calls Tryd.prog 21 #[.iface 82 (.pointer (some ⟨k, 0, none⟩))] w fun e w' => e = .returned (.int .i64 a) ∧ Ext [] w w' := by
  have hlt := errType_lt hg
  have hgA : (w.alloc (.cells #[.pointer none] 82)).cell? ⟨2, 0, none⟩ = some errTypeV := by rw [World.cell?_alloc_lt _ _ ⟨2, 0, none⟩ hlt]; exact hg
  have htA : (w.alloc (.cells #[.pointer none] 82)).cell? ⟨w.heap.size, 0, none⟩ = some (.pointer none) := by simp
  have hfA : (w.alloc (.cells #[.pointer none] 82)).frozen? ⟨w.heap.size, 0, none⟩ = false := by simp
  go_enter Tryd.func21, Tryd.ntmps21
  go_wp2_with (go_at_call 55; refine (asF_fault ⟨k, 0, none⟩ _ (.pointer none) _ hgA htA hfA).mono ?_)
  rintro e w' ⟨rfl, hw⟩
  have hkl : k < w.heap.size := by
    rcases Nat.lt_or_ge k w.heap.size with h | h
    · exact h
    · simp [World.cell?, Array.getElem?_eq_none h] at hc
  have fin : w'.cell? ⟨w.heap.size, 0, none⟩ = some (.pointer (some ⟨k, 0, none⟩)) ∧ Ext [] w w' ∧ w'.cell? ⟨k, 0, none⟩ = some (.int .i64 a) := by
    obtain ⟨k1, x3⟩ := set_after hw
    refine ⟨by rw [Own.cellv k1]; rfl, x3, ?_⟩
    unfold World.cell?
    rw [x3.block k hkl (by simp)]
    exact hc
  clear hw
  obtain ⟨c1, x3, c2⟩ := fin
  go_wp2
  go_ret
  exact ⟨rfl, x3⟩
/-- api.Place. -/
def cPl (a : List (SV U)) : Option (Q1 U) := match a with | [.err e] => some ⟨[], [], .int .i64 e.at_⟩ | _ => none
theorem cPl_ok (args : List (SV U)) (q : Q1 U) (h : cPl args = some q) : LendOK E0 21 args ⟨q.ob, q.hy, q.v, []⟩ := by
  unfold cPl at h
  split at h
  · rename_i e
    cases h
    intro D w vs _ hg ha w1 hs
    obtain ⟨v1, r1, rfl, h1, ha⟩ := Rep.tup_cons ha
    obtain rfl := tup0_inv ha
    have hg1 : w1.cell? ⟨2, 0, none⟩ = some errTypeV := by rw [Sim.cell hs]; exact hg.2.2.2
    cases h1 with | err h1 =>
    cases h1 with
    | nil => exact Calls.mono (place_nil w1) fun _ w2 ⟨h1, h2⟩ => ⟨_, w2, h1, Sim.refl _, sim_ext hs h2, .int fun _ => ⟨by decide, by decide⟩, trivial⟩
    | @no m hm => exact Calls.mono (place_no m w1 hg1) fun _ w2 ⟨h1, h2⟩ => ⟨_, w2, h1, Sim.refl _, sim_ext hs h2, .int fun _ => ⟨by decide, by decide⟩, trivial⟩
    | @fault c at_ m hz hc hat hm => exact Calls.mono (place_fault c at_ w1 (by rw [Sim.cell hs, Own.cellv hc]; rfl) hg1) fun _ w2 ⟨h1, h2⟩ => ⟨_, w2, h1, Sim.refl _, sim_ext hs h2, .int fun _ => hat, trivial⟩
  · cases h
end Go.Proofs.YtadgfmmmdhlljaaDoor
end
section
namespace Go.Proofs.YtadgfmmmdhlljaaDoor
open Go Go.Wk Go.Wl Go.Rx Go.Fo Go.Li 
noncomputable def EL0 : Env := ((((E0.addL 50 cIs).addL 51 cDec).addL 119 cIx).addL 59 cTr).addL 21 cPl
theorem EL0_ok : EnvOK EL0 := ((((E0_ok.addL Tryd.call50 (fun a q h _ => cIs_ok a q h)).addL Tryd.call51 (fun a q h _ => cDec_ok a q h)).addL Tryd.call119 cIx_ok).addL Tryd.call59 (fun a q h _ => cTr_ok a q h)).addL Tryd.call21 (fun a q h _ => cPl_ok a q h)
noncomputable def EL : Env := ((((EL0.addO 52 oWS).addO 53 oSt).addO 57 oRe).addO 60 oLe).addW 55 wAs
theorem EL_ok : EnvOK EL := ((((EL0_ok.addO Tryd.call52 oWS_ok).addO Tryd.call53 oSt_ok).addO Tryd.call57 (fun x a r h _ => oRe_ok x a r h)).addO Tryd.call60 oLe_ok).addW Tryd.call55 (fun a x r h _ => wAs_ok a x r h)
end Go.Proofs.YtadgfmmmdhlljaaDoor
end
section
namespace Go.Proofs.YtadgfmmmdhlljaaDoor
open Go Go.Wk Go.Wl Go.Rx Go.Fo Go.Li 
def an25 : Nat → Ann := fun | 25 => ⟨35, fun | 4 => some ⟨[0], [.slot 3 (.int .i64)]⟩ | _ => none, fun  | _ => none⟩ | _ => ⟨0, fun _ => none, fun _ => none⟩
def V25 (s : Str) (Q : Int → Prop) : Prop :=
((5000 : Int) < (↑(List.length s) : Int) → Q (4 : Int)) ∧
  (¬(5000 : Int) < (↑(List.length s) : Int) →
    ∃ (I : Int → Prop),
      ∃ (m : Int → Nat),
        I (0 : Int) ∧
          ∀ (x : Int),
            I x →
              (x < (↑(List.length s) : Int) →
                  (0 : Int) ≤ x ∧
                    x < (↑(List.length s) : Int) ∧
                      (¬ix s x = (10 : UInt8) → (0 : Int) ≤ x) ∧
                        (¬ix s x = (10 : UInt8) → x < (↑(List.length s) : Int)) ∧
                          (ix s x = (10 : UInt8) ∨ ix s x = (13 : UInt8) → Q (11 : Int)) ∧
                            (¬(ix s x = (10 : UInt8) ∨ ix s x = (13 : UInt8)) → in64 (x + (1 : Int)) ∧ I (x + (1 : Int)) ∧ m (x + (1 : Int)) < m x)) ∧
                (¬x < (↑(List.length s) : Int) →
                  (¬s = [] → (0 : Int) ≤ (0 : Int)) ∧
                    (¬s = [] → (0 : Int) < (↑(List.length s) : Int)) ∧
                      (¬(s = [] ∨ ix s (0 : Int) = (32 : UInt8)) → (0 : Int) ≤ (0 : Int)) ∧
                        (¬(s = [] ∨ ix s (0 : Int) = (32 : UInt8)) → (0 : Int) < (↑(List.length s) : Int)) ∧
                          ((s = [] ∨ ix s (0 : Int) = (32 : UInt8)) ∨ ix s (0 : Int) = (9 : UInt8) → Q (11 : Int)) ∧
                            (¬((s = [] ∨ ix s (0 : Int) = (32 : UInt8)) ∨ ix s (0 : Int) = (9 : UInt8)) → Q (0 : Int))))
set_option maxRecDepth 100000 in
theorem V25_ok {s : Str} {Q : Int → Prop} (h : V25 s Q) : vcFun (E := EL) (inlN an25 2) (an25 25) Tryd.f25 [.str s] [] [] 0 (resP EL [.int .i64] Q) := Eq.mp (show V25 s Q = vcFun (E := EL) (inlN an25 2) (an25 25) Tryd.f25 [.str s] [] [] 0 (resP EL [.int .i64] Q) by kernel_rfl) h
theorem any_no {s : Str} (h : ∀ j : Int, 0 ≤ j → j < s.length → ¬ (ix s j = 10 ∨ ix s j = 13)) : ¬ s.any ends = true := fun hh => by
  obtain ⟨c, hc, he⟩ := List.any_eq_true.1 hh
  obtain ⟨j, hj, rfl⟩ := List.getElem_of_mem hc
  have hx := h j (by omega) (by omega)
  rw [ix_get (by simp only [Int.toNat_natCast]; exact hj)] at hx
  simp only [Int.toNat_natCast] at hx
  simp only [ends, Bool.or_eq_true, beq_iff_eq] at he
  exact hx he
theorem any_yes {s : Str} {j : Int} (h0 : 0 ≤ j) (h1 : j < s.length) (h : ix s j = 10 ∨ ix s j = 13) : s.any ends = true := by
  refine List.any_eq_true.2 ⟨ix s j, by rw [ix_get (by omega)]; exact List.getElem_mem _, ?_⟩
  simp only [ends, Bool.or_eq_true, beq_iff_eq]
  exact h
theorem len_pos {α : Type} {s : List α} (h : ¬ s = []) : (0 : Int) < (s.length : Nat) := by
  have := List.length_pos_iff.2 h; omega
theorem p25 (s : Str)  : V25 s (fun y0 => y0 = rMay s) := by
  unfold V25
  refine ⟨fun h => by rw [rMay, if_pos (by omega)], fun h => ⟨fun i => 0 ≤ i ∧ i ≤ s.length ∧ ∀ j : Int, 0 ≤ j → j < i → ¬ (ix s j = 10 ∨ ix s j = 13), fun i => ((s.length : Int) - i).toNat, ⟨by omega, by omega, fun j _ _ => by omega⟩, fun i ⟨h0, h1, h2⟩ => ⟨fun hi => ⟨h0, hi, fun _ => h0, fun _ => hi, fun hc => ?_, fun hc => ⟨⟨by omega, by omega⟩, ⟨by omega, by omega, fun j j0 j1 => ?_⟩, by dsimp only; omega⟩⟩, fun hi => ?_⟩⟩⟩
  · rw [rMay, if_neg (by omega), if_pos (any_yes h0 hi hc)]
  · by_cases e : j = i
    · subst e; exact hc
    · exact h2 j j0 (by omega)
  · have hn : ¬ s.any ends = true := any_no (fun j j0 j1 => h2 j j0 (by omega))
    refine ⟨fun _ => Int.le_refl _, fun h => len_pos h, fun _ => Int.le_refl _, fun h => len_pos (fun e => h (.inl e)), fun hc => ?_, fun hc => ?_⟩
    · rw [rMay, if_neg (by omega), if_neg hn, if_pos (or_assoc.1 hc)]
    · rw [rMay, if_neg (by omega), if_neg hn, if_neg (fun e => hc (or_assoc.2 e))]
def c25 (a : List (SV U)) : Option (Q1 U) := match a with | [.str s] => some ⟨[], [], .int .i64 (rMay s)⟩ | _ => none
set_option maxRecDepth 100000 in
theorem c25_ok (args : List (SV U)) (q : Q1 U) (h : c25 args = some q) (ho : allP q.ob) : LendOK EL 25 args ⟨q.ob, q.hy, q.v, []⟩ := by
  unfold c25 at h
  split at h
  · rename_i s
    cases h
    exact lend1 EL_ok Tryd.func25 (k := .int .i64) (x := rMay s) trivial (V25_ok (p25 s )) 0
  · cases h
noncomputable def N25 : Env := EL.addL 25 c25
theorem N25_ok : EnvOK N25 := EL_ok.addL Tryd.call25 c25_ok
end Go.Proofs.YtadgfmmmdhlljaaDoor
end
section
namespace Go.Proofs.YtadgfmmmdhlljaaDoor
open Go Go.Wk Go.Wl Go.Rx Go.Fo Go.Li 
def an54 : Nat → Ann := fun | 54 => ⟨46, fun | 2 => some ⟨[], [.slot 0 .str, .slot 3 (.acc 9)]⟩ | _ => none, fun  | _ => none⟩ | _ => ⟨0, fun _ => none, fun _ => none⟩
def V54 (s : Str) (Q : List Str → Prop) : Prop :=
∃ (I : List UInt8 → List (List UInt8) → Prop),
  ∃ (m : List UInt8 → List (List UInt8) → Nat),
    I s [[]] ∧
      ∀ (x : List UInt8) (x_1 : List (List UInt8)),
        I x x_1 →
          (x ≠ [] →
              in64 ((↑x_1.length : Int) - (1 : Int)) ∧
                (0 : Int) ≤ (↑x_1.length : Int) - (1 : Int) ∧
                  (↑x_1.length : Int) - (1 : Int) < (↑x_1.length : Int) ∧
                    in64 ((↑(ix x_1 ((↑x_1.length : Int) - (1 : Int))).length : Int) + (↑(decw x) : Int)) ∧
                      ((75 : Int) < (↑(ix x_1 ((↑x_1.length : Int) - (1 : Int))).length : Int) + (↑(decw x) : Int) →
                          (x_1.length + [[(32 : UInt8)]].length) * (some (16 : Nat)).getD (0 : Nat) ≤ (140737488355328 : Nat) ∧
                            in64 ((↑x_1.length : Int) - (1 : Int) + (1 : Int)) ∧
                              ((0 : Int) ≤ (↑x_1.length : Int) - (1 : Int) + (1 : Int) ∧ (↑x_1.length : Int) - (1 : Int) + (1 : Int) < (↑(x_1 ++ [[(32 : UInt8)]]).length : Int)) ∧
                                ((0 : Int) ≤ (↑(decw x) : Int) ∧ (↑(decw x) : Int) ≤ (↑x.length : Int)) ∧
                                  (ix (x_1 ++ [[(32 : UInt8)]]) ((↑x_1.length : Int) - (1 : Int) + (1 : Int))).length + (List.take (↑(decw x) : Int).toNat x).length ≤ (9223372036854775807 : Nat) ∧
                                    ((0 : Int) ≤ (↑x_1.length : Int) - (1 : Int) + (1 : Int) ∧ (↑x_1.length : Int) - (1 : Int) + (1 : Int) < (↑(x_1 ++ [[(32 : UInt8)]]).length : Int)) ∧
                                      (0 : Int) ≤ (↑(decw x) : Int) ∧
                                        (↑(decw x) : Int) ≤ (↑x.length : Int) ∧
                                          I (List.drop (↑(decw x) : Int).toNat x)
                                              ((x_1 ++ [[(32 : UInt8)]]).set ((↑x_1.length : Int) - (1 : Int) + (1 : Int)).toNat
                                                (ix (x_1 ++ [[(32 : UInt8)]]) ((↑x_1.length : Int) - (1 : Int) + (1 : Int)) ++ List.take (↑(decw x) : Int).toNat x)) ∧
                                            m (List.drop (↑(decw x) : Int).toNat x)
                                                ((x_1 ++ [[(32 : UInt8)]]).set ((↑x_1.length : Int) - (1 : Int) + (1 : Int)).toNat
                                                  (ix (x_1 ++ [[(32 : UInt8)]]) ((↑x_1.length : Int) - (1 : Int) + (1 : Int)) ++ List.take (↑(decw x) : Int).toNat x)) <
                                              m x x_1) ∧
                        (¬(75 : Int) < (↑(ix x_1 ((↑x_1.length : Int) - (1 : Int))).length : Int) + (↑(decw x) : Int) →
                          ((0 : Int) ≤ (↑x_1.length : Int) - (1 : Int) ∧ (↑x_1.length : Int) - (1 : Int) < (↑x_1.length : Int)) ∧
                            ((0 : Int) ≤ (↑(decw x) : Int) ∧ (↑(decw x) : Int) ≤ (↑x.length : Int)) ∧
                              (ix x_1 ((↑x_1.length : Int) - (1 : Int))).length + (List.take (↑(decw x) : Int).toNat x).length ≤ (9223372036854775807 : Nat) ∧
                                ((0 : Int) ≤ (↑x_1.length : Int) - (1 : Int) ∧ (↑x_1.length : Int) - (1 : Int) < (↑x_1.length : Int)) ∧
                                  (0 : Int) ≤ (↑(decw x) : Int) ∧
                                    (↑(decw x) : Int) ≤ (↑x.length : Int) ∧
                                      I (List.drop (↑(decw x) : Int).toNat x)
                                          (x_1.set ((↑x_1.length : Int) - (1 : Int)).toNat (ix x_1 ((↑x_1.length : Int) - (1 : Int)) ++ List.take (↑(decw x) : Int).toNat x)) ∧
                                        m (List.drop (↑(decw x) : Int).toNat x)
                                            (x_1.set ((↑x_1.length : Int) - (1 : Int)).toNat (ix x_1 ((↑x_1.length : Int) - (1 : Int)) ++ List.take (↑(decw x) : Int).toNat x)) <
                                          m x x_1)) ∧
            (¬x ≠ [] → Q x_1)
set_option maxRecDepth 100000 in
theorem V54_ok {s : Str} {Q : List Str → Prop} (h : V54 s Q) : vcFun (E := N25) (inlN an54 2) (an54 54) Tryd.f54 [.str s] [] [] 0 (resP N25 [.acc 9] Q) := Eq.mp (show V54 s Q = vcFun (E := N25) (inlN an54 2) (an54 54) Tryd.f54 [.str s] [] [] 0 (resP N25 [.acc 9] Q) by kernel_rfl) h
theorem ix_snoc {α : Type} [Inhabited α] {a : List α} {c : α} {i : Int} (h : i = a.length) : ix (a ++ [c]) i = c := by
  subst h
  rw [ix_get (by simp)]; simp
theorem set_snoc {α : Type} {a : List α} {c d : α} {i : Int} (h : i = a.length) : (a ++ [c]).set i.toNat d = a ++ [d] := by
  subst h; simp
theorem take_nat {α : Type} {x : List α} {n : Nat} : List.take ((n : Int)).toNat x = List.take n x := by rw [Int.toNat_natCast]
theorem p54 (s : Str) (hs : s.length ≤ 100000) : V54 s (fun y0 => y0 = linesG dec [] s) := by
  unfold V54
  refine ⟨fun x out => ∃ a c, out = a ++ [c] ∧ linesG dec [] s = a ++ linesG dec c x ∧ a.length + x.length ≤ s.length ∧ c.length ≤ 75, fun x _ => x.length, ⟨[], [], rfl, rfl, by simp, by simp⟩, ?_⟩
  rintro x out ⟨a, c, rfl, h1, h2, h3⟩
  have hl : ((a ++ [c]).length : Int) - 1 = a.length := by simp
  have hl0 : ((a.length + 1 : Nat) : Int) - 1 = a.length := by omega
  have hl2 : (((a ++ [c]) ++ [[32]]).length : Int) = a.length + 2 := by simp
  have hl3 : (a ++ [c]).length = a.length + 1 := by simp
  have hi : ix (a ++ [c]) (a.length : Int) = c := ix_snoc rfl
  have hi2 : ix ((a ++ [c]) ++ [[32]]) ((a.length : Int) + 1) = [32] := ix_snoc (by simp)
  refine ⟨fun hx => ?_, fun hx => ?_⟩
  · have hp : 1 ≤ decw x := dec.pos x hx
    have hle : decw x ≤ x.length := dec.le x
    have h4 : decw x ≤ 4 := dec.four x
    have hd : (x.drop (decw x)).length = x.length - decw x := by simp
    have ht : (x.take (decw x)).length = decw x := dec.take_len x
    have hs1 : ∀ d, ((a ++ [c]) ++ [[32]]).set ((a.length : Int) + 1).toNat d = (a ++ [c]) ++ [d] := fun d => set_snoc (by simp)
    have hs2 : ∀ d, (a ++ [c]).set a.length d = a ++ [d] := fun d => by simp
    simp only [hl, hl2, hl3, hl0, hi, hi2, take_nat, hs1, hs2, ht, Int.toNat_natCast]
    refine ⟨⟨by omega, by omega⟩, by omega, by omega, ⟨by omega, by omega⟩, fun hc => ⟨?_, ⟨by omega, by omega⟩, ⟨by omega, by omega⟩, ⟨by omega, by omega⟩, ?_, ⟨by omega, by omega⟩, by omega, by omega, ⟨a ++ [c], _, rfl, ?_, ?_, ?_⟩, by omega⟩, fun hc => ⟨⟨by omega, by omega⟩, ⟨by omega, by omega⟩, ?_, ⟨by omega, by omega⟩, by omega, by omega, ⟨a, _, rfl, ?_, ?_, ?_⟩, by omega⟩⟩
    · simp only [List.length_cons, List.length_nil, Option.getD_some]; omega
    · simp only [List.length_cons, List.length_nil]; omega
    · rw [h1, linesG_new dec hx (by show (75 : Int) < _; exact hc)]; simp [dec]
    · simp only [List.length_append, List.length_cons, List.length_nil]; omega
    · simp only [List.length_append, List.length_cons, List.length_nil]; omega
    · omega
    · rw [h1, linesG_on dec hx (by show ¬ (75 : Int) < _; exact hc)]; rfl
    · omega
    · simp only [List.length_append]; omega
  · have e : x = [] := Classical.not_not.1 hx
    subst e
    rw [h1, linesG_nil]
def c54 (a : List (SV U)) (nx : Nat) : Option (CR U) := match a with | [.str s] => some ⟨[s.length ≤ 100000], [], .acc nx, [.ac 9 (linesG dec [] s)]⟩ | _ => none
set_option maxRecDepth 100000 in
theorem c54_ok (args : List (SV U)) (nx : Nat) (c : CR U) (h : c54 args nx = some c) (hp : args.all pureS = true) (ho : allP c.ob) : ConOK N25.P N25.N N25.T N25.G 54 args nx c := by
  unfold c54 at h
  split at h
  · rename_i s
    cases h
    exact con1 N25_ok Tryd.func54 (k := .acc 9) (x := linesG dec [] s) hp (V54_ok (p54 s ho.1))
  · cases h
noncomputable def N54 : Env := N25.addC 54 c54
theorem N54_ok : EnvOK N54 := N25_ok.addC Tryd.call54 c54_ok
end Go.Proofs.YtadgfmmmdhlljaaDoor
end
section
namespace Go.Proofs.YtadgfmmmdhlljaaDoor
open Go Go.Wk Go.Wl Go.Rx Go.Fo Go.Li 
noncomputable def NI99 : Env := N54.addI 99 Tryd.f99
theorem NI99_ok : EnvOK NI99 := N54_ok.addI Tryd.call99 Tryd.func99
end Go.Proofs.YtadgfmmmdhlljaaDoor
end
section
namespace Go.Proofs.YtadgfmmmdhlljaaDoor
open Go Go.Wk Go.Wl Go.Rx Go.Fo Go.Li 
def an58 : Nat → Ann := fun | 58 => ⟨13, fun _ => none, fun  | _ => none⟩ | _ => ⟨0, fun _ => none, fun _ => none⟩
def V58 (s : Str) (t : Str) (Q : Str → Str → Bool → Prop) : Prop :=
List.length t = (1 : Nat) ∧
  ((0 : Int) ≤ Lib.indexByte s (ix t (0 : Int)) →
      (0 : Int) ≤ Lib.indexByte s (ix t (0 : Int)) ∧
        Lib.indexByte s (ix t (0 : Int)) ≤ (↑(List.length s) : Int) ∧
          in64 (Lib.indexByte s (ix t (0 : Int)) + (↑(List.length t) : Int)) ∧
            (0 : Int) ≤ Lib.indexByte s (ix t (0 : Int)) + (↑(List.length t) : Int) ∧
              Lib.indexByte s (ix t (0 : Int)) + (↑(List.length t) : Int) ≤ (↑(List.length s) : Int) ∧
                Q (List.take (Lib.indexByte s (ix t (0 : Int))).toNat s) (List.drop (Lib.indexByte s (ix t (0 : Int)) + (↑(List.length t) : Int)).toNat s) true) ∧
    (¬(0 : Int) ≤ Lib.indexByte s (ix t (0 : Int)) → Q s [] false)
set_option maxRecDepth 100000 in
theorem V58_ok {s : Str} {t : Str} {Q : Str → Str → Bool → Prop} (h : V58 s t Q) : vcFun (E := NI99) (inlN an58 2) (an58 58) Tryd.f58 [.str s, .str t] [] [] 0 (resP NI99 [.str, .str, .bool] Q) := Eq.mp (show V58 s t Q = vcFun (E := NI99) (inlN an58 2) (an58 58) Tryd.f58 [.str s, .str t] [] [] 0 (resP NI99 [.str, .str, .bool] Q) by kernel_rfl) h
theorem p58 (s : Str) (t : Str) (ht : t = [10]) (hs : s.length ≤ 1000000) : V58 s t (fun y0 y1 y2 => y0 = hd s ∧ y1 = tl s ∧ y2 = decide (10 ∈ s)) := by
  subst ht
  unfold V58
  have e : ix ([10] : Str) 0 = 10 := rfl
  rw [e]
  obtain ⟨h1, h2⟩ := index_nl s
  have hlt := indexByte_lt s 10
  refine ⟨rfl, fun h => ?_, fun h => ?_⟩
  · have hm : (10 : UInt8) ∈ s := Classical.byContradiction fun hm => by have := h2 hm; omega
    obtain ⟨_, h3, h4⟩ := h1 hm
    have el : ((([10] : Str).length : Nat) : Int) = 1 := rfl
    rw [el]
    exact ⟨h, by omega, ⟨by omega, by omega⟩, by omega, by omega, h3, h4, (decide_eq_true hm).symm⟩
  · have hm : (10 : UInt8) ∉ s := fun hm => by have := (h1 hm).1; omega
    exact ⟨(hd_all hm).1.symm, (hd_all hm).2.symm, (decide_eq_false hm).symm⟩
def c58 (a : List (SV U)) : Option (Q1 U) := match a with | [.str s, .str t] => some ⟨[t = [10], s.length ≤ 1000000], [], .tup [.str (hd s), .str (tl s), blB (decide (10 ∈ s))]⟩ | _ => none
set_option maxRecDepth 100000 in
theorem c58_ok (args : List (SV U)) (q : Q1 U) (h : c58 args = some q) (ho : allP q.ob) : LendOK NI99 58 args ⟨q.ob, q.hy, q.v, []⟩ := by
  unfold c58 at h
  split at h
  · rename_i s t
    cases h
    exact lend3 NI99_ok Tryd.func58 (k1 := .str) (k2 := .str) (k3 := .bool) (x1 := hd s) (x2 := tl s) (x3 := decide (10 ∈ s)) trivial trivial trivial (V58_ok (p58 s t ho.1 ho.2.1)) 0
  · cases h
noncomputable def N58 : Env := NI99.addL 58 c58
theorem N58_ok : EnvOK N58 := NI99_ok.addL Tryd.call58 c58_ok
end Go.Proofs.YtadgfmmmdhlljaaDoor
end
section
namespace Go.Proofs.YtadgfmmmdhlljaaDoor
open Go Go.Wk Go.Wl Go.Rx Go.Fo Go.Li 
def an61 : Nat → Ann := fun | 61 => ⟨50, fun | 4 => some ⟨[0], [.slot 3 (.acc 9), .slot 4 (.int .i64), .slot 5 (.int .i64)]⟩ | _ => none, fun  | _ => none⟩ | _ => ⟨0, fun _ => none, fun _ => none⟩
def V61 (s : Str) (Q : List Str → Prop) : Prop :=
∃ (I : List (List UInt8) → Int → Int → Prop),
  ∃ (m : List (List UInt8) → Int → Int → Nat),
    I [] (0 : Int) (0 : Int) ∧
      ∀ (x : List (List UInt8)) (x_1 x_2 : Int),
        I x x_1 x_2 →
          (x_2 < (↑(List.length s) : Int) →
              (0 : Int) ≤ x_2 ∧
                x_2 < (↑(List.length s) : Int) ∧
                  (ix s x_2 ≠ (10 : UInt8) → in64 (x_2 + (1 : Int)) ∧ I x x_1 (x_2 + (1 : Int)) ∧ m x x_1 (x_2 + (1 : Int)) < m x x_1 x_2) ∧
                    (¬ix s x_2 ≠ (10 : UInt8) →
                      (x_1 < x_2 → in64 (x_2 - (1 : Int))) ∧
                        (x_1 < x_2 → (0 : Int) ≤ x_2 - (1 : Int)) ∧
                          (x_1 < x_2 → x_2 - (1 : Int) < (↑(List.length s) : Int)) ∧
                            (x_1 < x_2 ∧ ix s (x_2 - (1 : Int)) = (13 : UInt8) →
                                in64 (x_2 - (1 : Int)) ∧
                                  (0 : Int) ≤ x_1 ∧
                                    x_1 ≤ x_2 - (1 : Int) ∧
                                      x_2 - (1 : Int) ≤ (↑(List.length s) : Int) ∧
                                        (x.length + [List.drop x_1.toNat (List.take (x_2 - (1 : Int)).toNat s)].length) * (some (16 : Nat)).getD (0 : Nat) ≤ (140737488355328 : Nat) ∧
                                          in64 (x_2 + (1 : Int)) ∧
                                            in64 (x_2 + (1 : Int)) ∧
                                              I (x ++ [List.drop x_1.toNat (List.take (x_2 - (1 : Int)).toNat s)]) (x_2 + (1 : Int)) (x_2 + (1 : Int)) ∧
                                                m (x ++ [List.drop x_1.toNat (List.take (x_2 - (1 : Int)).toNat s)]) (x_2 + (1 : Int)) (x_2 + (1 : Int)) < m x x_1 x_2) ∧
                              (¬(x_1 < x_2 ∧ ix s (x_2 - (1 : Int)) = (13 : UInt8)) →
                                (0 : Int) ≤ x_1 ∧
                                  x_1 ≤ x_2 ∧
                                    x_2 ≤ (↑(List.length s) : Int) ∧
                                      (x.length + [List.drop x_1.toNat (List.take x_2.toNat s)].length) * (some (16 : Nat)).getD (0 : Nat) ≤ (140737488355328 : Nat) ∧
                                        in64 (x_2 + (1 : Int)) ∧
                                          in64 (x_2 + (1 : Int)) ∧
                                            I (x ++ [List.drop x_1.toNat (List.take x_2.toNat s)]) (x_2 + (1 : Int)) (x_2 + (1 : Int)) ∧
                                              m (x ++ [List.drop x_1.toNat (List.take x_2.toNat s)]) (x_2 + (1 : Int)) (x_2 + (1 : Int)) < m x x_1 x_2))) ∧
            (¬x_2 < (↑(List.length s) : Int) →
              (x_1 < (↑(List.length s) : Int) →
                  (0 : Int) ≤ x_1 ∧
                    x_1 ≤ (↑(List.length s) : Int) ∧ (x.length + [List.drop x_1.toNat s].length) * (some (16 : Nat)).getD (0 : Nat) ≤ (140737488355328 : Nat) ∧ Q (x ++ [List.drop x_1.toNat s])) ∧
                (¬x_1 < (↑(List.length s) : Int) → Q x))
set_option maxRecDepth 100000 in
theorem V61_ok {s : Str} {Q : List Str → Prop} (h : V61 s Q) : vcFun (E := N58) (inlN an61 2) (an61 61) Tryd.f61 [.str s] [] [] 0 (resP N58 [.acc 9] Q) := Eq.mp (show V61 s Q = vcFun (E := N58) (inlN an61 2) (an61 61) Tryd.f61 [.str s] [] [] 0 (resP N58 [.acc 9] Q) by kernel_rfl) h
theorem p61 (s : Str) (hs : s.length ≤ 100000) : V61 s (fun y0 => y0 = linesOf s) := by
  unfold V61
  refine ⟨fun out fr i => 0 ≤ fr ∧ fr ≤ i ∧ i ≤ s.length ∧ out.length ≤ i ∧ linesOf s = out ++ linesOf (s.drop fr.toNat) ∧ ∀ k : Int, fr ≤ k → k < i → ix s k ≠ 10, fun _ _ i => ((s.length : Int) - i).toNat, ⟨by omega, by omega, by omega, by simp, rfl, fun k _ _ => by omega⟩, ?_⟩
  rintro out fr i ⟨h0, h1, h2, h3, h4, h5⟩
  refine ⟨fun hi => ⟨by omega, hi, fun hc => ⟨⟨by omega, by omega⟩, ⟨h0, by omega, by omega, by omega, h4, fun k k0 k1 => ?_⟩, by dsimp only; omega⟩, fun hc => ?_⟩, fun hi => ?_⟩
  · by_cases e : k = i
    · subst e; exact hc
    · exact h5 k k0 (by omega)
  · have hc : ix s i = 10 := Classical.not_not.1 hc
    have hsp := split_at h0 h1 hi hc h5
    rw [trim_at h0 h1 (by omega)] at hsp
    refine ⟨fun h => ⟨by omega, by omega⟩, fun h => by omega, fun h => by omega, fun h => ⟨⟨by omega, by omega⟩, h0, by omega, by omega, ?_, ⟨by omega, by omega⟩, ⟨by omega, by omega⟩, ⟨by omega, by omega, by omega, ?_, ?_, fun k k0 k1 => by omega⟩, by dsimp only; omega⟩, fun h => ⟨h0, h1, by omega, ?_, ⟨by omega, by omega⟩, ⟨by omega, by omega⟩, ⟨by omega, by omega, by omega, ?_, ?_, fun k k0 k1 => by omega⟩, by dsimp only; omega⟩⟩
    · simp only [List.length_cons, List.length_nil, Option.getD_some]; omega
    · simp only [List.length_append, List.length_cons, List.length_nil]; omega
    · rw [if_pos h] at hsp
      rw [h4, hsp, List.append_assoc]; rfl
    · simp only [List.length_cons, List.length_nil, Option.getD_some]; omega
    · simp only [List.length_append, List.length_cons, List.length_nil]; omega
    · rw [if_neg h] at hsp
      rw [h4, hsp, List.append_assoc]; rfl
  · have hr := split_rest h0 (fun k k0 k1 => h5 k k0 (by omega))
    refine ⟨fun h => ⟨h0, by omega, ?_, ?_⟩, fun h => ?_⟩
    · simp only [List.length_cons, List.length_nil, Option.getD_some]; omega
    · rw [h4, hr, if_pos h]
    · rw [h4, hr, if_neg h, List.append_nil]
def c61 (a : List (SV U)) (nx : Nat) : Option (CR U) := match a with | [.str s] => some ⟨[s.length ≤ 100000], [], .acc nx, [.ac 9 (linesOf s)]⟩ | _ => none
set_option maxRecDepth 100000 in
theorem c61_ok (args : List (SV U)) (nx : Nat) (c : CR U) (h : c61 args nx = some c) (hp : args.all pureS = true) (ho : allP c.ob) : ConOK N58.P N58.N N58.T N58.G 61 args nx c := by
  unfold c61 at h
  split at h
  · rename_i s
    cases h
    exact con1 N58_ok Tryd.func61 (k := .acc 9) (x := linesOf s) hp (V61_ok (p61 s ho.1))
  · cases h
noncomputable def N61 : Env := N58.addC 61 c61
theorem N61_ok : EnvOK N61 := N58_ok.addC Tryd.call61 c61_ok
end Go.Proofs.YtadgfmmmdhlljaaDoor
end
section
namespace Go.Proofs.YtadgfmmmdhlljaaDoor
open Go Go.Wk Go.Wl Go.Rx Go.Fo Go.Li 
def an23 : Nat → Ann := fun | 23 => ⟨93, fun | 4 => some ⟨[5], [.slot 6 (.acc 40), .slot 7 (.int .i64)]⟩ | _ => none, fun  | _ => none⟩ | _ => ⟨0, fun _ => none, fun _ => none⟩
def V23 (s : Str) (Q : List Row → Int → Int → Prop) : Prop :=
List.length s ≤ (100000 : Nat) ∧
  ∃ (I : List Row → Int → Prop),
    ∃ (m : List Row → Int → Nat),
      I [] (0 : Int) ∧
        ∀ (x : List Row) (x_1 : Int),
          I x x_1 →
            (x_1 < (↑(linesOf s).length : Int) →
                (0 : Int) ≤ x_1 ∧
                  x_1 < (↑(linesOf s).length : Int) ∧
                    (ix (linesOf s) x_1 = [] → in64 (x_1 + (1 : Int)) ∧ I x (x_1 + (1 : Int)) ∧ m x (x_1 + (1 : Int)) < m x x_1) ∧
                      (¬ix (linesOf s) x_1 = [] →
                        in64 ((↑x.length : Int) - (1 : Int)) ∧
                          (0 : Int) ≤ x_1 ∧
                            x_1 < (↑(linesOf s).length : Int) ∧
                              (0 : Int) ≤ (0 : Int) ∧
                                (0 : Int) < (↑(ix (linesOf s) x_1).length : Int) ∧
                                  (¬ix (ix (linesOf s) x_1) (0 : Int) = (32 : UInt8) → (0 : Int) ≤ x_1) ∧
                                    (¬ix (ix (linesOf s) x_1) (0 : Int) = (32 : UInt8) → x_1 < (↑(linesOf s).length : Int)) ∧
                                      (¬ix (ix (linesOf s) x_1) (0 : Int) = (32 : UInt8) → (0 : Int) ≤ (0 : Int)) ∧
                                        (¬ix (ix (linesOf s) x_1) (0 : Int) = (32 : UInt8) → (0 : Int) < (↑(ix (linesOf s) x_1).length : Int)) ∧
                                          (ix (ix (linesOf s) x_1) (0 : Int) = (32 : UInt8) ∨ ix (ix (linesOf s) x_1) (0 : Int) = (9 : UInt8) →
                                              (¬x_1 = (0 : Int) → in64 (x_1 - (1 : Int))) ∧
                                                (¬x_1 = (0 : Int) → (0 : Int) ≤ x_1 - (1 : Int)) ∧
                                                  (¬x_1 = (0 : Int) → x_1 - (1 : Int) < (↑(linesOf s).length : Int)) ∧
                                                    (x_1 = (0 : Int) ∨ ix (linesOf s) (x_1 - (1 : Int)) = [] → in64 (x_1 + (1 : Int)) ∧ Q [] (11 : Int) (x_1 + (1 : Int))) ∧
                                                      (¬(x_1 = (0 : Int) ∨ ix (linesOf s) (x_1 - (1 : Int)) = []) →
                                                        ((0 : Int) ≤ (↑x.length : Int) - (1 : Int) ∧ (↑x.length : Int) - (1 : Int) < (↑x.length : Int)) ∧
                                                          ((0 : Int) ≤ x_1 ∧ x_1 < (↑(linesOf s).length : Int)) ∧
                                                            ((0 : Int) ≤ (1 : Int) ∧ (1 : Int) ≤ (↑(ix (linesOf s) x_1).length : Int)) ∧
                                                              (in64 (ix x ((↑x.length : Int) - (1 : Int))).At →
                                                                  List.length (ix x ((↑x.length : Int) - (1 : Int))).Text + (List.drop (Int.toNat (1 : Int)) (ix (linesOf s) x_1)).length ≤
                                                                    (9223372036854775807 : Nat)) ∧
                                                                (in64 (ix x ((↑x.length : Int) - (1 : Int))).At →
                                                                    (0 : Int) ≤ (↑x.length : Int) - (1 : Int) ∧ (↑x.length : Int) - (1 : Int) < (↑x.length : Int)) ∧
                                                                  (in64 (ix x ((↑x.length : Int) - (1 : Int))).At →
                                                                    (0 : Int) ≤ (↑x.length : Int) - (1 : Int) ∧
                                                                      (↑x.length : Int) - (1 : Int) <
                                                                          (↑(x.set ((↑x.length : Int) - (1 : Int)).toNat
                                                                                  (Row.mk (ix x ((↑x.length : Int) - (1 : Int))).At
                                                                                    ((ix x ((↑x.length : Int) - (1 : Int))).Text ++ List.drop (Int.toNat (1 : Int)) (ix (linesOf s) x_1)))).length :
                                                                            Int) ∧
                                                                        (in64
                                                                            (ix
                                                                                (x.set ((↑x.length : Int) - (1 : Int)).toNat
                                                                                  (Row.mk (ix x ((↑x.length : Int) - (1 : Int))).At
                                                                                    ((ix x ((↑x.length : Int) - (1 : Int))).Text ++ List.drop (Int.toNat (1 : Int)) (ix (linesOf s) x_1))))
                                                                                ((↑x.length : Int) - (1 : Int))).At →
                                                                          ((5000 : Int) <
                                                                                (↑(List.length
                                                                                      (ix
                                                                                          (x.set ((↑x.length : Int) - (1 : Int)).toNat
                                                                                            (Row.mk (ix x ((↑x.length : Int) - (1 : Int))).At
                                                                                              ((ix x ((↑x.length : Int) - (1 : Int))).Text ++ List.drop (Int.toNat (1 : Int)) (ix (linesOf s) x_1))))
                                                                                          ((↑x.length : Int) - (1 : Int))).Text) :
                                                                                  Int) →
                                                                              in64 (x_1 + (1 : Int)) ∧ Q [] (4 : Int) (x_1 + (1 : Int))) ∧
                                                                            (¬(5000 : Int) <
                                                                                  (↑(List.length
                                                                                        (ix
                                                                                            (x.set ((↑x.length : Int) - (1 : Int)).toNat
                                                                                              (Row.mk (ix x ((↑x.length : Int) - (1 : Int))).At
                                                                                                ((ix x ((↑x.length : Int) - (1 : Int))).Text ++ List.drop (Int.toNat (1 : Int)) (ix (linesOf s) x_1))))
                                                                                            ((↑x.length : Int) - (1 : Int))).Text) :
                                                                                    Int) →
                                                                              ((1000 : Int) <
                                                                                    (↑(x.set ((↑x.length : Int) - (1 : Int)).toNat
                                                                                            (Row.mk (ix x ((↑x.length : Int) - (1 : Int))).At
                                                                                              ((ix x ((↑x.length : Int) - (1 : Int))).Text ++
                                                                                                List.drop (Int.toNat (1 : Int)) (ix (linesOf s) x_1)))).length :
                                                                                      Int) →
                                                                                  in64 (x_1 + (1 : Int)) ∧ Q [] (5 : Int) (x_1 + (1 : Int))) ∧
                                                                                (¬(1000 : Int) <
                                                                                      (↑(x.set ((↑x.length : Int) - (1 : Int)).toNat
                                                                                              (Row.mk (ix x ((↑x.length : Int) - (1 : Int))).At
                                                                                                ((ix x ((↑x.length : Int) - (1 : Int))).Text ++
                                                                                                  List.drop (Int.toNat (1 : Int)) (ix (linesOf s) x_1)))).length :
                                                                                        Int) →
                                                                                  in64 (x_1 + (1 : Int)) ∧
                                                                                    I
                                                                                        (x.set ((↑x.length : Int) - (1 : Int)).toNat
                                                                                          (Row.mk (ix x ((↑x.length : Int) - (1 : Int))).At
                                                                                            ((ix x ((↑x.length : Int) - (1 : Int))).Text ++ List.drop (Int.toNat (1 : Int)) (ix (linesOf s) x_1))))
                                                                                        (x_1 + (1 : Int)) ∧
                                                                                      m
                                                                                          (x.set ((↑x.length : Int) - (1 : Int)).toNat
                                                                                            (Row.mk (ix x ((↑x.length : Int) - (1 : Int))).At
                                                                                              ((ix x ((↑x.length : Int) - (1 : Int))).Text ++ List.drop (Int.toNat (1 : Int)) (ix (linesOf s) x_1))))
                                                                                          (x_1 + (1 : Int)) <
                                                                                        m x x_1)))))) ∧
                                            (¬(ix (ix (linesOf s) x_1) (0 : Int) = (32 : UInt8) ∨ ix (ix (linesOf s) x_1) (0 : Int) = (9 : UInt8)) →
                                              in64 (x_1 + (1 : Int)) ∧
                                                (0 : Int) ≤ x_1 ∧
                                                  x_1 < (↑(linesOf s).length : Int) ∧
                                                    (x.length + [Row.mk (x_1 + (1 : Int)) (ix (linesOf s) x_1)].length) * (some (24 : Nat)).getD (0 : Nat) ≤ (140737488355328 : Nat) ∧
                                                      in64 ((↑x.length : Int) - (1 : Int) + (1 : Int)) ∧
                                                        (0 : Int) ≤ (↑x.length : Int) - (1 : Int) + (1 : Int) ∧
                                                          (↑x.length : Int) - (1 : Int) + (1 : Int) < (↑(x ++ [Row.mk (x_1 + (1 : Int)) (ix (linesOf s) x_1)]).length : Int) ∧
                                                            (in64 (ix (x ++ [Row.mk (x_1 + (1 : Int)) (ix (linesOf s) x_1)]) ((↑x.length : Int) - (1 : Int) + (1 : Int))).At →
                                                              ((5000 : Int) <
                                                                    (↑(List.length (ix (x ++ [Row.mk (x_1 + (1 : Int)) (ix (linesOf s) x_1)]) ((↑x.length : Int) - (1 : Int) + (1 : Int))).Text) :
                                                                      Int) →
                                                                  in64 (x_1 + (1 : Int)) ∧ Q [] (4 : Int) (x_1 + (1 : Int))) ∧
                                                                (¬(5000 : Int) <
                                                                      (↑(List.length (ix (x ++ [Row.mk (x_1 + (1 : Int)) (ix (linesOf s) x_1)]) ((↑x.length : Int) - (1 : Int) + (1 : Int))).Text) :
                                                                        Int) →
                                                                  ((1000 : Int) < (↑(x ++ [Row.mk (x_1 + (1 : Int)) (ix (linesOf s) x_1)]).length : Int) →
                                                                      in64 (x_1 + (1 : Int)) ∧ Q [] (5 : Int) (x_1 + (1 : Int))) ∧
                                                                    (¬(1000 : Int) < (↑(x ++ [Row.mk (x_1 + (1 : Int)) (ix (linesOf s) x_1)]).length : Int) →
                                                                      in64 (x_1 + (1 : Int)) ∧
                                                                        I (x ++ [Row.mk (x_1 + (1 : Int)) (ix (linesOf s) x_1)]) (x_1 + (1 : Int)) ∧
                                                                          m (x ++ [Row.mk (x_1 + (1 : Int)) (ix (linesOf s) x_1)]) (x_1 + (1 : Int)) < m x x_1)))))) ∧
              (¬x_1 < (↑(linesOf s).length : Int) → Q x (0 : Int) (0 : Int))
set_option maxRecDepth 100000 in
theorem V23_ok {s : Str} {Q : List Row → Int → Int → Prop} (h : V23 s Q) : vcFun (E := N61) (inlN an23 2) (an23 23) Tryd.f23 [.str s] [] [] 0 (resP N61 [.acc 40, .int .i64, .int .i64] Q) := Eq.mp (show V23 s Q = vcFun (E := N61) (inlN an23 2) (an23 23) Tryd.f23 [.str s] [] [] 0 (resP N61 [.acc 40, .int .i64, .int .i64] Q) by kernel_rfl) h
def uR (r : Except (Int × Int) (List Row)) : List Row × Int × Int := match r with | .ok l => (l, 0, 0) | .error e => ([], e.1, e.2)
theorem uTop_long {a : Int} {out : List Row} (h : (5000 : Int) < (out.getLastD default).Text.length) : uTop a out = .error (4, a) := by rw [uTop, if_pos (by omega)]
theorem uTop_many {a : Int} {out : List Row} (h : ¬ (5000 : Int) < (out.getLastD default).Text.length) (h2 : (1000 : Int) < out.length) : uTop a out = .error (5, a) := by rw [uTop, if_neg (by omega), if_pos (by omega)]
theorem uTop_ok {a : Int} {out : List Row} (h : ¬ (5000 : Int) < (out.getLastD default).Text.length) (h2 : ¬ (1000 : Int) < out.length) : uTop a out = .ok (out, true) := by rw [uTop, if_neg (by omega), if_neg (by omega)]
theorem p23 (s : Str) (hs : s.length ≤ 100000) : V23 s (fun y0 y1 y2 => y0 = (uR (unfoldS s)).1 ∧ y1 = (uR (unfoldS s)).2.1 ∧ y2 = (uR (unfoldS s)).2.2) := by
  unfold V23
  refine ⟨hs, ?_⟩
  have hLl : (linesOf s).length ≤ 100000 := Nat.le_trans (linesOf_len _ s (Nat.le_refl _)) hs
  have hLe : ∀ i : Int, 0 ≤ i → i < (linesOf s).length → (ix (linesOf s) i).length ≤ 100000 := fun i h0 h1 => Nat.le_trans (mem_linesOf _ s (Nat.le_refl _) _ (by rw [ix_get (by omega)]; exact List.getElem_mem _)) hs
  have key : unfoldS s = uGo (linesOf s) 1 [] false := rfl
  generalize unfoldS s = R at key ⊢
  generalize linesOf s = L at hLl hLe key ⊢
  refine ⟨fun out i => 0 ≤ i ∧ i ≤ L.length ∧ out.length ≤ 1000 ∧ (0 < i ∧ ix L (i - 1) ≠ [] → out ≠ [] ∧ (ix out ((out.length : Int) - 1)).Text.length ≤ 5000) ∧ R = uGo (L.drop i.toNat) (i + 1) out (decide (0 < i ∧ ix L (i - 1) ≠ [])), fun _ i => ((L.length : Int) - i).toNat, ⟨by omega, by omega, by simp, fun h => by omega, by rw [key]; simp⟩, ?_⟩
  rintro out i ⟨h0, h1, h2, h3, h4⟩
  clear key
  refine ⟨fun hi => ?_, fun hi => ?_⟩
  · rw [ix_drop h0 hi] at h4
    have hle := hLe i h0 hi
    have hnx : ∀ (b : Bool), (b = true ↔ ix L i ≠ []) → b = decide (0 < i + 1 ∧ ix L (i + 1 - 1) ≠ []) := fun b hb => by
      rw [show i + 1 - 1 = i by omega]
      by_cases e : ix L i = []
      · have : b = false := by cases b; rfl; exact absurd e (hb.1 rfl)
        rw [this, decide_eq_false (fun h => h.2 e)]
      · rw [hb.2 e, decide_eq_true ⟨by omega, e⟩]
    have hnn : ∀ {P : Prop}, (ix L i ≠ [] → P) → (0 < i + 1 ∧ ix L (i + 1 - 1) ≠ [] → P) := fun h hh => h (by rw [show i + 1 - 1 = i by omega] at hh; exact hh.2)
    generalize ix L i = LI at h4 hle hnx hnn ⊢
    refine ⟨h0, hi, fun hE => ⟨⟨by omega, by omega⟩, ⟨by omega, by omega, h2, hnn fun h => absurd hE h, ?_⟩, by dsimp only; omega⟩, fun hN => ?_⟩
    · rw [h4, uGo_ok (show uStep (i + 1) LI out _ = .ok (out, false) by rw [uStep, if_pos hE]), ← hnx false ⟨fun h => (by cases h), fun h => absurd hE h⟩]
    · have hp := len_pos hN
      refine ⟨⟨by omega, by omega⟩, h0, hi, by omega, hp, fun _ => h0, fun _ => hi, fun _ => by omega, fun _ => hp, fun hsp => ⟨fun _ => ⟨by omega, by omega⟩, fun _ => by omega, fun _ => by omega, fun hb => ⟨⟨by omega, by omega⟩, ?_⟩, fun hb => ?_⟩, fun hsp => ?_⟩
      · have ho : decide (0 < i ∧ ix L (i - 1) ≠ []) = false := decide_eq_false (fun h => hb.elim (fun e => by omega) h.2)
        rw [ho] at h4
        rw [h4, uGo_err (show uStep (i + 1) LI out false = .error (11, i + 1) by rw [uStep, if_neg hN, if_pos (show spTab LI from hsp), if_neg (by simp)])]
        exact ⟨rfl, rfl, rfl⟩
      · have hcond : 0 < i ∧ ix L (i - 1) ≠ [] := ⟨by have : ¬ i = 0 := fun e => hb (.inl e); omega, fun e => hb (.inr e)⟩
        obtain ⟨hne, hl5⟩ := h3 hcond
        have hpo := len_pos hne
        rw [decide_eq_true hcond] at h4
        have e1 : Int.toNat (1 : Int) = 1 := rfl
        rw [e1]
        have hla := lastAdd_set (t := LI.drop 1) hne
        have hk : ((out.length : Int) - 1).toNat = out.length - 1 := by omega
        rw [← hk] at hla
        have hst : uStep (i + 1) LI out true = uTop (i + 1) (lastAdd out (LI.drop 1)) := by rw [uStep, if_neg hN, if_pos (show spTab LI from hsp), if_pos rfl]
        rw [hla] at hst
        have hXl : (out.set ((out.length : Int) - 1).toNat (⟨(ix out ((out.length : Int) - 1)).At, (ix out ((out.length : Int) - 1)).Text ++ LI.drop 1⟩ : Row)).length = out.length := by simp
        have hdl : (LI.drop 1).length ≤ LI.length := by simp
        have hcat : ((ix out ((out.length : Int) - 1)).Text ++ LI.drop 1).length ≤ 200000 := by rw [List.length_append]; omega
        generalize hX : out.set ((out.length : Int) - 1).toNat (⟨(ix out ((out.length : Int) - 1)).At, (ix out ((out.length : Int) - 1)).Text ++ LI.drop 1⟩ : Row) = X at hst hXl ⊢
        have hXne : X ≠ [] := fun e => by rw [e] at hXl; simp at hXl; exact hne (List.eq_nil_of_length_eq_zero hXl.symm)
        have hD := lastD_ix hXne
        rw [hXl] at hD
        refine ⟨⟨by omega, by omega⟩, ⟨h0, hi⟩, ⟨by omega, by omega⟩, fun _ => by omega, fun _ => ⟨by omega, by omega⟩, fun _ => ⟨by omega, by omega, fun _ => ⟨fun h5 => ⟨⟨by omega, by omega⟩, ?_⟩, fun h5 => ⟨fun h6 => by omega, fun h6 => ⟨⟨by omega, by omega⟩, ⟨by omega, by omega, by omega, hnn fun _ => ⟨hXne, by rw [hXl]; omega⟩, ?_⟩, by dsimp only; omega⟩⟩⟩⟩⟩
        · rw [h4, uGo_err (hst.trans (uTop_long (by rw [hD]; exact h5)))]; exact ⟨rfl, rfl, rfl⟩
        · rw [h4, uGo_ok (hst.trans (uTop_ok (by rw [hD]; exact h5) (by omega))), ← hnx true ⟨fun _ => hN, fun _ => rfl⟩]
      · have hst : uStep (i + 1) LI out (decide (0 < i ∧ ix L (i - 1) ≠ [])) = uTop (i + 1) (out ++ [⟨i + 1, LI⟩]) := by rw [uStep, if_neg hN, if_neg (show ¬ spTab LI from hsp)]
        have hD : (out ++ [(⟨i + 1, LI⟩ : Row)]).getLastD default = ⟨i + 1, LI⟩ := getLastD_snoc
        have hxs : ix (out ++ [(⟨i + 1, LI⟩ : Row)]) ((out.length : Int) - 1 + 1) = ⟨i + 1, LI⟩ := ix_snoc (by omega)
        have hle2 : (out ++ [(⟨i + 1, LI⟩ : Row)]).length = out.length + 1 := by simp
        simp only [hxs, hle2]
        refine ⟨⟨by omega, by omega⟩, h0, hi, ?_, ⟨by omega, by omega⟩, by omega, by omega, fun _ => ⟨fun h5 => ⟨⟨by omega, by omega⟩, ?_⟩, fun h5 => ⟨fun h6 => ⟨⟨by omega, by omega⟩, ?_⟩, fun h6 => ⟨⟨by omega, by omega⟩, ⟨by omega, by omega, by omega, hnn fun _ => ⟨by simp, ?_⟩, ?_⟩, by omega⟩⟩⟩⟩
        · simp only [List.length_cons, List.length_nil, Option.getD_some]; omega
        · rw [h4, uGo_err (hst.trans (uTop_long (by rw [hD]; exact h5)))]; exact ⟨rfl, rfl, rfl⟩
        · rw [h4, uGo_err (hst.trans (uTop_many (by rw [hD]; exact h5) (by omega)))]; exact ⟨rfl, rfl, rfl⟩
        · rw [ix_snoc (by omega)]; show LI.length ≤ 5000; omega
        · rw [h4, uGo_ok (hst.trans (uTop_ok (by rw [hD]; exact h5) (by omega))), ← hnx true ⟨fun _ => hN, fun _ => rfl⟩]
  · rw [drop_all (by omega)] at h4
    rw [h4]; exact ⟨rfl, rfl, rfl⟩
def c23 (a : List (SV U)) (nx : Nat) : Option (CR U) := match a with | [.str s] => some ⟨[s.length ≤ 100000], [], .tup [.acc nx, .int .i64 (uR (unfoldS s)).2.1, .int .i64 (uR (unfoldS s)).2.2], [.ac 40 ((uR (unfoldS s)).1)]⟩ | _ => none
set_option maxRecDepth 100000 in
theorem c23_ok (args : List (SV U)) (nx : Nat) (c : CR U) (h : c23 args nx = some c) (hp : args.all pureS = true) (ho : allP c.ob) : ConOK N61.P N61.N N61.T N61.G 23 args nx c := by
  unfold c23 at h
  split at h
  · rename_i s
    cases h
    exact con3 N61_ok Tryd.func23 (k1 := .acc 40) (k2 := .int .i64) (k3 := .int .i64) (x1 := (uR (unfoldS s)).1) (x2 := (uR (unfoldS s)).2.1) (x3 := (uR (unfoldS s)).2.2) rfl rfl hp (V23_ok (p23 s ho.1))
  · cases h
noncomputable def N23 : Env := N61.addC 23 c23
theorem N23_ok : EnvOK N23 := N61_ok.addC Tryd.call23 c23_ok
end Go.Proofs.YtadgfmmmdhlljaaDoor
end
section
namespace Go.Fo
open Go Go.Wk Go.Wl
theorem rowGo_len (D : Dec) : ∀ (n : Nat) (left : Int) (row : Str), row.length ≤ n → (rowGo D left row).length ≤ 4 * row.length + 2
  | n, left, row, hn => by
    by_cases h : row = []
    · subst h; rw [rowGo_nil]; simp
    · have hd := D.drop_lt h
      have hp := D.pos row h
      have hle := D.le row
      cases n with
      | zero => omega
      | succ n =>
        by_cases hl : left < D.w row
        · rw [rowGo_new D h hl]
          have ih := rowGo_len D n (74 - D.w row) (row.drop (D.w row)) (by omega)
          simp only [List.length_append, List.length_cons, List.length_nil, D.take_len, List.length_drop] at ih ⊢
          omega
        · rw [rowGo_on D h hl]
          have ih := rowGo_len D n (left - D.w row) (row.drop (D.w row)) (by omega)
          simp only [List.length_append, D.take_len, List.length_drop] at ih ⊢
          omega
theorem take_next {α : Type} [Inhabited α] {L : List α} {k : Int} (h0 : 0 ≤ k) (h1 : k < L.length) : L.take (k + 1).toNat = L.take k.toNat ++ [ix L k] := by
  rw [show (k + 1).toNat = k.toNat + 1 by omega, List.take_succ_eq_append_getElem (by omega), ix_get (by omega)]
theorem cat_next {L : List Str} {k : Int} (h0 : 0 ≤ k) (h1 : k < L.length) : cat (L.take (k + 1).toNat) = cat (L.take k.toNat) ++ ix L k ++ [13, 10] := by
  rw [take_next h0 h1, cat_app]; simp [cat]
theorem cat_take_len {L : List Str} (n : Nat) : (cat (L.take n)).length ≤ (cat L).length := by
  have : cat L = cat (L.take n) ++ cat (L.drop n) := by rw [← cat_app, List.take_append_drop]
  rw [this, List.length_append]; omega
theorem cat_big (L : List Str) : L.length ≤ (cat L).length := by
  induction L with
  | nil => simp
  | cons a r ih => rw [cat_cons]; simp only [List.length_append, List.length_cons]; omega
theorem mem_of_ix {α : Type} [Inhabited α] {l : List α} {i : Int} (h0 : 0 ≤ i) (h1 : i < l.length) : ix l i ∈ l := by
  rw [ix_get (by omega)]; exact List.getElem_mem _
end Go.Fo
end
section
namespace Go.Proofs.YtadgfmmmdhlljaaDoor
open Go Go.Wk Go.Wl Go.Rx Go.Fo Go.Li 
def an19 : Nat → Ann := fun | 19 => ⟨45, fun | 3 => some ⟨[0], [.slot 5 .str, .slot 6 (.int .i64)]⟩ | 10 => some ⟨[0, 6, 8], [.slot 5 .str, .slot 9 (.int .i64)]⟩ | _ => none, fun  | _ => none⟩ | _ => ⟨0, fun _ => none, fun _ => none⟩
def V19 (l : List Str) (Q : Str → Int → Int → Prop) : Prop :=
∃ (I : List UInt8 → Int → Prop),
  ∃ (m : List UInt8 → Int → Nat),
    I [] (0 : Int) ∧
      ∀ (x : List UInt8) (x_1 : Int),
        I x x_1 →
          (x_1 < (↑l.length : Int) →
              (0 : Int) ≤ x_1 ∧
                x_1 < (↑l.length : Int) ∧
                  (rMay (ix l x_1) ≠ (0 : Int) → in64 (x_1 + (1 : Int)) ∧ Q [] (rMay (ix l x_1)) (x_1 + (1 : Int))) ∧
                    (¬rMay (ix l x_1) ≠ (0 : Int) →
                      (0 : Int) ≤ x_1 ∧
                        x_1 < (↑l.length : Int) ∧
                          (ix l x_1).length ≤ (100000 : Nat) ∧
                            ∃ (I_1 : List UInt8 → Int → Prop),
                              ∃ (m_1 : List UInt8 → Int → Nat),
                                I_1 x (0 : Int) ∧
                                  ∀ (x_2 : List UInt8) (x_3 : Int),
                                    I_1 x_2 x_3 →
                                      (x_3 < (↑(linesG dec [] (ix l x_1)).length : Int) →
                                          (0 : Int) ≤ x_3 ∧
                                            x_3 < (↑(linesG dec [] (ix l x_1)).length : Int) ∧
                                              x_2.length + (ix (linesG dec [] (ix l x_1)) x_3).length ≤ (9223372036854775807 : Nat) ∧
                                                List.length (x_2 ++ ix (linesG dec [] (ix l x_1)) x_3) + [(13 : UInt8), (10 : UInt8)].length ≤ (9223372036854775807 : Nat) ∧
                                                  in64 (x_3 + (1 : Int)) ∧
                                                    I_1 (x_2 ++ ix (linesG dec [] (ix l x_1)) x_3 ++ [(13 : UInt8), (10 : UInt8)]) (x_3 + (1 : Int)) ∧
                                                      m_1 (x_2 ++ ix (linesG dec [] (ix l x_1)) x_3 ++ [(13 : UInt8), (10 : UInt8)]) (x_3 + (1 : Int)) < m_1 x_2 x_3) ∧
                                        (¬x_3 < (↑(linesG dec [] (ix l x_1)).length : Int) → in64 (x_1 + (1 : Int)) ∧ I x_2 (x_1 + (1 : Int)) ∧ m x_2 (x_1 + (1 : Int)) < m x x_1))) ∧
            (¬x_1 < (↑l.length : Int) → Q x (0 : Int) (0 : Int))
set_option maxRecDepth 100000 in
theorem V19_ok {l : List Str} {Q : Str → Int → Int → Prop} (h : V19 l Q) : vcFun (E := N23) (inlN an19 2) (an19 19) Tryd.f19 [.sl (N := U) 9 l] [] [] 0 (resP N23 [.str, .int .i64, .int .i64] Q) := Eq.mp (show V19 l Q = vcFun (E := N23) (inlN an19 2) (an19 19) Tryd.f19 [.sl (N := U) 9 l] [] [] 0 (resP N23 [.str, .int .i64, .int .i64] Q) by kernel_rfl) h
theorem p19 (l : List Str) (hs : l.length ≤ 100000) : V19 l (fun y0 y1 y2 => y0 = (foldS dec l).1 ∧ y1 = (foldS dec l).2.1 ∧ y2 = (foldS dec l).2.2) := by
  unfold V19
  have key : foldS dec l = foldG dec [] 0 l := rfl
  generalize foldS dec l = R at key ⊢
  refine ⟨fun x i => 0 ≤ i ∧ i ≤ l.length ∧ (x.length : Int) ≤ i * 400000 ∧ R = foldG dec x i (l.drop i.toNat), fun _ i => ((l.length : Int) - i).toNat, ⟨by omega, by omega, by simp, by rw [key]; rfl⟩, ?_⟩
  rintro x i ⟨h0, h1, h2, h3⟩
  clear key
  refine ⟨fun hi => ⟨h0, hi, fun hb => ⟨⟨by omega, by omega⟩, ?_⟩, fun hb => ⟨h0, hi, ?_, ?_⟩⟩, fun hi => ?_⟩
  · rw [ix_drop h0 hi] at h3
    rw [h3, foldG, if_neg hb]; exact ⟨rfl, rfl, rfl⟩
  · have := (rMay_ok (Classical.not_not.1 hb)).1; omega
  · have hb := Classical.not_not.1 hb
    have hr5 := (rMay_ok hb).1
    rw [ix_drop h0 hi, foldG, if_pos hb] at h3
    generalize ix l i = r at hb hr5 h3 ⊢
    have hcl : (cat (linesG dec [] r)).length ≤ 20002 := by
      rw [cat_row]; have := rowGo_len dec _ 75 r (Nat.le_refl _); omega
    rw [← cat_row] at h3
    have hbig := cat_big (linesG dec [] r)
    generalize linesG dec [] r = L at hcl hbig h3 ⊢
    refine ⟨fun y k => 0 ≤ k ∧ k ≤ L.length ∧ y = x ++ cat (L.take k.toNat), fun _ k => ((L.length : Int) - k).toNat, ⟨by omega, by omega, by simp [cat]⟩, ?_⟩
    rintro y k ⟨k0, k1, rfl⟩
    refine ⟨fun hk => ?_, fun hk => ?_⟩
    · have hn := cat_next k0 hk
      have hb1 := cat_take_len (L := L) (k + 1).toNat
      have e : x ++ cat (L.take k.toNat) ++ ix L k ++ [13, 10] = x ++ cat (L.take (k + 1).toNat) := by rw [hn]; simp
      rw [hn] at hb1
      simp only [List.length_append, List.length_cons, List.length_nil] at hb1 ⊢
      exact ⟨k0, hk, by omega, by omega, ⟨by omega, by omega⟩, ⟨by omega, by omega, by rw [hn]; simp⟩, by omega⟩
    · have e : L.take k.toNat = L := List.take_of_length_le (by omega)
      rw [e]
      refine ⟨⟨by omega, by omega⟩, ⟨by omega, by omega, ?_, h3⟩, by dsimp only; omega⟩
      simp only [List.length_append]; omega
  · rw [drop_all (by omega)] at h3
    rw [h3]; exact ⟨rfl, rfl, rfl⟩
def c19 (a : List (SV U)) : Option (Q1 U) := match a with | [.sl 9 l] => some ⟨[l.length ≤ 100000], [], .tup [.str (foldS dec l).1, .int .i64 (foldS dec l).2.1, .int .i64 (foldS dec l).2.2]⟩ | _ => none
set_option maxRecDepth 100000 in
theorem c19_ok (args : List (SV U)) (q : Q1 U) (h : c19 args = some q) (ho : allP q.ob) : LendOK N23 19 args ⟨q.ob, q.hy, q.v, []⟩ := by
  unfold c19 at h
  split at h
  · rename_i l
    cases h
    exact lend3 N23_ok Tryd.func19 (k1 := .str) (k2 := .int .i64) (k3 := .int .i64) (x1 := (foldS dec l).1) (x2 := (foldS dec l).2.1) (x3 := (foldS dec l).2.2) trivial trivial trivial (V19_ok (p19 l ho.1)) 0
  · cases h
noncomputable def N19 : Env := N23.addL 19 c19
theorem N19_ok : EnvOK N19 := N23_ok.addL Tryd.call19 c19_ok
end Go.Proofs.YtadgfmmmdhlljaaDoor
end
section
namespace Go.Proofs.YtadgfmmmdhlljaaDoor
open Go Go.Wk Go.Wl Go.Rx Go.Fo Go.Li 
def an24 : Nat → Ann := fun | 24 => ⟨26, fun | 4 => some ⟨[0, 1], [.slot 5 (.int .i64)]⟩ | _ => none, fun  | _ => none⟩ | _ => ⟨0, fun _ => none, fun _ => none⟩
def V24 (a : List Row) (b : List Row) (Q : Bool → Prop) : Prop :=
((↑a.length : Int) ≠ (↑b.length : Int) → Q false) ∧
  (¬(↑a.length : Int) ≠ (↑b.length : Int) →
    ∃ (I : Int → Prop),
      ∃ (m : Int → Nat),
        I (0 : Int) ∧
          ∀ (x : Int),
            I x →
              (x < (↑a.length : Int) →
                  (0 : Int) ≤ x ∧
                    x < (↑a.length : Int) ∧
                      (in64 (ix a x).At →
                        (0 : Int) ≤ x ∧
                          x < (↑b.length : Int) ∧
                            (in64 (ix b x).At →
                              (¬((ix a x).At = (ix b x).At ∧ (ix a x).Text = (ix b x).Text) → Q false) ∧
                                (¬¬((ix a x).At = (ix b x).At ∧ (ix a x).Text = (ix b x).Text) → in64 (x + (1 : Int)) ∧ I (x + (1 : Int)) ∧ m (x + (1 : Int)) < m x)))) ∧
                (¬x < (↑a.length : Int) → Q true))
set_option maxRecDepth 100000 in
theorem V24_ok {a : List Row} {b : List Row} {Q : Bool → Prop} (h : V24 a b Q) : vcFun (E := N19) (inlN an24 2) (an24 24) Tryd.f24 [.sl (N := U) 40 a, .sl (N := U) 40 b] [] [] 0 (resP N19 [.bool] Q) := Eq.mp (show V24 a b Q = vcFun (E := N19) (inlN an24 2) (an24 24) Tryd.f24 [.sl (N := U) 40 a, .sl (N := U) 40 b] [] [] 0 (resP N19 [.bool] Q) by kernel_rfl) h
def sameRows (a b : List Row) : Bool := decide (a = b)
theorem ix_ext {α : Type} [Inhabited α] {a b : List α} (hl : a.length = b.length) (h : ∀ i : Int, 0 ≤ i → i < a.length → ix a i = ix b i) : a = b := by
  apply List.ext_getElem hl
  intro j h1 h2
  have := h j (by omega) (by omega)
  rwa [ix_get (by simp only [Int.toNat_natCast]; exact h1), ix_get (by simp only [Int.toNat_natCast]; exact h2)] at this
theorem row_ext {x y : Row} (h : x.At = y.At ∧ x.Text = y.Text) : x = y := by cases x; cases y; simp_all
theorem p24 (a : List Row) (b : List Row) (hs : a.length ≤ 100000000) : V24 a b (fun y0 => y0 = sameRows a b) := by
  unfold V24 sameRows
  refine ⟨fun h => (decide_eq_false (fun e => h (by rw [e]))).symm, fun h => ?_⟩
  have hl : (a.length : Int) = b.length := Classical.not_not.1 h
  refine ⟨fun i => 0 ≤ i ∧ i ≤ a.length ∧ ∀ j : Int, 0 ≤ j → j < i → ix a j = ix b j, fun i => ((a.length : Int) - i).toNat, ⟨by omega, by omega, fun j _ _ => by omega⟩, ?_⟩
  rintro i ⟨h0, h1, h2⟩
  refine ⟨fun hi => ⟨h0, hi, fun _ => ⟨h0, by omega, fun _ => ⟨fun hn => (decide_eq_false (fun e => hn (by subst e; exact ⟨rfl, rfl⟩))).symm, fun hy => ⟨⟨by omega, by omega⟩, ⟨by omega, by omega, fun j j0 j1 => ?_⟩, by dsimp only; omega⟩⟩⟩⟩, fun hi => ?_⟩
  · by_cases e : j = i
    · subst e; exact row_ext (Classical.not_not.1 hy)
    · exact h2 j j0 (by omega)
  · exact (decide_eq_true (ix_ext (by omega) (fun j j0 j1 => h2 j j0 (by omega)))).symm
def c24 (a : List (SV U)) : Option (Q1 U) := match a with | [.sl 40 a, .sl 40 b] => some ⟨[List.length (α := Row) a ≤ 100000000], [], blB (sameRows a b)⟩ | _ => none
set_option maxRecDepth 100000 in
theorem c24_ok (args : List (SV U)) (q : Q1 U) (h : c24 args = some q) (ho : allP q.ob) : LendOK N19 24 args ⟨q.ob, q.hy, q.v, []⟩ := by
  unfold c24 at h
  split at h
  · rename_i a b
    cases h
    exact lend1 N19_ok Tryd.func24 (k := .bool) (x := sameRows a b) trivial (V24_ok (p24 a b ho.1)) 0
  · cases h
noncomputable def N24 : Env := N19.addL 24 c24
theorem N24_ok : EnvOK N24 := N19_ok.addL Tryd.call24 c24_ok
end Go.Proofs.YtadgfmmmdhlljaaDoor
end
section
namespace Go.Proofs.YtadgfmmmdhlljaaDoor
open Go Go.Wk Go.Wl Go.Rx Go.Fo Go.Li 
def an20 : Nat → Ann := fun | 20 => ⟨15, fun | 4 => some ⟨[0], [.slot 3 (.int .i64)]⟩ | _ => none, fun  | _ => none⟩ | _ => ⟨0, fun _ => none, fun _ => none⟩
def V20 (e : Err) (Q : Int → Prop) : Prop :=
(e = Err.nil → Q (0 : Int)) ∧
  (¬e = Err.nil →
    ∃ (I : Int → Prop),
      ∃ (m : Int → Nat),
        I (1 : Int) ∧ ∀ (x : Int), I x → (x ≤ (16 : Int) → (e.is x → Q x) ∧ (¬e.is x → in64 (x + (1 : Int)) ∧ I (x + (1 : Int)) ∧ m (x + (1 : Int)) < m x)) ∧ (¬x ≤ (16 : Int) → Q (-1 : Int)))
set_option maxRecDepth 100000 in
theorem V20_ok {e : Err} {Q : Int → Prop} (h : V20 e Q) : vcFun (E := N24) (inlN an20 2) (an20 20) Tryd.f20 [.err e] [] [] 0 (resP N24 [.int .i64] Q) := Eq.mp (show V20 e Q = vcFun (E := N24) (inlN an20 2) (an20 20) Tryd.f20 [.err e] [] [] 0 (resP N24 [.int .i64] Q) by kernel_rfl) h
theorem nr_some {e : Err} {n : Int} (h : ¬ e = .nil) (hn : e.num = some n) : e.nr = if 1 ≤ n ∧ n ≤ 16 then n else -1 := by
  cases e with
  | nil => exact absurd rfl h
  | _ => unfold Err.nr; simp only [hn]
theorem nr_none {e : Err} (h : ¬ e = .nil) (hn : e.num = none) : e.nr = -1 := by
  cases e with
  | nil => exact absurd rfl h
  | _ => unfold Err.nr; simp only [hn]
theorem p20 (e : Err)  : V20 e (fun y0 => y0 = e.nr) := by
  unfold V20
  refine ⟨fun h => by subst h; rfl, fun h => ⟨fun x => 1 ≤ x ∧ x ≤ 17 ∧ ∀ j : Int, 1 ≤ j → j < x → ¬ e.is j, fun x => (17 - x).toNat, ⟨by omega, by omega, fun j _ _ => by omega⟩, ?_⟩⟩
  rintro x ⟨h0, h1, h2⟩
  refine ⟨fun hx => ⟨fun hi => ?_, fun hi => ⟨⟨by omega, by omega⟩, ⟨by omega, by omega, fun j j0 j1 => ?_⟩, by dsimp only; omega⟩⟩, fun hx => ?_⟩
  · have hi : e.num = some x := hi
    rw [nr_some h hi, if_pos ⟨h0, hx⟩]
  · by_cases e1 : j = x
    · subst e1; exact hi
    · exact h2 j j0 (by omega)
  · cases hn : e.num with
    | none => rw [nr_none h hn]
    | some n => rw [nr_some h hn, if_neg (fun hh => h2 n hh.1 (by omega) hn)]
def c20 (a : List (SV U)) : Option (Q1 U) := match a with | [.err e] => some ⟨[], [], .int .i64 e.nr⟩ | _ => none
set_option maxRecDepth 100000 in
theorem c20_ok (args : List (SV U)) (q : Q1 U) (h : c20 args = some q) (ho : allP q.ob) : LendOK N24 20 args ⟨q.ob, q.hy, q.v, []⟩ := by
  unfold c20 at h
  split at h
  · rename_i e
    cases h
    exact lend1 N24_ok Tryd.func20 (k := .int .i64) (x := e.nr) trivial (V20_ok (p20 e )) 0
  · cases h
noncomputable def N20 : Env := N24.addL 20 c20
theorem N20_ok : EnvOK N20 := N24_ok.addL Tryd.call20 c20_ok
end Go.Proofs.YtadgfmmmdhlljaaDoor
end
section
namespace Go.Proofs.YtadgfmmmdhlljaaDoor
open Go Go.Wk Go.Wl Go.Rx Go.Fo Go.Li 
def an16 : Nat → Ann := fun | 16 => ⟨30, fun | 3 => some ⟨[0], [.slot 3 (.int .i64), .slot 4 (.int .i64)]⟩ | _ => none, fun  | _ => none⟩ | _ => ⟨0, fun _ => none, fun _ => none⟩
def V16 (l : List Str) (Q : Bool → Prop) : Prop :=
∃ (I : Int → Int → Prop),
  ∃ (m : Int → Int → Nat),
    I (0 : Int) (0 : Int) ∧
      ∀ (x x_1 : Int),
        I x x_1 →
          (x_1 < (↑l.length : Int) ∧ x_1 ≤ (40 : Int) →
              (0 : Int) ≤ x_1 ∧
                x_1 < (↑l.length : Int) ∧
                  in64 (x + bif false then max (↑(ix l x_1).length : Int) (100000 : Int) else min (↑(ix l x_1).length : Int) (100000 : Int)) ∧
                    in64 (x_1 + (1 : Int)) ∧
                      I (x + bif false then max (↑(ix l x_1).length : Int) (100000 : Int) else min (↑(ix l x_1).length : Int) (100000 : Int)) (x_1 + (1 : Int)) ∧
                        m (x + bif false then max (↑(ix l x_1).length : Int) (100000 : Int) else min (↑(ix l x_1).length : Int) (100000 : Int)) (x_1 + (1 : Int)) < m x x_1) ∧
            (¬(x_1 < (↑l.length : Int) ∧ x_1 ≤ (40 : Int)) → Q (decide ((↑l.length : Int) ≤ (40 : Int) ∧ x ≤ (12000 : Int))))
set_option maxRecDepth 100000 in
theorem V16_ok {l : List Str} {Q : Bool → Prop} (h : V16 l Q) : vcFun (E := N20) (inlN an16 2) (an16 16) Tryd.f16 [.sl (N := U) 9 l] [] [] 0 (resP N20 [.bool] Q) := Eq.mp (show V16 l Q = vcFun (E := N20) (inlN an16 2) (an16 16) Tryd.f16 [.sl (N := U) 9 l] [] [] 0 (resP N20 [.bool] Q) by kernel_rfl) h
def fsum : List Str → Int
  | [] => 0
  | s :: r => min (s.length : Int) 100000 + fsum r
theorem fsum_app (a : List Str) (s : Str) : fsum (a ++ [s]) = fsum a + min (s.length : Int) 100000 := by
  induction a with
  | nil => simp [fsum]
  | cons b r ih => simp only [List.cons_append, fsum, ih]; omega
def fewS (l : List Str) : Bool := decide ((l.length : Int) ≤ 40 ∧ fsum l ≤ 12000)
theorem few_of {l : List Str} (h : fewS l = true) : l.length ≤ 40 ∧ ∀ s ∈ l, s.length ≤ 12000 := by
  obtain ⟨h1, h2⟩ := of_decide_eq_true h
  refine ⟨by omega, fun s hs => ?_⟩
  clear h h1
  have key : ∀ l : List Str, 0 ≤ fsum l ∧ ∀ s ∈ l, min (s.length : Int) 100000 ≤ fsum l := fun l => by
    induction l with
    | nil => exact ⟨by simp [fsum], fun s hs => by cases hs⟩
    | cons a r ih =>
      refine ⟨by simp only [fsum]; omega, fun s hs => ?_⟩
      simp only [fsum]
      rcases List.mem_cons.1 hs with rfl | hs
      · omega
      · have := ih.2 s hs; omega
  have := (key l).2 s hs
  omega
theorem p16 (l : List Str) (hs : l.length ≤ 9223372036854775807) : V16 l (fun y0 => y0 = fewS l) := by
  unfold V16
  refine ⟨fun n i => 0 ≤ i ∧ i ≤ l.length ∧ i ≤ 41 ∧ 0 ≤ n ∧ n ≤ i * 100000 ∧ n = fsum (l.take i.toNat), fun _ i => ((l.length : Int) - i).toNat, ⟨by omega, by omega, by omega, by omega, by omega, rfl⟩, ?_⟩
  rintro n i ⟨h0, h1, h2, h3, h4, h5⟩
  refine ⟨fun ⟨hi, h40⟩ => ?_, fun hi => ?_⟩
  · have hn := fsum_app (l.take i.toNat) (ix l i)
    rw [← take_next h0 hi, ← h5] at hn
    simp only [cond_false]
    exact ⟨h0, hi, ⟨by omega, by omega⟩, ⟨by omega, by omega⟩, ⟨by omega, by omega, by omega, by omega, by omega, hn.symm⟩, by omega⟩
  · unfold fewS
    by_cases h6 : (l.length : Int) ≤ 40
    · have e : l.take i.toNat = l := List.take_of_length_le (by omega)
      rw [e] at h5
      rw [h5]
    · rw [decide_eq_false (fun h => h6 h.1), decide_eq_false (fun h => h6 h.1)]
def c16 (a : List (SV U)) : Option (Q1 U) := match a with | [.sl 9 l] => some ⟨[List.length (α := Str) l ≤ 9223372036854775807], [], blB (fewS l)⟩ | _ => none
set_option maxRecDepth 100000 in
theorem c16_ok (args : List (SV U)) (q : Q1 U) (h : c16 args = some q) (ho : allP q.ob) : LendOK N20 16 args ⟨q.ob, q.hy, q.v, []⟩ := by
  unfold c16 at h
  split at h
  · rename_i l
    cases h
    exact lend1 N20_ok Tryd.func16 (k := .bool) (x := fewS l) trivial (V16_ok (p16 l ho.1)) 0
  · cases h
noncomputable def N16 : Env := N20.addL 16 c16
theorem N16_ok : EnvOK N16 := N20_ok.addL Tryd.call16 c16_ok
end Go.Proofs.YtadgfmmmdhlljaaDoor
end
section
namespace Go.Proofs.YtadgfmmmdhlljaaDoor
open Go Go.Wk Go.Wl Go.Rx Go.Fo Go.Proofs Go.RowKit
theorem ib_none {l : List UInt8} {c : UInt8} (h : ∀ b ∈ l, b ≠ c) : Lib.indexByte l c = -1 := by
  induction l with
  | nil => rfl
  | cons a r ih =>
    unfold Lib.indexByte
    rw [if_neg (by simpa using h a (by simp)), ih (fun b hb => h b (by simp [hb]))]
    rfl
set_option maxRecDepth 100000 in
set_option maxHeartbeats 4000000 in
theorem ir_valid (t : ByteArray) (ht : ∀ b ∈ t.data.toList, b.toNat < 128) (hts : t.size ≤ 1000) (r : Int) (hr : 128 ≤ r) (h1 : ¬ r = 65533) (hv : Utf8.valid r = true) (w : World) :
    Calls Tryd.prog 124 #[.string t, .int .i32 r] w fun e w' => e = .returned (.int .i64 (-1)) ∧ ∃ k, w' = { w with drawn := k } := by
  have n1 : ¬ (r < 128) := by omega
  have n0 : 0 ≤ r := by omega
  have hv2 : Lib.validRune r = true := by rw [← hv]; exact (Go.validRune_eq r).symm
  obtain ⟨e2, e4, el⟩ := encode_facts r hv hr
  have hcv : ∀ w, (convert 21 9 (.int .i32 r)).run Tryd.prog w = .ok (.string (Utf8.encode r)) w := fun w => run_convert_int_string w 21 9 .i32 r (by rw [Tryd.underlying21]; rfl) Tryd.underlying9
  generalize Utf8.encode r = rs at e2 e4 el hcv
  by_cases hlt : rs.size - 1 < t.size
  · have hz1 : ((rs.size : Int) - 1) = ((rs.size - 1 : Nat) : Int) := by omega
    have hlt2 : rs.size - 1 < rs.size := by omega
    have hne : ¬ (((t[rs.size - 1]'hlt).toNat : Int) = ((rs[rs.size - 1]'hlt2).toNat : Int)) := fun e => by
      have h1 := ht (t[rs.size - 1]'hlt) (by exact Array.getElem_mem_toList (xs := t.data) hlt)
      have h2 := el hlt2
      omega
    go_enter Tryd.func124, Tryd.ntmps124
    go_wp2_with (go_at_call 139; refine (Tryd.utf8_ValidRune _ _).mono ?_; rintro e w' ⟨rfl, hw⟩; subst hw; rw [hv2])
    go_step3
    go_wp2
    refine wp_loop_rounds 1 ?_
    rw [rounds_succ]
    go_wp2
    go_step3
    go_wp2
    go_region
    go_wp2
    have hz2 : ((rs.size - 1 : Nat) : Int) + 1 = ((rs.size : Nat) : Int) := by omega
    have hix : Lib.indexByte (List.take (t.size - rs.size) (List.drop rs.size t.data.toList)) (rs[rs.size - 1]'hlt2) = -1 := by
      refine ib_none (fun b hb => ?_)
      have h1 := ht b (List.mem_of_mem_drop (List.mem_of_mem_take hb))
      have h2 := el hlt2
      intro e
      rw [e] at h1
      omega
    have hb1 : (((rs.size - 1 : Nat) : Int) + 1 ≤ (t.size : Int)) := by omega
    have hb2 : rs.size - 1 + 1 ≤ t.size := by omega
    have hb3 : rs.size ≤ t.size := by omega
    have hb4 : (rs.size : Int) ≤ (t.size : Int) := by omega
    have hwr : IntKind.i64.wrap (rs.size : Int) = (rs.size : Int) := wrap_small _ (by omega) (by omega)
    go_region_with (first | (go_at_call 134; refine (Tryd.strings_IndexByte _ _ _).mono ?_; rintro e w' ⟨rfl, hw⟩; rw [hw]))
    subst hw
    go_wp2
    rw [Exit.noGoto_ret]
    go_wp2
    rw [Exit.noGoto_ret]
    go_ret
    exact ⟨rfl, _, rfl⟩
  · have hc : ¬ ((rs.size : Int) - 1 < (t.size : Int)) := by omega
    go_enter Tryd.func124, Tryd.ntmps124
    go_wp2_with (go_at_call 139; refine (Tryd.utf8_ValidRune _ _).mono ?_; rintro e w' ⟨rfl, hw⟩; subst hw; rw [hv2])
    go_step3
    go_wp2
    refine wp_loop_rounds 1 ?_
    rw [rounds_succ]
    go_wp2
    rw [Exit.noGoto_ret]
    go_ret
    exact ⟨rfl, _, rfl⟩
end Go.Proofs.YtadgfmmmdhlljaaDoor
end
section
namespace Go.Proofs.YtadgfmmmdhlljaaDoor
open Go Go.Wk Go.Wl Go.Rx Go.Fo Go.Proofs Go.RowKit
theorem Ext.iter (w : World) (s : ByteArray) (p : Nat) : Ext [] w (w.iter s p) := ⟨rfl, rfl, rfl, by show _ ≤ (w.heap.push _).size; rw [Array.size_push]; omega, fun b hb _ => by
  show (w.heap.push _)[b]? = _
  rw [Array.getElem?_push, if_neg (by omega)]⟩
set_option maxRecDepth 100000 in
set_option maxHeartbeats 4000000 in
theorem ir_err (t : ByteArray) (ht : ∀ b ∈ t.data.toList, b.toNat < 128) (w : World) :
    Calls Tryd.prog 124 #[.string t, .int .i32 65533] w fun e w' => e = .returned (.int .i64 (-1)) ∧ Ext [] w w' := by
  have HA : Aside (∀ b ∈ t.data.toList, b.toNat < 128) := ht
  clear ht
  go_enter Tryd.func124, Tryd.ntmps124
  go_wp2
  go_loopg [5, 6] t.size (fun g _ _ wx => ∃ i : Nat, i + g = t.size ∧ wx = w.iter t i)
  case atStart => exact ⟨0, by omega, rfl⟩
  case round =>
    obtain ⟨i, hig, rfl⟩ := hrel
    cases gk with
    | zero =>
      obtain rfl : i = t.size := by omega
      have hnx := run_next_end (P := Tryd.prog) w t t.size
      go_wp2
      go_ret
      exact ⟨rfl, Ext.iter _ _ _⟩
    | succ g =>
      have hi : i < t.size := by omega
      have hx128 : (t[i]'hi).toNat < 128 := HA.out _ (by exact Array.getElem_mem_toList (xs := t.data) hi)
      have hnx := fun ty => run_next_ascii (P := Tryd.prog) w t i ty hi hx128
      generalize (t[i]'hi).toNat = x at hx128 hnx
      have hne : ¬ ((x : Int) = 65533) := by omega
      go_wp2
      go_roundg g
      case measure => omega
      case rel => exact ⟨i + 1, by omega, rfl⟩
set_option maxRecDepth 100000 in
set_option maxHeartbeats 4000000 in
theorem ir_inv (t : ByteArray) (r : Int) (hr : 128 ≤ r) (h1 : ¬ r = 65533) (hv : Utf8.valid r = false) (w : World) :
    Calls Tryd.prog 124 #[.string t, .int .i32 r] w fun e w' => e = .returned (.int .i64 (-1)) ∧ ∃ k, w' = { w with drawn := k } := by
  have n1 : ¬ (r < 128) := by omega
  have n0 : 0 ≤ r := by omega
  have hv2 : Lib.validRune r = false := by rw [← hv]; exact (Go.validRune_eq r).symm
  go_enter Tryd.func124, Tryd.ntmps124
  go_wp2_with (go_at_call 139; refine (Tryd.utf8_ValidRune _ _).mono ?_; rintro e w' ⟨rfl, hw⟩; subst hw; rw [hv2])
  go_ret
  exact ⟨rfl, _, rfl⟩
theorem Ext.drawn (w : World) (k : Nat) : Ext [] w { w with drawn := k } := ⟨rfl, rfl, rfl, Nat.le_refl _, fun _ _ _ => rfl⟩
theorem ir_any (t : ByteArray) (ht : ∀ b ∈ t.data.toList, b.toNat < 128) (hts : t.size ≤ 1000) (r : Int) (hr : 128 ≤ r) (w : World) :
    Calls Tryd.prog 124 #[.string t, .int .i32 r] w fun e w' => e = .returned (.int .i64 (-1)) ∧ Ext [] w w' := by
  by_cases h1 : r = 65533
  · subst h1; exact ir_err t ht w
  · cases hv : Utf8.valid r
    · exact (ir_inv t r hr h1 hv w).mono fun e w' ⟨h, k, hk⟩ => ⟨h, by subst hk; exact Ext.drawn _ _⟩
    · exact (ir_valid t ht hts r hr h1 hv w).mono fun e w' ⟨h, k, hk⟩ => ⟨h, by subst hk; exact Ext.drawn _ _⟩
end Go.Proofs.YtadgfmmmdhlljaaDoor
end
section
namespace Go.Proofs.YtadgfmmmdhlljaaDoor
open Go Go.Wk Go.Wl Go.Rx Go.Fo Go.Proofs Go.RowKit
theorem next_any {P : Program} (wx : World) (p : Nat) (s : ByteArray) (pos : Nat) (ty : TypeId) (hp : wx.heap[p]? = some (.stringIter s pos)) (h : pos < s.size) :
    (Instr.next (.pointer (some ⟨p, 0, none⟩)) true ty).run P wx =
      .ok (.tuple #[.bool true, .int .i64 pos, .int .i32 (Utf8.decode s pos).1]) { wx with heap := wx.heap.setIfInBounds p (.stringIter s (pos + (Utf8.decode s pos).2)) } := by
  simp only [Instr.next, getObj, setObj, Sem.run_bind, Sem.run, hp, Result.andThen, h, if_true]
  simp [goInt]
theorem next_end {P : Program} (wx : World) (p : Nat) (s : ByteArray) (pos : Nat) (ty : TypeId) (hp : wx.heap[p]? = some (.stringIter s pos)) (h : ¬ pos < s.size) :
    (Instr.next (.pointer (some ⟨p, 0, none⟩)) true ty).run P wx = .ok (.tuple #[.bool false]) wx := by
  simp [Instr.next, getObj, Sem.run, hp, h]
/-- A text's reader lies at p, and the rest is as in w. -/
def At (w : World) (s : ByteArray) (i : Nat) (wx : World) : Prop := wx.heap[w.heap.size]? = some (.stringIter s i) ∧ Ext [] w wx
theorem At.start (w : World) (s : ByteArray) : At w s 0 (w.iter s 0) := ⟨World.iter_heap _ _ _, Ext.iter _ _ _⟩
theorem At.step {w : World} {s : ByteArray} {i : Nat} {wx : World} (h : At w s i wx) (j : Nat) : At w s j { wx with heap := wx.heap.setIfInBounds w.heap.size (.stringIter s j) } := by
  obtain ⟨h1, h2⟩ := h
  have hl : w.heap.size < wx.heap.size := by
    apply Classical.byContradiction
    intro hc
    rw [Array.getElem?_eq_none (by omega)] at h1
    cases h1
  refine ⟨?_, h2.os, h2.tape, h2.output, by simpa using h2.size, fun b hb hB => ?_⟩
  · simp [hl]
  · show (wx.heap.setIfInBounds _ _)[b]? = _
    rw [Array.getElem?_setIfInBounds_ne (by omega)]
    exact h2.block b hb hB
theorem At.ext {w : World} {s : ByteArray} {i : Nat} {wx wy : World} (h : At w s i wx) (e : Ext [] wx wy) : At w s i wy := by
  obtain ⟨h1, h2⟩ := h
  have hl : w.heap.size < wx.heap.size := by
    apply Classical.byContradiction
    intro hc
    rw [Array.getElem?_eq_none (by omega)] at h1
    cases h1
  exact ⟨by rw [e.block _ hl (by simp)]; exact h1, e.os.trans h2.os, e.tape.trans h2.tape, e.output.trans h2.output, by have := h2.size; have := e.size; omega, fun b hb hB => by rw [e.block b (by omega) hB]; exact h2.block b hb hB⟩
theorem decode_pos (s : ByteArray) (i : Nat) (h : i < s.size) : 1 ≤ (Utf8.decode s i).2 := by
  by_cases ha : (s[i]'h).toNat < 128
  · rw [decode_ascii s i h ha]; exact Nat.le_refl _
  · exact (decode_high s i h (by omega)).2
theorem get_list {s : ByteArray} {j : Nat} {b : UInt8} (h : s.data.toList[j]? = some b) : s.get! j = b := by
  have hj : j < s.size := by
    have := (List.getElem?_eq_some_iff.1 h).1
    rw [Lib.size_eq]; exact this
  have := get_at s j hj
  rw [Nat.add_zero] at this
  rw [this]
  have e := Lib.data_getElem? s j hj
  rw [e] at h
  exact Option.some.inj h
theorem decode_skip_aux (s : ByteArray) (i : Nat) (h : i < s.size) (ha : 128 ≤ (s[i]'h).toNat) : i + (Utf8.decode s i).2 ≤ s.size ∧ ∀ k, k < (Utf8.decode s i).2 → 128 ≤ (s.get! (i + k)).toNat := by
  have h0 : 128 ≤ (s.get! (i + 0)).toNat := by rw [get_at s i h]; exact ha
  have hn : ¬ (s.get! (i + 0)).toNat < 128 := by omega
  simp only [Utf8.decode, hn, if_false]
  have key : ∀ k, ((decide (i + k < s.size) && (s.get! (i + k)).toNat / 64 == 2) = true) → i + k < s.size ∧ 128 ≤ (s.get! (i + k)).toNat := fun k hk => by
    simp only [Bool.and_eq_true, decide_eq_true_eq, beq_iff_eq] at hk
    exact ⟨hk.1, by omega⟩
  repeat' split
  all_goals rename_i c1 c2
  all_goals try simp only [Bool.and_eq_true] at c1
  all_goals try simp only [Bool.and_eq_true] at c2
  all_goals first
    | (refine ⟨h, fun k hk => ?_⟩; obtain rfl : k = 0 := (by have : k < 1 := hk; omega); exact h0)
    | (simp only [beq_iff_eq, decide_eq_true_eq] at c1; refine ⟨by show i + 2 ≤ s.size; omega, fun k hk => ?_⟩; have hk2 : k < 2 := hk; clear hk; rcases (by omega : k = 0 ∨ k = 1) with rfl | rfl <;> omega)
    | (simp only [beq_iff_eq, decide_eq_true_eq] at c1; refine ⟨by show i + 3 ≤ s.size; omega, fun k hk => ?_⟩; have hk2 : k < 3 := hk; clear hk; rcases (by omega : k = 0 ∨ k = 1 ∨ k = 2) with rfl | rfl | rfl <;> omega)
    | (simp only [beq_iff_eq, decide_eq_true_eq] at c1; refine ⟨by show i + 4 ≤ s.size; omega, fun k hk => ?_⟩; have hk2 : k < 4 := hk; clear hk; rcases (by omega : k = 0 ∨ k = 1 ∨ k = 2 ∨ k = 3) with rfl | rfl | rfl | rfl <;> omega)
/-- The bytes of a rune beyond ASCII are no ASCII bytes. -/
theorem decode_skip (s : ByteArray) (i : Nat) (h : i < s.size) (ha : 128 ≤ (s[i]'h).toNat) : i + (Utf8.decode s i).2 ≤ s.size ∧ ∀ j b, i ≤ j → j < i + (Utf8.decode s i).2 → s.data.toList[j]? = some b → 128 ≤ b.toNat := by
  obtain ⟨h1, h2⟩ := decode_skip_aux s i h ha
  refine ⟨h1, fun j b hij hj hb => ?_⟩
  have := h2 (j - i) (by omega)
  rw [show i + (j - i) = j by omega, get_list hb] at this
  exact this
theorem noAny_skip {s : ByteArray} {cs : List UInt8} {i : Nat} (hcs : ∀ b ∈ cs, b.toNat < 128) (h : i < s.size) (ha : 128 ≤ (s[i]'h).toNat) (hno : Lib.NoAny s.data.toList cs i) : Lib.NoAny s.data.toList cs (i + (Utf8.decode s i).2) := by
  intro j b hj hb
  by_cases hji : j < i
  · exact hno j b hji hb
  · have h2 := (decode_skip s i h ha).2 j b (by omega) hj hb
    cases hc : cs.contains b
    · rfl
    · have := hcs b (by simpa using hc)
      omega
set_option maxRecDepth 1000000 in
set_option maxHeartbeats 8000000 in
theorem ia_short (s chars : ByteArray) (w : World) (h2 : 2 ≤ chars.size) (hch : chars.size ≤ 1000) (h8 : s.size ≤ 8) (hascii : ∀ b ∈ chars.data.toList, b.toNat < 128) :
    Calls Tryd.prog 115 #[.string s, .string chars] w fun e w' => e = .returned (.int .i64 (Lib.indexAny s.data.toList chars.data.toList)) ∧ Ext [] w w' := by
  have HA : Aside (∀ b ∈ chars.data.toList, b.toNat < 128) := hascii
  clear hascii
  have hemp : chars.toList.isEmpty = false := by
    rw [Lib.toList_data]
    cases h : chars.data.toList with
    | nil => have := Lib.size_eq chars; rw [h, List.length_nil] at this; omega
    | cons _ _ => rfl
  have hn1 : ((chars.size : Int) == 1) = false := beq_eq_false_iff_ne.2 (by omega)
  have h8z : decide ((8 : Int) < (s.size : Int)) = false := decide_eq_false (by omega)
  go_enter Tryd.func115, Tryd.ntmps115
  go_wp2_with (go_at_call 125; refine (Tryd.strings_shouldUseASCIISet _ _).mono ?_; rintro e w' ⟨rfl, hw⟩; rw [hw, h8z])
  go_loopg [9, 10] s.size (fun g _ _ wx => ∃ i : Nat, i + g = s.size ∧ At w s i wx ∧ Lib.NoAny s.data.toList chars.data.toList i)
  case atStart => exact ⟨0, by omega, At.start _ _, Lib.NoAny.zero _ _⟩
  case round =>
    obtain ⟨i, hig, hat, hno⟩ := hrel
    have HN : Aside (Lib.NoAny s.data.toList chars.data.toList i) := hno
    clear hno
    cases gk with
    | zero =>
      obtain rfl : i = s.size := by omega
      have hnx := fun ty => next_end (P := Tryd.prog) _ w.heap.size s s.size ty hat.1 (by omega)
      go_wp2
      go_ret
      exact ⟨by rw [Lib.indexAny_none (by rw [← Lib.size_eq]; exact HN.out)]; rfl, hat.2⟩
    | succ g =>
      have hi : i < s.size := by omega
      have hnx := fun ty => next_any (P := Tryd.prog) _ w.heap.size s i ty hat.1 hi
      by_cases hx128 : (s[i]'hi).toNat < 128
      · rw [decode_ascii s i hi hx128] at hnx
        obtain ⟨x, hx⟩ : ∃ x : UInt8, s[i]'hi = x := ⟨_, rfl⟩
        have hxl : s.data.toList[i]? = some x := by rw [← hx]; exact Lib.data_getElem? s i hi
        rw [hx] at hnx hx128
        have Hx : Aside (s.data.toList[i]? = some x) := hxl
        have HT : Aside (At w s i _) := hat
        clear hxl hx hat
        have hcon := Lib.contains_iff_indexByte chars.data.toList x
        have hback : ((x.toNat : Int)).toNat.toUInt8 = x := by simp
        cases hin : chars.data.toList.contains x
        · rw [hin] at hcon
          have hlt : ¬ ((0 : Int) ≤ Lib.indexByte chars.data.toList x) := of_decide_eq_false hcon.symm
          clear hcon
          go_wp2_with (go_at_call 124; refine (Tryd.strings_IndexRune_ascii _ _ _ (by omega) (by omega)).mono ?_; rintro e w' ⟨rfl, hw⟩; rw [hw, hback])
          go_roundg g
          case measure => omega
          case rel => exact ⟨i + 1, by omega, HT.out.step _, HN.out.succ Hx.out hin⟩
        · rw [hin] at hcon
          have hge : (0 : Int) ≤ Lib.indexByte chars.data.toList x := of_decide_eq_true hcon.symm
          clear hcon
          go_wp2_with (go_at_call 124; refine (Tryd.strings_IndexRune_ascii _ _ _ (by omega) (by omega)).mono ?_; rintro e w' ⟨rfl, hw⟩; rw [hw, hback])
          go_ret
          exact ⟨by rw [Lib.indexAny_hit HN.out Hx.out hin]; rfl, (HT.out.step _).2⟩
      · have hr := (decode_high s i hi (by omega)).1
        have hsk := noAny_skip HA.out hi (by omega) HN.out
        have hsz := (decode_skip s i hi (by omega)).1
        have hps := decode_pos s i hi
        generalize Utf8.decode s i = d at hnx hr hsk hsz hps
        obtain ⟨r, n⟩ := d
        have HS : Aside (Lib.NoAny s.data.toList chars.data.toList (i + n)) := hsk
        have HT : Aside (At w s i _) := hat
        clear hsk hat
        go_wp2_with (go_at_call 124; refine (ir_any chars HA.out hch _ (by show (128 : Int) ≤ (r : Int); exact_mod_cast hr) _).mono ?_; rintro e w' ⟨rfl, hw⟩)
        go_roundg (s.size - (i + n))
        case measure => omega
        case rel => exact ⟨i + n, by omega, (HT.out.step _).ext hw, HS.out⟩
end Go.Proofs.YtadgfmmmdhlljaaDoor
end
section
namespace Go.Proofs.YtadgfmmmdhlljaaDoor
open Go Go.Wk Go.Wl Go.Rx Go.Fo Go.Proofs Go.RowKit
theorem ext_below {w w' : World} (h : Below w.heap.size w w') : Ext [] w w' := ⟨h.os, h.tape, h.output, h.size, fun b hb _ => h.block b hb⟩
theorem zv181 (w : World) : (zeroValue 181).run Tryd.prog w = .ok (.agg (Array.replicate 256 (.bool false))) w := run_zero (by kernel_rfl) w
theorem Ext.alloc2 (w : World) (a b : Obj) : Ext [] w ((w.alloc a).alloc b) := ⟨rfl, rfl, rfl, by show _ ≤ ((w.heap.push _).push _).size; rw [Array.size_push, Array.size_push]; omega, fun b hb _ => by
  show ((w.heap.push _).push _)[b]? = _
  rw [Array.getElem?_push, if_neg (by simp; omega), Array.getElem?_push, if_neg (by omega)]⟩
theorem ia_all (s chars : ByteArray) (w : World) (h2 : 2 ≤ chars.size) (hch : chars.size ≤ 1000) (hs : s.size ≤ 4000000000) (hascii : ∀ b ∈ chars.data.toList, b.toNat < 128) :
    Calls Tryd.prog 115 #[.string s, .string chars] w fun e w' => e = .returned (.int .i64 (Lib.indexAny s.data.toList chars.data.toList)) ∧ Ext [] w w' := by
  by_cases h8 : s.size ≤ 8
  · exact ia_short s chars w h2 hch h8 hascii
  · exact (Tryd.strings_IndexAny_long zv181 s chars w h2 (by omega) (by omega) (by omega) fun j b hb => hascii b (List.mem_of_getElem? hb)).mono fun e w' ⟨h, k⟩ => ⟨h, by subst k; exact Ext.alloc2 _ _ _⟩
theorem indexAny_any (t : List UInt8) : ∀ s : List UInt8, decide (0 ≤ Lib.indexAny s t) = s.any fun c => t.contains c
  | [] => rfl
  | b :: l => by
    have ih := indexAny_any t l
    have hg := Lib.indexAny_ge t l
    unfold Lib.indexAny
    rw [List.any_cons, ← ih]
    cases t.contains b
    · simp only [Bool.false_eq_true, if_false, Bool.false_or, beq_iff_eq]
      apply decide_eq_decide.2
      split <;> omega
    · rfl
set_option maxRecDepth 1000000 in
set_option maxHeartbeats 8000000 in
theorem ca_all (s chars : ByteArray) (w : World) (h2 : 2 ≤ chars.size) (hch : chars.size ≤ 1000) (hs : s.size ≤ 4000000000) (hascii : ∀ b ∈ chars.data.toList, b.toNat < 128) :
    Calls Tryd.prog 90 #[.string s, .string chars] w fun e w' => e = .returned (.bool (s.data.toList.any fun c => chars.data.toList.contains c)) ∧ Ext [] w w' := by
  rw [← indexAny_any]
  go_enter Tryd.func90, Tryd.ntmps90
  go_wp2_with (go_at_call 115; refine (ia_all _ _ _ h2 hch hs hascii).mono ?_; rintro e w' ⟨rfl, hw⟩)
  go_ret
  exact ⟨rfl, hw⟩
#print axioms ca_all
end Go.Proofs.YtadgfmmmdhlljaaDoor
end
section
namespace Go.Proofs.YtadgfmmmdhlljaaDoor
open Go Go.Wk Go.Wl Go.Rx Go.Fo Go.Li 
def cCA (a : List (SV U)) : Option (Q1 U) := match a with | [.str s, .str t] => some ⟨[s.length ≤ 4000000000, t = [13, 10] ∨ t = [59, 58, 44]], [], blB (s.any fun c => t.contains c)⟩ | _ => none
theorem cCA_ok (args : List (SV U)) (q : Q1 U) (h : cCA args = some q) (ho : allP q.ob) : LendOK E0 90 args ⟨q.ob, q.hy, q.v, []⟩ := by
  unfold cCA at h
  split at h
  · rename_i s t
    cases h
    obtain ⟨hs, ht, -⟩ := ho
    intro D w vs _ hg ha
    obtain ⟨v1, r1, rfl, h1, ha⟩ := Rep.tup_cons ha
    obtain ⟨v2, r2, rfl, h2, ha⟩ := Rep.tup_cons ha
    obtain rfl := tup0_inv ha
    cases h1 with | str hl1 =>
    cases h2 with | str hl2 =>
    intro w1 hs1
    have h2 : 2 ≤ t.length ∧ t.length ≤ 1000 ∧ ∀ b ∈ t, b.toNat < 128 := by rcases ht with rfl | rfl <;> decide
    refine Calls.mono (ca_all ⟨s.toArray⟩ ⟨t.toArray⟩ w1 h2.1 h2.2.1 hs h2.2.2) fun e w2 ⟨h3, h4⟩ => ?_
    refine ⟨_, w2, h3, Sim.refl _, ?_, ?_, trivial⟩
    · obtain ⟨k, rfl⟩ := hs1
      exact ⟨h4.os, h4.tape, h4.output, h4.size, fun b hb hB => h4.block b hb hB⟩
    · show Rep U eT _ _ _ (.bool (List.any s fun c => t.contains c)) (blB (List.any s fun c => t.contains c))
      generalize List.any s (fun c => t.contains c) = x
      have e : x = decide (x = true) := by cases x <;> rfl
      have r : Rep U eT (fun _ => none) (fun _ => False) w2 (.bool (decide (x = true))) (blB x) := .bl
      rwa [← e] at r
  · cases h
noncomputable def NCA : Env := N16.addL 90 cCA
theorem NCA_ok : EnvOK NCA := N16_ok.addL Tryd.call90 cCA_ok
end Go.Proofs.YtadgfmmmdhlljaaDoor
end
section
namespace Go.Proofs.YtadgfmmmdhlljaaDoor
open Go Go.Wk Go.Wl Go.Rx Go.Fo Go.Li 
def an49 : Nat → Ann := fun | 49 => ⟨26, fun _ => none, fun  | _ => none⟩ | _ => ⟨0, fun _ => none, fun _ => none⟩
def V49 (s : Str) (Q : Err → Prop) : Prop :=
((5000 : Int) < (↑(List.length s) : Int) → Q (Err.no (4 : Int))) ∧
  (¬(5000 : Int) < (↑(List.length s) : Int) →
    (¬s = [] → (0 : Int) ≤ (0 : Int)) ∧
      (¬s = [] → (0 : Int) < (↑(List.length s) : Int)) ∧
        (¬(s = [] ∨ ix s (0 : Int) = (32 : UInt8)) → (0 : Int) ≤ (0 : Int)) ∧
          (¬(s = [] ∨ ix s (0 : Int) = (32 : UInt8)) → (0 : Int) < (↑(List.length s) : Int)) ∧
            (¬((s = [] ∨ ix s (0 : Int) = (32 : UInt8)) ∨ ix s (0 : Int) = (9 : UInt8)) → List.length s ≤ (4000000000 : Nat)) ∧
              (¬((s = [] ∨ ix s (0 : Int) = (32 : UInt8)) ∨ ix s (0 : Int) = (9 : UInt8)) →
                  [(13 : UInt8), (10 : UInt8)] = [(13 : UInt8), (10 : UInt8)] ∨ [(13 : UInt8), (10 : UInt8)] = [(59 : UInt8), (58 : UInt8), (44 : UInt8)]) ∧
                (((s = [] ∨ ix s (0 : Int) = (32 : UInt8)) ∨ ix s (0 : Int) = (9 : UInt8)) ∨ (List.any s fun (c : UInt8) => [(13 : UInt8), (10 : UInt8)].contains c) = true → Q (Err.no (11 : Int))) ∧
                  (¬(((s = [] ∨ ix s (0 : Int) = (32 : UInt8)) ∨ ix s (0 : Int) = (9 : UInt8)) ∨ (List.any s fun (c : UInt8) => [(13 : UInt8), (10 : UInt8)].contains c) = true) → Q Err.nil))
set_option maxRecDepth 100000 in
theorem V49_ok {s : Str} {Q : Err → Prop} (h : V49 s Q) : vcFun (E := NCA) (inlN an49 2) (an49 49) Tryd.f49 [.str s] [] [] 0 (resP NCA [.err] Q) := Eq.mp (show V49 s Q = vcFun (E := NCA) (inlN an49 2) (an49 49) Tryd.f49 [.str s] [] [] 0 (resP NCA [.err] Q) by kernel_rfl) h
def mayE (s : Str) : Err := if rMay s = 0 then .nil else .no (rMay s)
theorem mayE_bare (s : Str) : mayE s = .nil ∨ ∃ n, mayE s = .no n := by unfold mayE; split; (exact .inl rfl); exact .inr ⟨_, rfl⟩
theorem any_ends (s : Str) : (s.any fun (c : UInt8) => [(13 : UInt8), 10].contains c) = s.any ends := by
  congr 1
  funext c
  simp only [ends, List.contains_cons, List.contains_nil, Bool.or_false]
  rw [Bool.or_comm]
theorem p49 (s : Str)  : V49 s (fun y0 => y0 = mayE s) := by
  unfold V49
  rw [any_ends]
  refine ⟨fun h => ?_, fun h => ⟨fun _ => Int.le_refl _, fun h => len_pos h, fun _ => Int.le_refl _, fun h => len_pos (fun e => h (.inl e)), fun _ => by omega, fun _ => .inl rfl, fun hc => ?_, fun hc => ?_⟩⟩
  · have e : rMay s = 4 := by rw [rMay, if_pos (by omega)]
    unfold mayE; rw [e, if_neg (by decide)]
  · have e : rMay s = 11 := by
      rw [rMay, if_neg (by omega)]
      by_cases ha : s.any ends = true
      · rw [if_pos ha]
      · rw [if_neg ha, if_pos (or_assoc.1 (hc.resolve_right ha))]
    unfold mayE; rw [e, if_neg (by decide)]
  · have e : rMay s = 0 := by rw [rMay, if_neg (by omega), if_neg (fun ha => hc (.inr ha)), if_neg (fun hh => hc (.inl (or_assoc.2 hh)))]
    unfold mayE; rw [e, if_pos rfl]
def c49 (a : List (SV U)) : Option (Q1 U) := match a with | [.str s] => some ⟨[], [], .err (mayE s)⟩ | _ => none
set_option maxRecDepth 100000 in
theorem c49_ok (args : List (SV U)) (q : Q1 U) (h : c49 args = some q) (ho : allP q.ob) : LendOK NCA 49 args ⟨q.ob, q.hy, q.v, []⟩ := by
  unfold c49 at h
  split at h
  · rename_i s
    cases h
    exact lend1 NCA_ok Tryd.func49 (k := .err) (x := mayE s) (mayE_bare s) (V49_ok (p49 s )) 0
  · cases h
noncomputable def N49 : Env := NCA.addL 49 c49
theorem N49_ok : EnvOK N49 := NCA_ok.addL Tryd.call49 c49_ok
end Go.Proofs.YtadgfmmmdhlljaaDoor
end
section
namespace Go.Proofs.YtadgfmmmdhlljaaDoor
open Go Go.Wk Go.Wl Go.Rx Go.Fo Go.Li 
def an18 : Nat → Ann := fun | 18 => ⟨59, fun | 3 => some ⟨[4, 11, 12], [.slot 13 (.int .i64), .ob 4 0]⟩ | 11 => some ⟨[4, 11, 12, 13], [.slot 6 .str, .slot 8 (.int .i64), .ob 4 0]⟩ | _ => none, fun  | _ => none⟩ | _ => ⟨0, fun _ => none, fun _ => none⟩
def V18 (l : List Str) (Q : Str → Err → Prop) : Prop :=
∃ (I : Int → List UInt8 → Prop),
  ∃ (m : Int → List UInt8 → Nat),
    I (0 : Int) [] ∧
      ∀ (x : Int) (x_1 : List UInt8),
        I x x_1 →
          (x < (↑l.length : Int) →
              (0 : Int) ≤ x ∧
                x < (↑l.length : Int) ∧
                  ((mayE (ix l x)).is (4 : Int) → in64 (x + (1 : Int)) ∧ Q [] (Err.fault (x + (1 : Int)) (4 : Int))) ∧
                    (¬(mayE (ix l x)).is (4 : Int) →
                      (mayE (ix l x) ≠ Err.nil → in64 (x + (1 : Int)) ∧ Q [] (Err.fault (x + (1 : Int)) (11 : Int))) ∧
                        (¬mayE (ix l x) ≠ Err.nil →
                          ∃ (I_1 : List UInt8 → Int → List UInt8 → Prop),
                            ∃ (m_1 : List UInt8 → Int → List UInt8 → Nat),
                              I_1 (ix l x) (75 : Int) x_1 ∧
                                ∀ (x_2 : List UInt8) (x_3 : Int) (x_4 : List UInt8),
                                  I_1 x_2 x_3 x_4 →
                                    (x_2 ≠ [] →
                                        (x_3 < (↑(decw x_2) : Int) →
                                            x_4.length + [(13 : UInt8), (10 : UInt8), (32 : UInt8)].length ≤ (140737488355328 : Nat) ∧
                                              (0 : Int) ≤ (↑(decw x_2) : Int) ∧
                                                (↑(decw x_2) : Int) ≤ (↑x_2.length : Int) ∧
                                                  List.length (x_4 ++ [(13 : UInt8), (10 : UInt8), (32 : UInt8)]) + (List.take (↑(decw x_2) : Int).toNat x_2).length ≤ (140737488355328 : Nat) ∧
                                                    (0 : Int) ≤ (↑(decw x_2) : Int) ∧
                                                      (↑(decw x_2) : Int) ≤ (↑x_2.length : Int) ∧
                                                        in64 ((74 : Int) - (↑(decw x_2) : Int)) ∧
                                                          I_1 (List.drop (↑(decw x_2) : Int).toNat x_2) ((74 : Int) - (↑(decw x_2) : Int))
                                                              (x_4 ++ [(13 : UInt8), (10 : UInt8), (32 : UInt8)] ++ List.take (↑(decw x_2) : Int).toNat x_2) ∧
                                                            m_1 (List.drop (↑(decw x_2) : Int).toNat x_2) ((74 : Int) - (↑(decw x_2) : Int))
                                                                (x_4 ++ [(13 : UInt8), (10 : UInt8), (32 : UInt8)] ++ List.take (↑(decw x_2) : Int).toNat x_2) <
                                                              m_1 x_2 x_3 x_4) ∧
                                          (¬x_3 < (↑(decw x_2) : Int) →
                                            (0 : Int) ≤ (↑(decw x_2) : Int) ∧
                                              (↑(decw x_2) : Int) ≤ (↑x_2.length : Int) ∧
                                                x_4.length + (List.take (↑(decw x_2) : Int).toNat x_2).length ≤ (140737488355328 : Nat) ∧
                                                  (0 : Int) ≤ (↑(decw x_2) : Int) ∧
                                                    (↑(decw x_2) : Int) ≤ (↑x_2.length : Int) ∧
                                                      in64 (x_3 - (↑(decw x_2) : Int)) ∧
                                                        I_1 (List.drop (↑(decw x_2) : Int).toNat x_2) (x_3 - (↑(decw x_2) : Int)) (x_4 ++ List.take (↑(decw x_2) : Int).toNat x_2) ∧
                                                          m_1 (List.drop (↑(decw x_2) : Int).toNat x_2) (x_3 - (↑(decw x_2) : Int)) (x_4 ++ List.take (↑(decw x_2) : Int).toNat x_2) <
                                                            m_1 x_2 x_3 x_4)) ∧
                                      (¬x_2 ≠ [] →
                                        x_4.length + [(13 : UInt8), (10 : UInt8)].length ≤ (140737488355328 : Nat) ∧
                                          in64 (x + (1 : Int)) ∧ I (x + (1 : Int)) (x_4 ++ [(13 : UInt8), (10 : UInt8)]) ∧ m (x + (1 : Int)) (x_4 ++ [(13 : UInt8), (10 : UInt8)]) < m x x_1)))) ∧
            (¬x < (↑l.length : Int) → x_1.length ≤ (9223372036854775807 : Nat) ∧ Q x_1 Err.nil)
set_option maxRecDepth 100000 in
theorem V18_ok {l : List Str} {Q : Str → Err → Prop} (h : V18 l Q) : vcFun (E := N49) (inlN an18 2) (an18 18) Tryd.f18 [.sl (N := U) 9 l] [] [] 0 (resP N49 [.str, .err] Q) := Eq.mp (show V18 l Q = vcFun (E := N49) (inlN an18 2) (an18 18) Tryd.f18 [.sl (N := U) 9 l] [] [] 0 (resP N49 [.str, .err] Q) by kernel_rfl) h
def foldE (R : Str × Int × Int) : Err := if R.2.1 = 0 then .nil else .fault R.2.2 R.2.1
theorem mayE_is4 {s : Str} (h : (mayE s).is 4) : rMay s = 4 := by
  unfold mayE at h
  split at h
  · cases h
  · exact Option.some.inj h
theorem mayE_no {s : Str} (h : ¬ (mayE s).is 4) (h2 : mayE s ≠ .nil) : rMay s = 11 := by
  unfold mayE at h h2
  split at h2
  · exact absurd rfl h2
  · rename_i h0
    rw [if_neg h0] at h
    rcases rMay_cases s with e | e | e
    · exact absurd e h0
    · exact absurd (by rw [e]; rfl) h
    · exact e
theorem mayE_nil {s : Str} (h : ¬ mayE s ≠ .nil) : rMay s = 0 := by
  have h := Classical.not_not.1 h
  unfold mayE at h
  split at h
  · assumption
  · cases h
theorem p18 (l : List Str) (hs : l.length ≤ 100000) : V18 l (fun y0 y1 => y0 = (foldS dec l).1 ∧ y1 = foldE (foldS dec l)) := by
  unfold V18
  have key : foldS dec l = foldG dec [] 0 l := rfl
  generalize foldS dec l = R at key ⊢
  refine ⟨fun i x => 0 ≤ i ∧ i ≤ l.length ∧ (x.length : Int) ≤ i * 400000 ∧ R = foldG dec x i (l.drop i.toNat), fun i _ => ((l.length : Int) - i).toNat, ⟨by omega, by omega, by simp, by rw [key]; rfl⟩, ?_⟩
  rintro i x ⟨h0, h1, h2, h3⟩
  clear key
  refine ⟨fun hi => ⟨h0, hi, fun hb => ⟨⟨by omega, by omega⟩, ?_⟩, fun hb => ⟨fun hc => ⟨⟨by omega, by omega⟩, ?_⟩, fun hc => ?_⟩⟩, fun hi => ⟨by omega, ?_⟩⟩
  · have e := mayE_is4 hb
    rw [ix_drop h0 hi, foldG, if_neg (by rw [e]; decide), e] at h3
    rw [h3]; exact ⟨rfl, rfl⟩
  · have e := mayE_no hb hc
    rw [ix_drop h0 hi, foldG, if_neg (by rw [e]; decide), e] at h3
    rw [h3]; exact ⟨rfl, rfl⟩
  · have e := mayE_nil hc
    have hr5 := (rMay_ok e).1
    rw [ix_drop h0 hi, foldG, if_pos e] at h3
    generalize ix l i = r at e hr5 h3 ⊢
    refine ⟨fun y left z => x ++ rowGo dec 75 r = z ++ rowGo dec left y ∧ z.length + 4 * y.length ≤ x.length + 4 * r.length ∧ 0 ≤ left ∧ left ≤ 75, fun y _ _ => y.length, ⟨rfl, by omega, by omega, by omega⟩, ?_⟩
    rintro y left z ⟨k1, k2, k3, k4⟩
    refine ⟨fun hy => ?_, fun hy => ?_⟩
    · have hp : 1 ≤ decw y := dec.pos y hy
      have hle : decw y ≤ y.length := dec.le y
      have h4 : decw y ≤ 4 := dec.four y
      have ht : (y.take (decw y)).length = decw y := dec.take_len y
      simp only [Int.toNat_natCast]
      refine ⟨fun hc => ⟨?_, by omega, by omega, ?_, by omega, by omega, ⟨by omega, by omega⟩, ⟨?_, ?_, by omega, by omega⟩, ?_⟩, fun hc => ⟨by omega, by omega, ?_, by omega, by omega, ⟨by omega, by omega⟩, ⟨?_, ?_, by omega, by omega⟩, ?_⟩⟩
      · simp only [List.length_cons, List.length_nil]; omega
      · simp only [List.length_append, List.length_cons, List.length_nil, ht]; omega
      · rw [k1, rowGo_new dec hy (by show left < (decw y : Int); exact hc)]; simp [dec]
      · simp only [List.length_append, List.length_cons, List.length_nil, ht, List.length_drop]; omega
      · simp only [List.length_drop]; omega
      · rw [ht]; omega
      · rw [k1, rowGo_on dec hy (by show ¬ left < (decw y : Int); exact hc)]; simp [dec]
      · simp only [List.length_append, ht, List.length_drop]; omega
      · simp only [List.length_drop]; omega
    · have hy := Classical.not_not.1 hy
      subst hy
      rw [rowGo_nil] at k1
      simp only [List.length_nil] at k2
      refine ⟨?_, ⟨by omega, by omega⟩, ⟨by omega, by omega, ?_, by rw [← k1]; exact h3⟩, by dsimp only; omega⟩
      · simp only [List.length_cons, List.length_nil]; omega
      · simp only [List.length_append, List.length_cons, List.length_nil]; omega
  · rw [drop_all (by omega)] at h3
    rw [h3]; exact ⟨rfl, rfl⟩
def c18 (a : List (SV U)) (nx : Nat) : Option (CR U) := match a with | [.sl 9 l] => some ⟨[List.length (α := Str) l ≤ 100000], [], .tup [.str (foldS dec l).1, .err (foldE (foldS dec l))], []⟩ | _ => none
set_option maxRecDepth 100000 in
theorem c18_ok (args : List (SV U)) (nx : Nat) (c : CR U) (h : c18 args nx = some c) (hp : args.all pureS = true) (ho : allP c.ob) : ConOK N49.P N49.N N49.T N49.G 18 args nx c := by
  unfold c18 at h
  split at h
  · rename_i l
    cases h
    exact con2 N49_ok Tryd.func18 (k1 := .str) (k2 := .err) (x1 := (foldS dec l).1) (x2 := foldE (foldS dec l)) rfl hp (V18_ok (p18 l ho.1))
  · cases h
noncomputable def N18 : Env := N49.addC 18 c18
theorem N18_ok : EnvOK N18 := N49_ok.addC Tryd.call18 c18_ok
end Go.Proofs.YtadgfmmmdhlljaaDoor
end
section
namespace Go.Proofs.YtadgfmmmdhlljaaDoor
open Go Go.Wk Go.Wl Go.Rx Go.Fo Go.Li 
noncomputable def NI56 : Env := N18.addI 56 Tryd.f56
theorem NI56_ok : EnvOK NI56 := N18_ok.addI Tryd.call56 Tryd.func56
end Go.Proofs.YtadgfmmmdhlljaaDoor
end
section
namespace Go.Proofs.YtadgfmmmdhlljaaDoor
open Go Go.Wk Go.Wl Go.Rx Go.Fo Go.Li 
def an22 : Nat → Ann := fun | 22 => ⟨89, fun | 6 => some ⟨[4, 5, 6, 7], [.slot 0 .str, .slot 8 (.int .i64), .own 4 [(.acc 40)], .ob 5 0, .own 6 [.bool]]⟩ | _ => none, fun | 11 => some ⟨[4, 5, 6, 7, 8, 10], [.slot 9 .str]⟩ | 24 => some ⟨[0, 4, 5, 6, 7, 8], [.slot 12 .err, .own 4 [(.acc 40)], .ob 5 0, .own 6 [.bool]]⟩ | _ => none⟩ | 56 => ⟨12, fun _ => none, fun  | _ => none⟩ | _ => ⟨0, fun _ => none, fun _ => none⟩
def V22 (s : Str) (Q : List Row → Err → Prop) : Prop :=
∃ (I : List UInt8 → Int → List Row → List UInt8 → Bool → Prop),
  ∃ (m : List UInt8 → Int → List Row → List UInt8 → Bool → Nat),
    I s (1 : Int) [] [] false ∧
      ∀ (x : List UInt8) (x_1 : Int) (x_2 : List Row) (x_3 : List UInt8) (x_4 : Bool),
        I x x_1 x_2 x_3 x_4 →
          (x ≠ [] →
              [(10 : UInt8)] = [(10 : UInt8)] ∧
                x.length ≤ (1000000 : Nat) ∧
                  ∃ (J : List UInt8 → Prop),
                    (((↑(List.length (hd x)) : Int) < (↑x.length : Int) → J (Lib.trimSuffix (hd x) [(13 : UInt8)])) ∧ (¬(↑(List.length (hd x)) : Int) < (↑x.length : Int) → J (hd x))) ∧
                      ∀ (x_5 : List UInt8),
                        J x_5 →
                          ∃ (J : Err → List Row → List UInt8 → Bool → Prop),
                            ((x_5 = [] →
                                  (x_4 = true →
                                      in64 ((↑x_2.length : Int) - (1 : Int)) ∧
                                        x_3.length ≤ (9223372036854775807 : Nat) ∧
                                          ((0 : Int) ≤ (↑x_2.length : Int) - (1 : Int) ∧ (↑x_2.length : Int) - (1 : Int) < (↑x_2.length : Int)) ∧
                                            J Err.nil (x_2.set ((↑x_2.length : Int) - (1 : Int)).toNat (Row.mk (ix x_2 ((↑x_2.length : Int) - (1 : Int))).At x_3)) [] false) ∧
                                    (¬x_4 = true → J Err.nil x_2 [] false)) ∧
                                (¬x_5 = [] →
                                  (0 : Int) ≤ (0 : Int) ∧
                                    (0 : Int) < (↑x_5.length : Int) ∧
                                      (¬ix x_5 (0 : Int) = (32 : UInt8) → (0 : Int) ≤ (0 : Int)) ∧
                                        (¬ix x_5 (0 : Int) = (32 : UInt8) → (0 : Int) < (↑x_5.length : Int)) ∧
                                          (ix x_5 (0 : Int) = (32 : UInt8) ∨ ix x_5 (0 : Int) = (9 : UInt8) →
                                              (0 : Int) ≤ (1 : Int) ∧
                                                (1 : Int) ≤ (↑x_5.length : Int) ∧
                                                  x_3.length + (List.drop (Int.toNat (1 : Int)) x_5).length ≤ (140737488355328 : Nat) ∧
                                                    (¬x_4 = true → J (Err.no (11 : Int)) x_2 (x_3 ++ List.drop (Int.toNat (1 : Int)) x_5) (decide (x_4 = true))) ∧
                                                      (¬¬x_4 = true → J Err.nil x_2 (x_3 ++ List.drop (Int.toNat (1 : Int)) x_5) (decide (x_4 = true)))) ∧
                                            (¬(ix x_5 (0 : Int) = (32 : UInt8) ∨ ix x_5 (0 : Int) = (9 : UInt8)) →
                                              (x_4 = true →
                                                  in64 ((↑x_2.length : Int) - (1 : Int)) ∧
                                                    x_3.length ≤ (9223372036854775807 : Nat) ∧
                                                      ((0 : Int) ≤ (↑x_2.length : Int) - (1 : Int) ∧ (↑x_2.length : Int) - (1 : Int) < (↑x_2.length : Int)) ∧
                                                        ((x_2.set ((↑x_2.length : Int) - (1 : Int)).toNat (Row.mk (ix x_2 ((↑x_2.length : Int) - (1 : Int))).At x_3)).length + [Row.mk x_1 []].length) *
                                                              (some (24 : Nat)).getD (0 : Nat) ≤
                                                            (140737488355328 : Nat) ∧
                                                          ([] : List UInt8).length + x_5.length ≤ (140737488355328 : Nat) ∧
                                                            J Err.nil (x_2.set ((↑x_2.length : Int) - (1 : Int)).toNat (Row.mk (ix x_2 ((↑x_2.length : Int) - (1 : Int))).At x_3) ++ [Row.mk x_1 []])
                                                              ([] ++ x_5) true) ∧
                                                (¬x_4 = true →
                                                  (x_2.length + [Row.mk x_1 []].length) * (some (24 : Nat)).getD (0 : Nat) ≤ (140737488355328 : Nat) ∧
                                                    ([] : List UInt8).length + x_5.length ≤ (140737488355328 : Nat) ∧ J Err.nil (x_2 ++ [Row.mk x_1 []]) ([] ++ x_5) true)))) ∧
                              ∀ (x_6 : Err) (x_7 : List Row) (x_8 : List UInt8) (x_9 : Bool),
                                J x_6 x_7 x_8 x_9 →
                                  (x_6.num.isSome = true → Q [] (Err.fault x_1 (x_6.num.getD (0 : Int)))) ∧
                                    (¬x_6.num.isSome = true →
                                      x_8.length ≤ (9223372036854775807 : Nat) ∧
                                        ((5000 : Int) < (↑x_8.length : Int) → Q [] (Err.fault x_1 (4 : Int))) ∧
                                          (¬(5000 : Int) < (↑x_8.length : Int) →
                                            ((1000 : Int) < (↑x_7.length : Int) → Q [] (Err.fault x_1 (5 : Int))) ∧
                                              (¬(1000 : Int) < (↑x_7.length : Int) →
                                                in64 (x_1 + (1 : Int)) ∧
                                                  I (tl x) (x_1 + (1 : Int)) x_7 x_8 (decide (x_9 = true)) ∧ m (tl x) (x_1 + (1 : Int)) x_7 x_8 (decide (x_9 = true)) < m x x_1 x_2 x_3 x_4)))) ∧
            (¬x ≠ [] →
              (x_4 = true →
                  in64 ((↑x_2.length : Int) - (1 : Int)) ∧
                    x_3.length ≤ (9223372036854775807 : Nat) ∧
                      ((0 : Int) ≤ (↑x_2.length : Int) - (1 : Int) ∧ (↑x_2.length : Int) - (1 : Int) < (↑x_2.length : Int)) ∧
                        Q (x_2.set ((↑x_2.length : Int) - (1 : Int)).toNat (Row.mk (ix x_2 ((↑x_2.length : Int) - (1 : Int))).At x_3)) Err.nil) ∧
                (¬x_4 = true → Q x_2 Err.nil))
set_option maxRecDepth 100000 in
theorem V22_ok {s : Str} {Q : List Row → Err → Prop} (h : V22 s Q) : vcFun (E := NI56) (inlN an22 2) (an22 22) Tryd.f22 [.str s] [] [] 0 (resP NI56 [.acc 40, .err] Q) := Eq.mp (show V22 s Q = vcFun (E := NI56) (inlN an22 2) (an22 22) Tryd.f22 [.str s] [] [] 0 (resP NI56 [.acc 40, .err] Q) by kernel_rfl) h
def uE (r : Except (Int × Int) (List Row)) : Err := match r with | .ok _ => .nil | .error e => .fault e.2 e.1
def topGo (r : List Str) (a : Int) (out : List Row) : Except (Int × Int) (List Row) := match uTop a out with | .error e => .error e | .ok q => uGo r (a + 1) q.1 q.2
theorem uGo_top {l : Str} {r : List Str} {a : Int} {out out' : List Row} {o : Bool} (h : uStep a l out o = uTop a out') : uGo (l :: r) a out o = topGo r a out' := by rw [uGo, h]; rfl
theorem lastSet_eq {out : List Row} {t : Str} (h : out ≠ []) : out.set ((out.length : Int) - 1).toNat (Row.mk (ix out ((out.length : Int) - 1)).At t) = lastSet out t := by
  have hp := len_pos h
  unfold lastSet
  rw [show ((out.length : Int) - 1).toNat = out.length - 1 by omega]
theorem lastSet_ne {out : List Row} {t : Str} (h : out ≠ []) : lastSet out t ≠ [] := fun e => by
  have := congrArg List.length e
  rw [lastSet_len] at this
  exact h (List.eq_nil_of_length_eq_zero this)
theorem lastSet_text {out : List Row} {t : Str} (h : out ≠ []) : ((lastSet out t).getLastD default).Text = t := by
  obtain ⟨a, x, rfl⟩ := snoc h
  rw [lastSet_snoc, getLastD_snoc]
theorem lastAdd_lastSet {out : List Row} {t d : Str} (h : out ≠ []) : lastAdd (lastSet out t) d = lastSet out (t ++ d) := by
  obtain ⟨a, x, rfl⟩ := snoc h
  rw [lastSet_snoc, lastAdd_snoc, lastSet_snoc]
theorem hd_lt {s : Str} (h : 10 ∈ s) : (hd s).length < s.length := by
  obtain ⟨h1, h2, _⟩ := (index_nl s).1 h
  have h3 := indexByte_lt s 10
  rw [← h2, List.length_take]; omega
theorem trimR_len (l : Str) : (trimR l).length ≤ l.length := by
  unfold trimR
  split
  · rw [List.length_dropLast]; omega
  · exact Nat.le_refl _
theorem p22 (s : Str) (hs : s.length ≤ 100000) : V22 s (fun y0 y1 => y0 = (uR (unfoldS s)).1 ∧ y1 = uE (unfoldS s)) := by
  unfold V22
  have key : unfoldS s = uGo (linesOf s) 1 [] false := rfl
  generalize unfoldS s = R at key ⊢
  refine ⟨fun x a out long o => 1 ≤ a ∧ a + x.length ≤ s.length + 1 ∧ out.length ≤ 1000 ∧ long.length ≤ 5000 ∧ (o = true → out ≠ []) ∧ (o = false → long = []) ∧ R = uGo (linesOf x) a (cur out long o) o, fun x _ _ _ _ => x.length, ⟨by omega, by omega, by simp, by simp, fun h => (by cases h), fun _ => rfl, key⟩, ?_⟩
  rintro x a out long o ⟨h0, h1, h2, h3, h4, h5, h6⟩
  clear key
  refine ⟨fun hx => ⟨rfl, by omega, fun line => linesOf x = line :: linesOf (tl x) ∧ line.length ≤ x.length, ⟨fun hc => ?_, fun hc => ?_⟩, ?_⟩, fun hx => ?_⟩
  · have hm : (10 : UInt8) ∈ x := Classical.byContradiction fun hm => by rw [(hd_all hm).1] at hc; omega
    refine ⟨by rw [linesOf_cons hx, if_pos hm, trim13], ?_⟩
    rw [trim13]
    have := trimR_len (hd x); omega
  · have hm : (10 : UInt8) ∉ x := fun hm => by have := hd_lt hm; omega
    exact ⟨by rw [linesOf_cons hx, if_neg hm, (hd_all hm).1], by rw [(hd_all hm).1]; exact Nat.le_refl _⟩
  · rintro line ⟨hl, hll⟩
    rw [hl] at h6
    have htl := tl_lt hx
    clear hl
    generalize tl x = x' at h6 htl ⊢
    refine ⟨fun e o' l' p' => (e = .no 11 ∧ R = .error (11, a)) ∨ (e = .nil ∧ o'.length ≤ 1001 ∧ l'.length ≤ 300000 ∧ (p' = false → l' = [] ∧ o'.length ≤ 1000 ∧ R = uGo (linesOf x') (a + 1) o' false) ∧ (p' = true → o' ≠ [] ∧ R = topGo (linesOf x') a (lastSet o' l'))), ⟨fun hE => ⟨fun ho => ?_, fun ho => ?_⟩, fun hN => ?_⟩, ?_⟩
    · have hne := h4 ho
      have hp := len_pos hne
      rw [lastSet_eq hne]
      subst ho
      refine ⟨⟨by omega, by omega⟩, by omega, ⟨by omega, by omega⟩, .inr ⟨rfl, by rw [lastSet_len]; omega, by simp, fun _ => ⟨rfl, by rw [lastSet_len]; exact h2, ?_⟩, fun h => (by cases h)⟩⟩
      rw [h6, uGo_ok (show uStep a line (cur out long true) true = .ok (lastSet out long, false) by rw [uStep, if_pos hE]; rfl)]
    · have ho : o = false := by simpa using ho
      subst ho
      refine .inr ⟨rfl, by omega, by simp, fun _ => ⟨rfl, h2, ?_⟩, fun h => (by cases h)⟩
      rw [h6, uGo_ok (show uStep a line (cur out long false) false = .ok (out, false) by rw [uStep, if_pos hE]; rfl)]
    · have hp := len_pos hN
      refine ⟨by omega, hp, fun _ => by omega, fun _ => hp, fun hsp => ⟨by omega, by omega, ?_, fun ho => ?_, fun ho => ?_⟩, fun hsp => ⟨fun ho => ?_, fun ho => ?_⟩⟩
      · rw [List.length_drop]; omega
      · have ho : o = false := by simpa using ho
        subst ho
        exact .inl ⟨rfl, by rw [h6, uGo_err (show uStep a line (cur out long false) false = .error (11, a) by rw [uStep, if_neg hN, if_pos (show spTab line from hsp), if_neg (by simp)])]⟩
      · have ho : o = true := Classical.not_not.1 ho
        have hne := h4 ho
        subst ho
        have e1 : Int.toNat (1 : Int) = 1 := rfl
        rw [e1]
        refine .inr ⟨rfl, by omega, by rw [List.length_append, List.length_drop]; omega, fun h => (by cases h), fun _ => ⟨hne, ?_⟩⟩
        rw [h6]
        refine uGo_top ?_
        rw [uStep, if_neg hN, if_pos (show spTab line from hsp), if_pos rfl]
        show uTop a (lastAdd (lastSet out long) _) = _
        rw [lastAdd_lastSet hne]
      · have hne := h4 ho
        have hpo := len_pos hne
        subst ho
        rw [lastSet_eq hne]
        refine ⟨⟨by omega, by omega⟩, by omega, ⟨by omega, by omega⟩, ?_, ?_, .inr ⟨rfl, ?_, ?_, fun h => (by cases h), fun _ => ⟨by simp, ?_⟩⟩⟩
        · simp only [lastSet_len, List.length_cons, List.length_nil, Option.getD_some]; omega
        · simp only [List.length_nil]; omega
        · simp only [List.length_append, lastSet_len, List.length_cons, List.length_nil]; omega
        · simp only [List.nil_append]; omega
        · rw [h6, lastSet_snoc]
          refine uGo_top ?_
          rw [uStep, if_neg hN, if_neg (show ¬ spTab line from hsp)]; rfl
      · have ho : o = false := by simpa using ho
        subst ho
        refine ⟨?_, ?_, .inr ⟨rfl, ?_, ?_, fun h => (by cases h), fun _ => ⟨by simp, ?_⟩⟩⟩
        · simp only [List.length_cons, List.length_nil, Option.getD_some]; omega
        · simp only [List.length_nil]; omega
        · simp only [List.length_append, List.length_cons, List.length_nil]; omega
        · simp only [List.nil_append]; omega
        · rw [h6, lastSet_snoc]
          refine uGo_top ?_
          rw [uStep, if_neg hN, if_neg (show ¬ spTab line from hsp)]; rfl
    · rintro e o' l' p' (⟨rfl, hR⟩ | ⟨rfl, k1, k2, k3, k4⟩)
      · refine ⟨fun _ => by rw [hR]; exact ⟨rfl, rfl⟩, fun h => absurd rfl h⟩
      · refine ⟨fun h => absurd h (by decide), fun _ => ⟨by omega, fun h5' => ?_, fun h5' => ⟨fun h6' => ?_, fun h6' => ⟨⟨by omega, by omega⟩, ?_, htl⟩⟩⟩⟩
        · have hp : p' = true := by
            cases p' with
            | false => rw [(k3 rfl).1] at h5'; simp at h5'
            | true => rfl
          obtain ⟨hne, hR⟩ := k4 hp
          rw [hR, topGo, uTop_long (by rw [lastSet_text hne]; exact h5')]; exact ⟨rfl, rfl⟩
        · have hp : p' = true := by
            cases p' with
            | false => have := (k3 rfl).2.1; omega
            | true => rfl
          obtain ⟨hne, hR⟩ := k4 hp
          rw [hR, topGo, uTop_many (by rw [lastSet_text hne]; exact h5') (by rw [lastSet_len]; exact h6')]; exact ⟨rfl, rfl⟩
        · cases p' with
          | false =>
            obtain ⟨e1, _, hR⟩ := k3 rfl
            exact ⟨by omega, by omega, by omega, by omega, fun h => (by cases h), fun _ => e1, hR⟩
          | true =>
            obtain ⟨hne, hR⟩ := k4 rfl
            rw [topGo, uTop_ok (by rw [lastSet_text hne]; exact h5') (by rw [lastSet_len]; exact h6')] at hR
            exact ⟨by omega, by omega, by omega, by omega, fun _ => hne, fun h => (by cases h), hR⟩
  · have hx := Classical.not_not.1 hx
    subst hx
    rw [linesOf_nil] at h6
    refine ⟨fun ho => ?_, fun ho => ?_⟩
    · have hne := h4 ho
      have hpo := len_pos hne
      subst ho
      rw [lastSet_eq hne]
      refine ⟨⟨by omega, by omega⟩, by omega, ⟨by omega, by omega⟩, ?_⟩
      rw [h6]; exact ⟨rfl, rfl⟩
    · have ho : o = false := by simpa using ho
      subst ho
      rw [h6]; exact ⟨rfl, rfl⟩
def c22 (a : List (SV U)) (nx : Nat) : Option (CR U) := match a with | [.str s] => some ⟨[List.length (α := UInt8) s ≤ 100000], [], .tup [.acc nx, .err (uE (unfoldS s))], [.ac 40 ((uR (unfoldS s)).1)]⟩ | _ => none
set_option maxRecDepth 100000 in
theorem c22_ok (args : List (SV U)) (nx : Nat) (c : CR U) (h : c22 args nx = some c) (hp : args.all pureS = true) (ho : allP c.ob) : ConOK NI56.P NI56.N NI56.T NI56.G 22 args nx c := by
  unfold c22 at h
  split at h
  · rename_i s
    cases h
    exact con2 NI56_ok Tryd.func22 (k1 := .acc 40) (k2 := .err) (x1 := (uR (unfoldS s)).1) (x2 := uE (unfoldS s)) rfl hp (V22_ok (p22 s ho.1))
  · cases h
noncomputable def N22 : Env := NI56.addC 22 c22
theorem N22_ok : EnvOK N22 := NI56_ok.addC Tryd.call22 c22_ok
end Go.Proofs.YtadgfmmmdhlljaaDoor
end
section
namespace Go.Fo
open Go Go.Wk Go.Wl
def linesF : Nat → Str → List Str
  | 0, _ => []
  | n + 1, s => if s = [] then [] else (if (10 : UInt8) ∈ s then trimR (hd s) else s) :: linesF n (tl s)
theorem linesF_eq : ∀ (n : Nat) (s : Str), s.length ≤ n → linesOf s = linesF n s
  | 0, s, h => by
    have : s = [] := List.eq_nil_of_length_eq_zero (by omega)
    subst this; rw [linesOf_nil]; rfl
  | n + 1, s, h => by
    by_cases e : s = []
    · subst e; rw [linesOf_nil]; rfl
    · have := tl_lt e
      rw [linesOf_cons e, linesF, if_neg e, linesF_eq n (tl s) (by omega)]
def rowA : Int → Str → Str
  | _, [] => [13, 10]
  | left, b :: t => if left < 1 then 13 :: 10 :: 32 :: b :: rowA 73 t else b :: rowA (left - 1) t
theorem decw_ascii {b : UInt8} {t : Str} (h : b.toNat < 128) : decw (b :: t) = 1 := by
  rw [decw, if_neg (by simp), Lib.decodeL_ascii b t h]
theorem rowA_eq : ∀ (row : Str) (left : Int), (∀ b ∈ row, b.toNat < 128) → rowGo dec left row = rowA left row
  | [], left, _ => by rw [rowGo_nil]; rfl
  | b :: t, left, h => by
    have hw : dec.w (b :: t) = 1 := decw_ascii (h b (by simp))
    have ih := fun l => rowA_eq t l (fun x hx => h x (by simp [hx]))
    by_cases hl : left < 1
    · rw [rowGo_new dec (by simp) (by rw [hw]; exact hl), hw, rowA, if_pos hl]
      show [13, 10, 32] ++ [b] ++ rowGo dec (74 - (1 : Nat)) t = _
      rw [ih]; rfl
    · rw [rowGo_on dec (by simp) (by rw [hw]; exact hl), hw, rowA, if_neg hl]
      show [b] ++ rowGo dec (left - (1 : Nat)) t = _
      rw [ih]; rfl
def x80 : Str := List.replicate 80 120
theorem ex_fold : foldS dec [x80] = (x80.take 75 ++ [13, 10, 32] ++ x80.take 5 ++ [13, 10], 0, 0) := by
  unfold foldS
  rw [foldG, if_pos (by decide), foldG, rowA_eq _ _ (by decide)]
  have : rowA 75 x80 = x80.take 75 ++ [13, 10, 32] ++ x80.take 5 ++ [13, 10] := by decide +kernel
  rw [this]; rfl
theorem ex_unfold : unfoldS [97, 13, 10, 32, 98, 10, 10, 99] = .ok [⟨1, [97, 98]⟩, ⟨4, [99]⟩] := by
  unfold unfoldS
  rw [linesF_eq 8 _ (by decide)]; rfl
theorem ex_bad : unfoldS [32, 97] = .error (11, 1) := by
  unfold unfoldS
  rw [linesF_eq 2 _ (by decide)]; rfl
end Go.Fo
end
section
namespace Go.Proofs.YtadgfmmmdhlljaaDoor
open Go Go.Wk Go.Wl Go.Rx Go.Fo Go.Li 
def an17 : Nat → Ann := fun | 17 => ⟨61, fun | 3 => some ⟨[], [.slot 1 .str, .slot 8 (.int .i64)]⟩ | _ => none, fun  | _ => none⟩ | _ => ⟨0, fun _ => none, fun _ => none⟩
def V17  (Q : Bool → Prop) : Prop :=
∃ (I : List UInt8 → Int → Prop),
  ∃ (m : List UInt8 → Int → Nat),
    I [] (0 : Int) ∧
      ∀ (x : List UInt8) (x_1 : Int),
        I x x_1 →
          (x_1 < (80 : Int) →
              x.length + [(120 : UInt8)].length ≤ (9223372036854775807 : Nat) ∧
                in64 (x_1 + (1 : Int)) ∧ I (x ++ [(120 : UInt8)]) (x_1 + (1 : Int)) ∧ m (x ++ [(120 : UInt8)]) (x_1 + (1 : Int)) < m x x_1) ∧
            (¬x_1 < (80 : Int) →
              [x].length ≤ (100000 : Nat) ∧
                [(97 : UInt8), (13 : UInt8), (10 : UInt8), (32 : UInt8), (98 : UInt8), (10 : UInt8), (10 : UInt8), (99 : UInt8)].length ≤ (100000 : Nat) ∧
                  [(32 : UInt8), (97 : UInt8)].length ≤ (100000 : Nat) ∧
                    ((0 : Int) ≤ (75 : Int) ∧ (75 : Int) ≤ (↑x.length : Int)) ∧
                      (List.take (Int.toNat (75 : Int)) x).length + [(13 : UInt8), (10 : UInt8), (32 : UInt8)].length ≤ (9223372036854775807 : Nat) ∧
                        ((0 : Int) ≤ (5 : Int) ∧ (5 : Int) ≤ (↑x.length : Int)) ∧
                          List.length (List.take (Int.toNat (75 : Int)) x ++ [(13 : UInt8), (10 : UInt8), (32 : UInt8)]) + (List.take (Int.toNat (5 : Int)) x).length ≤ (9223372036854775807 : Nat) ∧
                            List.length (List.take (Int.toNat (75 : Int)) x ++ [(13 : UInt8), (10 : UInt8), (32 : UInt8)] ++ List.take (Int.toNat (5 : Int)) x) + [(13 : UInt8), (10 : UInt8)].length ≤
                                (9223372036854775807 : Nat) ∧
                              ((foldS dec [x]).fst =
                                    List.take (Int.toNat (75 : Int)) x ++ [(13 : UInt8), (10 : UInt8), (32 : UInt8)] ++ List.take (Int.toNat (5 : Int)) x ++ [(13 : UInt8), (10 : UInt8)] →
                                  in64
                                    ((foldE (foldS dec [x])).nr + (uE (unfoldS [(97 : UInt8), (13 : UInt8), (10 : UInt8), (32 : UInt8), (98 : UInt8), (10 : UInt8), (10 : UInt8), (99 : UInt8)])).nr)) ∧
                                ((foldS dec [x]).fst =
                                      List.take (Int.toNat (75 : Int)) x ++ [(13 : UInt8), (10 : UInt8), (32 : UInt8)] ++ List.take (Int.toNat (5 : Int)) x ++ [(13 : UInt8), (10 : UInt8)] ∧
                                    (foldE (foldS dec [x])).nr + (uE (unfoldS [(97 : UInt8), (13 : UInt8), (10 : UInt8), (32 : UInt8), (98 : UInt8), (10 : UInt8), (10 : UInt8), (99 : UInt8)])).nr =
                                      (0 : Int)) ∧
                                  ((foldS dec [x]).fst =
                                          List.take (Int.toNat (75 : Int)) x ++ [(13 : UInt8), (10 : UInt8), (32 : UInt8)] ++ List.take (Int.toNat (5 : Int)) x ++ [(13 : UInt8), (10 : UInt8)] ∧
                                        (foldE (foldS dec [x])).nr +
                                            (uE (unfoldS [(97 : UInt8), (13 : UInt8), (10 : UInt8), (32 : UInt8), (98 : UInt8), (10 : UInt8), (10 : UInt8), (99 : UInt8)])).nr =
                                          (0 : Int) →
                                      (uR (unfoldS [(97 : UInt8), (13 : UInt8), (10 : UInt8), (32 : UInt8), (98 : UInt8), (10 : UInt8), (10 : UInt8), (99 : UInt8)])).fst.length ≤ (100000000 : Nat)) ∧
                                    Q
                                      (decide
                                        (((((foldS dec [x]).fst =
                                                  List.take (Int.toNat (75 : Int)) x ++ [(13 : UInt8), (10 : UInt8), (32 : UInt8)] ++ List.take (Int.toNat (5 : Int)) x ++
                                                    [(13 : UInt8), (10 : UInt8)] ∧
                                                (foldE (foldS dec [x])).nr +
                                                    (uE (unfoldS [(97 : UInt8), (13 : UInt8), (10 : UInt8), (32 : UInt8), (98 : UInt8), (10 : UInt8), (10 : UInt8), (99 : UInt8)])).nr =
                                                  (0 : Int)) ∧
                                              sameRows (uR (unfoldS [(97 : UInt8), (13 : UInt8), (10 : UInt8), (32 : UInt8), (98 : UInt8), (10 : UInt8), (10 : UInt8), (99 : UInt8)])).fst
                                                  [Row.mk (1 : Int) [(97 : UInt8), (98 : UInt8)], Row.mk (4 : Int) [(99 : UInt8)]] =
                                                true) ∧
                                            (uE (unfoldS [(32 : UInt8), (97 : UInt8)])).nr = (11 : Int)) ∧
                                          (uE (unfoldS [(32 : UInt8), (97 : UInt8)])).at_ = (1 : Int))))
set_option maxRecDepth 100000 in
theorem V17_ok  {Q : Bool → Prop} (h : V17  Q) : vcFun (E := N22) (inlN an17 2) (an17 17) Tryd.f17 [] [] [] 0 (resP N22 [.bool] Q) := Eq.mp (show V17  Q = vcFun (E := N22) (inlN an17 2) (an17 17) Tryd.f17 [] [] [] 0 (resP N22 [.bool] Q) by kernel_rfl) h
theorem p17   : V17  (fun y0 => y0 = true) := by
  unfold V17
  refine ⟨fun x i => 0 ≤ i ∧ i ≤ 80 ∧ x = List.replicate i.toNat 120, fun _ i => (80 - i).toNat, ⟨by omega, by omega, rfl⟩, ?_⟩
  rintro x i ⟨h0, h1, rfl⟩
  refine ⟨fun hi => ⟨?_, ⟨by omega, by omega⟩, ⟨by omega, by omega, ?_⟩, by dsimp only; omega⟩, fun hi => ?_⟩
  · simp only [List.length_replicate, List.length_cons, List.length_nil]; omega
  · rw [show (i + 1).toNat = i.toNat + 1 by omega, List.replicate_succ']
  · have e : i = 80 := by omega
    subst e
    have ex : List.replicate (80 : Int).toNat (120 : UInt8) = x80 := rfl
    rw [ex]
    have a1 : (foldS dec [x80]).fst = List.take (Int.toNat (75 : Int)) x80 ++ [13, 10, 32] ++ List.take (Int.toNat (5 : Int)) x80 ++ [13, 10] := by rw [ex_fold]; rfl
    have a2 : (foldE (foldS dec [x80])).nr = 0 := by rw [ex_fold]; rfl
    have a3 : (uE (unfoldS [97, 13, 10, 32, 98, 10, 10, 99])).nr = 0 := by rw [ex_unfold]; rfl
    have a4 : (uR (unfoldS [97, 13, 10, 32, 98, 10, 10, 99])).fst = [Row.mk 1 [97, 98], Row.mk 4 [99]] := by rw [ex_unfold]; rfl
    have a5 : (uE (unfoldS [32, 97])).nr = 11 := by rw [ex_bad]; rfl
    have a6 : (uE (unfoldS [32, 97])).at_ = 1 := by rw [ex_bad]; rfl
    refine ⟨by decide, by decide, by decide, ⟨by decide, by decide⟩, by decide, ⟨by decide, by decide⟩, by decide, by decide, fun _ => ?_, ⟨a1, ?_⟩, fun _ => ?_, ?_⟩
    · rw [a2, a3]; exact ⟨by decide, by decide⟩
    · rw [a2, a3]; rfl
    · rw [a4]; decide
    · exact decide_eq_true ⟨⟨⟨⟨a1, by rw [a2, a3]; rfl⟩, by rw [a4]; rfl⟩, a5⟩, a6⟩
def c17 (a : List (SV U)) : Option (Q1 U) := match a with | [] => some ⟨[], [], blB true⟩ | _ => none
set_option maxRecDepth 100000 in
theorem c17_ok (args : List (SV U)) (q : Q1 U) (h : c17 args = some q) (ho : allP q.ob) : LendOK N22 17 args ⟨q.ob, q.hy, q.v, []⟩ := by
  unfold c17 at h
  split at h
  · cases h
    exact lend1 N22_ok Tryd.func17 (k := .bool) (x := true) trivial (V17_ok (p17  )) 0
  · cases h
noncomputable def N17 : Env := N22.addL 17 c17
theorem N17_ok : EnvOK N17 := N22_ok.addL Tryd.call17 c17_ok
end Go.Proofs.YtadgfmmmdhlljaaDoor
end
