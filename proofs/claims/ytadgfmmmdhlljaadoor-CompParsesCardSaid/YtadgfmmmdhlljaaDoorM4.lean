/- 12 texts, one behind the other. -/
import Derived.Test.YtadgfmmmdhlljaaDoorM3
import Derived.Lib.FrozenHead
import Derived.Lib.UnsafeStr
import Derived.Test.YtadgfmmmdhlljaaDoorM1
import Derived.Test.YtadgfmmmdhlljaaDoorChecked
import Derived.Shelf.Unicode.DecodeSlow
set_option linter.unusedVariables false
set_option linter.unusedSimpArgs false
section
namespace Go.Rx
open Go Go.Wk Go.Wl
section
variable {E : Env} {C : Ctx} {w : World} {ρ : Env1} {Z : Nat → Prop} {its : Items E.N} {nx : Nat} {inl : Inl E} {an : Ann} {fn : Func} {K : Nat} {args : List E.SV} {vs : List Value}
def itsOf (E : Env) : (k : VK) → k.den E.N → List (Item E.N)
  | .acc t, x => [.ac t x]
  | _, _ => []
def rvOf (E : Env) (nx : Nat) (k : VK) (x : k.den E.N) : E.SV := (fl1 E nx k x).1
theorem fl1_its (k : VK) (x : k.den E.N) : (fl1 E nx k x).2.1 = number nx (itsOf E k x) ∧ (fl1 E nx k x).2.2 = nx + (itsOf E k x).length := by cases k <;> exact ⟨rfl, rfl⟩
def bare (E : Env) : (k : VK) → k.den E.N → Prop
  | .int _, _ => True
  | .byte, _ => True
  | .bool, _ => True
  | .str, _ => True
  | .err, e => e = .nil ∨ ∃ n, e = .no n
  | _, _ => False
theorem bare_rep {k : VK} {x : k.den E.N} {v : Value} (hb : bare E k x) (h : Rep E.N E.T ρ Z w v (rvOf E nx k x)) : Rep E.N E.T (fun _ => none) (fun _ => False) w v (rvOf E nx k x) := by
  cases k with
  | int k => cases h with | int h => exact .int h
  | byte => cases h; exact .byte
  | bool => change Rep E.N E.T ρ Z w v (blB x) at h; cases h; exact .bl
  | str => cases h with | str h => exact .str h
  | err =>
    cases h with
    | err h =>
      rcases hb with rfl | ⟨n, rfl⟩
      · cases h; exact .err .nil
      · cases h with | no h => exact .err (.no h)
  | _ => exact hb.elim
theorem resP1 {k : VK} {x : k.den E.N} {s : E.SV} {i : Nat} (h : resP E [k] (fun y => y = x) s its i) : rb1 E its k s = some x := by
  unfold resP parts at h
  simp only [rbCells] at h
  cases hy : rb1 E its k s with
  | none => rw [hy] at h; exact h.elim
  | some y => rw [hy] at h; have h : y = x := h; rw [h]
theorem resP2 {k1 k2 : VK} {x1 : k1.den E.N} {x2 : k2.den E.N} {s : E.SV} {i : Nat} (h : resP E [k1, k2] (fun y z => y = x1 ∧ z = x2) s its i) : ∃ s1 s2, s = .tup [s1, s2] ∧ rb1 E its k1 s1 = some x1 ∧ rb1 E its k2 s2 = some x2 := by
  have one : ∀ u : E.SV, (match rbCells E its [k1, k2] [u] (fun y z => y = x1 ∧ z = x2) with | some p => p | none => False) → False := fun u h => by
    simp only [rbCells] at h
    cases hy : rb1 E its k1 u with
    | none => rw [hy] at h; exact h
    | some y => rw [hy] at h; exact h
  unfold resP at h
  cases s with
  | tup vs =>
    match vs, h with
    | [], h => exact h.elim
    | [u], h => exact (one u h).elim
    | [s1, s2], h =>
      simp only [parts, rbCells] at h
      cases hy : rb1 E its k1 s1 with
      | none => rw [hy] at h; exact h.elim
      | some y =>
        rw [hy] at h
        cases hz : rb1 E its k2 s2 with
        | none => simp only [hz] at h
        | some z => simp only [hz] at h; exact ⟨s1, s2, rfl, by rw [hy, h.1], by rw [hz, h.2]⟩
    | s1 :: s2 :: s3 :: r, h =>
      simp only [parts, rbCells] at h
      cases hy : rb1 E its k1 s1 with
      | none => rw [hy] at h; exact h.elim
      | some y =>
        rw [hy] at h
        cases hz : rb1 E its k2 s2 with
        | none => simp only [hz] at h
        | some z => simp only [hz] at h
  | _ => exact (one _ h).elim
theorem resP3 {k1 k2 k3 : VK} {x1 : k1.den E.N} {x2 : k2.den E.N} {x3 : k3.den E.N} {s : E.SV} {i : Nat} (h : resP E [k1, k2, k3] (fun y z u => y = x1 ∧ z = x2 ∧ u = x3) s its i) : ∃ s1 s2 s3, s = .tup [s1, s2, s3] ∧ rb1 E its k1 s1 = some x1 ∧ rb1 E its k2 s2 = some x2 ∧ rb1 E its k3 s3 = some x3 := by
  have one : ∀ u : E.SV, (match rbCells E its [k1, k2, k3] [u] (fun y z u => y = x1 ∧ z = x2 ∧ u = x3) with | some p => p | none => False) → False := fun u h => by
    simp only [rbCells] at h
    cases hy : rb1 E its k1 u with
    | none => rw [hy] at h; exact h
    | some y => rw [hy] at h; exact h
  unfold resP at h
  cases s with
  | tup vs =>
    match vs, h with
    | [], h => exact h.elim
    | [u], h => exact (one u h).elim
    | [s1, s2], h =>
      simp only [parts, rbCells] at h
      cases hy : rb1 E its k1 s1 with
      | none => rw [hy] at h; exact h.elim
      | some y =>
        rw [hy] at h
        cases hz : rb1 E its k2 s2 with
        | none => simp only [hz] at h
        | some z => simp only [hz] at h
    | [s1, s2, s3], h =>
      simp only [parts, rbCells] at h
      cases hy : rb1 E its k1 s1 with
      | none => rw [hy] at h; exact h.elim
      | some y =>
        rw [hy] at h
        cases hz : rb1 E its k2 s2 with
        | none => simp only [hz] at h
        | some z =>
          simp only [hz] at h
          cases hu : rb1 E its k3 s3 with
          | none => simp only [hu] at h
          | some u => simp only [hu] at h; exact ⟨s1, s2, s3, rfl, by rw [hy, h.1], by rw [hz, h.2.1], by rw [hu, h.2.2]⟩
    | s1 :: s2 :: s3 :: s4 :: r, h =>
      simp only [parts, rbCells] at h
      cases hy : rb1 E its k1 s1 with
      | none => rw [hy] at h; exact h.elim
      | some y =>
        rw [hy] at h
        cases hz : rb1 E its k2 s2 with
        | none => simp only [hz] at h
        | some z =>
          simp only [hz] at h
          cases hu : rb1 E its k3 s3 with
          | none => simp only [hu] at h
          | some u => simp only [hu] at h
  | _ => exact (one _ h).elim
theorem lend1 (hE : EnvOK E) (hI : InlOK E inl) (hf : E.P.funcs[K]? = some fn) {k : VK} {x : k.den E.N} {ob : List Prop} (hb : bare E k x) (hv : vcFun inl an fn args [] [] 0 (resP E [k] (fun y => y = x))) (n : Nat) : LendOK E K args ⟨ob, [], rvOf E n k x, []⟩ := fun D w vs hD hg ha =>
  (vcFun_ok (C := ctx0 (fun _ => none) D w) hE hI hf hv (mem0 (nx := 0) (fun _ _ => rfl) hD) hg ha).mono fun v w' h => by
    obtain ⟨ρ', Z', s, its', nx', hx, hm, ht, hr, hk⟩ := h.pure
    obtain ⟨ρ3, os', _, _, _, hr3, _⟩ := rb1_ok (lkd := []) (n2 := n) (ρ2 := fun _ => none) (os := []) (new := []) (by simpa using hm) hr (resP1 hk) (fun _ _ => rfl) .nil
    exact ⟨hx, bare_rep hb hr3, trivial⟩
theorem tup2_inv {v : Value} {s1 s2 : E.SV} (h : Rep E.N E.T ρ Z w v (.tup [s1, s2])) : ∃ v1 v2, v = .tuple #[v1, v2] ∧ Rep E.N E.T ρ Z w v1 s1 ∧ Rep E.N E.T ρ Z w v2 s2 := by
  obtain ⟨cs, rfl⟩ := Rep.tup_inv h
  obtain ⟨v1, r, rfl, h1, h⟩ := Rep.tup_cons h
  obtain ⟨v2, r, rfl, h2, h⟩ := Rep.tup_cons h
  have : r = [] := by
    generalize e : Value.tuple r.toArray = u at h
    cases h with | tup0 => simpa using e
  subst this
  exact ⟨v1, v2, rfl, h1, h2⟩
theorem tup3_inv {v : Value} {s1 s2 s3 : E.SV} (h : Rep E.N E.T ρ Z w v (.tup [s1, s2, s3])) : ∃ v1 v2 v3, v = .tuple #[v1, v2, v3] ∧ Rep E.N E.T ρ Z w v1 s1 ∧ Rep E.N E.T ρ Z w v2 s2 ∧ Rep E.N E.T ρ Z w v3 s3 := by
  obtain ⟨cs, rfl⟩ := Rep.tup_inv h
  obtain ⟨v1, r, rfl, h1, h⟩ := Rep.tup_cons h
  obtain ⟨v2, r, rfl, h2, h⟩ := Rep.tup_cons h
  obtain ⟨v3, r, rfl, h3, h⟩ := Rep.tup_cons h
  have : r = [] := by
    generalize e : Value.tuple r.toArray = u at h
    cases h with | tup0 => simpa using e
  subst this
  exact ⟨v1, v2, v3, rfl, h1, h2, h3⟩
theorem tup2 {v1 v2 : Value} {s1 s2 : E.SV} (h1 : Rep E.N E.T ρ Z w v1 s1) (h2 : Rep E.N E.T ρ Z w v2 s2) : Rep E.N E.T ρ Z w (.tuple #[v1, v2]) (.tup [s1, s2]) := .tup1 (cs := [v2]) h1 (.tup1 (cs := []) h2 .tup0)
theorem tup3 {v1 v2 v3 : Value} {s1 s2 s3 : E.SV} (h1 : Rep E.N E.T ρ Z w v1 s1) (h2 : Rep E.N E.T ρ Z w v2 s2) (h3 : Rep E.N E.T ρ Z w v3 s3) : Rep E.N E.T ρ Z w (.tuple #[v1, v2, v3]) (.tup [s1, s2, s3]) := .tup1 (cs := [v2, v3]) h1 (tup2 h2 h3)
theorem lend2 (hE : EnvOK E) (hI : InlOK E inl) (hf : E.P.funcs[K]? = some fn) {k1 k2 : VK} {x1 : k1.den E.N} {x2 : k2.den E.N} {ob : List Prop} (hb1 : bare E k1 x1) (hb2 : bare E k2 x2) (hv : vcFun inl an fn args [] [] 0 (resP E [k1, k2] (fun y z => y = x1 ∧ z = x2))) (n : Nat) : LendOK E K args ⟨ob, [], .tup [rvOf E n k1 x1, rvOf E n k2 x2], []⟩ := fun D w vs hD hg ha =>
  (vcFun_ok (C := ctx0 (fun _ => none) D w) hE hI hf hv (mem0 (nx := 0) (fun _ _ => rfl) hD) hg ha).mono fun v w' h => by
    obtain ⟨ρ', Z', s, its', nx', hx, hm, ht, hr, hk⟩ := h.pure
    obtain ⟨s1, s2, rfl, e1, e2⟩ := resP2 hk
    obtain ⟨v1, v2, rfl, h1, h2⟩ := tup2_inv hr
    obtain ⟨_, _, _, _, _, r1, _⟩ := rb1_ok (lkd := []) (n2 := n) (ρ2 := fun _ => none) (os := []) (new := []) (by simpa using hm) h1 e1 (fun _ _ => rfl) .nil
    obtain ⟨_, _, _, _, _, r2, _⟩ := rb1_ok (lkd := []) (n2 := n) (ρ2 := fun _ => none) (os := []) (new := []) (by simpa using hm) h2 e2 (fun _ _ => rfl) .nil
    exact ⟨hx, tup2 (bare_rep hb1 r1) (bare_rep hb2 r2), trivial⟩
theorem fl1_non {k : VK} {x : k.den E.N} (h : itsOf E k x = []) (n : Nat) : fl1 E n k x = (rvOf E nx k x, [], n) := by
  cases k with
  | acc t => cases h
  | _ => rfl
theorem acc_nd {k : VK} {s : E.SV} {l : List Nat} (h : l = accId k s ++ List.filterMap id ([] : List (Option Nat))) : l.Nodup := by rw [h]; unfold accId; split <;> simp
theorem con_end {os : List (Option Nat)} {new : Items E.N} {n2 : Nat} {ρ' ρ2 : Env1} {Z' : Nat → Prop} {w' : World} {its' : Items E.N} {nx' : Nat} (hm : Mem E (ctx0 (fun _ => none) Z w) ρ' Z' w' its' nx') (ht : Tgts E [] ρ' Z' w' its' ρ2 os new) (hnd : (os.filterMap id).Nodup) (hfr : ∀ i, n2 ≤ i → ρ2 i = none) :
    Sep [] w Z' w' (toIts E.N E.T ρ2 [] new) := by
  have := Mem.rebuild (lkd := []) (by simpa using hm) (fun _ h => by cases h) ht hnd hfr (fun _ _ h => by cases h)
  simpa [ctx0] using this.sep
theorem con1 (hE : EnvOK E) (hI : InlOK E inl) (hf : E.P.funcs[K]? = some fn) {k : VK} {x : k.den E.N} {ob : List Prop} (hp : args.all pureS = true) (hv : vcFun inl an fn args [] [] 0 (resP E [k] (fun y => y = x))) : ConOK E.P E.N E.T E.G K args nx ⟨ob, [], rvOf E nx k x, itsOf E k x⟩ :=
  ⟨fun ρ Z w vs hfr hz hg ha => (vcFun_ok (C := ctx0 (fun _ => none) Z w) hE hI hf hv (mem0 (fun _ _ => rfl) hz) hg (pureT_rep hp ha _)).mono fun v w' h => by
    obtain ⟨ρ', Z', s, its', nx', hx, hm, ht, hr, hk⟩ := h.pure
    obtain ⟨ρ3, os, t1, f1, s1, r1, o1⟩ := rb1_ok (lkd := []) (n2 := nx) (ρ2 := ρ) (os := []) (new := []) (by simpa using hm) hr (resP1 hk) hfr .nil
    rw [(fl1_its k x).1, List.append_nil] at t1
    rw [(fl1_its k x).2] at f1
    refine ⟨ρ3, Z', s1, f1, hm.zge, fun b hb => ?_, r1, con_end hm t1 (acc_nd o1) f1, trivial⟩
    rcases hm.zle b hb with h | h | h
    · exact .inl h
    · cases h
    · exact .inr h⟩
theorem rb_more {os : List (Option Nat)} {new : Items E.N} {n2 : Nat} {ρ' ρ2 : Env1} {Z' : Nat → Prop} {w' : World} {its' : Items E.N} {nx' : Nat} {C : Ctx} {k : VK} {x : k.den E.N} {v : Value} {s : E.SV} (hm : Mem E C ρ' Z' w' its' nx') (hu : Rep E.N E.T ρ' Z' w' v s) (h : rb1 E its' k s = some x) (hn : itsOf E k x = []) (hfr : ∀ i, n2 ≤ i → ρ2 i = none) (ht : Tgts E C.B0 ρ' Z' w' its' ρ2 os new) (hnd : (os.filterMap id).Nodup) :
    ∃ ρ3 os', Tgts E C.B0 ρ' Z' w' its' ρ3 os' new ∧ (∀ i, n2 ≤ i → ρ3 i = none) ∧ (∀ i L, ρ2 i = some L → ρ3 i = some L) ∧ Rep E.N E.T ρ3 Z' w' v (rvOf E nx k x) ∧ (os'.filterMap id).Nodup := by
  obtain ⟨ρ3, os', t, f, s1, r, o⟩ := rb1_ok (lkd := []) (by simpa using hm) hu h hfr ht
  rw [fl1_non (nx := nx) hn n2] at t f r
  refine ⟨ρ3, os', by simpa using t, f, s1, r, ?_⟩
  rw [o]
  cases k with
  | acc t => cases hn
  | _ => exact hnd
theorem con2 (hE : EnvOK E) (hI : InlOK E inl) (hf : E.P.funcs[K]? = some fn) {k1 k2 : VK} {x1 : k1.den E.N} {x2 : k2.den E.N} {ob : List Prop} (h2 : itsOf E k2 x2 = []) (hp : args.all pureS = true) (hv : vcFun inl an fn args [] [] 0 (resP E [k1, k2] (fun y z => y = x1 ∧ z = x2))) :
    ConOK E.P E.N E.T E.G K args nx ⟨ob, [], .tup [rvOf E nx k1 x1, rvOf E nx k2 x2], itsOf E k1 x1⟩ :=
  ⟨fun ρ Z w vs hfr hz hg ha => (vcFun_ok (C := ctx0 (fun _ => none) Z w) hE hI hf hv (mem0 (fun _ _ => rfl) hz) hg (pureT_rep hp ha _)).mono fun v w' h => by
    obtain ⟨ρ', Z', s, its', nx', hx, hm, ht, hr, hk⟩ := h.pure
    obtain ⟨s1, s2, rfl, e1, e2⟩ := resP2 hk
    obtain ⟨v1, v2, rfl, g1, g2⟩ := tup2_inv hr
    obtain ⟨ρ3, os, t1, f1, b1, r1, o1⟩ := rb1_ok (lkd := []) (n2 := nx) (ρ2 := ρ) (os := []) (new := []) (by simpa using hm) g1 e1 hfr .nil
    rw [(fl1_its k1 x1).1, List.append_nil] at t1
    rw [(fl1_its k1 x1).2] at f1
    obtain ⟨ρ4, os2, t2, f2, b2, r2, nd2⟩ := rb_more (nx := nx) hm g2 e2 h2 f1 t1 (acc_nd o1)
    refine ⟨ρ4, Z', sub_trans b1 b2, f2, hm.zge, fun b hb => ?_, tup2 (Rep.sub r1 b2) r2, con_end hm t2 nd2 f2, trivial⟩
    rcases hm.zle b hb with h | h | h
    · exact .inl h
    · cases h
    · exact .inr h⟩
theorem con3 (hE : EnvOK E) (hI : InlOK E inl) (hf : E.P.funcs[K]? = some fn) {k1 k2 k3 : VK} {x1 : k1.den E.N} {x2 : k2.den E.N} {x3 : k3.den E.N} {ob : List Prop} (h2 : itsOf E k2 x2 = []) (h3 : itsOf E k3 x3 = []) (hp : args.all pureS = true) (hv : vcFun inl an fn args [] [] 0 (resP E [k1, k2, k3] (fun y z u => y = x1 ∧ z = x2 ∧ u = x3))) :
    ConOK E.P E.N E.T E.G K args nx ⟨ob, [], .tup [rvOf E nx k1 x1, rvOf E nx k2 x2, rvOf E nx k3 x3], itsOf E k1 x1⟩ :=
  ⟨fun ρ Z w vs hfr hz hg ha => (vcFun_ok (C := ctx0 (fun _ => none) Z w) hE hI hf hv (mem0 (fun _ _ => rfl) hz) hg (pureT_rep hp ha _)).mono fun v w' h => by
    obtain ⟨ρ', Z', s, its', nx', hx, hm, ht, hr, hk⟩ := h.pure
    obtain ⟨s1, s2, s3, rfl, e1, e2, e3⟩ := resP3 hk
    obtain ⟨v1, v2, v3, rfl, g1, g2, g3⟩ := tup3_inv hr
    obtain ⟨ρ3, os, t1, f1, b1, r1, o1⟩ := rb1_ok (lkd := []) (n2 := nx) (ρ2 := ρ) (os := []) (new := []) (by simpa using hm) g1 e1 hfr .nil
    rw [(fl1_its k1 x1).1, List.append_nil] at t1
    rw [(fl1_its k1 x1).2] at f1
    obtain ⟨ρ4, os2, t2, f2, b2, r2, nd2⟩ := rb_more (nx := nx) hm g2 e2 h2 f1 t1 (acc_nd o1)
    obtain ⟨ρ5, os3, t3, f3, b3, r3, nd3⟩ := rb_more (nx := nx) hm g3 e3 h3 f2 t2 nd2
    refine ⟨ρ5, Z', sub_trans (sub_trans b1 b2) b3, f3, hm.zge, fun b hb => ?_, tup3 (Rep.sub (Rep.sub r1 b2) b3) (Rep.sub r2 b3) r3, con_end hm t3 nd3 f3, trivial⟩
    rcases hm.zle b hb with h | h | h
    · exact .inl h
    · cases h
    · exact .inr h⟩
end
end Go.Rx
end
section
namespace Go.Rx
open Go Go.Wk Go.Wl
section
variable {N : Uni} {T : ErrT} {ρ : Env1} {Z : Nat → Prop} {w : World} {cs cs' : List Value} {ls ls' : List (SV N)}
theorem RepL.split (n : Nat) (h : RepL N T ρ Z w cs ls) : RepL N T ρ Z w (cs.take n) (ls.take n) ∧ RepL N T ρ Z w (cs.drop n) (ls.drop n) := by
  induction n generalizing cs ls with
  | zero => exact ⟨by simpa using RepL.nil, by simpa using h⟩
  | succ n ih =>
    cases ls with
    | nil => obtain rfl := RepL.nil_inv h; exact ⟨by simpa using RepL.nil, by simpa using RepL.nil⟩
    | cons s r =>
      obtain ⟨v, rr, rfl, h1, hp, h2⟩ := RepL.cons_inv h
      obtain ⟨a, b⟩ := ih h2
      exact ⟨RepL.cons h1 hp a, b⟩
def pb {α : Type} (f : SV N → Option α) : List (SV N) → Option α
  | [s] => f s
  | _ => none
def asLN (N : Uni) (t : Nat) : SV N → Option (List (N.U t))
  | .nils => some []
  | .sl t' l => if h : t' = t then some (castL h l) else none
  | _ => none
theorem asLN_rd {t : Nat} {v : Value} {s : SV N} {l : List (N.U t)} (h : Rep N T ρ Z w v s) (e : asLN N t s = some l) : (dSlice (N.tb t).r).rd Z w [v] l := by
  cases h with
  | nils => simp [asLN] at e; subst e; exact dSlice_nil
  | sl h =>
    simp only [asLN] at e
    split at e
    · rename_i ht; subst ht; simp [castL] at e; subst e; exact h
    · cases e
  | _ => simp [asLN] at e
theorem pb_inv {α : Type} {f : SV N → Option α} {x : α} {r : Rd α} (hr : ∀ (v : Value) (s : SV N), Rep N T ρ Z w v s → f s = some x → r.rd Z w [v] x) (h : RepL N T ρ Z w cs ls) (e : pb f ls = some x) : r.rd Z w cs x := by
  unfold pb at e
  split at e
  · obtain ⟨v, rfl, h1, _⟩ := RepL.one_inv h; exact hr v _ h1 e
  · cases e
theorem pb_int {x : Int} (h : RepL N T ρ Z w cs ls) (e : pb asI64 ls = some x) : dInt.rd Z w cs x := pb_inv (fun v s h e => by have ⟨a, b⟩ := asI64_rd h e; rw [a]; exact ⟨rfl, b⟩) h e
theorem pb_str {x : Str} (h : RepL N T ρ Z w cs ls) (e : pb asS ls = some x) : dStr.rd Z w cs x := pb_inv (r := dStr) (fun v s h e => by have ⟨a, b⟩ := asS_rd h e; rw [a]; exact ⟨rfl, b⟩) h e
theorem pb_sl {t : Nat} {x : List (N.U t)} (h : RepL N T ρ Z w cs ls) (e : pb (asLN N t) ls = some x) : (dSlice (N.tb t).r).rd Z w cs x := pb_inv (r := dSlice (N.tb t).r) (fun v s h e => asLN_rd h e) h e
theorem sv_sl {t : Nat} {x : List (N.U t)} (h : (dSlice (N.tb t).r).rd Z w cs x) : RepL N T ρ Z w cs [.sl t x] := by
  have hl := Rd.len _ h
  have hp := Rd.plain _ h
  match cs, hl with
  | [v], _ =>
    simp only [List.all_cons, List.all_nil, Bool.and_true] at hp
    exact RepL.one (.sl h) hp
end
end Go.Rx
end
section
namespace Go.Rx
open Go Go.Wk Go.Wl
def addF {α : Type} (K : Nat) (x : α) (f : Nat → Option α) : Nat → Option α := fun k => bif Nat.beq k K then some x else f k
def Env.addL (E : Env) (K : Nat) (C : List E.SV → Option (Q1 E.N)) : Env := ⟨E.P, E.N, E.T, E.ty, E.zob, addF K (fun a _ => (C a).map fun q => ⟨q.ob, q.hy, q.v, []⟩) E.con, fun k => bif Nat.beq k K then true else E.lend k, E.obc, E.inl, E.G, E.wrc, E.rws⟩
def Env.addC (E : Env) (K : Nat) (C : List E.SV → Nat → Option (CR E.N)) : Env := ⟨E.P, E.N, E.T, E.ty, E.zob, addF K C E.con, fun k => bif Nat.beq k K then false else E.lend k, E.obc, E.inl, E.G, E.wrc, E.rws⟩
def Env.addO (E : Env) (K : Nat) (o : OC E.N) : Env := ⟨E.P, E.N, E.T, E.ty, E.zob, E.con, E.lend, addF K o E.obc, E.inl, E.G, E.wrc, E.rws⟩
def Env.addI (E : Env) (K : Nat) (fn : Func) : Env := ⟨E.P, E.N, E.T, E.ty, E.zob, E.con, E.lend, E.obc, addF K fn E.inl, E.G, E.wrc, E.rws⟩
def Env.addW (E : Env) (K : Nat) (o : WC E.N) : Env := ⟨E.P, E.N, E.T, E.ty, E.zob, E.con, E.lend, E.obc, E.inl, E.G, addF K o E.wrc, E.rws⟩
section
variable {E : Env} {K : Nat}
abbrev CallOK (P : Program) (K : Nat) : Prop := ∀ xs w, (callFunc K xs).run P w = .ok (.enter K xs) w
theorem addF_inv {α : Type} {x y : α} {f : Nat → Option α} {k : Nat} (h : addF K x f k = some y) : (k = K ∧ y = x) ∨ f k = some y := by
  unfold addF at h
  cases hb : Nat.beq k K with
  | true => rw [hb, cond_true] at h; cases h; exact .inl ⟨Nat.eq_of_beq_eq_true hb, rfl⟩
  | false => rw [hb, cond_false] at h; exact .inr h
theorem addF_some {α : Type} {x : α} {f : Nat → Option α} {k : Nat} (h : (addF K x f k).isSome = true) : k = K ∨ (f k).isSome = true := by
  obtain ⟨y, hy⟩ := Option.isSome_iff_exists.1 h
  rcases addF_inv hy with ⟨e, _⟩ | e
  · exact .inl e
  · exact .inr (by rw [e]; rfl)
theorem LendOK.con {args : List E.SV} {c : CR E.N} {nx : Nat} (h : LendOK E K args c) (hi : c.its = []) (hp : args.all pureS = true) : ConOK E.P E.N E.T E.G K args nx c :=
  ⟨fun ρ Z w vs hfr hz hg ha => (h Z w vs hz hg (pureT_rep hp ha _)).mono fun v w' ⟨x, r, hy⟩ => ⟨ρ, Z, fun _ _ h => h, by rw [hi]; exact hfr, fun _ h => h, fun _ h => .inl h, Rep.bare r, by
    rw [hi]
    exact ⟨x, fun b hb => by have := hz b hb; have := x.size; omega, fun k t h => by simp [toIts, number] at h, fun j k s t h => by simp [toIts, number] at h⟩, hy⟩⟩
theorem EnvOK.addL (h : EnvOK E) {C : List E.SV → Option (Q1 E.N)} (hc : CallOK E.P K) (ok : ∀ args q, C args = some q → allP q.ob → LendOK E K args ⟨q.ob, q.hy, q.v, []⟩) : EnvOK (E.addL K C) := by
  refine ⟨h.mixed, h.zob, fun k hk => ?_, h.inl, fun k f args nx c hf hr hp ho => ?_, fun k f args nx c hf hl hr hi ho => ?_, h.obc, h.wrc⟩
  · by_cases e : k = K
    · subst e; exact hc
    · refine h.call k ?_
      simp only [Bool.or_eq_true] at hk ⊢
      rcases hk with ((hk | hk) | hk) | hk
      · rcases addF_some hk with e' | e'
        · exact absurd e' e
        · exact .inl (.inl (.inl e'))
      · exact .inl (.inl (.inr hk))
      · exact .inl (.inr hk)
      · exact .inr hk
  · rcases addF_inv hf with ⟨e1, e2⟩ | hf
    · rw [e2] at hr
      obtain ⟨q, hq, e3⟩ := Option.map_eq_some_iff.1 hr
      subst e3
      rw [e1]
      exact (ok args q hq ho).con rfl hp
    · exact h.con k f args nx c hf hr hp ho
  · rcases addF_inv hf with ⟨e1, e2⟩ | hf'
    · rw [e2] at hr
      obtain ⟨q, hq, e3⟩ := Option.map_eq_some_iff.1 hr
      subst e3
      rw [e1]
      exact ok args q hq ho
    · by_cases e : k = K
      · have hf : addF K (fun a _ => (C a).map fun q => (⟨q.ob, q.hy, q.v, []⟩ : CR E.N)) E.con k = some f := hf
        unfold addF at hf
        rw [e, Nat.beq_refl, cond_true] at hf
        have e2 := Option.some.inj hf
        rw [← e2] at hr
        obtain ⟨q, hq, e3⟩ := Option.map_eq_some_iff.1 hr
        subst e3
        rw [e]
        exact ok args q hq ho
      · refine h.lend k f args nx c hf' ?_ hr hi ho
        have hl : (bif Nat.beq k K then true else E.lend k) = true := hl
        rw [beq_ne e, cond_false] at hl; exact hl
theorem EnvOK.addC (h : EnvOK E) {C : List E.SV → Nat → Option (CR E.N)} (hc : CallOK E.P K) (ok : ∀ args nx c, C args nx = some c → args.all pureS = true → allP c.ob → ConOK E.P E.N E.T E.G K args nx c) : EnvOK (E.addC K C) := by
  refine ⟨h.mixed, h.zob, fun k hk => ?_, h.inl, fun k f args nx c hf hr hp ho => ?_, fun k f args nx c hf hl hr hi ho => ?_, h.obc, h.wrc⟩
  · by_cases e : k = K
    · subst e; exact hc
    · refine h.call k ?_
      simp only [Bool.or_eq_true] at hk ⊢
      rcases hk with ((hk | hk) | hk) | hk
      · rcases addF_some hk with e' | e'
        · exact absurd e' e
        · exact .inl (.inl (.inl e'))
      · exact .inl (.inl (.inr hk))
      · exact .inl (.inr hk)
      · exact .inr hk
  · rcases addF_inv hf with ⟨e1, e2⟩ | hf
    · rw [e2] at hr
      rw [e1]; exact ok args nx c hr hp ho
    · exact h.con k f args nx c hf hr hp ho
  · have hl : (bif Nat.beq k K then false else E.lend k) = true := hl
    have e : k ≠ K := fun e => by subst e; rw [Nat.beq_refl, cond_true] at hl; cases hl
    rw [beq_ne e, cond_false] at hl
    rcases addF_inv hf with ⟨e', _⟩ | hf'
    · exact absurd e' e
    · exact h.lend k f args nx c hf' hl hr hi ho
theorem EnvOK.addO (h : EnvOK E) {o : OC E.N} (hc : CallOK E.P K) (ok : ∀ x args r, o.C x args = some r → allP r.ob → ObcOK E K o x args r) : EnvOK (E.addO K o) := by
  refine ⟨h.mixed, h.zob, fun k hk => ?_, h.inl, h.con, h.lend, fun k o' x args r ho hr hob => ?_, h.wrc⟩
  · by_cases e : k = K
    · subst e; exact hc
    · refine h.call k ?_
      simp only [Bool.or_eq_true] at hk ⊢
      rcases hk with ((hk | hk) | hk) | hk
      · exact .inl (.inl (.inl hk))
      · rcases addF_some hk with e' | e'
        · exact absurd e' e
        · exact .inl (.inl (.inr e'))
      · exact .inl (.inr hk)
      · exact .inr hk
  · rcases addF_inv ho with ⟨e1, e2⟩ | ho
    · cases e2
      rw [e1]; exact ok x args r hr hob
    · exact h.obc k o' x args r ho hr hob
theorem EnvOK.addI (h : EnvOK E) {fn : Func} (hc : CallOK E.P K) (hf : E.P.funcs[K]? = some fn) : EnvOK (E.addI K fn) := by
  refine ⟨h.mixed, h.zob, fun k hk => ?_, fun k g hg => ?_, h.con, h.lend, h.obc, h.wrc⟩
  · by_cases e : k = K
    · subst e; exact hc
    · refine h.call k ?_
      simp only [Bool.or_eq_true] at hk ⊢
      rcases hk with ((hk | hk) | hk) | hk
      · exact .inl (.inl (.inl hk))
      · exact .inl (.inl (.inr hk))
      · rcases addF_some hk with e' | e'
        · exact absurd e' e
        · exact .inl (.inr e')
      · exact .inr hk
  · rcases addF_inv hg with ⟨rfl, rfl⟩ | hg
    · exact hf
    · exact h.inl k g hg
theorem EnvOK.addW (h : EnvOK E) {o : WC E.N} (hc : CallOK E.P K) (ok : ∀ a x r, o.C a x = some r → allP r.ob → WrcOK E K o a x r) : EnvOK (E.addW K o) := by
  refine ⟨h.mixed, h.zob, fun k hk => ?_, h.inl, h.con, h.lend, h.obc, fun k o' a x r ho hr hob => ?_⟩
  · by_cases e : k = K
    · subst e; exact hc
    · refine h.call k ?_
      simp only [Bool.or_eq_true] at hk ⊢
      rcases hk with ((hk | hk) | hk) | hk
      · exact .inl (.inl (.inl hk))
      · exact .inl (.inl (.inr hk))
      · exact .inl (.inr hk)
      · rcases addF_some hk with e' | e'
        · exact absurd e' e
        · exact .inr e'
  · rcases addF_inv ho with ⟨e1, e2⟩ | ho
    · cases e2
      rw [e1]; exact ok a x r hr hob
    · exact h.wrc k o' a x r ho hr hob
end
end Go.Rx
end
section
namespace Go.Rx
open Go Go.Wk Go.Wl
def Err.num : Err → Option Int
  | .nil => none
  | .no n => some n
  | .fault _ n => some n
  | .w _ _ e => e.num
def Err.is (e : Err) (n : Int) : Prop := e.num = some n
instance (e : Err) (n : Int) : Decidable (e.is n) := by unfold Err.is; infer_instance
def Err.nr (e : Err) : Int := match e with
  | .nil => 0
  | e => match e.num with | some n => if 1 ≤ n ∧ n ≤ 16 then n else -1 | none => -1
def Err.at_ : Err → Int
  | .fault a _ => a
  | .w _ _ e => e.at_
  | _ => 0
theorem lend3 {E : Env} {inl : Inl E} {an : Ann} {fn : Func} {K : Nat} {args : List E.SV} (hE : EnvOK E) (hI : InlOK E inl) (hf : E.P.funcs[K]? = some fn) {k1 k2 k3 : VK} {x1 : k1.den E.N} {x2 : k2.den E.N} {x3 : k3.den E.N} {ob : List Prop} (hb1 : bare E k1 x1) (hb2 : bare E k2 x2) (hb3 : bare E k3 x3) (hv : vcFun inl an fn args [] [] 0 (resP E [k1, k2, k3] (fun y z u => y = x1 ∧ z = x2 ∧ u = x3))) (n : Nat) : LendOK E K args ⟨ob, [], .tup [rvOf E n k1 x1, rvOf E n k2 x2, rvOf E n k3 x3], []⟩ := fun D w vs hD hg ha =>
  (vcFun_ok (C := ctx0 (fun _ => none) D w) hE hI hf hv (mem0 (nx := 0) (fun _ _ => rfl) hD) hg ha).mono fun v w' h => by
    obtain ⟨ρ', Z', s, its', nx', hx, hm, ht, hr, hk⟩ := h.pure
    obtain ⟨s1, s2, s3, rfl, e1, e2, e3⟩ := resP3 hk
    obtain ⟨v1, v2, v3, rfl, h1, h2, h3⟩ := tup3_inv hr
    obtain ⟨_, _, _, _, _, r1, _⟩ := rb1_ok (lkd := []) (n2 := n) (ρ2 := fun _ => none) (os := []) (new := []) (by simpa using hm) h1 e1 (fun _ _ => rfl) .nil
    obtain ⟨_, _, _, _, _, r2, _⟩ := rb1_ok (lkd := []) (n2 := n) (ρ2 := fun _ => none) (os := []) (new := []) (by simpa using hm) h2 e2 (fun _ _ => rfl) .nil
    obtain ⟨_, _, _, _, _, r3, _⟩ := rb1_ok (lkd := []) (n2 := n) (ρ2 := fun _ => none) (os := []) (new := []) (by simpa using hm) h3 e3 (fun _ _ => rfl) .nil
    exact ⟨hx, tup3 (bare_rep hb1 r1) (bare_rep hb2 r2) (bare_rep hb3 r3), trivial⟩
theorem ownsRowF_stab {w w' : World} {e : TypeId} {v : Value} {n : Nat} {xs : List Value} {B : List Nat} (h : w.ownsRowF 0 e 1 v n xs) (x : Ext B w w') (hB : ∀ k, v.ownBlock = some k → k ∉ B) : w'.ownsRowF 0 e 1 v n xs := by
  refine ⟨h.1, ?_⟩
  rcases h.2 with h0 | ⟨g, cap, cur, fz, rfl, h1, h2, h3⟩
  · exact .inl h0
  · exact .inr ⟨g, cap, cur, fz, rfl, h1, x.get (hB g rfl) h2, h3⟩
def bldF (b : Nat) (v : Value) : List Nat := b :: v.ownBlock.toList
def BldIs (T e b : Nat) (w : World) (x : Str) (F : List Nat) : Prop :=
  ∃ p v, (p = .pointer none ∨ p = .pointer (some ⟨b, 0, none⟩)) ∧ w.heap[b]? = some (.cells #[p, v] T (0, 0)) ∧ w.ownsRowF 0 e 1 v x.length (Lib.byteCells x) ∧ v.ownBlock ≠ some b ∧ F = bldF b v
def bld (T e b : Nat) : Ob Str where
  is := fun _ w x F => BldIs T e b w x F
  stab := fun {x F} Z Z' B w w' h ext hB _ => by
    obtain ⟨p, v, hp, hb, ho, hne, rfl⟩ := h
    have hbl : b < w.heap.size := by
      rcases Nat.lt_or_ge b w.heap.size with h | h
      · exact h
      · rw [Array.getElem?_eq_none h] at hb; cases hb
    have nb : b ∉ B := fun hm => by have := hB b hm (.inl (by simp [bldF])); omega
    refine ⟨p, v, hp, ext.get nb hb, ownsRowF_stab ho ext fun k hk hm => ?_, hne, rfl⟩
    have := hB k hm (.inl (by simp [bldF, hk]))
    have := (ho.lt k hk).2
    omega
  lt := fun {Z w x F} h b' hb' => by
    obtain ⟨p, v, hp, hb, ho, hne, rfl⟩ := h
    rcases List.mem_cons.1 hb' with rfl | hm
    · rcases Nat.lt_or_ge b' w.heap.size with h | h
      · exact h
      · rw [Array.getElem?_eq_none h] at hb; cases hb
    · have : v.ownBlock = some b' := by simpa using hm
      exact (ho.lt b' this).2
theorem bld_zero {T e b : Nat} {w : World} (h : Own w b T [.pointer none, .slice none 0 0]) : BldIs T e b w [] [b] :=
  ⟨.pointer none, .slice none 0 0, .inl rfl, h, World.ownsRowF_nil w 0 e 1, by simp [Value.ownBlock], by simp [bldF, Value.ownBlock]⟩
def bldO (T e b : Nat) : Ob (Option Str) where
  is := fun _ w x F => match x with
    | none => Own w b T [.pointer none, .slice none 0 0] ∧ F = [b]
    | some s => BldIs T e b w s F
  stab := fun {x F} Z Z' B w w' h ext hB hz => by
    cases x with
    | none => exact ⟨h.1.ext ext (fun hm => by have := hB b hm (.inl (by rw [h.2]; simp)); have := h.1.lt; omega), h.2⟩
    | some s => exact (bld T e b).stab Z Z' B w w' h ext hB hz
  lt := fun {Z w x F} h => by
    cases x with
    | none => intro b' hb'; rw [h.2] at hb'; rw [List.mem_singleton.1 hb']; exact h.1.lt
    | some s => exact (bld T e b).lt (Z := Z) h
theorem bld_after {T e b : Nat} {w w' : World} {v v' : Value} {p : Value} {x' : Str} {F : List Nat} (hF : F = bldF b v) (hp : p = .pointer none ∨ p = .pointer (some ⟨b, 0, none⟩)) (hb : w'.heap[b]? = some (.cells #[p, v'] T (0, 0))) (ho : w'.ownsRowF 0 e 1 v' x'.length (Lib.byteCells x')) (hne : v'.ownBlock ≠ some b)
    (ext : Ext F w w') (hv : ∀ k, v'.ownBlock = some k → v.ownBlock = some k ∨ w.heap.size ≤ k) : ∃ F', BldIs T e b w' x' F' ∧ Turn w w' F F' :=
  ⟨bldF b v', ⟨p, v', hp, hb, ho, hne, rfl⟩, ext, fun k hk => by
    rcases List.mem_cons.1 hk with rfl | hk
    · exact .inl (by rw [hF]; simp [bldF])
    · rcases hv k (by simpa using hk) with h | h
      · exact .inl (by rw [hF]; simp [bldF, h])
      · exact .inr h⟩
section
open Go.Lib
variable {P : Program} (w : World)
theorem run_append_bld (t u ty e : TypeId) (i : TypeInfo) (ht : P.underlying t = some (.slice e)) (hu : P.underlying u = some .string) (hi : P.info? e = some i) (hz : i.zero = some (.int .u8 0)) (hsize : i.size = 1) (hby : i.bytes = 1)
    (v : Value) (n : Nat) (xs : List Value) (hown : w.ownsRowF 0 e 1 v n xs) (s : ByteArray) (h63 : n + s.size ≤ maxLen) (hbytes : n + s.size ≤ 140737488355328) :
    ∃ v' w', (Builtin.append_ #[t, u] ty #[v, .string s]).run P w = .ok v' w' ∧ w'.ownsRowF 0 e 1 v' (n + s.size) (xs ++ strCells s) ∧ w.grownBy w' v.ownBlock ∧ ∀ k, v'.ownBlock = some k → v.ownBlock = some k ∨ w.heap.size ≤ k := by
  rcases hown.2 with ⟨rfl, rfl⟩ | ⟨g, cap, cur, fz, rfl, hbg, hg, hfz, hnc, hcm, hcs, htake⟩
  · obtain ⟨v', w', h1, h2, h3, h4⟩ := run_append_own_string (P := P) w w.heap.size t u ty e i ht hu hi hz hsize hby (.slice none 0 0) 0 xs ⟨hown.1, .inl ⟨rfl, rfl⟩⟩ s h63 hbytes (Nat.le_refl _)
    refine ⟨v', w', h1, ⟨h2.1, ?_⟩, h3, fun k hk => .inr (h2.lt k hk).1⟩
    rcases h2.2 with h | ⟨g, cap, cur, hv, _, r⟩
    · exact .inl h
    · exact .inr ⟨g, cap, cur, (0, 0), hv, Nat.zero_le _, r.1, Nat.zero_le _, r.2⟩
  · obtain ⟨v', w', r1, r2, r3, _⟩ := run_append_own_stringF (P := P) w 0 t u ty e i ht hu hi hz hsize hby _ n xs hown s h63 hbytes (Nat.zero_le _)
    refine ⟨v', w', r1, r2, r3, fun k hk => ?_⟩
    have hsmall : n + s.size ≤ 9223372036854775807 := by simp only [maxLen] at h63; omega
    have hxl : xs.length = n := by simpa using hown.1
    by_cases hroom : n + s.size ≤ cap
    · have hcs' : cur.size = cap := by simpa using hcs
      have hr := run_append_room_stringF (P := P) w t u ty e i ht hu hi hsize g n cap cur fz hg (by simpa using hfz) s hroom (by omega)
      rw [hr] at r1
      cases r1
      exact .inl hk
    · have holds : ∀ j u, xs[j]? = some u → w.cell? ((⟨g, 0, none⟩ : Addr).add j) = some u := hown.cells (g := g) rfl
      have hr := run_append_grow_string (P := P) w t u ty e i (.int .u8 0) ht hu hi hz ⟨g, 0, none⟩ n cap xs (by rw [hsize]; simpa using hxl) holds s (by omega) (by omega) (by rw [hby]; exact growslice_fits (by omega) (by omega))
      rw [hr] at r1
      cases r1
      exact .inr (by have := Option.some.inj hk; simp only at this; omega)
theorem wpList_append_bld {ops : Array Oper} {rest : List Oper} {o : Oper} {a : Act} {Q : Exit → Act → World → Prop} (hgd : o.guard = none) (sl x : Operand) (t u : TypeId)
    (ho : o.op = .call { callee := .builtin .append, args := #[sl, x], argTypes := #[t, u] }) (e : TypeId) (i : TypeInfo) (ht : P.underlying t = some (.slice e)) (hu : P.underlying u = some .string) (hi : P.info? e = some i) (hz : i.zero = some (.int .u8 0))
    (hsize : i.size = 1) (hby : i.bytes = 1) (v : Value) (n : Nat) (xs : List Value) (hs : a.eval sl = v) (hown : w.ownsRowF 0 e 1 v n xs) (s : ByteArray) (hx : a.eval x = .string s) (h63 : n + s.size ≤ maxLen) (hbytes : n + s.size ≤ 140737488355328)
    (h : ∀ v' w', w'.ownsRowF 0 e 1 v' (n + s.size) (xs ++ strCells s) → w.grownBy w' v.ownBlock → (∀ k, v'.ownBlock = some k → v.ownBlock = some k ∨ w.heap.size ≤ k) → wpList P ops Q rest (a.put o.dst v') w') : wpList P ops Q (o :: rest) a w := by
  refine wpList_plain hgd fun K hK => ?_
  obtain ⟨v', w', hr, h2, h3, h4⟩ := run_append_bld (P := P) w t u o.type e i ht hu hi hz hsize hby v n xs hown s h63 hbytes
  unfold Oper.wp execOp
  simp only [ho, resolve, invoke, builtin, Sem.run_bind, Sem.run_pure, Result.andThen_ok, List.map_toArray, List.map_cons, List.map_nil, hs, hx, hr]
  exact hK _ _ (h v' w' h2 h3 h4)
end
theorem Ext.ofGrown {w w' : World} {row : Option Nat} (h : w.grownBy w' row) : Ext row.toList w w' :=
  ⟨h.os, h.tape, h.output, h.size, fun k hk hm => h.block k hk (fun e => hm (by simp [← e]))⟩
end Go.Rx
end
section
namespace Go.Rx
open Go Go.Wk Go.Wl
def Vals (N : Uni) : List VK → Type
  | [] => Unit
  | k :: r => k.den N × Vals N r
def eqs (N : Uni) : (ks : List VK) → Vals N ks → List Prop → cellsDen N Prop ks
  | [], _, ps => cjl ps
  | _ :: r, X, ps => fun x => eqs N r X.2 (ps ++ [x = X.1])
structure MR (N : Uni) where
  ob : List Prop
  hy : List Prop
  r : SV N
  cells : List (SV N)
structure MC (N : Uni) where
  S : Nat
  C : List (SV N) → List (SV N) → Option (MR N)
def MutOK (P : Program) (N : Uni) (T : ErrT) (G : Glob) (K S : Nat) (args cells : List (SV N)) (r : MR N) : Prop :=
  ∀ (Z : Nat → Prop) (w : World) (vs : List Value) (b : Nat) (cs : List Value), (∀ b, Z b → b < w.heap.size) → ¬ Z b → G.is Z w → Rep N T (fun _ => none) Z w (.tuple vs.toArray) (.tup args) → Own w b S cs → RepL N T (fun _ => none) Z w cs cells →
    CallR P K (.pointer (some ⟨b, 0, none⟩) :: vs) w (fun v w' => ∃ (Z' : Nat → Prop) (cs' : List Value), Ext [b] w w' ∧ (∀ b, Z b → Z' b) ∧ (∀ b', Z' b' → Z b' ∨ (w.heap.size ≤ b' ∧ b' < w'.heap.size)) ∧ ¬ Z' b ∧ Own w' b S cs' ∧ RepL N T (fun _ => none) Z' w' cs' r.cells ∧ Rep N T (fun _ => none) Z' w' v r.r ∧ allP r.hy)
def inlM (E : Env) (M : Nat → Option (MC E.N)) (inl : Inl E) : Inl E := fun K args its lkd nx k => match M K with
  | none => inl K args its lkd nx k
  | some o => (match args with
    | .ref id off :: rest => bif Nat.beq off 0 && rest.all pureS && (E.inl K).isSome then (match lk its id with
      | some (.own S cells) => bif Nat.beq S o.S && cells.all pureS then (match o.C rest cells with
        | some r => cj r.ob (im r.hy (k r.r (upd1 its id (.own S r.cells)) nx))
        | none => False) else False
      | _ => False) else False
    | _ => False)
section
variable {E : Env} {C : Ctx} {w w' : World} {ρ ρ' : Env1} {Z Z' : Nat → Prop} {its lkd : Items E.N} {nx : Nat} {inl : Inl E}
theorem none_sub {v : Value} {s : E.SV} (h : Rep E.N E.T (fun _ => none) Z w v s) : Rep E.N E.T ρ Z w v s := Rep.sub h (fun _ _ h => by cases h)
theorem none_subL {cs : List Value} {ss : List E.SV} (h : RepL E.N E.T (fun _ => none) Z w cs ss) : RepL E.N E.T ρ Z w cs ss := none_sub (s := .agg ss) h
theorem pureL_rep {cs : List Value} {ss : List E.SV} (hp : ss.all pureS = true) (h : RepL E.N E.T ρ Z w cs ss) (ρ' : Env1) : RepL E.N E.T ρ' Z w cs ss := by
  induction ss generalizing cs with
  | nil => obtain rfl := RepL.nil_inv h; exact RepL.nil
  | cons s ss ih =>
    obtain ⟨v, r, rfl, h1, hv, h2⟩ := RepL.cons_inv h
    simp only [List.all_cons, Bool.and_eq_true] at hp
    exact RepL.cons (pureS_rep hp.1 h1 ρ') hv (ih hp.2 h2)
theorem Mem.mut {j id : Nat} {i i' : Item E.N} (hm : Mem E C ρ Z w its nx) (hj : its[j]? = some (id, i)) (e : Ext (foot E.N ρ id i) w w') (hZ : ∀ b, Z b → Z' b) (hZ' : ∀ b, Z' b → Z b ∨ (w.heap.size ≤ b ∧ b < w'.heap.size)) (hh : Go.Rx.holds E.N E.T ρ id Z' w' i') (hF : foot E.N ρ id i' = foot E.N ρ id i) : Mem E C ρ Z' w' (its.set j (id, i')) nx ∧ Tn ρ Z w ρ Z' w' := by
  have ok := hm.sep.ok j _ (toIts_at hj)
  have hs := Wl.Sep.updZ hm.sep j (toIts_at hj) (t' := toIt E.N E.T ρ C.B0 id i') e hh toIt_stab (fun b hb => by
    have hb : b ∈ foot E.N ρ id i := by rw [← hF]; exact hb
    have hlt := ok.lt b hb
    refine ⟨.inl hb, by have := e.size; omega, fun hz => ?_⟩
    rcases hZ' b hz with h | h
    · exact ok.notZ b hb h
    · omega) hZ hZ' rfl
  refine ⟨⟨?_, hm.fr, hm.ge, fun b hb => hZ b (hm.zge b hb), fun b hb => ?_⟩, fun _ _ h => h, fun b h _ => hZ b h, _, e, fun b hb hz => absurd hz (ok.notZ b hb)⟩
  · have : (toIts E.N E.T ρ C.B0 its).set j (toIt E.N E.T ρ C.B0 id i') = toIts E.N E.T ρ C.B0 (its.set j (id, i')) := by simp [toIts, List.map_set]
    rw [← this]; exact hs
  · rcases hZ' b hb with h | h
    · exact hm.zle b h
    · exact .inr (.inr (by have := hm.sep.ext.size; omega))
theorem inlM_ok {M : Nat → Option (MC E.N)} (hM : ∀ K o args cells r, M K = some o → o.C args cells = some r → allP r.ob → MutOK E.P E.N E.T E.G K o.S args cells r) (hI : InlOK E inl) : InlOK E (inlM E M inl) := by
  intro K args its lkd nx k hv
  unfold inlM at hv
  split at hv
  · exact hI K args its lkd nx k hv
  · rename_i o ho
    split at hv
    · rename_i id off rest
      cases hb : (Nat.beq off 0 && rest.all pureS && (E.inl K).isSome) with
      | false => rw [hb, cond_false] at hv; exact hv.elim
      | true =>
        rw [hb, cond_true] at hv
        simp only [Bool.and_eq_true] at hb
        obtain ⟨⟨h0, hp⟩, hin⟩ := hb
        have h0 := Nat.eq_of_beq_eq_true h0
        subst h0
        refine ⟨hin, fun C ρ Z w vs hm hg ha => ?_⟩
        split at hv
        · rename_i S cells hi
          cases hb : (Nat.beq S o.S && cells.all pureS) with
          | false => rw [hb, cond_false] at hv; exact hv.elim
          | true =>
            rw [hb, cond_true] at hv
            simp only [Bool.and_eq_true] at hb
            obtain ⟨hS, hpc⟩ := hb
            have hS := Nat.eq_of_beq_eq_true hS
            subst hS
            split at hv
            · rename_i r hr
              obtain ⟨hob, hv⟩ := cj_ob hv
              obtain ⟨j, hj, hu, _⟩ := lk_mem hi
              have hjg := its_get (l2 := lkd) hj
              obtain ⟨L, cs, hL, hbs, hown, hrep⟩ := hm.holds hjg
              have hL : ρ id = some L := hL
              obtain ⟨v1, vr, hvs, hv1, hvr⟩ := Rep.tup_cons ha
              have hv1' : v1 = .pointer (some ⟨L.b, 0, none⟩) := by
                cases hv1 with
                | ref hL' => rw [hL] at hL'; cases hL'; rfl
              subst hv1'
              have hF : foot E.N ρ id (.own o.S cells) = [L.b] := by rw [foot_own hL, hbs]
              have nz : ¬ Z L.b := (hm.sep.ok j _ (toIts_at hjg)).notZ L.b (by show L.b ∈ foot E.N ρ id (.own o.S cells); rw [hF]; simp)
              have run := hM K o rest cells r ho hr hob Z w vr L.b cs hm.sep.zlt nz hg (pureT_rep hp hvr _) hown (pureL_rep hpc hrep _)
              rw [← hvs] at run
              refine run.mono fun v w' ⟨Z', cs', x, hz1, hz2, _, ho', hc', hr', hy⟩ => ?_
              have ⟨m1, t1⟩ := Mem.mut (i' := .own o.S r.cells) hm hjg (by rw [hF]; exact x) hz1 hz2 ⟨L, cs', hL, hbs, ho', none_subL hc'⟩ (by rw [foot_own hL, foot_own hL])
              rw [List.set_append_left _ _ (lt_get hj), ← hu] at m1
              exact ⟨ρ, Z', r.r, _, nx, m1, t1, none_sub hr', im_hy hv hy⟩
            · exact hv.elim
        · exact hv.elim
    · exact hv.elim
theorem frz0_own {j id S : Nat} {cells : List E.SV} : ∀ {vs vs' : List E.SV} {its its' : Items E.N}, frz0 its vs = some (vs', its') → its[j]? = some (id, .own S cells) → its'[j]? = some (id, .own S cells)
  | [], vs', its, its', h, hj => by
    simp [frz0] at h; obtain ⟨rfl, rfl⟩ := h; exact hj
  | v :: r, vs', its, its', h, hj => by
    have other : (match frz0 its r with | some (r', its') => some (v :: r', its') | none => none) = some (vs', its') → its'[j]? = some (id, .own S cells) := fun h => by
      split at h
      · rename_i r' its1 hr
        simp only [Option.some.injEq, Prod.mk.injEq] at h
        obtain ⟨rfl, rfl⟩ := h
        exact frz0_own hr hj
      · cases h
    cases v with
    | acc id2 =>
      simp only [frz0] at h
      split at h
      · rename_i t l hi
        split at h
        · rename_i r' its1 hr
          simp only [Option.some.injEq, Prod.mk.injEq] at h
          obtain ⟨rfl, rfl⟩ := h
          obtain ⟨i, hi1, hu, _⟩ := lk_mem hi
          refine frz0_own hr ?_
          rw [hu, List.getElem?_set_ne (fun e => by subst e; rw [hi1] at hj; cases hj)]
          exact hj
        · cases h
      · split at h
        · rename_i r' its1 hr
          simp only [Option.some.injEq, Prod.mk.injEq] at h
          obtain ⟨rfl, rfl⟩ := h
          exact frz0_own hr hj
        · cases h
      · cases h
    | ref => cases h
    | el => cases h
    | sub => cases h
    | clo => cases h
    | agg => cases h
    | tup => cases h
    | _ => exact other h
theorem frz1_own {j id S : Nat} {cells : List E.SV} {v v' : E.SV} {its its' : Items E.N} (h : frz1 its v = some (v', its')) (hj : its[j]? = some (id, .own S cells)) : its'[j]? = some (id, .own S cells) := by
  have other : (match frz0 its [v] with | some ([v'], its') => some (v', its') | _ => none) = some (v', its') → its'[j]? = some (id, .own S cells) := fun h => by
    split at h
    · rename_i u its1 hf
      simp only [Option.some.injEq, Prod.mk.injEq] at h
      obtain ⟨rfl, rfl⟩ := h
      exact frz0_own hf hj
    · cases h
  cases v with
  | agg vs =>
    simp only [frz1] at h
    split at h
    · rename_i vs' its1 hf
      simp only [Option.some.injEq, Prod.mk.injEq] at h
      obtain ⟨rfl, rfl⟩ := h
      exact frz0_own hf hj
    · cases h
  | _ => exact other h
theorem frz_own {j id S : Nat} {cells : List E.SV} : ∀ {vs vs' : List E.SV} {its its' : Items E.N}, frz its vs = some (vs', its') → its[j]? = some (id, .own S cells) → its'[j]? = some (id, .own S cells)
  | [], vs', its, its', h, hj => by
    simp [frz] at h; obtain ⟨rfl, rfl⟩ := h; exact hj
  | v :: r, vs', its, its', h, hj => by
    unfold frz at h
    split at h
    · rename_i v' its1 h1
      split at h
      · rename_i r' its2 h2
        simp only [Option.some.injEq, Prod.mk.injEq] at h
        obtain ⟨rfl, rfl⟩ := h
        exact frz_own h2 (frz1_own h1 hj)
      · cases h
    · cases h
def ansV (n : Nat) (s : E.SV) : Option (List E.SV) := match n with
  | 1 => some [s]
  | _ => (match s with | .tup vs => some vs | _ => none)
def tellA {N : Uni} (n : Nat) (vs : List (SV N)) : SV N := match n with
  | 1 => vs.headD .un
  | _ => .tup vs
def resM (E : Env) (S m n : Nat) (ks : List VK) (Q : cellsDen E.N Prop ks) : E.SV → Items E.N → Nat → Prop := fun s its _ => match lk its 0, ansV n s with
  | some (.own S' cells), some ars => bif Nat.beq S' S && Nat.beq cells.length m then (match frz its (cells ++ ars) with
    | some (vs, its') => (match rbCells E its' ks vs Q with | some p => p | none => False)
    | none => False) else False
  | _, _ => False
def tell (E : Env) : (ks : List VK) → Vals E.N ks → List E.SV
  | [], _ => []
  | k :: r, X => rvOf E 0 k X.1 :: tell E r X.2
theorem tell_len : ∀ (ks : List VK) (X : Vals E.N ks), (tell E ks X).length = ks.length
  | [], _ => rfl
  | _ :: r, X => by simp [tell, tell_len r X.2]
def noAcc : VK → Bool
  | .acc _ => false
  | _ => true
theorem cjl_app : ∀ {ps qs : List Prop}, cjl (ps ++ qs) → cjl ps ∧ cjl qs
  | [], _, h => ⟨trivial, h⟩
  | [p], [], h => ⟨h, trivial⟩
  | [p], q :: r, h => ⟨h.1, h.2⟩
  | p :: q :: r, qs, h => by
    have := cjl_app (ps := q :: r) h.2
    exact ⟨⟨h.1, this.1⟩, this.2⟩
theorem eqs_ok (its : Items E.N) : ∀ (ks : List VK) (vs : List E.SV) (X : Vals E.N ks) (ps : List Prop) (p : Prop), rbCells E its ks vs (eqs E.N ks X ps) = some p → p → cjl ps ∧ vs.length = ks.length ∧
    ∀ {ρ : Env1} {Z : Nat → Prop} {w : World} {C : Ctx} {nx : Nat} {us : List Value}, Mem E C ρ Z w its nx → ks.all noAcc = true → (us.length = vs.length ∧ ∀ (i : Nat) (u : Value) (s : E.SV), us[i]? = some u → vs[i]? = some s → Rep E.N E.T ρ Z w u s) → ∀ (i : Nat) (u : Value) (s : E.SV), us[i]? = some u → (tell E ks X)[i]? = some s → Rep E.N E.T (fun _ => none) Z w u s
  | [], [], X, ps, p, h, hp => by
    have h := Option.some.inj (show some (cjl ps) = some p from h)
    subst h
    exact ⟨hp, rfl, fun _ _ _ i u s _ hs => by simp [tell] at hs⟩
  | [], _ :: _, X, ps, p, h, hp => by cases h
  | _ :: _, [], X, ps, p, h, hp => by cases h
  | k :: ks, v :: vs, X, ps, p, h, hp => by
    simp only [rbCells] at h
    split at h
    · rename_i x hx
      obtain ⟨h1, h2, h3⟩ := eqs_ok its ks vs X.2 (ps ++ [x = X.1]) p h hp
      obtain ⟨h4, h5⟩ := cjl_app h1
      have h5 : x = X.1 := h5
      subst h5
      refine ⟨h4, by simp [h2], fun {ρ Z w C nx us} hm hk hlr i u s hu hs => ?_⟩
      obtain ⟨hl, hr⟩ := hlr
      simp only [List.all_cons, Bool.and_eq_true] at hk
      cases us with
      | nil => simp at hu
      | cons u0 us =>
        cases i with
        | zero =>
          simp only [List.getElem?_cons_zero, Option.some.injEq, tell] at hu hs
          subst hu; subst hs
          have r0 := hr 0 u0 v rfl rfl
          obtain ⟨ρ3, os', _, f, _, r1, _⟩ := rb1_ok (lkd := []) (n2 := 0) (ρ2 := fun _ => none) (os := []) (new := []) (by simpa using hm) r0 hx (fun _ _ => rfl) .nil
          have e2 : (fl1 E 0 k X.1).2.2 = 0 := by cases k <;> first | rfl | (cases hk.1)
          have e3 : ρ3 = fun _ => none := by funext i; exact f i (by omega)
          rw [e3] at r1; exact r1
        | succ i =>
          exact h3 (us := us) hm hk.2 ⟨by simpa using hl, fun i u s hu hs => hr (i + 1) u s hu hs⟩ i u s hu hs
    · cases h
theorem RepL.of_get {cs : List Value} {ss : List E.SV} (hl : cs.length = ss.length) (hp : cs.all plain1 = true) (h : ∀ (i : Nat) (u : Value) (s : E.SV), cs[i]? = some u → ss[i]? = some s → Rep E.N E.T ρ Z w u s) : RepL E.N E.T ρ Z w cs ss := by
  induction ss generalizing cs with
  | nil =>
    have : cs = [] := List.eq_nil_of_length_eq_zero (by simpa using hl)
    subst this; exact RepL.nil
  | cons s ss ih =>
    cases cs with
    | nil => simp at hl
    | cons c cs =>
      simp only [List.all_cons, Bool.and_eq_true] at hp
      exact RepL.cons (h 0 c s rfl rfl) hp.1 (ih (by simpa using hl) hp.2 fun i u s hu hs => h (i + 1) u s hu hs)
theorem RepT.of_get {cs : List Value} {ss : List E.SV} (hl : cs.length = ss.length) (h : ∀ (i : Nat) (u : Value) (s : E.SV), cs[i]? = some u → ss[i]? = some s → Rep E.N E.T ρ Z w u s) : Rep E.N E.T ρ Z w (.tuple cs.toArray) (.tup ss) := by
  induction ss generalizing cs with
  | nil =>
    have : cs = [] := List.eq_nil_of_length_eq_zero (by simpa using hl)
    subst this; exact .tup0
  | cons s ss ih =>
    cases cs with
    | nil => simp at hl
    | cons c cs => exact .tup1 (h 0 c s rfl rfl) (ih (by simpa using hl) fun i u s hu hs => h (i + 1) u s hu hs)
theorem RepT.get {cs : List Value} {ss : List E.SV} (h : Rep E.N E.T ρ Z w (.tuple cs.toArray) (.tup ss)) : cs.length = ss.length ∧ ∀ (i : Nat) (u : Value) (s : E.SV), cs[i]? = some u → ss[i]? = some s → Rep E.N E.T ρ Z w u s := by
  induction ss generalizing cs with
  | nil =>
    generalize e : Value.tuple cs.toArray = u at h
    cases h with | tup0 => have : cs = [] := by simpa using e
                           subst this; exact ⟨rfl, fun i u s _ hs => by simp at hs⟩
  | cons s ss ih =>
    obtain ⟨v, r, rfl, h1, h2⟩ := Rep.tup_cons h
    obtain ⟨i1, i2⟩ := ih h2
    refine ⟨by simp [i1], fun i u s' hu hs => ?_⟩
    cases i with
    | zero => simp at hu hs; subst hu; subst hs; exact h1
    | succ i => exact i2 i u s' hu hs
theorem ansV_get {n : Nat} {s : E.SV} {ars : List E.SV} {v : Value} (h : ansV n s = some ars) (r : Rep E.N E.T ρ Z w v s) : ∃ us : List Value, us.length = ars.length ∧ (∀ (i : Nat) (u : Value) (s : E.SV), us[i]? = some u → ars[i]? = some s → Rep E.N E.T ρ Z w u s) ∧
    ∀ {ρ' : Env1} {Z' : Nat → Prop} {w' : World} {ss : List E.SV}, ss.length = ars.length → (∀ (i : Nat) (u : Value) (s : E.SV), us[i]? = some u → ss[i]? = some s → Rep E.N E.T ρ' Z' w' u s) → Rep E.N E.T ρ' Z' w' v (tellA n ss) := by
  by_cases e : n = 1
  · subst e
    simp only [ansV, Option.some.injEq] at h
    subst h
    refine ⟨[v], rfl, fun i u s' hu hs => ?_, fun {ρ' Z' w' ss} hl hr => ?_⟩
    · cases i with
      | zero => simp at hu hs; subst hu; subst hs; exact r
      | succ i => simp at hu
    · match ss, hl with
      | [s'], _ => exact hr 0 v s' rfl rfl
  · have h' : ∃ vs, s = .tup vs ∧ ars = vs := by
      unfold ansV at h
      split at h
      · exact absurd rfl e
      · split at h
        · cases h; exact ⟨_, rfl, rfl⟩
        · cases h
    obtain ⟨vs, rfl, rfl⟩ := h'
    obtain ⟨cs, rfl⟩ := Rep.tup_inv r
    obtain ⟨g1, g2⟩ := RepT.get r
    refine ⟨cs, g1, g2, fun {ρ' Z' w' ss} hl hr => ?_⟩
    have : tellA n ss = .tup ss := by
      unfold tellA
      split
      · exact absurd rfl e
      · rfl
    rw [this]
    exact RepT.of_get (by rw [g1, hl]) hr
theorem mut_ok (hE : EnvOK E) (hI : InlOK E inl) {K S m n : Nat} {fn : Func} {an : Ann} (hf : E.P.funcs[K]? = some fn) {ks : List VK} {X : Vals E.N ks} {args cells : List E.SV} {ob : List Prop} (hk : ks.all noAcc = true)
    (hv : vcFun inl an fn (.ref 0 0 :: args) [(0, .own S cells)] [] 1 (resM E S m n ks (eqs E.N ks X []))) : MutOK E.P E.N E.T E.G K S args cells ⟨ob, [], tellA n ((tell E ks X).drop m), (tell E ks X).take m⟩ := by
  intro Z w vs b cs hzl hzb hg ha hown hcells
  let ρ0 : Env1 := rset (fun _ => none) 0 ⟨b, none, 0, 0, [b]⟩
  have hρ0 : ρ0 0 = some ⟨b, none, 0, 0, [b]⟩ := rset_self
  have hlt : b < w.heap.size := hown.lt
  have hm : Mem E ⟨ρ0, Z, w, [b], w⟩ ρ0 Z w ([(0, .own S cells)] ++ []) 1 := by
    refine ⟨⟨Ext.refl _ _, hzl, fun k t hk => ?_, fun j k s t hj hk hne => ?_⟩, fun i hi => by show rset _ _ _ _ = none; unfold rset; rw [if_neg (by omega)], fun _ _ h => h, fun _ h => h, fun _ h => .inl h⟩
    · cases k with
      | succ k => simp [toIts] at hk
      | zero =>
        simp [toIts] at hk
        subst hk
        have hF : foot E.N ρ0 0 (.own S cells) = [b] := foot_own hρ0
        refine ⟨⟨_, cs, hρ0, rfl, hown, none_subL hcells⟩, toIt_stab, fun x hx => ?_, fun x hx => ?_, fun x hx => ?_, fun x hx => hx⟩
        all_goals
          have hx : x ∈ foot E.N ρ0 0 (.own S cells) := hx
          rw [hF] at hx
        · rw [List.mem_singleton.1 hx]; exact hlt
        · rw [List.mem_singleton.1 hx]; exact hzb
        · exact .inl hx
    · simp [toIts] at hj hk
      rcases j with _ | j <;> rcases k with _ | k <;> simp at hj hk
      exact absurd rfl hne
  have ha' : Rep E.N E.T ρ0 Z w (.tuple (Value.pointer (some ⟨b, 0, none⟩) :: vs).toArray) (.tup (.ref 0 0 :: args)) := .tup1 (.ref hρ0) (none_sub ha)
  refine (vcFun_ok hE hI hf hv hm hg ha').mono fun v w' ⟨ρ', Z', s, its', nx', hm', ht, hr, hpost⟩ => ?_
  rw [List.append_nil] at hm'
  unfold resM at hpost
  split at hpost
  · rename_i S' cells' ars hl has
    cases hb : (Nat.beq S' S && Nat.beq cells'.length m) with
    | false => rw [hb, cond_false] at hpost; exact hpost.elim
    | true =>
      rw [hb, cond_true] at hpost
      simp only [Bool.and_eq_true] at hb
      obtain ⟨hS, hmm⟩ := hb
      have hS := Nat.eq_of_beq_eq_true hS
      have hmm := Nat.eq_of_beq_eq_true hmm
      subst hS hmm
      split at hpost
      · rename_i vs' its2 hfz
        split at hpost
        · rename_i p hrb
          obtain ⟨us, u1, u2, u3⟩ := ansV_get has hr
          obtain ⟨j, hj, _⟩ := lk_mem hl
          obtain ⟨L, cs', hL, hbs, hown', hrep'⟩ := hm'.holds hj
          have hL : ρ' 0 = some L := hL
          have hLb : L = ⟨b, none, 0, 0, [b]⟩ := by have := hm'.ge 0 _ hρ0; rw [hL] at this; cases this; rfl
          subst hLb
          obtain ⟨Z2, m2, t2, he⟩ := frz_ok (lkd := []) (by simpa using hm') hfz
          rw [List.append_nil] at m2
          have hcl := hrep'.len
          obtain ⟨_, hlen, hget⟩ := eqs_ok its2 ks vs' X [] p hrb hpost
          have hvl : vs'.length = (cells' ++ ars).length := he.1
          have all : (cs' ++ us).length = vs'.length ∧ ∀ (i : Nat) (u : Value) (s : E.SV), (cs' ++ us)[i]? = some u → vs'[i]? = some s → Rep E.N E.T ρ' Z2 w' u s := by
            refine ⟨by rw [hvl, List.length_append, List.length_append, hcl, u1], fun i u s' hu hs => ?_⟩
            have hil : i < (cells' ++ ars).length := by rw [← hvl]; exact lt_get hs
            obtain ⟨s0, hs0⟩ : ∃ s0, (cells' ++ ars)[i]? = some s0 := ⟨_, List.getElem?_eq_getElem hil⟩
            refine he.2 i s0 s' hs0 hs u ?_
            by_cases hi : i < cells'.length
            · rw [List.getElem?_append_left hi] at hs0
              rw [List.getElem?_append_left (by omega)] at hu
              obtain ⟨u', hu', hr', _⟩ := hrep'.get i s0 hs0
              rw [hu] at hu'; cases hu'; exact hr'
            · rw [List.getElem?_append_right (by omega)] at hs0 hu
              rw [hcl] at hu
              exact u2 _ u s0 hu hs0
          have fin := hget m2 hk all
          have htl := tell_len (E := E) ks X
          have hkl : ks.length = cells'.length + ars.length := by rw [← hlen, hvl, List.length_append]
          have hz3 : ∀ b', Z2 b' → Z b' ∨ (w.heap.size ≤ b' ∧ b' < w'.heap.size) := fun b' hb' => by
            have h1 := m2.sep.zlt b' hb'
            rcases m2.zle b' hb' with h | h | h
            · exact .inl h
            · simp at h; subst h
              exfalso
              have := (m2.sep.ok j _ (toIts_at (frz_own hfz hj))).notZ b' (by show b' ∈ foot E.N ρ' 0 (.own S' cells'); rw [foot_own hL]; simp)
              exact this hb'
            · exact .inr ⟨h, h1⟩
          refine ⟨Z2, cs', by simpa using m2.sep.ext, m2.zge, hz3, fun hb' => ?_, hown', ?_, ?_, trivial⟩
          · rcases hz3 b hb' with h | h
            · exact hzb h
            · omega
          · refine RepL.of_get (by rw [List.length_take, htl, hcl]; omega) hrep'.plain fun i u s' hu hs => ?_
            have hi : i < cells'.length := by rw [← hcl]; exact lt_get hu
            rw [List.getElem?_take_of_lt hi] at hs
            exact fin i u s' (by rw [List.getElem?_append_left (by omega)]; exact hu) hs
          · refine u3 (by rw [List.length_drop, htl]; omega) fun i u s' hu hs => ?_
            rw [List.getElem?_drop] at hs
            exact fin (cells'.length + i) u s' (by rw [List.getElem?_append_right (by omega), hcl]; simpa using hu) hs
        · exact hpost.elim
      · exact hpost.elim
  · exact hpost.elim
def resZ (E : Env) (n : Nat) (ks : List VK) (Q : cellsDen E.N Prop ks) : E.SV → Items E.N → Nat → Prop := fun s its _ => match ansV n s with
  | some ars => (match frz its ars with
    | some (vs, its') => (match rbCells E its' ks vs Q with | some p => p | none => False)
    | none => False)
  | none => False
theorem conZ (hE : EnvOK E) (hI : InlOK E inl) {K n : Nat} {fn : Func} {an : Ann} (hf : E.P.funcs[K]? = some fn) {ks : List VK} {X : Vals E.N ks} {args : List E.SV} {ob : List Prop} (hk : ks.all noAcc = true) (hp : args.all pureS = true)
    (hv : vcFun inl an fn args [] [] 0 (resZ E n ks (eqs E.N ks X []))) : ConOK E.P E.N E.T E.G K args nx ⟨ob, [], tellA n (tell E ks X), []⟩ :=
  ⟨fun ρ Z w vs hfr hz hg ha => (vcFun_ok (C := ctx0 (fun _ => none) Z w) hE hI hf hv (mem0 (fun _ _ => rfl) hz) hg (pureT_rep hp ha _)).mono fun v w' h => by
    obtain ⟨ρ', Z', s, its', nx', hx, hm, ht, hr, hk'⟩ := h.pure
    unfold resZ at hk'
    split at hk'
    · rename_i ars has
      split at hk'
      · rename_i vs' its2 hfz
        split at hk'
        · rename_i p hrb
          obtain ⟨us, u1, u2, u3⟩ := ansV_get has hr
          obtain ⟨Z2, m2, t2, he⟩ := frz_ok (lkd := []) (by simpa using hm) hfz
          rw [List.append_nil] at m2
          obtain ⟨_, hlen, hget⟩ := eqs_ok its2 ks vs' X [] p hrb hk'
          have hvl : vs'.length = ars.length := he.1
          have all : us.length = vs'.length ∧ ∀ (i : Nat) (u : Value) (s : E.SV), us[i]? = some u → vs'[i]? = some s → Rep E.N E.T ρ' Z2 w' u s := by
            refine ⟨by rw [hvl, u1], fun i u s' hu hs => ?_⟩
            have hil : i < ars.length := by rw [← hvl]; exact lt_get hs
            exact he.2 i _ s' (List.getElem?_eq_getElem hil) hs u (u2 i u _ hu (List.getElem?_eq_getElem hil))
          have fin := hget m2 hk all
          refine ⟨ρ, Z2, fun _ _ h => h, fun i hi => hfr i (by simpa using hi), m2.zge, fun b hb => ?_, none_sub (u3 (by rw [tell_len, ← hlen, hvl]) fun i u s' hu hs => fin i u s' hu hs), ?_, trivial⟩
          · rcases m2.zle b hb with h | h | h
            · exact .inl h
            · cases h
            · exact .inr h
          · exact ⟨m2.sep.ext, m2.sep.zlt, fun k t h => by simp [toIts, number] at h, fun j k s t h => by simp [toIts, number] at h⟩
        · exact hk'.elim
      · exact hk'.elim
    · exact hk'.elim⟩
def inlMN (E : Env) (M : Nat → Option (MC E.N)) (an : Nat → Ann) : Nat → Inl E
  | 0 => inlM E M (fun _ _ _ _ _ _ => False)
  | n + 1 => inlM E M (fun K args its lkd nx k => match E.inl K with | some fn => vcFun (inlMN E M an n) (an K) fn args its lkd nx k | none => False)
theorem inlMN_ok (hE : EnvOK E) {M : Nat → Option (MC E.N)} (hM : ∀ K o args cells r, M K = some o → o.C args cells = some r → allP r.ob → MutOK E.P E.N E.T E.G K o.S args cells r) (an : Nat → Ann) : ∀ m, InlOK E (inlMN E M an m)
  | 0 => inlM_ok hM fun _ _ _ _ _ _ h => h.elim
  | m + 1 => inlM_ok hM fun K args its lkd nx k h => by
    have h : (match E.inl K with | some fn => vcFun (inlMN E M an m) (an K) fn args its lkd nx k | none => False) := h
    split at h
    · rename_i fn hf
      exact ⟨by rw [hf]; rfl, fun C ρ Z w vs hm hg ha => vcFun_ok hE (inlMN_ok hE hM an m) (hE.inl K fn hf) h hm hg ha⟩
    · exact h.elim
def noM {N : Uni} : Nat → Option (MC N) := fun _ => none
theorem noM_ok {P : Program} {N : Uni} {T : ErrT} {G : Glob} : ∀ K o args cells r, (noM : Nat → Option (MC N)) K = some o → o.C args cells = some r → allP r.ob → MutOK P N T G K o.S args cells r := fun _ _ _ _ _ h => by cases h
theorem addM_ok {P : Program} {N : Uni} {T : ErrT} {G : Glob} {M : Nat → Option (MC N)} {K : Nat} {o : MC N} (h : ∀ args cells r, o.C args cells = some r → allP r.ob → MutOK P N T G K o.S args cells r) (hM : ∀ K o args cells r, M K = some o → o.C args cells = some r → allP r.ob → MutOK P N T G K o.S args cells r) : ∀ K' o' args cells r, addF K o M K' = some o' → o'.C args cells = some r → allP r.ob → MutOK P N T G K' o'.S args cells r := fun K' o' args cells r e hr ho => by
  rcases addF_inv e with ⟨e1, e2⟩ | e
  · subst e1; subst e2; exact h args cells r hr ho
  · exact hM K' o' args cells r e hr ho
theorem LendOK.conv {K : Nat} {args args' : List E.SV} {c : CR E.N} (h : LendOK E K args' c) (ha : ∀ (D : Nat → Prop) (w : World) (vs : List Value), Rep E.N E.T (fun _ => none) D w (.tuple vs.toArray) (.tup args) → Rep E.N E.T (fun _ => none) D w (.tuple vs.toArray) (.tup args')) : LendOK E K args c :=
  fun D w vs hD hg hr => h D w vs hD hg (ha D w vs hr)
end
end Go.Rx
end
section
namespace Go.Fo
open Go Go.Wk Go.Wl
structure Dec where
  w : Str → Nat
  pos : ∀ s, s ≠ [] → 1 ≤ w s
  le : ∀ s, w s ≤ s.length
  four : ∀ s, w s ≤ 4
variable (D : Dec)
def ends (c : UInt8) : Bool := c == 10 || c == 13
end Go.Fo
end
section
namespace Go.Fo
open Go Go.Wk Go.Wl
structure Row where
  At : Int
  Text : Str
  deriving Inhabited, DecidableEq
def trimR (l : Str) : Str := if l.getLast? = some 13 then l.dropLast else l
def nl (c : UInt8) : Bool := c != 10
def hd (s : Str) : Str := s.takeWhile nl
def tl (s : Str) : Str := (s.dropWhile nl).drop 1
theorem tl_lt {s : Str} (h : s ≠ []) : (tl s).length < s.length := by
  unfold tl
  have h1 : (s.dropWhile nl).length ≤ s.length := (List.dropWhile_sublist nl).length_le
  rw [List.length_drop]
  have : 0 < s.length := List.length_pos_iff.2 h
  omega
def linesOf (s : Str) : List Str :=
  if h : s = [] then [] else (if (10 : UInt8) ∈ s then trimR (hd s) else s) :: linesOf (tl s)
termination_by s.length
decreasing_by exact tl_lt h
theorem linesOf_nil : linesOf [] = [] := by rw [linesOf]; simp
theorem linesOf_cons {s : Str} (h : s ≠ []) : linesOf s = (if (10 : UInt8) ∈ s then trimR (hd s) else s) :: linesOf (tl s) := by rw [linesOf, dif_neg h]
theorem hd_line {l r : Str} (h : ∀ c ∈ l, c ≠ 10) : hd (l ++ 10 :: r) = l ∧ tl (l ++ 10 :: r) = r := by
  have h1 : ∀ c ∈ l, nl c = true := fun c hc => by simp [nl, h c hc]
  unfold hd tl
  rw [List.takeWhile_append_of_pos h1, List.dropWhile_append_of_pos h1]
  simp [List.takeWhile, List.dropWhile, nl]
theorem linesOf_line {l r : Str} (h : ∀ c ∈ l, c ≠ 10) : linesOf (l ++ 10 :: r) = trimR l :: linesOf r := by
  rw [linesOf_cons (by simp), if_pos (by simp), (hd_line h).1, (hd_line h).2]
theorem hd_none {s : Str} (h : ∀ c ∈ s, c ≠ 10) : tl s = [] := by
  have h1 : ∀ c ∈ s, nl c = true := fun c hc => by simp [nl, h c hc]
  have : s.dropWhile nl = [] := by
    rw [← List.append_nil s, List.dropWhile_append_of_pos h1]; rfl
  unfold tl; rw [this]; rfl
theorem linesOf_rest {s : Str} (h : ∀ c ∈ s, c ≠ 10) (h0 : s ≠ []) : linesOf s = [s] := by
  rw [linesOf_cons h0, if_neg (fun hm => h 10 hm rfl), hd_none h, linesOf_nil]
def spTab (s : Str) : Prop := ix s 0 = 32 ∨ ix s 0 = 9
instance (s : Str) : Decidable (spTab s) := by unfold spTab; infer_instance
def lastAdd (out : List Row) (t : Str) : List Row := out.dropLast ++ [⟨(out.getLastD default).At, (out.getLastD default).Text ++ t⟩]
def uTop (at_ : Int) (out : List Row) : Except (Int × Int) (List Row × Bool) :=
  if 5000 < (out.getLastD default).Text.length then .error (4, at_) else if 1000 < out.length then .error (5, at_) else .ok (out, true)
def uStep (at_ : Int) (l : Str) (out : List Row) (o : Bool) : Except (Int × Int) (List Row × Bool) :=
  if l = [] then .ok (out, false)
  else if spTab l then (if o = true then uTop at_ (lastAdd out (l.drop 1)) else .error (11, at_))
  else uTop at_ (out ++ [⟨at_, l⟩])
def uGo : List Str → Int → List Row → Bool → Except (Int × Int) (List Row)
  | [], _, out, _ => .ok out
  | l :: ls, at_, out, o => match uStep at_ l out o with
    | .error e => .error e
    | .ok p => uGo ls (at_ + 1) p.1 p.2
def unfoldS (s : Str) : Except (Int × Int) (List Row) := uGo (linesOf s) 1 [] false
theorem uGo_ok {l : Str} {ls : List Str} {at_ : Int} {out out' : List Row} {o o' : Bool} (h : uStep at_ l out o = .ok (out', o')) : uGo (l :: ls) at_ out o = uGo ls (at_ + 1) out' o' := by rw [uGo, h]
theorem uGo_err {l : Str} {ls : List Str} {at_ : Int} {out : List Row} {o : Bool} {e : Int × Int} (h : uStep at_ l out o = .error e) : uGo (l :: ls) at_ out o = .error e := by rw [uGo, h]
theorem uTop_in {at_ : Int} {out out' : List Row} {o : Bool} (h : uTop at_ out = .ok (out', o)) : out' = out ∧ o = true ∧ (out.getLastD default).Text.length ≤ 5000 ∧ out.length ≤ 1000 := by
  unfold uTop at h
  split at h
  · cases h
  · split at h
    · cases h
    · cases h; exact ⟨rfl, rfl, by omega, by omega⟩
theorem getLastD_snoc {α : Type} {l : List α} {x d : α} : (l ++ [x]).getLastD d = x := by simp
variable (D : Dec)
end Go.Fo
end
section
namespace Go.Fo
open Go Go.Wk Go.Wl
theorem ix_drop {α : Type} [Inhabited α] {l : List α} {i : Int} (h0 : 0 ≤ i) (h1 : i < l.length) : l.drop i.toNat = ix l i :: l.drop (i + 1).toNat := by
  have h : i.toNat < l.length := by omega
  rw [ix_get h, List.drop_eq_getElem_cons h]
  congr 2; omega
theorem drop_all {α : Type} {l : List α} {i : Int} (h : (l.length : Int) ≤ i) : l.drop i.toNat = [] := List.drop_eq_nil_of_le (by omega)
theorem take_drop_mem {s : Str} {a b : Int} {c : UInt8} (h0 : 0 ≤ a) (hc : c ∈ (s.take b.toNat).drop a.toNat) : ∃ k : Int, a ≤ k ∧ k < b ∧ k < s.length ∧ ix s k = c := by
  obtain ⟨j, hj, rfl⟩ := List.getElem_of_mem hc
  rw [List.length_drop, List.length_take] at hj
  refine ⟨(a.toNat + j : Nat), by omega, by omega, by omega, ?_⟩
  rw [ix_get (by simp only [Int.toNat_natCast]; omega), List.getElem_drop, List.getElem_take]
  simp only [Int.toNat_natCast]
theorem split_at {s : Str} {fr i : Int} (h0 : 0 ≤ fr) (h1 : fr ≤ i) (h2 : i < s.length) (hc : ix s i = 10) (hno : ∀ k : Int, fr ≤ k → k < i → ix s k ≠ 10) :
    linesOf (s.drop fr.toNat) = trimR ((s.take i.toNat).drop fr.toNat) :: linesOf (s.drop (i + 1).toNat) := by
  have e : s.drop fr.toNat = (s.take i.toNat).drop fr.toNat ++ 10 :: s.drop (i + 1).toNat := by
    have h3 := ix_drop (by omega) h2
    rw [hc] at h3
    rw [← h3]
    have : s = s.take i.toNat ++ s.drop i.toNat := (List.take_append_drop _ _).symm
    conv => lhs; rw [this]
    rw [List.drop_append_of_le_length (by rw [List.length_take]; omega)]
  rw [e, linesOf_line]
  intro c hc hcc
  obtain ⟨k, k1, k2, _, k4⟩ := take_drop_mem h0 hc
  exact hno k k1 k2 (by rw [k4, hcc])
theorem getLast_take {s : Str} {fr i : Int} (h0 : 0 ≤ fr) (h1 : fr < i) (h2 : i ≤ s.length) : ((s.take i.toNat).drop fr.toNat).getLast? = some (ix s (i - 1)) := by
  rw [List.getLast?_eq_getElem?, List.length_drop, List.length_take, List.getElem?_drop, List.getElem?_take]
  rw [if_pos (by omega), ix_get (by omega), List.getElem?_eq_getElem (by omega)]
  congr 2; omega
theorem trim_at {s : Str} {fr i : Int} (h0 : 0 ≤ fr) (h1 : fr ≤ i) (h2 : i ≤ s.length) : trimR ((s.take i.toNat).drop fr.toNat) = (s.take (if fr < i ∧ ix s (i - 1) = 13 then i - 1 else i).toNat).drop fr.toNat := by
  unfold trimR
  by_cases h : fr < i
  · rw [getLast_take h0 h h2]
    by_cases hc : ix s (i - 1) = 13
    · rw [if_pos (by rw [hc]), if_pos ⟨h, hc⟩, List.dropLast_eq_take, List.length_drop, List.length_take, List.drop_take, List.drop_take]
      rw [List.take_take]
      congr 1; omega
    · rw [if_neg (fun e => hc (Option.some.inj e)), if_neg (fun e => hc e.2)]
  · have e : fr = i := by omega
    subst e
    have : (s.take fr.toNat).drop fr.toNat = [] := List.drop_eq_nil_of_le (by rw [List.length_take]; omega)
    rw [this, if_neg (by simp), if_neg (fun e => h e.1), this]
theorem split_rest {s : Str} {fr : Int} (h0 : 0 ≤ fr) (hno : ∀ k : Int, fr ≤ k → k < s.length → ix s k ≠ 10) : linesOf (s.drop fr.toNat) = if fr < s.length then [s.drop fr.toNat] else [] := by
  split
  · rename_i h
    refine linesOf_rest (fun c hc => ?_) (fun e => ?_)
    · have : s.drop fr.toNat = (s.take (s.length : Int).toNat).drop fr.toNat := by rw [Int.toNat_natCast, List.take_length]
      rw [this] at hc
      obtain ⟨k, k1, k2, _, k4⟩ := take_drop_mem h0 hc
      rw [← k4]; exact hno k k1 k2
    · have := congrArg List.length e
      simp only [List.length_drop, List.length_nil] at this
      omega
  · rw [drop_all (by omega), linesOf_nil]
theorem linesOf_len : ∀ (n : Nat) (s : Str), s.length ≤ n → (linesOf s).length ≤ s.length
  | n, s, hn => by
    by_cases h : s = []
    · subst h; rw [linesOf_nil]; exact Nat.le_refl _
    · have := tl_lt h
      cases n with
      | zero => omega
      | succ n =>
        rw [linesOf_cons h, List.length_cons]
        have := linesOf_len n (tl s) (by omega)
        omega
theorem mem_linesOf : ∀ (n : Nat) (s : Str), s.length ≤ n → ∀ l ∈ linesOf s, l.length ≤ s.length
  | n, s, hn => by
    intro l hl
    by_cases h : s = []
    · subst h; rw [linesOf_nil] at hl; cases hl
    · have h1 := tl_lt h
      cases n with
      | zero => omega
      | succ n =>
        rw [linesOf_cons h] at hl
        rcases List.mem_cons.1 hl with rfl | hl
        · split
          · have h2 : (hd s).length ≤ s.length := (List.takeWhile_sublist nl).length_le
            unfold trimR
            split
            · rw [List.length_dropLast]; omega
            · exact h2
          · exact Nat.le_refl _
        · have := mem_linesOf n (tl s) (by omega) l hl
          omega
def lastSet (out : List Row) (t : Str) : List Row := out.set (out.length - 1) ⟨(ix out ((out.length : Int) - 1)).At, t⟩
theorem snoc {α : Type} {out : List α} (h : out ≠ []) : ∃ a x, out = a ++ [x] := ⟨out.dropLast, out.getLast h, (List.dropLast_concat_getLast h).symm⟩
theorem ix_last {α : Type} [Inhabited α] {a : List α} {x : α} : ix (a ++ [x]) (((a ++ [x]).length : Int) - 1) = x := by
  have e : (((a ++ [x]).length : Int) - 1).toNat = a.length := by rw [List.length_append, List.length_singleton]; omega
  rw [ix_get (by rw [e]; simp)]
  simp [e]
theorem lastSet_snoc {a : List Row} {x : Row} {t : Str} : lastSet (a ++ [x]) t = a ++ [⟨x.At, t⟩] := by
  unfold lastSet
  rw [ix_last]
  simp [List.length_append]
theorem lastAdd_snoc {a : List Row} {x : Row} {t : Str} : lastAdd (a ++ [x]) t = a ++ [⟨x.At, x.Text ++ t⟩] := by simp [lastAdd]
theorem lastAdd_set {out : List Row} {t : Str} (h : out ≠ []) : lastAdd out t = out.set (out.length - 1) ⟨(ix out ((out.length : Int) - 1)).At, (ix out ((out.length : Int) - 1)).Text ++ t⟩ := by
  obtain ⟨a, x, rfl⟩ := snoc h
  rw [lastAdd_snoc, ix_last]
  simp [List.length_append]
theorem lastSet_len (out : List Row) (t : Str) : (lastSet out t).length = out.length := by simp [lastSet]
theorem lastD_ix {out : List Row} (h : out ≠ []) : out.getLastD default = ix out ((out.length : Int) - 1) := by
  obtain ⟨a, x, rfl⟩ := snoc h
  rw [ix_last, getLastD_snoc]
def cur (out : List Row) (long : Str) (o : Bool) : List Row := if o = true then lastSet out long else out
end Go.Fo
end
section
namespace Go.Li
open Go Go.Wk Go.Wl
structure Param where
  Name : Str
  Values : List Str
  deriving Inhabited, DecidableEq
structure Prp where
  Group : Str
  Name : Str
  Params : List Param
  Value : Str
  deriving Inhabited, DecidableEq
end Go.Li
end
section
namespace Go.Co
open Go Go.Wk Go.Wl Go.Li
structure CRow where
  At : Int
  P : Prp
  deriving Inhabited, DecidableEq
inductive Comp where
  | mk (Name : Str) (Props : List Prp) (Comps : List Comp)
instance : Inhabited Comp := ⟨⟨[], [], []⟩⟩
def Comp.Name : Comp → Str
  | .mk n _ _ => n
def Comp.Props : Comp → List Prp
  | .mk _ p _ => p
def Comp.Comps : Comp → List Comp
  | .mk _ _ c => c
theorem Comp.eta (c : Comp) : Comp.mk c.Name c.Props c.Comps = c := by cases c; rfl
section
variable (dP : Rd Prp)
def dC1 (r : Rd Comp) : Rd Comp where
  sz := 3
  rd := fun D w cs x => ∃ c0 c1 c2, cs = c0 ++ (c1 ++ c2) ∧ dStr.rd D w c0 x.Name ∧ (dSlice dP).rd D w c1 x.Props ∧ (dSlice r).rd D w c2 x.Comps
  len := fun ⟨c0, c1, c2, e, h0, h1, h2⟩ => by rw [e]; simp only [List.length_append, Rd.len _ h0, Rd.len _ h1, Rd.len _ h2]; rfl
  mono := fun ⟨c0, c1, c2, e, h0, h1, h2⟩ a b c => ⟨c0, c1, c2, e, Rd.mono _ h0 a b c, Rd.mono _ h1 a b c, Rd.mono _ h2 a b c⟩
  plain := fun ⟨c0, c1, c2, e, h0, h1, h2⟩ => by rw [e]; simp only [List.all_append, Rd.plain _ h0, Rd.plain _ h1, Rd.plain _ h2]; rfl
def dC0 : Rd Comp where
  sz := 3
  rd := fun _ _ _ _ => False
  len := fun h => h.elim
  mono := fun h _ _ _ => h
  plain := fun h => h.elim
def dCo : Nat → Rd Comp
  | 0 => dC0
  | n + 1 => dC1 dP (dCo n)
theorem dCo_sz : ∀ n, (dCo dP n).sz = 3
  | 0 => rfl
  | _ + 1 => rfl
theorem slice_imp {α : Type} {r s : Rd α} (hz : r.sz = s.sz) {D : Nat → Prop} {w : World} (h : ∀ cs x, r.rd D w cs x → s.rd D w cs x) {cs : List Value} {l : List α} (k : (dSlice r).rd D w cs l) : (dSlice s).rd D w cs l := by
  obtain ⟨hl, A, cap, e, h0, hc⟩ := k
  refine ⟨hl, A, cap, e, h0, fun i hi => ?_⟩
  obtain ⟨b, o, c, e1, hb, hcell, hr⟩ := hc i hi
  exact ⟨b, o, c, e1, hb, by rw [← hz]; exact hcell, h _ _ hr⟩
theorem dCo_up : ∀ (n : Nat) {D : Nat → Prop} {w : World} {cs : List Value} {x : Comp}, (dCo dP n).rd D w cs x → (dCo dP (n + 1)).rd D w cs x
  | 0, _, _, _, _, h => False.elim h
  | n + 1, D, w, cs, x, h => by
    obtain ⟨c0, c1, c2, e, h0, h1, h2⟩ := (show (dC1 dP (dCo dP n)).rd D w cs x from h)
    exact ⟨c0, c1, c2, e, h0, h1, slice_imp (by rw [dCo_sz, dCo_sz]) (fun _ _ h => dCo_up n h) h2⟩
theorem dCo_le {n m : Nat} (h : n ≤ m) {D : Nat → Prop} {w : World} {cs : List Value} {x : Comp} (k : (dCo dP n).rd D w cs x) : (dCo dP m).rd D w cs x := by
  induction h with
  | refl => exact k
  | step _ ih => exact dCo_up dP _ ih
def dComp : Rd Comp where
  sz := 3
  rd := fun D w cs x => ∃ n, (dCo dP n).rd D w cs x
  len := fun ⟨n, h⟩ => by rw [Rd.len _ h, dCo_sz]
  mono := fun ⟨n, h⟩ a b c => ⟨n, Rd.mono _ h a b c⟩
  plain := fun ⟨n, h⟩ => Rd.plain _ h
theorem all_n {l : List Comp} {P : Nat → Nat → Prop} (up : ∀ i n m, n ≤ m → P i n → P i m) : ∀ k : Nat, (∀ i, i < k → ∃ n, P i n) → ∃ n, ∀ i, i < k → P i n
  | 0, _ => ⟨0, fun i h => absurd h (Nat.not_lt_zero i)⟩
  | k + 1, h => by
    obtain ⟨n, hn⟩ := all_n (l := l) up k fun i hi => h i (by omega)
    obtain ⟨m, hm⟩ := h k (by omega)
    refine ⟨max n m, fun i hi => ?_⟩
    by_cases e : i = k
    · subst e; exact up _ _ _ (Nat.le_max_right _ _) hm
    · exact up _ _ _ (Nat.le_max_left _ _) (hn i (by omega))
theorem dComps_iff {D : Nat → Prop} {w : World} {cs : List Value} {l : List Comp} : (dSlice (dComp dP)).rd D w cs l ↔ ∃ n, (dSlice (dCo dP n)).rd D w cs l := by
  constructor
  · rintro ⟨hl, A, cap, e, h0, hc⟩
    obtain ⟨n, hn⟩ := all_n (l := l) (P := fun i n => ∀ h : i < l.length, ∃ b o c, A = some ⟨b, o, none⟩ ∧ D b ∧ Cells w b (o + i * 3) c ∧ (dCo dP n).rd D w c l[i])
      (fun i n m hnm h hi => by obtain ⟨b, o, c, h1, h2, h3, h4⟩ := h hi; exact ⟨b, o, c, h1, h2, h3, dCo_le dP hnm h4⟩) l.length
      (fun i hi => by obtain ⟨b, o, c, h1, h2, h3, n, h4⟩ := hc i hi; exact ⟨n, fun _ => ⟨b, o, c, h1, h2, h3, h4⟩⟩)
    exact ⟨n, hl, A, cap, e, h0, fun i hi => by rw [dCo_sz]; exact hn i hi hi⟩
  · rintro ⟨n, h⟩
    exact slice_imp (s := dComp dP) (dCo_sz dP n) (fun _ _ h => ⟨n, h⟩) h
theorem dComp_iff {D : Nat → Prop} {w : World} {cs : List Value} {x : Comp} : (dComp dP).rd D w cs x ↔ ∃ c0 c1 c2, cs = c0 ++ (c1 ++ c2) ∧ dStr.rd D w c0 x.Name ∧ (dSlice dP).rd D w c1 x.Props ∧ (dSlice (dComp dP)).rd D w c2 x.Comps := by
  constructor
  · rintro ⟨n, h⟩
    cases n with
    | zero => exact False.elim h
    | succ n =>
      obtain ⟨c0, c1, c2, e, h0, h1, h2⟩ := (show (dC1 dP (dCo dP n)).rd D w cs x from h)
      exact ⟨c0, c1, c2, e, h0, h1, (dComps_iff dP).2 ⟨n, h2⟩⟩
  · rintro ⟨c0, c1, c2, e, h0, h1, h2⟩
    obtain ⟨n, h2⟩ := (dComps_iff dP).1 h2
    exact ⟨n + 1, c0, c1, c2, e, h0, h1, h2⟩
end
end Go.Co
end
section
namespace Go.Proofs.YtadgfmmmdhlljaaDoor
open Go Go.Wk Go.Wl Go.Rx Go.Fo Go.Li Go.Co
def dRow : Rd Row where
  sz := 2
  rd := fun D w cs x => ∃ c0 c1, cs = c0 ++ (c1) ∧ dInt.rd D w c0 x.At ∧ dStr.rd D w c1 x.Text
  len := fun ⟨c0, c1, e, h0, h1⟩ => by rw [e]; simp only [List.length_append, Rd.len _ h0, Rd.len _ h1]; rfl
  mono := fun ⟨c0, c1, e, h0, h1⟩ a b c => ⟨c0, c1, e, Rd.mono _ h0 a b c, Rd.mono _ h1 a b c⟩
  plain := fun ⟨c0, c1, e, h0, h1⟩ => by rw [e]; simp only [List.all_append, Rd.plain _ h0, Rd.plain _ h1]; rfl
def dParam : Rd Param where
  sz := 2
  rd := fun D w cs x => ∃ c0 c1, cs = c0 ++ (c1) ∧ dStr.rd D w c0 x.Name ∧ (dSlice dStr).rd D w c1 x.Values
  len := fun ⟨c0, c1, e, h0, h1⟩ => by rw [e]; simp only [List.length_append, Rd.len _ h0, Rd.len _ h1]; rfl
  mono := fun ⟨c0, c1, e, h0, h1⟩ a b c => ⟨c0, c1, e, Rd.mono _ h0 a b c, Rd.mono _ h1 a b c⟩
  plain := fun ⟨c0, c1, e, h0, h1⟩ => by rw [e]; simp only [List.all_append, Rd.plain _ h0, Rd.plain _ h1]; rfl
def dPrp : Rd Prp where
  sz := 4
  rd := fun D w cs x => ∃ c0 c1 c2 c3, cs = c0 ++ (c1 ++ (c2 ++ (c3))) ∧ dStr.rd D w c0 x.Group ∧ dStr.rd D w c1 x.Name ∧ (dSlice dParam).rd D w c2 x.Params ∧ dStr.rd D w c3 x.Value
  len := fun ⟨c0, c1, c2, c3, e, h0, h1, h2, h3⟩ => by rw [e]; simp only [List.length_append, Rd.len _ h0, Rd.len _ h1, Rd.len _ h2, Rd.len _ h3]; rfl
  mono := fun ⟨c0, c1, c2, c3, e, h0, h1, h2, h3⟩ a b c => ⟨c0, c1, c2, c3, e, Rd.mono _ h0 a b c, Rd.mono _ h1 a b c, Rd.mono _ h2 a b c, Rd.mono _ h3 a b c⟩
  plain := fun ⟨c0, c1, c2, c3, e, h0, h1, h2, h3⟩ => by rw [e]; simp only [List.all_append, Rd.plain _ h0, Rd.plain _ h1, Rd.plain _ h2, Rd.plain _ h3]; rfl
def dCRow : Rd CRow where
  sz := 5
  rd := fun D w cs x => ∃ c0 c1, cs = c0 ++ (c1) ∧ dInt.rd D w c0 x.At ∧ dPrp.rd D w c1 x.P
  len := fun ⟨c0, c1, e, h0, h1⟩ => by rw [e]; simp only [List.length_append, Rd.len _ h0, Rd.len _ h1]; rfl
  mono := fun ⟨c0, c1, e, h0, h1⟩ a b c => ⟨c0, c1, e, Rd.mono _ h0 a b c, Rd.mono _ h1 a b c⟩
  plain := fun ⟨c0, c1, e, h0, h1⟩ => by rw [e]; simp only [List.all_append, Rd.plain _ h0, Rd.plain _ h1]; rfl
def dNone : Rd Unit where
  sz := 0
  rd := fun _ _ _ _ => False
  len := fun h => h.elim
  mono := fun h _ _ _ => h
  plain := fun h => h.elim
def obNone (_ : Nat) : Ob Unit where
  is := fun _ _ _ _ => False
  stab := fun Z Z' B w w' h _ _ _ => h
  lt := fun h => h.elim

def U : Uni where
  tb := fun | 3 => ⟨Int, dInt, inferInstance⟩ | 5 => ⟨UInt8, dByte, inferInstance⟩ | 9 => ⟨Str, dStr, inferInstance⟩ | 22 => ⟨List Str, (dSlice dStr), inferInstance⟩ | 40 => ⟨Row, dRow, inferInstance⟩ | 43 => ⟨List Param, (dSlice dParam), inferInstance⟩ | 45 => ⟨Prp, dPrp, inferInstance⟩ | 59 => ⟨Param, dParam, inferInstance⟩ | 126 => ⟨CRow, dCRow, inferInstance⟩ | 68 => ⟨Comp, dComp dPrp, inferInstance⟩ | _ => ⟨Unit, dNone, ⟨()⟩⟩
  oj := fun | 0 => ⟨Str, bld 78 5⟩ | 1 => ⟨Option Str, bldO 78 5⟩ | _ => ⟨Unit, obNone⟩
def eT : ErrT := ⟨81, 82, 84, fun t => bif Nat.beq t 153 then some 0 else none⟩
theorem wr_inv {t k : Nat} (h : eT.wr t = some k) : (t = 153 ∧ k = 0) := by
  have h : (bif Nat.beq t 153 then some 0 else none) = some k := h
  cases hb0 : Nat.beq t 153 with
  | true => rw [hb0, cond_true] at h; cases h; exact ⟨Nat.eq_of_beq_eq_true hb0, rfl⟩
  | false =>
    rw [hb0, cond_false] at h
    cases h
def y3 : TyI U eT 3 where
  sv := fun (x : Int) => .int .i64 x
  bk := asI64
  sv_ok := sv_int
  bk_ok := bk_int
  hy := fun (x : Int) => [in64 x]
  hy_ok := fun {_ _ _ x} h p hp => by
    have h : dInt.rd _ _ _ x := h
    simp only [List.mem_singleton] at hp; subst hp; exact h.2
def y5 : TyI U eT 5 where
  sv := fun (x : UInt8) => .byte x
  bk := asY
  sv_ok := sv_byte
  bk_ok := bk_byte
  by8 := some ⟨rfl⟩
def y9 : TyI U eT 9 where
  sv := fun (x : Str) => .str x
  bk := asS
  sv_ok := sv_str
  bk_ok := bk_str
def y22 : TyI U eT 22 where
  sv := fun (x : List Str) => .sl 9 x
  bk := fun s => pb (asLN U 9) (leaves s)
  sv_ok := sv_sl (N := U) (t := 9)
  bk_ok := pb_sl (N := U) (t := 9)
def y40k (ls : List (SV U)) : Option Row :=
  (pb asI64 (ls.take 1)).bind fun x0 =>
  (pb asS ((ls.drop 1))).bind fun x1 =>
  some ⟨x0, x1⟩
theorem y40r {ρ : Env1} {Z : Nat → Prop} {w : World} {cs : List Value} {ls : List (SV U)} {x : Row} (h : RepL U eT ρ Z w cs ls) (e : y40k ls = some x) : dRow.rd Z w cs x := by
  unfold y40k at e
  obtain ⟨x0, e0, e⟩ := Option.bind_eq_some_iff.1 e
  obtain ⟨x1, e1, e⟩ := Option.bind_eq_some_iff.1 e
  cases e
  have g1 := RepL.split 1 h
  exact ⟨(cs.take 1), (cs.drop 1), by simp only [List.take_append_drop], pb_int g1.1 e0, pb_str g1.2 e1⟩
def y40 : TyI U eT 40 where
  sv := fun (x : Row) => .agg ([.int .i64 x.At] ++ ([.str x.Text]))
  bk := fun s => y40k (leaves s)
  sv_ok := fun {ρ Z w cs x} h => by
    obtain ⟨c0, c1, e, h0, h1⟩ := (show dRow.rd Z w cs x from h)
    subst e
    exact RepL.app (sv_int h0) (sv_str h1)
  bk_ok := y40r
  hy := fun (x : Row) => [in64 x.At]
  hy_ok := fun {Z w cs x} h p hp => by
    obtain ⟨c0, c1, e, h0, h1⟩ := (show dRow.rd Z w cs x from h)
    simp only [List.mem_singleton] at hp; subst hp; exact h0.2
def y43 : TyI U eT 43 where
  sv := fun (x : List Param) => .sl 59 x
  bk := fun s => pb (asLN U 59) (leaves s)
  sv_ok := sv_sl (N := U) (t := 59)
  bk_ok := pb_sl (N := U) (t := 59)
def y45k (ls : List (SV U)) : Option Prp :=
  (pb asS (ls.take 1)).bind fun x0 =>
  (pb asS ((ls.drop 1).take 1)).bind fun x1 =>
  (pb (asLN U 59) (((ls.drop 1).drop 1).take 1)).bind fun x2 =>
  (pb asS ((((ls.drop 1).drop 1).drop 1))).bind fun x3 =>
  some ⟨x0, x1, x2, x3⟩
theorem y45r {ρ : Env1} {Z : Nat → Prop} {w : World} {cs : List Value} {ls : List (SV U)} {x : Prp} (h : RepL U eT ρ Z w cs ls) (e : y45k ls = some x) : dPrp.rd Z w cs x := by
  unfold y45k at e
  obtain ⟨x0, e0, e⟩ := Option.bind_eq_some_iff.1 e
  obtain ⟨x1, e1, e⟩ := Option.bind_eq_some_iff.1 e
  obtain ⟨x2, e2, e⟩ := Option.bind_eq_some_iff.1 e
  obtain ⟨x3, e3, e⟩ := Option.bind_eq_some_iff.1 e
  cases e
  have g1 := RepL.split 1 h
  have g2 := RepL.split 1 g1.2
  have g3 := RepL.split 1 g2.2
  exact ⟨(cs.take 1), ((cs.drop 1).take 1), (((cs.drop 1).drop 1).take 1), (((cs.drop 1).drop 1).drop 1), by simp only [List.take_append_drop], pb_str g1.1 e0, pb_str g2.1 e1, pb_sl (N := U) (t := 59) g3.1 e2, pb_str g3.2 e3⟩
def y45 : TyI U eT 45 where
  sv := fun (x : Prp) => .agg ([.str x.Group] ++ ([.str x.Name] ++ ([.sl 59 x.Params] ++ ([.str x.Value]))))
  bk := fun s => y45k (leaves s)
  sv_ok := fun {ρ Z w cs x} h => by
    obtain ⟨c0, c1, c2, c3, e, h0, h1, h2, h3⟩ := (show dPrp.rd Z w cs x from h)
    subst e
    exact RepL.app (sv_str h0) (RepL.app (sv_str h1) (RepL.app (sv_sl (N := U) (t := 59) h2) (sv_str h3)))
  bk_ok := y45r
def y59k (ls : List (SV U)) : Option Param :=
  (pb asS (ls.take 1)).bind fun x0 =>
  (pb (asLN U 9) ((ls.drop 1))).bind fun x1 =>
  some ⟨x0, x1⟩
theorem y59r {ρ : Env1} {Z : Nat → Prop} {w : World} {cs : List Value} {ls : List (SV U)} {x : Param} (h : RepL U eT ρ Z w cs ls) (e : y59k ls = some x) : dParam.rd Z w cs x := by
  unfold y59k at e
  obtain ⟨x0, e0, e⟩ := Option.bind_eq_some_iff.1 e
  obtain ⟨x1, e1, e⟩ := Option.bind_eq_some_iff.1 e
  cases e
  have g1 := RepL.split 1 h
  exact ⟨(cs.take 1), (cs.drop 1), by simp only [List.take_append_drop], pb_str g1.1 e0, pb_sl (N := U) (t := 9) g1.2 e1⟩
def y59 : TyI U eT 59 where
  sv := fun (x : Param) => .agg ([.str x.Name] ++ ([.sl 9 x.Values]))
  bk := fun s => y59k (leaves s)
  sv_ok := fun {ρ Z w cs x} h => by
    obtain ⟨c0, c1, e, h0, h1⟩ := (show dParam.rd Z w cs x from h)
    subst e
    exact RepL.app (sv_str h0) (sv_sl (N := U) (t := 9) h1)
  bk_ok := y59r
def y126k (ls : List (SV U)) : Option CRow :=
  (pb asI64 (ls.take 1)).bind fun x0 =>
  (y45.bk (.agg ((ls.drop 1)))).bind fun x1 =>
  some ⟨x0, x1⟩
theorem y126r {ρ : Env1} {Z : Nat → Prop} {w : World} {cs : List Value} {ls : List (SV U)} {x : CRow} (h : RepL U eT ρ Z w cs ls) (e : y126k ls = some x) : dCRow.rd Z w cs x := by
  unfold y126k at e
  obtain ⟨x0, e0, e⟩ := Option.bind_eq_some_iff.1 e
  obtain ⟨x1, e1, e⟩ := Option.bind_eq_some_iff.1 e
  cases e
  have g1 := RepL.split 1 h
  exact ⟨(cs.take 1), (cs.drop 1), by simp only [List.take_append_drop], pb_int g1.1 e0, y45.bk_ok (s := .agg _) g1.2 e1⟩
def y126 : TyI U eT 126 where
  sv := fun (x : CRow) => .agg ([.int .i64 x.At] ++ (leaves (y45.sv x.P)))
  bk := fun s => y126k (leaves s)
  sv_ok := fun {ρ Z w cs x} h => by
    obtain ⟨c0, c1, e, h0, h1⟩ := (show dCRow.rd Z w cs x from h)
    subst e
    exact RepL.app (sv_int h0) (y45.sv_ok h1)
  bk_ok := y126r
  hy := fun (x : CRow) => [in64 x.At]
  hy_ok := fun {Z w cs x} h p hp => by
    obtain ⟨c0, c1, e, h0, h1⟩ := (show dCRow.rd Z w cs x from h)
    simp only [List.mem_singleton] at hp; subst hp; exact h0.2
def y68k (ls : List (SV U)) : Option Comp :=
  (pb asS (ls.take 1)).bind fun x0 =>
  (pb (asLN U 45) ((ls.drop 1).take 1)).bind fun x1 =>
  (pb (asLN U 68) ((ls.drop 1).drop 1)).bind fun x2 =>
  some (.mk x0 x1 x2)
theorem y68r {ρ : Env1} {Z : Nat → Prop} {w : World} {cs : List Value} {ls : List (SV U)} {x : Comp} (h : RepL U eT ρ Z w cs ls) (e : y68k ls = some x) : (dComp dPrp).rd Z w cs x := by
  unfold y68k at e
  obtain ⟨x0, e0, e⟩ := Option.bind_eq_some_iff.1 e
  obtain ⟨x1, e1, e⟩ := Option.bind_eq_some_iff.1 e
  obtain ⟨x2, e2, e⟩ := Option.bind_eq_some_iff.1 e
  cases e
  have g1 := RepL.split 1 h
  have g2 := RepL.split 1 g1.2
  exact (dComp_iff dPrp).2 ⟨(cs.take 1), ((cs.drop 1).take 1), ((cs.drop 1).drop 1), by simp only [List.take_append_drop], pb_str g1.1 e0, pb_sl (N := U) (t := 45) g2.1 e1, pb_sl (N := U) (t := 68) g2.2 e2⟩
def y68 : TyI U eT 68 where
  sv := fun (x : Comp) => .agg ([.str x.Name] ++ ([.sl 45 x.Props] ++ ([.sl 68 x.Comps])))
  bk := fun s => y68k (leaves s)
  sv_ok := fun {ρ Z w cs x} h => by
    obtain ⟨c0, c1, c2, e, h0, h1, h2⟩ := (dComp_iff dPrp).1 (show (dComp dPrp).rd Z w cs x from h)
    subst e
    exact RepL.app (sv_str h0) (RepL.app (sv_sl (N := U) (t := 45) h1) (sv_sl (N := U) (t := 68) h2))
  bk_ok := y68r
def tyU : ∀ t, Option (TyI U eT t)
  | 3 => some y3
  | 5 => some y5
  | 9 => some y9
  | 22 => some y22
  | 40 => some y40
  | 43 => some y43
  | 45 => some y45
  | 59 => some y59
  | 126 => some y126
  | 68 => some y68
  | _ => none
end Go.Proofs.YtadgfmmmdhlljaaDoor
end
section
namespace Go.Proofs.YtadgfmmmdhlljaaDoor
open Go Go.Wk Go.Wl Go.Rx Go.Fo Go.Li Go.Co 
def errTypeV : Value := .iface 161 (.agg #[.pointer (some ⟨4, 26, none⟩)])
def Gl : Glob where
  is := fun Z w => Z 2 ∧ 2 < w.heap.size ∧ w.cell? ⟨2, 0, none⟩ = some errTypeV
  stab := fun {Z Z' B w w'} ⟨z2, hs, he⟩ x hB hZ => by
    have c : w'.cell? ⟨2, 0, none⟩ = w.cell? ⟨2, 0, none⟩ := by unfold World.cell?; rw [x.block 2 (by omega) (fun hm => by have := hB 2 hm z2; omega)]
    exact ⟨hZ 2 z2 (by omega), Nat.lt_of_lt_of_le hs x.size, by rw [c]; exact he⟩
def zobU (t : Nat) : Option ((k : Nat) × U.O k) := bif Nat.beq t 78 then some ⟨0, ([] : Str)⟩ else none
noncomputable def E0 : Env := ⟨Tryd.prog, U, eT, tyU, zobU, fun _ => none, fun _ => false, fun _ => none, fun _ => none, Gl, fun _ => none, fun _ => false⟩
theorem E0_ok : EnvOK E0 := by
  refine ⟨by kernel_rfl, fun t k x h => ?_, fun K h => ?_, fun K fn h => ?_, fun K f args nx c h => ?_, fun K f args nx c h => ?_, fun K o x args r h => ?_, fun K o a x r h => ?_⟩
  · have h : zobU t = some ⟨k, x⟩ := h
    unfold zobU at h
    cases hb : Nat.beq t 78 with
    | false => rw [hb] at h; cases h
    | true =>
      rw [hb] at h
      cases h
      have e := Nat.eq_of_beq_eq_true hb
      subst e
      exact ⟨.agg #[.pointer none, .slice none 0 0], by kernel_rfl, fun Z w b ho => bld_zero ho⟩
  · cases h
  · cases h
  · cases h
  · cases h
  · cases h
  · cases h
end Go.Proofs.YtadgfmmmdhlljaaDoor
end
