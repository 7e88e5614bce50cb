/- A statement and its own function. -/
import Derived.Test.YtadgfmmmdhlljaaDoorJ10
set_option linter.unusedVariables false
set_option linter.unusedSimpArgs false
namespace Go.Proofs.YtadgfmmmdhlljaaDoor
open Go Go.Wk Go.Wl Go.Rx Go.Fo Go.Li 
def an11 : Nat → Ann := fun | 11 => ⟨54, fun _ => none, fun  | _ => none⟩ | _ => ⟨0, fun _ => none, fun _ => none⟩
def V11 (p : Prp) (Q : Bool → Prop) : Prop :=
(¬fewP (Prp.mk p.Group p.Name p.Params p.Value) = true → Q (decide (true = true))) ∧
  (¬¬fewP (Prp.mk p.Group p.Name p.Params p.Value) = true →
    smallP (Prp.mk p.Group p.Name p.Params p.Value) ∧
      ((printS (Prp.mk p.Group p.Name p.Params p.Value)).snd.nr ≠ (0 : Int) →
          smallP (Prp.mk p.Group p.Name p.Params p.Value) ∧
            Q
              (decide
                (((¬rightB (Prp.mk p.Group p.Name p.Params p.Value) = true ∧ (printS (Prp.mk p.Group p.Name p.Params p.Value)).fst = []) ∧
                    (printS (Prp.mk p.Group p.Name p.Params p.Value)).snd.nr = (2 : Int)) ∧
                  true = true))) ∧
        (¬(printS (Prp.mk p.Group p.Name p.Params p.Value)).snd.nr ≠ (0 : Int) →
          List.length (printS (Prp.mk p.Group p.Name p.Params p.Value)).fst ≤ (100000000 : Nat) ∧
            smallP (Prp.mk p.Group p.Name p.Params p.Value) ∧
              (rightB (Prp.mk p.Group p.Name p.Params p.Value) = true ∧ (parseS (printS (Prp.mk p.Group p.Name p.Params p.Value)).fst).snd.nr = (0 : Int) →
                  p.Params.length ≤ (9223372036854775807 : Nat)) ∧
                (rightB (Prp.mk p.Group p.Name p.Params p.Value) = true ∧ (parseS (printS (Prp.mk p.Group p.Name p.Params p.Value)).fst).snd.nr = (0 : Int) →
                    ∀ (x : Param), x ∈ p.Params → x.Values.length ≤ (9223372036854775807 : Nat)) ∧
                  Q
                    (decide
                      (((rightB (Prp.mk p.Group p.Name p.Params p.Value) = true ∧ (parseS (printS (Prp.mk p.Group p.Name p.Params p.Value)).fst).snd.nr = (0 : Int)) ∧
                          decide
                              (Prp.mk p.Group p.Name p.Params p.Value =
                                Prp.mk (parseS (printS (Prp.mk p.Group p.Name p.Params p.Value)).fst).fst.Group (parseS (printS (Prp.mk p.Group p.Name p.Params p.Value)).fst).fst.Name
                                  (parseS (printS (Prp.mk p.Group p.Name p.Params p.Value)).fst).fst.Params (parseS (printS (Prp.mk p.Group p.Name p.Params p.Value)).fst).fst.Value) =
                            true) ∧
                        true = true))))
set_option maxRecDepth 100000 in
theorem V11_ok {p : Prp} {Q : Bool → Prop} (h : V11 p Q) : vcFun (E := N37) (inlMN N37 M103 an11 2) (an11 11) Tryd.f11 [.agg [.str p.Group, .str p.Name, .sl (N := U) 59 p.Params, .str p.Value]] [] [] 0 (resP N37 [.bool] Q) := Eq.mp (show V11 p Q = vcFun (E := N37) (inlMN N37 M103 an11 2) (an11 11) Tryd.f11 [.agg [.str p.Group, .str p.Name, .sl (N := U) 59 p.Params, .str p.Value]] [] [] 0 (resP N37 [.bool] Q) by kernel_rfl) h
theorem p11 (p : Prp)  : V11 p (fun y0 => y0 = true) := by
  unfold V11
  refine ⟨fun _ => rfl, fun h => ?_⟩
  have sm : smallP p := few_small (Classical.not_not.1 h)
  by_cases hr : rightB p = true
  · have e : printS (Prp.mk p.Group p.Name p.Params p.Value) = (Li.tell p, .nil) := print_yes hr
    have hm : manyB p = false := (rightB_iff.1 hr).2
    have tl : (Li.tell p).length ≤ 5000000 := (tell_len sm hm).2
    rw [e]
    dsimp only
    rw [parse_tell hr]
    refine ⟨sm, fun he => absurd rfl he, fun _ => ⟨by omega, sm, fun _ => by have := sm.params; omega, fun _ x hx => by have := (sm.param x hx).vals; omega, ?_⟩⟩
    exact decide_eq_true ⟨⟨⟨hr, rfl⟩, decide_eq_true rfl⟩, rfl⟩
  · have e : printS (Prp.mk p.Group p.Name p.Params p.Value) = ([], .no 2) := print_no hr
    rw [e]
    exact ⟨sm, fun _ => ⟨sm, decide_eq_true ⟨⟨⟨hr, rfl⟩, rfl⟩, rfl⟩⟩, fun he => absurd (show ((([], .no 2) : Str × Err).2.nr ≠ 0) by decide) he⟩
def c11s (p : Prp) : Q1 U := ⟨[], [], blB true⟩
def c11 (a : List (SV U)) : Option (Q1 U) := match a with | [.agg [.str p0, .str p1, .sl 59 p2, .str p3]] => some (c11s (⟨p0, p1, p2, p3⟩)) | _ => none
set_option maxRecDepth 100000 in
theorem c11_ok (args : List (SV U)) (q : Q1 U) (h : c11 args = some q) (ho : allP q.ob) : LendOK N37 11 args ⟨q.ob, q.hy, q.v, []⟩ := by
  unfold c11 at h
  split at h
  · rename_i p0 p1 p2 p3
    cases h
    exact lend1 N37_ok (inlMN_ok N37_ok M103_ok an11 2) Tryd.func11 (k := .bool) trivial (V11_ok (p11 (⟨p0, p1, p2, p3⟩) )) 0
  · cases h
noncomputable def N11 : Env := N37.addL 11 c11
theorem N11_ok : EnvOK N11 := N37_ok.addL Tryd.call11 c11_ok
end Go.Proofs.YtadgfmmmdhlljaaDoor
