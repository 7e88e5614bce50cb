/- A statement and its own function. -/
import Derived.Test.YtadgfmmmdhlljaaDoorJ10
set_option linter.unusedVariables false
set_option linter.unusedSimpArgs false
namespace Go.Proofs.YtadgfmmmdhlljaaDoor
open Go Go.Wk Go.Wl Go.Rx Go.Fo Go.Li 
def an10 : Nat → Ann := fun | 10 => ⟨40, fun _ => none, fun  | _ => none⟩ | _ => ⟨0, fun _ => none, fun _ => none⟩
def V10 (p : Prp) (Q : Bool → Prop) : Prop :=
(¬fewP (Prp.mk p.Group p.Name p.Params p.Value) = true → Q (decide (true = true))) ∧
  (¬¬fewP (Prp.mk p.Group p.Name p.Params p.Value) = true →
    smallP (Prp.mk p.Group p.Name p.Params p.Value) ∧
      smallP (Prp.mk p.Group p.Name p.Params p.Value) ∧
        ((printS (Prp.mk p.Group p.Name p.Params p.Value)).fst = (printR (Prp.mk p.Group p.Name p.Params p.Value)).fst ∧
              (printS (Prp.mk p.Group p.Name p.Params p.Value)).snd.nr = (printR (Prp.mk p.Group p.Name p.Params p.Value)).snd →
            smallP (Prp.mk p.Group p.Name p.Params p.Value)) ∧
          ((printS (Prp.mk p.Group p.Name p.Params p.Value)).fst = (printR (Prp.mk p.Group p.Name p.Params p.Value)).fst ∧
                (printS (Prp.mk p.Group p.Name p.Params p.Value)).snd.nr = (printR (Prp.mk p.Group p.Name p.Params p.Value)).snd →
              smallP (Prp.mk p.Group p.Name p.Params p.Value)) ∧
            Q
              (decide
                ((((printS (Prp.mk p.Group p.Name p.Params p.Value)).fst = (printR (Prp.mk p.Group p.Name p.Params p.Value)).fst ∧
                      (printS (Prp.mk p.Group p.Name p.Params p.Value)).snd.nr = (printR (Prp.mk p.Group p.Name p.Params p.Value)).snd) ∧
                    (rightB (Prp.mk p.Group p.Name p.Params p.Value) = true ↔ rightB (Prp.mk p.Group p.Name p.Params p.Value) = true)) ∧
                  true = true)))
set_option maxRecDepth 100000 in
theorem V10_ok {p : Prp} {Q : Bool → Prop} (h : V10 p Q) : vcFun (E := N37) (inlMN N37 M103 an10 2) (an10 10) Tryd.f10 [.agg [.str p.Group, .str p.Name, .sl (N := U) 59 p.Params, .str p.Value]] [] [] 0 (resP N37 [.bool] Q) := Eq.mp (show V10 p Q = vcFun (E := N37) (inlMN N37 M103 an10 2) (an10 10) Tryd.f10 [.agg [.str p.Group, .str p.Name, .sl (N := U) 59 p.Params, .str p.Value]] [] [] 0 (resP N37 [.bool] Q) by kernel_rfl) h
theorem p10 (p : Prp)  : V10 p (fun y0 => y0 = true) := by
  unfold V10
  refine ⟨fun _ => rfl, fun h => ?_⟩
  have sm : smallP p := few_small (Classical.not_not.1 h)
  refine ⟨sm, sm, fun _ => sm, fun _ => sm, decide_eq_true ⟨⟨⟨?_, ?_⟩, Iff.rfl⟩, rfl⟩⟩
  · unfold printS printR; split <;> rfl
  · unfold printS printR; split <;> rfl
def c10s (p : Prp) : Q1 U := ⟨[], [], blB true⟩
def c10 (a : List (SV U)) : Option (Q1 U) := match a with | [.agg [.str p0, .str p1, .sl 59 p2, .str p3]] => some (c10s (⟨p0, p1, p2, p3⟩)) | _ => none
set_option maxRecDepth 100000 in
theorem c10_ok (args : List (SV U)) (q : Q1 U) (h : c10 args = some q) (ho : allP q.ob) : LendOK N37 10 args ⟨q.ob, q.hy, q.v, []⟩ := by
  unfold c10 at h
  split at h
  · rename_i p0 p1 p2 p3
    cases h
    exact lend1 N37_ok (inlMN_ok N37_ok M103_ok an10 2) Tryd.func10 (k := .bool) trivial (V10_ok (p10 (⟨p0, p1, p2, p3⟩) )) 0
  · cases h
noncomputable def N10 : Env := N37.addL 10 c10
theorem N10_ok : EnvOK N10 := N37_ok.addL Tryd.call10 c10_ok
end Go.Proofs.YtadgfmmmdhlljaaDoor
