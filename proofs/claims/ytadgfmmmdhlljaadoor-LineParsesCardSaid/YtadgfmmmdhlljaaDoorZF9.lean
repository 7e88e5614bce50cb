/- A statement and its own function. -/
import Derived.Test.YtadgfmmmdhlljaaDoorJ10
set_option linter.unusedVariables false
set_option linter.unusedSimpArgs false
namespace Go.Proofs.YtadgfmmmdhlljaaDoor
open Go Go.Wk Go.Wl Go.Rx Go.Fo Go.Li 
def an9 : Nat → Ann := fun | 9 => ⟨33, fun _ => none, fun  | _ => none⟩ | _ => ⟨0, fun _ => none, fun _ => none⟩
def V9 (s : Str) (Q : Bool → Prop) : Prop :=
((5000 : Int) < (↑(List.length s) : Int) → Q (decide (true = true))) ∧
  (¬(5000 : Int) < (↑(List.length s) : Int) →
    List.length s ≤ (100000000 : Nat) ∧
      List.length s ≤ (100000000 : Nat) ∧
        (parseS s).fst.Params.length ≤ (9223372036854775807 : Nat) ∧
          (∀ (x : Param), x ∈ (parseS s).fst.Params → x.Values.length ≤ (9223372036854775807 : Nat)) ∧
            Q
              (decide
                ((decide
                        (Prp.mk (parseS s).fst.Group (parseS s).fst.Name (parseS s).fst.Params (parseS s).fst.Value =
                          Prp.mk (parseR s).fst.Group (parseR s).fst.Name (parseR s).fst.Params (parseR s).fst.Value) =
                      true ∧
                    (parseS s).snd.nr = (parseR s).snd) ∧
                  true = true)))
set_option maxRecDepth 100000 in
theorem V9_ok {s : Str} {Q : Bool → Prop} (h : V9 s Q) : vcFun (E := N37) (inlMN N37 M103 an9 2) (an9 9) Tryd.f9 [.str s] [] [] 0 (resP N37 [.bool] Q) := Eq.mp (show V9 s Q = vcFun (E := N37) (inlMN N37 M103 an9 2) (an9 9) Tryd.f9 [.str s] [] [] 0 (resP N37 [.bool] Q) by kernel_rfl) h
theorem p9 (s : Str)  : V9 s (fun y0 => y0 = true) := by
  unfold V9
  refine ⟨fun _ => rfl, fun h => ?_⟩
  have hs : s.length ≤ 5000 := by omega
  have sm := parse_small hs
  refine ⟨by omega, by omega, by have := sm.params; omega, fun x hx => by have := (sm.param x hx).vals; omega, ?_⟩
  refine decide_eq_true ⟨⟨decide_eq_true ?_, ?_⟩, rfl⟩
  · show (parseS s).1 = (parseR s).1
    by_cases he : (parseS s).2 = .nil
    · rw [parse_ok he]
    · obtain ⟨e0, n, e1, e2, e3⟩ := parse_err he
      rw [e0, e3]
  · by_cases he : (parseS s).2 = .nil
    · rw [parse_ok he, he]; rfl
    · obtain ⟨e0, n, e1, e2, e3⟩ := parse_err he
      rw [e1, e3]
      rcases e2 with rfl | rfl <;> rfl
def c9 (a : List (SV U)) : Option (Q1 U) := match a with | [.str s] => some ⟨[], [], blB true⟩ | _ => none
set_option maxRecDepth 100000 in
theorem c9_ok (args : List (SV U)) (q : Q1 U) (h : c9 args = some q) (ho : allP q.ob) : LendOK N37 9 args ⟨q.ob, q.hy, q.v, []⟩ := by
  unfold c9 at h
  split at h
  · rename_i s
    cases h
    exact lend1 N37_ok (inlMN_ok N37_ok M103_ok an9 2) Tryd.func9 (k := .bool) (x := true) trivial (V9_ok (p9 s )) 0
  · cases h
noncomputable def N9 : Env := N37.addL 9 c9
theorem N9_ok : EnvOK N9 := N37_ok.addL Tryd.call9 c9_ok
end Go.Proofs.YtadgfmmmdhlljaaDoor
