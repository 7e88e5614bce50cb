/- A statement and its own function. -/
import Derived.Test.YtadgfmmmdhlljaaDoorK9
import Derived.Test.YtadgfmmmdhlljaaDoorZLQ
set_option linter.unusedVariables false
set_option linter.unusedSimpArgs false
namespace Go.Proofs.YtadgfmmmdhlljaaDoor
open Go Go.Wk Go.Wl Go.Rx Go.Fo Go.Li 
def an7 : Nat → Ann := fun | 7 => ⟨94, fun _ => none, fun  | _ => none⟩ | _ => ⟨0, fun _ => none, fun _ => none⟩
def V7 (l : List Str) (k : Int) (Q : Bool → Prop) : Prop :=
l.length ≤ (9223372036854775807 : Nat) ∧
  (¬fewS l = true → Q (decide (true = true))) ∧
    (¬¬fewS l = true →
      in64 ((↑l.length : Int) + (1 : Int)) ∧
        (↑l.length : Int) + (1 : Int) ≠ (0 : Int) ∧
          in64 (k.tmod ((↑l.length : Int) + (1 : Int)) + (↑l.length : Int)) ∧
            in64 (k.tmod ((↑l.length : Int) + (1 : Int)) + (↑l.length : Int) + (1 : Int)) ∧
              in64 ((↑l.length : Int) + (1 : Int)) ∧
                (↑l.length : Int) + (1 : Int) ≠ (0 : Int) ∧
                  l.length ≤ (100000 : Nat) ∧
                    (0 : Int) ≤ (k.tmod ((↑l.length : Int) + (1 : Int)) + (↑l.length : Int) + (1 : Int)).tmod ((↑l.length : Int) + (1 : Int)) ∧
                      (k.tmod ((↑l.length : Int) + (1 : Int)) + (↑l.length : Int) + (1 : Int)).tmod ((↑l.length : Int) + (1 : Int)) ≤ (↑l.length : Int) ∧
                        (List.take ((k.tmod ((↑l.length : Int) + (1 : Int)) + (↑l.length : Int) + (1 : Int)).tmod ((↑l.length : Int) + (1 : Int))).toNat l).length ≤ (100000 : Nat) ∧
                          (0 : Int) ≤ (k.tmod ((↑l.length : Int) + (1 : Int)) + (↑l.length : Int) + (1 : Int)).tmod ((↑l.length : Int) + (1 : Int)) ∧
                            (k.tmod ((↑l.length : Int) + (1 : Int)) + (↑l.length : Int) + (1 : Int)).tmod ((↑l.length : Int) + (1 : Int)) ≤ (↑l.length : Int) ∧
                              (List.drop ((k.tmod ((↑l.length : Int) + (1 : Int)) + (↑l.length : Int) + (1 : Int)).tmod ((↑l.length : Int) + (1 : Int))).toNat l).length ≤ (100000 : Nat) ∧
                                ((foldE (foldS dec l)).nr ≠ (0 : Int) →
                                    (¬((foldE (foldS dec (List.take ((k.tmod ((↑l.length : Int) + (1 : Int)) + (↑l.length : Int) + (1 : Int)).tmod ((↑l.length : Int) + (1 : Int))).toNat l))).nr ≠
                                                (0 : Int) ∧
                                              (foldE
                                                    (foldS dec
                                                      (List.take ((k.tmod ((↑l.length : Int) + (1 : Int)) + (↑l.length : Int) + (1 : Int)).tmod ((↑l.length : Int) + (1 : Int))).toNat l))).at_ =
                                                (foldE (foldS dec l)).at_) ∧
                                          (foldE (foldS dec (List.take ((k.tmod ((↑l.length : Int) + (1 : Int)) + (↑l.length : Int) + (1 : Int)).tmod ((↑l.length : Int) + (1 : Int))).toNat l))).nr =
                                            (0 : Int) →
                                        in64 ((foldE (foldS dec l)).at_ - (k.tmod ((↑l.length : Int) + (1 : Int)) + (↑l.length : Int) + (1 : Int)).tmod ((↑l.length : Int) + (1 : Int)))) ∧
                                      Q
                                        (decide
                                          (((foldE (foldS dec (List.take ((k.tmod ((↑l.length : Int) + (1 : Int)) + (↑l.length : Int) + (1 : Int)).tmod ((↑l.length : Int) + (1 : Int))).toNat l))).nr ≠
                                                  (0 : Int) ∧
                                                (foldE
                                                      (foldS dec
                                                        (List.take ((k.tmod ((↑l.length : Int) + (1 : Int)) + (↑l.length : Int) + (1 : Int)).tmod ((↑l.length : Int) + (1 : Int))).toNat l))).at_ =
                                                  (foldE (foldS dec l)).at_ ∨
                                              (foldE
                                                      (foldS dec
                                                        (List.take ((k.tmod ((↑l.length : Int) + (1 : Int)) + (↑l.length : Int) + (1 : Int)).tmod ((↑l.length : Int) + (1 : Int))).toNat l))).nr =
                                                  (0 : Int) ∧
                                                (foldE
                                                      (foldS dec
                                                        (List.drop ((k.tmod ((↑l.length : Int) + (1 : Int)) + (↑l.length : Int) + (1 : Int)).tmod ((↑l.length : Int) + (1 : Int))).toNat l))).at_ =
                                                  (foldE (foldS dec l)).at_ - (k.tmod ((↑l.length : Int) + (1 : Int)) + (↑l.length : Int) + (1 : Int)).tmod ((↑l.length : Int) + (1 : Int))) ∧
                                            true = true))) ∧
                                  (¬(foldE (foldS dec l)).nr ≠ (0 : Int) →
                                    in64
                                        ((foldE (foldS dec (List.take ((k.tmod ((↑l.length : Int) + (1 : Int)) + (↑l.length : Int) + (1 : Int)).tmod ((↑l.length : Int) + (1 : Int))).toNat l))).nr +
                                          (foldE (foldS dec (List.drop ((k.tmod ((↑l.length : Int) + (1 : Int)) + (↑l.length : Int) + (1 : Int)).tmod ((↑l.length : Int) + (1 : Int))).toNat l))).nr) ∧
                                      ((foldE (foldS dec (List.take ((k.tmod ((↑l.length : Int) + (1 : Int)) + (↑l.length : Int) + (1 : Int)).tmod ((↑l.length : Int) + (1 : Int))).toNat l))).nr +
                                              (foldE
                                                  (foldS dec (List.drop ((k.tmod ((↑l.length : Int) + (1 : Int)) + (↑l.length : Int) + (1 : Int)).tmod ((↑l.length : Int) + (1 : Int))).toNat l))).nr =
                                            (0 : Int) →
                                          List.length
                                                (foldS dec (List.take ((k.tmod ((↑l.length : Int) + (1 : Int)) + (↑l.length : Int) + (1 : Int)).tmod ((↑l.length : Int) + (1 : Int))).toNat l)).fst +
                                              List.length
                                                (foldS dec (List.drop ((k.tmod ((↑l.length : Int) + (1 : Int)) + (↑l.length : Int) + (1 : Int)).tmod ((↑l.length : Int) + (1 : Int))).toNat l)).fst ≤
                                            (9223372036854775807 : Nat)) ∧
                                        Q
                                          (decide
                                            (((foldE
                                                        (foldS dec
                                                          (List.take ((k.tmod ((↑l.length : Int) + (1 : Int)) + (↑l.length : Int) + (1 : Int)).tmod ((↑l.length : Int) + (1 : Int))).toNat l))).nr +
                                                    (foldE
                                                        (foldS dec
                                                          (List.drop ((k.tmod ((↑l.length : Int) + (1 : Int)) + (↑l.length : Int) + (1 : Int)).tmod ((↑l.length : Int) + (1 : Int))).toNat l))).nr =
                                                  (0 : Int) ∧
                                                (foldS dec l).fst =
                                                  (foldS dec (List.take ((k.tmod ((↑l.length : Int) + (1 : Int)) + (↑l.length : Int) + (1 : Int)).tmod ((↑l.length : Int) + (1 : Int))).toNat l)).fst ++
                                                    (foldS dec
                                                        (List.drop ((k.tmod ((↑l.length : Int) + (1 : Int)) + (↑l.length : Int) + (1 : Int)).tmod ((↑l.length : Int) + (1 : Int))).toNat l)).fst) ∧
                                              true = true))))
set_option maxRecDepth 100000 in
theorem V7_ok {l : List Str} {k : Int} {Q : Bool → Prop} (h : V7 l k Q) : vcFun (E := N17) (inlN an7 2) (an7 7) Tryd.f7 [.sl (N := U) 9 l, .int .i64 k] [] [] 0 (resP N17 [.bool] Q) := Eq.mp (show V7 l k Q = vcFun (E := N17) (inlN an7 2) (an7 7) Tryd.f7 [.sl (N := U) 9 l, .int .i64 k] [] [] 0 (resP N17 [.bool] Q) by kernel_rfl) h
theorem p7 (l : List Str) (k : Int) (hs : l.length ≤ 9223372036854775807) : V7 l k (fun y0 => y0 = true) := by
  unfold V7
  refine ⟨hs, fun _ => rfl, fun h => ?_⟩
  have h := Classical.not_not.1 h
  have hf := (few_of h).1
  have hlen := fold_len h
  have m1 := Int.tmod_lt_of_pos k (show (0 : Int) < (l.length : Int) + 1 by omega)
  have m2 := Int.lt_tmod_of_pos k (show (0 : Int) < (l.length : Int) + 1 by omega)
  generalize k.tmod ((l.length : Int) + 1) = m at m1 m2 ⊢
  have q1 := Int.tmod_lt_of_pos (m + l.length + 1) (show (0 : Int) < (l.length : Int) + 1 by omega)
  have q2 := Int.tmod_nonneg ((l.length : Int) + 1) (show (0 : Int) ≤ m + l.length + 1 by omega)
  generalize (m + (l.length : Int) + 1).tmod ((l.length : Int) + 1) = q at q1 q2 ⊢
  have e1 := foldE_nr l
  have e2 := foldE_nr (l.take q.toNat)
  have e3 := foldE_nr (l.drop q.toNat)
  rw [e1.1, e1.2, e2.1, e2.2, e3.1, e3.2]
  have hl : l = l.take q.toNat ++ l.drop q.toNat := (List.take_append_drop _ _).symm
  have la : ((l.take q.toNat).length : Int) = q := by rw [List.length_take]; omega
  have lb : (l.drop q.toNat).length ≤ l.length := by rw [List.length_drop]; omega
  generalize l.take q.toNat = a at hl la e2 ⊢
  generalize l.drop q.toNat = b at hl lb e3 ⊢
  have ma : ∀ r ∈ a, r ∈ l := fun r hr => by rw [hl]; exact List.mem_append_left _ hr
  have mb : ∀ r ∈ b, r ∈ l := fun r hr => by rw [hl]; exact List.mem_append_right _ hr
  refine ⟨⟨by omega, by omega⟩, by omega, ⟨by omega, by omega⟩, ⟨by omega, by omega⟩, ⟨by omega, by omega⟩, by omega, by omega, q2, by omega, by omega, q2, by omega, by omega, fun hne => ?_, fun hz => ?_⟩
  · rcases foldS_cases l with ⟨_, e⟩ | ⟨hbad, en, at_, e, he, ha1, ha2⟩
    · rw [e] at hne; exact absurd rfl hne
    · by_cases hab : ∀ r ∈ a, rMay r = 0
      · have hbb : ¬ ∀ r ∈ b, rMay r = 0 := fun hb => hbad fun r hr => by
          rw [hl] at hr
          rcases List.mem_append.1 hr with hr | hr
          · exact hab r hr
          · exact hb r hr
        have eb : foldS dec l = ([], (foldS dec b).2.1, (foldS dec b).2.2 - 0 + (0 + (a.length : Int))) := by
          rw [hl]
          unfold foldS
          rw [foldG_app dec a b hab, foldG_shift dec (b := []) (i := 0) b hbb]
        have ea := foldS_ok hab
        rw [e] at eb ⊢
        obtain ⟨-, c1, c2⟩ := Prod.mk.inj eb |>.imp id Prod.mk.inj
        rw [ea]
        dsimp only
        exact ⟨fun _ => ⟨by omega, by omega⟩, decide_eq_true ⟨.inr ⟨rfl, by omega⟩, rfl⟩⟩
      · have ea : foldS dec l = foldS dec a := by
          rw [hl]; unfold foldS; rw [foldG_app_bad dec a b hab]
        rw [ea] at e ⊢
        rw [e]
        dsimp only
        exact ⟨fun _ => ⟨by omega, by omega⟩, decide_eq_true ⟨.inl ⟨by omega, rfl⟩, rfl⟩⟩
  · rcases foldS_cases l with ⟨hok, e⟩ | ⟨hbad, en, at_, e, he, ha1, ha2⟩
    · have ea := foldS_ok fun r hr => hok r (ma r hr)
      have eb := foldS_ok fun r hr => hok r (mb r hr)
      have ef : l.flatMap (rowGo dec 75) = a.flatMap (rowGo dec 75) ++ b.flatMap (rowGo dec 75) := by rw [hl, List.flatMap_append]
      rw [e] at hlen
      rw [e, ea, eb]
      dsimp only at hlen ⊢
      rw [ef] at hlen ⊢
      rw [List.length_append] at hlen
      exact ⟨⟨by omega, by omega⟩, fun _ => by omega, decide_eq_true ⟨⟨rfl, rfl⟩, rfl⟩⟩
    · rw [e] at hz
      dsimp only at hz
      exact absurd (by omega) hz
def c7 (a : List (SV U)) : Option (Q1 U) := match a with | [.sl 9 l, .int .i64 k] => some ⟨[List.length (α := Str) l ≤ 9223372036854775807], [], blB true⟩ | _ => none
set_option maxRecDepth 100000 in
theorem c7_ok (args : List (SV U)) (q : Q1 U) (h : c7 args = some q) (ho : allP q.ob) : LendOK N17 7 args ⟨q.ob, q.hy, q.v, []⟩ := by
  unfold c7 at h
  split at h
  · rename_i l k
    cases h
    exact lend1 N17_ok Tryd.func7 (k := .bool) (x := true) trivial (V7_ok (p7 l k ho.1)) 0
  · cases h
noncomputable def N7 : Env := N17.addL 7 c7
theorem N7_ok : EnvOK N7 := N17_ok.addL Tryd.call7 c7_ok
end Go.Proofs.YtadgfmmmdhlljaaDoor
