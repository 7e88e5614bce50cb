/- A statement and its own function. -/
import Derived.Test.YtadgfmmmdhlljaaDoorK9
import Derived.Test.YtadgfmmmdhlljaaDoorZLQ
set_option linter.unusedVariables false
set_option linter.unusedSimpArgs false
namespace Go.Proofs.YtadgfmmmdhlljaaDoor
open Go Go.Wk Go.Wl Go.Rx Go.Fo Go.Li 
def an5 : Nat → Ann := fun | 5 => ⟨95, fun | 10 => some ⟨[0, 5, 53], [.slot 54 (.int .i64)]⟩ | _ => none, fun  | _ => none⟩ | _ => ⟨0, fun _ => none, fun _ => none⟩
def V5 (l : List Str) (Q : Bool → Prop) : Prop :=
l.length ≤ (9223372036854775807 : Nat) ∧
  (¬fewS l = true → Q (decide (true = true))) ∧
    (¬¬fewS l = true →
      l.length ≤ (100000 : Nat) ∧
        ((foldE (foldS dec l)).nr ≠ (0 : Int) → Q (decide ((((foldS dec l).fst = [] ∧ (1 : Int) ≤ (foldE (foldS dec l)).at_) ∧ (foldE (foldS dec l)).at_ ≤ (↑l.length : Int)) ∧ true = true))) ∧
          (¬(foldE (foldS dec l)).nr ≠ (0 : Int) →
            List.length (foldS dec l).fst ≤ (100000 : Nat) ∧
              ((uE (unfoldS (foldS dec l).fst)).nr ≠ (0 : Int) ∨ (↑(uR (unfoldS (foldS dec l).fst)).fst.length : Int) ≠ (↑l.length : Int) → Q false) ∧
                (¬((uE (unfoldS (foldS dec l).fst)).nr ≠ (0 : Int) ∨ (↑(uR (unfoldS (foldS dec l).fst)).fst.length : Int) ≠ (↑l.length : Int)) →
                  ∃ (I : Int → Prop),
                    ∃ (m : Int → Nat),
                      I (0 : Int) ∧
                        ∀ (x : Int),
                          I x →
                            (x < (↑(uR (unfoldS (foldS dec l).fst)).fst.length : Int) →
                                (0 : Int) ≤ x ∧
                                  x < (↑(uR (unfoldS (foldS dec l).fst)).fst.length : Int) ∧
                                    (in64 (ix (uR (unfoldS (foldS dec l).fst)).fst x).At →
                                      (0 : Int) ≤ x ∧
                                        x < (↑l.length : Int) ∧
                                          (¬(ix (uR (unfoldS (foldS dec l).fst)).fst x).Text ≠ ix l x → (0 : Int) ≤ x) ∧
                                            (¬(ix (uR (unfoldS (foldS dec l).fst)).fst x).Text ≠ ix l x → x < (↑(uR (unfoldS (foldS dec l).fst)).fst.length : Int)) ∧
                                              ((¬(ix (uR (unfoldS (foldS dec l).fst)).fst x).Text ≠ ix l x → in64 (ix (uR (unfoldS (foldS dec l).fst)).fst x).At) →
                                                (¬((ix (uR (unfoldS (foldS dec l).fst)).fst x).Text ≠ ix l x ∨ (ix (uR (unfoldS (foldS dec l).fst)).fst x).At < (1 : Int)) ∧ (0 : Int) < x →
                                                    in64 (x - (1 : Int))) ∧
                                                  (¬((ix (uR (unfoldS (foldS dec l).fst)).fst x).Text ≠ ix l x ∨ (ix (uR (unfoldS (foldS dec l).fst)).fst x).At < (1 : Int)) ∧ (0 : Int) < x →
                                                      (0 : Int) ≤ x - (1 : Int)) ∧
                                                    (¬((ix (uR (unfoldS (foldS dec l).fst)).fst x).Text ≠ ix l x ∨ (ix (uR (unfoldS (foldS dec l).fst)).fst x).At < (1 : Int)) ∧ (0 : Int) < x →
                                                        x - (1 : Int) < (↑(uR (unfoldS (foldS dec l).fst)).fst.length : Int)) ∧
                                                      ((¬((ix (uR (unfoldS (foldS dec l).fst)).fst x).Text ≠ ix l x ∨ (ix (uR (unfoldS (foldS dec l).fst)).fst x).At < (1 : Int)) ∧ (0 : Int) < x →
                                                          in64 (ix (uR (unfoldS (foldS dec l).fst)).fst (x - (1 : Int))).At) →
                                                        (¬((ix (uR (unfoldS (foldS dec l).fst)).fst x).Text ≠ ix l x ∨ (ix (uR (unfoldS (foldS dec l).fst)).fst x).At < (1 : Int)) ∧ (0 : Int) < x →
                                                            (0 : Int) ≤ x) ∧
                                                          (¬((ix (uR (unfoldS (foldS dec l).fst)).fst x).Text ≠ ix l x ∨ (ix (uR (unfoldS (foldS dec l).fst)).fst x).At < (1 : Int)) ∧ (0 : Int) < x →
                                                              x < (↑(uR (unfoldS (foldS dec l).fst)).fst.length : Int)) ∧
                                                            ((¬((ix (uR (unfoldS (foldS dec l).fst)).fst x).Text ≠ ix l x ∨ (ix (uR (unfoldS (foldS dec l).fst)).fst x).At < (1 : Int)) ∧
                                                                  (0 : Int) < x →
                                                                in64 (ix (uR (unfoldS (foldS dec l).fst)).fst x).At) →
                                                              (((ix (uR (unfoldS (foldS dec l).fst)).fst x).Text ≠ ix l x ∨ (ix (uR (unfoldS (foldS dec l).fst)).fst x).At < (1 : Int)) ∨
                                                                    (0 : Int) < x ∧ (ix (uR (unfoldS (foldS dec l).fst)).fst x).At ≤ (ix (uR (unfoldS (foldS dec l).fst)).fst (x - (1 : Int))).At →
                                                                  Q false) ∧
                                                                (¬(((ix (uR (unfoldS (foldS dec l).fst)).fst x).Text ≠ ix l x ∨ (ix (uR (unfoldS (foldS dec l).fst)).fst x).At < (1 : Int)) ∨
                                                                      (0 : Int) < x ∧ (ix (uR (unfoldS (foldS dec l).fst)).fst x).At ≤ (ix (uR (unfoldS (foldS dec l).fst)).fst (x - (1 : Int))).At) →
                                                                  in64 (x + (1 : Int)) ∧ I (x + (1 : Int)) ∧ m (x + (1 : Int)) < m x)))))) ∧
                              (¬x < (↑(uR (unfoldS (foldS dec l).fst)).fst.length : Int) → Q (decide (true = true))))))
set_option maxRecDepth 100000 in
theorem V5_ok {l : List Str} {Q : Bool → Prop} (h : V5 l Q) : vcFun (E := N17) (inlN an5 2) (an5 5) Tryd.f5 [.sl (N := U) 9 l] [] [] 0 (resP N17 [.bool] Q) := Eq.mp (show V5 l Q = vcFun (E := N17) (inlN an5 2) (an5 5) Tryd.f5 [.sl (N := U) 9 l] [] [] 0 (resP N17 [.bool] Q) by kernel_rfl) h
theorem p5 (l : List Str) (hs : l.length ≤ 9223372036854775807) : V5 l (fun y0 => y0 = true) := by
  unfold V5
  refine ⟨hs, fun _ => rfl, fun h => ?_⟩
  have h := Classical.not_not.1 h
  have hf := (few_of h).1
  have hlen := fold_len h
  obtain ⟨h1, h2⟩ := foldE_nr l
  rw [h1, h2]
  rcases foldS_cases l with ⟨hok, e⟩ | ⟨hbad, en, a, e, he, ha1, ha2⟩
  · obtain ⟨out, hu, ht, hat, hpw⟩ := unfold_fold dec hok (by omega)
    rw [e] at hlen ⊢
    dsimp only at hlen ⊢
    rw [hu]
    have hl := map_len ht
    refine ⟨by omega, fun h => absurd rfl h, fun _ => ⟨by omega, fun h => ?_, fun _ => ⟨fun x => 0 ≤ x ∧ x ≤ out.length, fun x => (out.length - x).toNat, ⟨by omega, by omega⟩, ?_⟩⟩⟩
    · rcases h with h | h
      · exact absurd rfl h
      · exact absurd (show (out.length : Int) = l.length by omega) h
    rintro x ⟨h0, hx1⟩
    show (x < (out.length : Int) → _) ∧ (¬ x < (out.length : Int) → _)
    refine ⟨fun hx => ?_, fun _ => rfl⟩
    have t1 : (ix out x).Text = ix l x := ix_map ht h0 hx
    have t2 : 1 ≤ (ix out x).At := hat _ (mem_of_ix h0 hx)
    have t3 : 0 < x → (ix out (x - 1)).At < (ix out x).At := fun hp => rise_at hpw hp hx
    refine ⟨h0, hx, fun _ => ⟨h0, by omega, fun _ => h0, fun _ => hx, fun _ => ⟨fun c => ⟨by have := c.2; omega, by omega⟩, fun c => by have := c.2; omega, fun c => ?_, fun _ => ⟨fun _ => h0, fun _ => hx, fun _ => ⟨fun hb => ?_, fun _ => ⟨⟨by omega, by omega⟩, ⟨by omega, by omega⟩, by dsimp only; omega⟩⟩⟩⟩⟩⟩
    · have hx' : x < (out.length : Int) := hx
      show x - 1 < (out.length : Int)
      omega
    · rcases hb with (hb | hb) | ⟨hp, hb⟩
      · exact absurd t1 hb
      · exact absurd t2 (by have hb' : (ix out x).At < 1 := hb; omega)
      · have hb' : (ix out x).At ≤ (ix out (x - 1)).At := hb
        have := t3 hp
        omega
  · rw [e]
    dsimp only
    exact ⟨by omega, fun _ => decide_eq_true ⟨⟨⟨rfl, ha1⟩, ha2⟩, rfl⟩, fun h => absurd (by omega) h⟩
def c5 (a : List (SV U)) : Option (Q1 U) := match a with | [.sl 9 l] => some ⟨[List.length (α := Str) l ≤ 9223372036854775807], [], blB true⟩ | _ => none
set_option maxRecDepth 100000 in
theorem c5_ok (args : List (SV U)) (q : Q1 U) (h : c5 args = some q) (ho : allP q.ob) : LendOK N17 5 args ⟨q.ob, q.hy, q.v, []⟩ := by
  unfold c5 at h
  split at h
  · rename_i l
    cases h
    exact lend1 N17_ok Tryd.func5 (k := .bool) (x := true) trivial (V5_ok (p5 l ho.1)) 0
  · cases h
noncomputable def N5 : Env := N17.addL 5 c5
theorem N5_ok : EnvOK N5 := N17_ok.addL Tryd.call5 c5_ok
end Go.Proofs.YtadgfmmmdhlljaaDoor
