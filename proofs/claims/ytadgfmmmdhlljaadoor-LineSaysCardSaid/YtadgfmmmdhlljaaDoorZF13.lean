/- A statement and its own function. -/
import Derived.Test.YtadgfmmmdhlljaaDoorJ10
set_option linter.unusedVariables false
set_option linter.unusedSimpArgs false
namespace Go.Proofs.YtadgfmmmdhlljaaDoor
open Go Go.Wk Go.Wl Go.Rx Go.Fo Go.Li 
def an13 : Nat → Ann := fun | 13 => ⟨137, fun | 18 => some ⟨[0, 9, 118], [.slot 119 (.int .i64)]⟩ | 4 => some ⟨[0], [.slot 3 (.int .i64), .slot 4 .bool, .slot 5 (.int .i64)]⟩ | 8 => some ⟨[0, 3, 5], [.slot 4 .bool, .slot 6 (.int .i64)]⟩ | _ => none, fun  | _ => none⟩ | _ => ⟨0, fun _ => none, fun _ => none⟩
def V13 (vs : List Str) (Q : Bool → Prop) : Prop :=
∃ (I : Int → Bool → Int → Prop),
  ∃ (m : Int → Bool → Int → Nat),
    I (0 : Int) (decide ((0 : Int) < (↑vs.length : Int) ∧ (↑vs.length : Int) ≤ (20 : Int))) (0 : Int) ∧
      ∀ (x : Int) (x_1 : Bool) (x_2 : Int),
        I x x_1 x_2 →
          (x_2 < (↑vs.length : Int) ∧ x_2 ≤ (20 : Int) →
              (0 : Int) ≤ x_2 ∧
                x_2 < (↑vs.length : Int) ∧
                  in64 (x + bif false then max (↑(ix vs x_2).length : Int) (5000 : Int) else min (↑(ix vs x_2).length : Int) (5000 : Int)) ∧
                    ∃ (I_1 : Bool → Int → Prop),
                      ∃ (m_1 : Bool → Int → Nat),
                        I_1 (decide (x_1 = true)) (0 : Int) ∧
                          ∀ (x_3 : Bool) (x_4 : Int),
                            I_1 x_3 x_4 →
                              (0 : Int) ≤ x_2 ∧
                                x_2 < (↑vs.length : Int) ∧
                                  (x_4 < (↑(ix vs x_2).length : Int) ∧ x_4 < (5000 : Int) →
                                      (x_3 = true → (0 : Int) ≤ x_2) ∧
                                        (x_3 = true → x_2 < (↑vs.length : Int)) ∧
                                          (x_3 = true → (0 : Int) ≤ x_4) ∧
                                            (x_3 = true → x_4 < (↑(ix vs x_2).length : Int)) ∧
                                              (x_3 = true ∧ ¬standsB (ix (ix vs x_2) x_4) = true → (0 : Int) ≤ x_2) ∧
                                                (x_3 = true ∧ ¬standsB (ix (ix vs x_2) x_4) = true → x_2 < (↑vs.length : Int)) ∧
                                                  (x_3 = true ∧ ¬standsB (ix (ix vs x_2) x_4) = true → (0 : Int) ≤ x_4) ∧
                                                    (x_3 = true ∧ ¬standsB (ix (ix vs x_2) x_4) = true → x_4 < (↑(ix vs x_2).length : Int)) ∧
                                                      in64 (x_4 + (1 : Int)) ∧
                                                        I_1 (decide (x_3 = true ∧ (standsB (ix (ix vs x_2) x_4) = true ∨ ix (ix vs x_2) x_4 = (10 : UInt8)))) (x_4 + (1 : Int)) ∧
                                                          m_1 (decide (x_3 = true ∧ (standsB (ix (ix vs x_2) x_4) = true ∨ ix (ix vs x_2) x_4 = (10 : UInt8)))) (x_4 + (1 : Int)) < m_1 x_3 x_4) ∧
                                    (¬(x_4 < (↑(ix vs x_2).length : Int) ∧ x_4 < (5000 : Int)) →
                                      in64 (x_2 + (1 : Int)) ∧
                                        I (x + bif false then max (↑(ix vs x_2).length : Int) (5000 : Int) else min (↑(ix vs x_2).length : Int) (5000 : Int)) (decide (x_3 = true)) (x_2 + (1 : Int)) ∧
                                          m (x + bif false then max (↑(ix vs x_2).length : Int) (5000 : Int) else min (↑(ix vs x_2).length : Int) (5000 : Int)) (decide (x_3 = true))
                                              (x_2 + (1 : Int)) <
                                            m x x_1 x_2)) ∧
            (¬(x_2 < (↑vs.length : Int) ∧ x_2 ≤ (20 : Int)) →
              (¬x_1 = true ∨ (2000 : Int) < x → Q (decide (true = true))) ∧
                (¬(¬x_1 = true ∨ (2000 : Int) < x) →
                  vs.length ≠ (0 : Nat) ∧
                    vs.length ≤ (1000000 : Nat) ∧
                      smallP (Prp.mk [] [(65 : UInt8)] [Param.mk [(88 : UInt8)] vs] [(118 : UInt8)]) ∧
                        List.length (printS (Prp.mk [] [(65 : UInt8)] [Param.mk [(88 : UInt8)] vs] [(118 : UInt8)])).fst ≤ (100000000 : Nat) ∧
                          in64
                              ((printS (Prp.mk [] [(65 : UInt8)] [Param.mk [(88 : UInt8)] vs] [(118 : UInt8)])).snd.nr +
                                (parseS (printS (Prp.mk [] [(65 : UInt8)] [Param.mk [(88 : UInt8)] vs] [(118 : UInt8)])).fst).snd.nr) ∧
                            (¬((printS (Prp.mk [] [(65 : UInt8)] [Param.mk [(88 : UInt8)] vs] [(118 : UInt8)])).snd.nr +
                                        (parseS (printS (Prp.mk [] [(65 : UInt8)] [Param.mk [(88 : UInt8)] vs] [(118 : UInt8)])).fst).snd.nr ≠
                                      (0 : Int) ∨
                                    (↑(parseS (printS (Prp.mk [] [(65 : UInt8)] [Param.mk [(88 : UInt8)] vs] [(118 : UInt8)])).fst).fst.Params.length : Int) ≠ (1 : Int)) →
                                (0 : Int) ≤ (0 : Int)) ∧
                              (¬((printS (Prp.mk [] [(65 : UInt8)] [Param.mk [(88 : UInt8)] vs] [(118 : UInt8)])).snd.nr +
                                          (parseS (printS (Prp.mk [] [(65 : UInt8)] [Param.mk [(88 : UInt8)] vs] [(118 : UInt8)])).fst).snd.nr ≠
                                        (0 : Int) ∨
                                      (↑(parseS (printS (Prp.mk [] [(65 : UInt8)] [Param.mk [(88 : UInt8)] vs] [(118 : UInt8)])).fst).fst.Params.length : Int) ≠ (1 : Int)) →
                                  (0 : Int) < (↑(parseS (printS (Prp.mk [] [(65 : UInt8)] [Param.mk [(88 : UInt8)] vs] [(118 : UInt8)])).fst).fst.Params.length : Int)) ∧
                                ((((printS (Prp.mk [] [(65 : UInt8)] [Param.mk [(88 : UInt8)] vs] [(118 : UInt8)])).snd.nr +
                                              (parseS (printS (Prp.mk [] [(65 : UInt8)] [Param.mk [(88 : UInt8)] vs] [(118 : UInt8)])).fst).snd.nr ≠
                                            (0 : Int) ∨
                                          (↑(parseS (printS (Prp.mk [] [(65 : UInt8)] [Param.mk [(88 : UInt8)] vs] [(118 : UInt8)])).fst).fst.Params.length : Int) ≠ (1 : Int)) ∨
                                        (↑(ix (parseS (printS (Prp.mk [] [(65 : UInt8)] [Param.mk [(88 : UInt8)] vs] [(118 : UInt8)])).fst).fst.Params (0 : Int)).Values.length : Int) ≠
                                          (↑vs.length : Int)) ∨
                                      (parseS (printS (Prp.mk [] [(65 : UInt8)] [Param.mk [(88 : UInt8)] vs] [(118 : UInt8)])).fst).fst.Value ≠ [(118 : UInt8)] →
                                    Q false) ∧
                                  (¬((((printS (Prp.mk [] [(65 : UInt8)] [Param.mk [(88 : UInt8)] vs] [(118 : UInt8)])).snd.nr +
                                                (parseS (printS (Prp.mk [] [(65 : UInt8)] [Param.mk [(88 : UInt8)] vs] [(118 : UInt8)])).fst).snd.nr ≠
                                              (0 : Int) ∨
                                            (↑(parseS (printS (Prp.mk [] [(65 : UInt8)] [Param.mk [(88 : UInt8)] vs] [(118 : UInt8)])).fst).fst.Params.length : Int) ≠ (1 : Int)) ∨
                                          (↑(ix (parseS (printS (Prp.mk [] [(65 : UInt8)] [Param.mk [(88 : UInt8)] vs] [(118 : UInt8)])).fst).fst.Params (0 : Int)).Values.length : Int) ≠
                                            (↑vs.length : Int)) ∨
                                        (parseS (printS (Prp.mk [] [(65 : UInt8)] [Param.mk [(88 : UInt8)] vs] [(118 : UInt8)])).fst).fst.Value ≠ [(118 : UInt8)]) →
                                    ∃ (I : Int → Prop),
                                      ∃ (m : Int → Nat),
                                        I (0 : Int) ∧
                                          ∀ (x : Int),
                                            I x →
                                              (x < (↑vs.length : Int) →
                                                  (0 : Int) ≤ (0 : Int) ∧
                                                    (0 : Int) < (↑(parseS (printS (Prp.mk [] [(65 : UInt8)] [Param.mk [(88 : UInt8)] vs] [(118 : UInt8)])).fst).fst.Params.length : Int) ∧
                                                      (0 : Int) ≤ x ∧
                                                        x <
                                                            (↑(ix (parseS (printS (Prp.mk [] [(65 : UInt8)] [Param.mk [(88 : UInt8)] vs] [(118 : UInt8)])).fst).fst.Params (0 : Int)).Values.length :
                                                              Int) ∧
                                                          (0 : Int) ≤ x ∧
                                                            x < (↑vs.length : Int) ∧
                                                              (ix (ix (parseS (printS (Prp.mk [] [(65 : UInt8)] [Param.mk [(88 : UInt8)] vs] [(118 : UInt8)])).fst).fst.Params (0 : Int)).Values x ≠
                                                                    ix vs x →
                                                                  Q false) ∧
                                                                (¬ix (ix (parseS (printS (Prp.mk [] [(65 : UInt8)] [Param.mk [(88 : UInt8)] vs] [(118 : UInt8)])).fst).fst.Params (0 : Int)).Values x ≠
                                                                      ix vs x →
                                                                  in64 (x + (1 : Int)) ∧ I (x + (1 : Int)) ∧ m (x + (1 : Int)) < m x)) ∧
                                                (¬x < (↑vs.length : Int) → Q (decide (true = true))))))
set_option maxRecDepth 100000 in
theorem V13_ok {vs : List Str} {Q : Bool → Prop} (h : V13 vs Q) : vcFun (E := N37) (inlMN N37 M103 an13 2) (an13 13) Tryd.f13 [.sl (N := U) 9 vs] [] [] 0 (resP N37 [.bool] Q) := Eq.mp (show V13 vs Q = vcFun (E := N37) (inlMN N37 M103 an13 2) (an13 13) Tryd.f13 [.sl (N := U) 9 vs] [] [] 0 (resP N37 [.bool] Q) by kernel_rfl) h
theorem p13 (vs : List Str) (hs : vs.length ≤ 9223372036854775807) : V13 vs (fun y0 => y0 = true) := by
  unfold V13
  simp only [cond_false]
  refine ⟨fun n g i => 0 ≤ i ∧ i ≤ vs.length ∧ i ≤ 21 ∧ 0 ≤ n ∧ n ≤ i * 5000 ∧ (∀ j : Int, 0 ≤ j → j < i → min ((ix vs j).length : Int) 5000 ≤ n) ∧ (g = true → (0 < (vs.length : Int) ∧ (vs.length : Int) ≤ 20) ∧ ∀ j : Int, 0 ≤ j → j < i → ∀ k : Int, 0 ≤ k → k < (ix vs j).length → k < 5000 → saysB (ix (ix vs j) k) = true), fun _ _ i => ((vs.length : Int) - i).toNat, ⟨by omega, by omega, by omega, by omega, by omega, fun j _ _ => by omega, fun h => ⟨of_decide_eq_true h, fun j _ _ => by omega⟩⟩, ?_⟩
  rintro n g i ⟨i0, i1, i2, n0, n1, hn, hg⟩
  refine ⟨fun ⟨hi, hi2⟩ => ⟨i0, hi, ⟨by omega, by omega⟩, fun b k => 0 ≤ k ∧ k ≤ (ix vs i).length ∧ k ≤ 5000 ∧ (b = true → g = true ∧ ∀ j : Int, 0 ≤ j → j < k → saysB (ix (ix vs i) j) = true), fun _ k => (((ix vs i).length : Int) - k).toNat, ⟨by omega, by omega, by omega, fun h => ⟨of_decide_eq_true h, fun j _ _ => by omega⟩⟩, ?_⟩, fun hi => ?_⟩
  · rintro b k ⟨k0, k1, k2, hb⟩
    refine ⟨i0, hi, fun ⟨hk, hk2⟩ => ⟨fun _ => i0, fun _ => hi, fun _ => k0, fun _ => hk, fun _ => i0, fun _ => hi, fun _ => k0, fun _ => hk, ⟨by omega, by omega⟩, ⟨by omega, by omega, by omega, fun h => ?_⟩, by first | omega | (dsimp only; omega)⟩, fun hk => ⟨⟨by omega, by omega⟩, ⟨by omega, by omega, by omega, by omega, by omega, fun j j0 j1 => ?_, fun h => ?_⟩, by first | omega | (dsimp only; omega)⟩⟩
    · obtain ⟨h1, h2⟩ := of_decide_eq_true h
      obtain ⟨h3, h4⟩ := hb h1
      refine ⟨h3, fun j j0 j1 => ?_⟩
      by_cases e : j = k
      · subst e
        unfold saysB
        rcases h2 with h2 | h2
        · rw [h2]; rfl
        · rw [h2]; rfl
      · exact h4 j j0 (by omega)
    · by_cases e : j = i
      · subst e; omega
      · have := hn j j0 (by omega); omega
    · obtain ⟨h3, h4⟩ := hb (of_decide_eq_true h)
      obtain ⟨h5, h6⟩ := hg h3
      refine ⟨h5, fun j j0 j1 z z0 z1 z2 => ?_⟩
      by_cases e : j = i
      · subst e; exact h4 z z0 (by omega)
      · exact h6 j j0 (by omega) z z0 z1 z2
  · refine ⟨fun _ => rfl, fun hc => ?_⟩
    have hgt : g = true := Classical.byContradiction fun h => hc (.inl h)
    have hn2 : n ≤ 2000 := Int.not_lt.1 fun h => hc (.inr h)
    obtain ⟨⟨l0, l1⟩, hall⟩ := hg hgt
    have ei : i = vs.length := by omega
    have hv : ∀ v ∈ vs, v.length ≤ 2000 ∧ v.all saysB = true := fun v hv => by
      obtain ⟨j, hj, rfl⟩ := List.getElem_of_mem hv
      have a := hn j (by omega) (by omega)
      have b := hall j (by omega) (by omega)
      rw [ix_get (by omega)] at a b
      simp only [Int.toNat_natCast] at a b
      have hl : (vs[j]).length ≤ 2000 := by omega
      refine ⟨hl, all_ix fun k k0 k1 => b k k0 k1 (by omega)⟩
    have hr := says_right (l := vs) (fun e => by rw [e] at l0; exact absurd l0 (by decide)) (by omega) (fun v h => (hv v h).2)
    have sm := says_small (l := vs) (by omega) (fun v h => by have := (hv v h).1; omega)
    have hm := (rightB_iff.1 hr).2
    have tl := (tell_len sm hm).2
    have e : printS (Prp.mk [] [65] [Param.mk [88] vs] [118]) = (Li.tell (says vs), .nil) := print_yes hr
    rw [e]
    dsimp only
    rw [parse_tell hr]
    dsimp only [says]
    have ex : ix [Param.mk [88] vs] 0 = Param.mk [88] vs := rfl
    rw [ex]
    dsimp only
    have tl : (Li.tell (Prp.mk [] [65] [Param.mk [88] vs] [118])).length ≤ 5000000 := tl
    have one : (0 : Int) < (([Param.mk [88] vs] : List Param).length : Int) := by show (0 : Int) < ((1 : Nat) : Int); decide
    refine ⟨by omega, by omega, sm, by omega, by decide, fun _ => by decide, fun _ => one, fun h => ?_, fun _ => ?_⟩
    · rcases h with ((h | h) | h) | h
      · exact absurd rfl h
      · exact absurd rfl h
      · exact absurd rfl h
      · exact absurd rfl h
    · refine ⟨fun x => 0 ≤ x ∧ x ≤ vs.length, fun x => ((vs.length : Int) - x).toNat, ⟨by omega, by omega⟩, ?_⟩
      rintro x ⟨x0, x1⟩
      exact ⟨fun hx => ⟨by decide, one, x0, hx, x0, hx, fun h => absurd rfl h, fun _ => ⟨⟨by omega, by omega⟩, ⟨by omega, by omega⟩, by first | omega | (dsimp only; omega)⟩⟩, fun _ => rfl⟩
def c13s (vs : List Str) : Q1 U := ⟨[List.length (α := Str) vs ≤ 9223372036854775807], [], blB true⟩
def c13 (a : List (SV U)) : Option (Q1 U) := match a with | [.sl 9 vs] => some (c13s vs) | _ => none
set_option maxRecDepth 100000 in
theorem c13_ok (args : List (SV U)) (q : Q1 U) (h : c13 args = some q) (ho : allP q.ob) : LendOK N37 13 args ⟨q.ob, q.hy, q.v, []⟩ := by
  unfold c13 at h
  split at h
  · rename_i vs
    cases h
    exact lend1 N37_ok (inlMN_ok N37_ok M103_ok an13 2) Tryd.func13 (k := .bool) trivial (V13_ok (p13 vs ho.1)) 0
  · cases h
noncomputable def N13 : Env := N37.addL 13 c13
theorem N13_ok : EnvOK N13 := N37_ok.addL Tryd.call13 c13_ok
end Go.Proofs.YtadgfmmmdhlljaaDoor
