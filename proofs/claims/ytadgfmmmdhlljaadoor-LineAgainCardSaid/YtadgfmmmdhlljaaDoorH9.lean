/- 19 texts, one behind the other. -/
import Derived.Test.YtadgfmmmdhlljaaDoorH8
import Derived.Test.YtadgfmmmdhlljaaDoorShelf
set_option linter.unusedVariables false
set_option linter.unusedSimpArgs false
section
namespace Go.Proofs.YtadgfmmmdhlljaaDoor
open Go Go.Wk Go.Wl Go.Rx Go.Fo Go.Li 
def an28 : Nat → Ann := fun | 28 => ⟨23, fun _ => none, fun  | _ => none⟩ | 64 => ⟨72, fun | 10 => some ⟨[2, 4, 5], [.own 2 [.str, .str, (.acc 59), .str], .own 4 [.str], .own 5 [.str, .str, (.acc 59), .str]]⟩ | _ => none, fun | 7 => some ⟨[2, 3, 4, 5], [.slot 6 .str, .slot 7 .err, .own 4 [.str], .own 5 [.str, .str, (.acc 59), .str]]⟩ | _ => none⟩ | 104 => ⟨42, fun | 2 => some ⟨[0, 1], [.slot 5 (.int .i64)]⟩ | _ => none, fun  | _ => none⟩ | _ => ⟨0, fun _ => none, fun _ => none⟩
def V28 (s : Str) (Q : Prp → Err → Prop) : Prop :=
List.length s ≤ (1000000000 : Nat) ∧
  ∃ (J : List UInt8 → Err → List UInt8 → List UInt8 → List UInt8 → List Param → List UInt8 → Prop),
    ((nE s = Err.nil →
          ((hdIs (46 : UInt8) (List.dropWhile letterB s)).isSome = true →
              List.length ((hdIs (46 : UInt8) (List.dropWhile letterB s)).getD (List.dropWhile letterB s)) ≤ (1000000000 : Nat) ∧
                J (upper (List.takeWhile letterB ((hdIs (46 : UInt8) (List.dropWhile letterB s)).getD (List.dropWhile letterB s))))
                  (nE ((hdIs (46 : UInt8) (List.dropWhile letterB s)).getD (List.dropWhile letterB s)))
                  (List.dropWhile letterB ((hdIs (46 : UInt8) (List.dropWhile letterB s)).getD (List.dropWhile letterB s))) (upper (List.takeWhile letterB s)) [] [] []) ∧
            (¬(hdIs (46 : UInt8) (List.dropWhile letterB s)).isSome = true →
              J (upper (List.takeWhile letterB s)) (nE s) ((hdIs (46 : UInt8) (List.dropWhile letterB s)).getD (List.dropWhile letterB s)) [] [] [] [])) ∧
        (¬nE s = Err.nil → J (upper (List.takeWhile letterB s)) (nE s) (List.dropWhile letterB s) [] [] [] [])) ∧
      ∀ (x : List UInt8) (x_1 : Err) (x_2 x_3 x_4 : List UInt8) (x_5 : List Param) (x_6 : List UInt8),
        J x x_1 x_2 x_3 x_4 x_5 x_6 →
          (x_1 ≠ Err.nil →
              (x_1.is (11 : Int) → Q (Prp.mk [] [] [] []) (Err.no (11 : Int))) ∧
                (¬x_1.is (11 : Int) →
                  x_5.length ≤ (1000000000 : Nat) ∧
                    (manyB (Prp.mk x_3 x_4 x_5 x_6) = true → Q (Prp.mk [] [] [] []) (Err.no (5 : Int))) ∧ (¬manyB (Prp.mk x_3 x_4 x_5 x_6) = true → Q (Prp.mk x_3 x_4 x_5 x_6) Err.nil))) ∧
            (¬x_1 ≠ Err.nil →
              ∃ (I : List UInt8 → List UInt8 → List Param → List UInt8 → List UInt8 → List UInt8 → List UInt8 → List Param → List UInt8 → Prop),
                ∃ (m : List UInt8 → List UInt8 → List Param → List UInt8 → List UInt8 → List UInt8 → List UInt8 → List Param → List UInt8 → Nat),
                  I [] [] [] [] x_2 x_3 x x_5 x_6 ∧
                    ∀ (x x_7 : List UInt8) (x_8 : List Param) (x_9 x_10 x_11 x_12 : List UInt8) (x_13 : List Param) (x_14 : List UInt8),
                      I x x_7 x_8 x_9 x_10 x_11 x_12 x_13 x_14 →
                        ((hdIs (59 : UInt8) x_10).isSome = true →
                            List.length ((hdIs (59 : UInt8) x_10).getD x_10) ≤ (100000000 : Nat) ∧
                              ((gP ((hdIs (59 : UInt8) x_10).getD x_10)).snd.fst ≠ Err.nil →
                                  ((gP ((hdIs (59 : UInt8) x_10).getD x_10)).snd.fst.is (11 : Int) → Q (Prp.mk [] [] [] []) (Err.no (11 : Int))) ∧
                                    (¬(gP ((hdIs (59 : UInt8) x_10).getD x_10)).snd.fst.is (11 : Int) →
                                      x_13.length ≤ (1000000000 : Nat) ∧
                                        (manyB (Prp.mk x_11 x_12 x_13 x_14) = true → Q (Prp.mk [] [] [] []) (Err.no (5 : Int))) ∧
                                          (¬manyB (Prp.mk x_11 x_12 x_13 x_14) = true → Q (Prp.mk x_11 x_12 x_13 x_14) Err.nil))) ∧
                                (¬(gP ((hdIs (59 : UInt8) x_10).getD x_10)).snd.fst ≠ Err.nil →
                                  (x_13.length + [Param.mk (gP ((hdIs (59 : UInt8) x_10).getD x_10)).fst.Name (gP ((hdIs (59 : UInt8) x_10).getD x_10)).fst.Values].length) *
                                        (some (40 : Nat)).getD (0 : Nat) ≤
                                      (140737488355328 : Nat) ∧
                                    I x x_7 x_8 x_9 (gP ((hdIs (59 : UInt8) x_10).getD x_10)).snd.snd x_11 x_12
                                        (x_13 ++ [Param.mk (gP ((hdIs (59 : UInt8) x_10).getD x_10)).fst.Name (gP ((hdIs (59 : UInt8) x_10).getD x_10)).fst.Values]) x_14 ∧
                                      m x x_7 x_8 x_9 (gP ((hdIs (59 : UInt8) x_10).getD x_10)).snd.snd x_11 x_12
                                          (x_13 ++ [Param.mk (gP ((hdIs (59 : UInt8) x_10).getD x_10)).fst.Name (gP ((hdIs (59 : UInt8) x_10).getD x_10)).fst.Values]) x_14 <
                                        m x x_7 x_8 x_9 x_10 x_11 x_12 x_13 x_14)) ∧
                          (¬(hdIs (59 : UInt8) x_10).isSome = true →
                            (¬(hdIs (58 : UInt8) ((hdIs (59 : UInt8) x_10).getD x_10)).isSome = true →
                                ((Err.w (153 : Nat) [(118 : UInt8), (97 : UInt8), (108 : UInt8), (117 : UInt8), (101 : UInt8)] (Err.no (11 : Int))).is (11 : Int) →
                                    Q (Prp.mk [] [] [] []) (Err.no (11 : Int))) ∧
                                  (¬(Err.w (153 : Nat) [(118 : UInt8), (97 : UInt8), (108 : UInt8), (117 : UInt8), (101 : UInt8)] (Err.no (11 : Int))).is (11 : Int) →
                                    x_13.length ≤ (1000000000 : Nat) ∧
                                      (manyB (Prp.mk x_11 x_12 x_13 x_14) = true → Q (Prp.mk [] [] [] []) (Err.no (5 : Int))) ∧
                                        (¬manyB (Prp.mk x_11 x_12 x_13 x_14) = true → Q (Prp.mk x_11 x_12 x_13 x_14) Err.nil))) ∧
                              (¬¬(hdIs (58 : UInt8) ((hdIs (59 : UInt8) x_10).getD x_10)).isSome = true →
                                ∃ (I : Int → Prop),
                                  ∃ (m : Int → Nat),
                                    I (0 : Int) ∧
                                      ∀ (x : Int),
                                        I x →
                                          (x < (↑(List.length ((hdIs (58 : UInt8) ((hdIs (59 : UInt8) x_10).getD x_10)).getD ((hdIs (59 : UInt8) x_10).getD x_10))) : Int) → (0 : Int) ≤ x) ∧
                                            (x < (↑(List.length ((hdIs (58 : UInt8) ((hdIs (59 : UInt8) x_10).getD x_10)).getD ((hdIs (59 : UInt8) x_10).getD x_10))) : Int) →
                                                x < (↑(List.length ((hdIs (58 : UInt8) ((hdIs (59 : UInt8) x_10).getD x_10)).getD ((hdIs (59 : UInt8) x_10).getD x_10))) : Int)) ∧
                                              (x < (↑(List.length ((hdIs (58 : UInt8) ((hdIs (59 : UInt8) x_10).getD x_10)).getD ((hdIs (59 : UInt8) x_10).getD x_10))) : Int) ∧
                                                    standsB (ix ((hdIs (58 : UInt8) ((hdIs (59 : UInt8) x_10).getD x_10)).getD ((hdIs (59 : UInt8) x_10).getD x_10)) x) = true →
                                                  in64 (x + (1 : Int)) ∧ I (x + (1 : Int)) ∧ m (x + (1 : Int)) < m x) ∧
                                                (¬(x < (↑(List.length ((hdIs (58 : UInt8) ((hdIs (59 : UInt8) x_10).getD x_10)).getD ((hdIs (59 : UInt8) x_10).getD x_10))) : Int) ∧
                                                      standsB (ix ((hdIs (58 : UInt8) ((hdIs (59 : UInt8) x_10).getD x_10)).getD ((hdIs (59 : UInt8) x_10).getD x_10)) x) = true) →
                                                  (0 : Int) ≤ x ∧
                                                    x ≤ (↑(List.length ((hdIs (58 : UInt8) ((hdIs (59 : UInt8) x_10).getD x_10)).getD ((hdIs (59 : UInt8) x_10).getD x_10))) : Int) ∧
                                                      (0 : Int) ≤ x ∧
                                                        x ≤ (↑(List.length ((hdIs (58 : UInt8) ((hdIs (59 : UInt8) x_10).getD x_10)).getD ((hdIs (59 : UInt8) x_10).getD x_10))) : Int) ∧
                                                          (List.drop x.toNat ((hdIs (58 : UInt8) ((hdIs (59 : UInt8) x_10).getD x_10)).getD ((hdIs (59 : UInt8) x_10).getD x_10)) ≠ [] →
                                                              ((Err.w (153 : Nat) [(118 : UInt8), (97 : UInt8), (108 : UInt8), (117 : UInt8), (101 : UInt8)] (Err.no (11 : Int))).is (11 : Int) →
                                                                  Q (Prp.mk [] [] [] []) (Err.no (11 : Int))) ∧
                                                                (¬(Err.w (153 : Nat) [(118 : UInt8), (97 : UInt8), (108 : UInt8), (117 : UInt8), (101 : UInt8)] (Err.no (11 : Int))).is (11 : Int) →
                                                                  x_13.length ≤ (1000000000 : Nat) ∧
                                                                    (manyB
                                                                            (Prp.mk x_11 x_12 x_13
                                                                              (List.take x.toNat
                                                                                ((hdIs (58 : UInt8) ((hdIs (59 : UInt8) x_10).getD x_10)).getD ((hdIs (59 : UInt8) x_10).getD x_10)))) =
                                                                          true →
                                                                        Q (Prp.mk [] [] [] []) (Err.no (5 : Int))) ∧
                                                                      (¬manyB
                                                                              (Prp.mk x_11 x_12 x_13
                                                                                (List.take x.toNat
                                                                                  ((hdIs (58 : UInt8) ((hdIs (59 : UInt8) x_10).getD x_10)).getD ((hdIs (59 : UInt8) x_10).getD x_10)))) =
                                                                            true →
                                                                        Q
                                                                          (Prp.mk x_11 x_12 x_13
                                                                            (List.take x.toNat ((hdIs (58 : UInt8) ((hdIs (59 : UInt8) x_10).getD x_10)).getD ((hdIs (59 : UInt8) x_10).getD x_10))))
                                                                          Err.nil))) ∧
                                                            (¬List.drop x.toNat ((hdIs (58 : UInt8) ((hdIs (59 : UInt8) x_10).getD x_10)).getD ((hdIs (59 : UInt8) x_10).getD x_10)) ≠ [] →
                                                              (Err.nil.is (11 : Int) → Q (Prp.mk [] [] [] []) (Err.no (11 : Int))) ∧
                                                                (¬Err.nil.is (11 : Int) →
                                                                  x_13.length ≤ (1000000000 : Nat) ∧
                                                                    (manyB
                                                                            (Prp.mk x_11 x_12 x_13
                                                                              (List.take x.toNat
                                                                                ((hdIs (58 : UInt8) ((hdIs (59 : UInt8) x_10).getD x_10)).getD ((hdIs (59 : UInt8) x_10).getD x_10)))) =
                                                                          true →
                                                                        Q (Prp.mk [] [] [] []) (Err.no (5 : Int))) ∧
                                                                      (¬manyB
                                                                              (Prp.mk x_11 x_12 x_13
                                                                                (List.take x.toNat
                                                                                  ((hdIs (58 : UInt8) ((hdIs (59 : UInt8) x_10).getD x_10)).getD ((hdIs (59 : UInt8) x_10).getD x_10)))) =
                                                                            true →
                                                                        Q
                                                                          (Prp.mk x_11 x_12 x_13
                                                                            (List.take x.toNat ((hdIs (58 : UInt8) ((hdIs (59 : UInt8) x_10).getD x_10)).getD ((hdIs (59 : UInt8) x_10).getD x_10))))
                                                                          Err.nil)))))))
def W28 (s : Str) (Q : Prp → Err → Prop) : Prop := vcFun (E := NI64) (inlMN NI64 M103 an28 4) (an28 28) Tryd.f28 [.str s] [] [] 0 (resZ NI64 2 [.val 45, .err] Q)
attribute [local irreducible] W28 HZ
set_option maxRecDepth 100000 in
theorem V28_eq {s : Str} {Q : Prp → Err → Prop} : V28 s Q = W28 s Q := by kernel_rfl
set_option maxRecDepth 100000 in
theorem V28_ok {s : Str} {Q : Prp → Err → Prop} (h : V28 s Q) : W28 s Q := by rw [← V28_eq]; exact h
theorem p28 (s : Str) (hs : s.length ≤ 100000000) : V28 s (fun y0 y1 => y0 = (parseS s).1 ∧ y1 = (parseS s).2) := by
  unfold V28
  have hd := drop_len letterB s
  have bad : pProp s = none → prp0 = (parseS s).1 ∧ Err.no 11 = (parseS s).2 := fun h => by unfold parseS; rw [h]; exact ⟨rfl, rfl⟩
  refine ⟨by omega, fun nm e r g b c d => (b = [] ∧ c = [] ∧ d = []) ∧ okE e ∧ (e ≠ .nil → pProp s = none) ∧ (e = .nil → pProp s = tailS g nm [] r) ∧ r.length ≤ s.length, ⟨fun he => ⟨fun h1 => ?_, fun h1 => ?_⟩, fun he => ?_⟩, ?_⟩
  · obtain ⟨t, h1⟩ := Option.isSome_iff_exists.1 h1
    have ht := hdIs_len h1
    have hdt := drop_len letterB t
    have hp := prop_group he h1
    rw [h1]
    simp only [Option.getD_some]
    refine ⟨by omega, ⟨by first | rfl | trivial, by first | rfl | trivial, by first | rfl | trivial⟩, nE_ok t, fun h => by rw [hp, if_neg h], fun h => by rw [hp, if_pos h], by omega⟩
  · have h1 : hdIs 46 (s.dropWhile letterB) = none := by simpa using h1
    rw [h1]
    exact ⟨⟨rfl, rfl, rfl⟩, nE_ok s, fun h => absurd he h, fun h => prop_plain he h1, hd⟩
  · exact ⟨⟨rfl, rfl, rfl⟩, nE_ok s, fun h => prop_err he, fun h => absurd h he, hd⟩
  rintro nm e r g b c d ⟨⟨rfl, rfl, rfl⟩, ho, h1, h2, hl⟩
  refine ⟨fun he => ⟨fun _ => bad (h1 he), fun h => absurd (okE_is ho he) h⟩, fun he => ?_⟩
  have h2 := h2 (Classical.not_not.1 he)
  clear he h1 ho
  refine ⟨fun a1 a2 a3 a4 x g' nm' l v => (a1 = [] ∧ a2 = [] ∧ a3 = [] ∧ a4 = [] ∧ g' = g ∧ nm' = nm ∧ v = []) ∧ pProp s = tailS g nm l x ∧ l.length + x.length ≤ s.length, fun _ _ _ _ x _ _ _ _ => x.length, ⟨⟨rfl, rfl, rfl, rfl, rfl, rfl, rfl⟩, h2, by simp; omega⟩, ?_⟩
  rintro a1 a2 a3 a4 x g' nm' l v ⟨⟨rfl, rfl, rfl, rfl, rfl, rfl, rfl⟩, hp, hl⟩
  refine ⟨fun h3 => ?_, fun h3 => ?_⟩
  · obtain ⟨t, h3⟩ := Option.isSome_iff_exists.1 h3
    have ht := hdIs_len h3
    have hg := gP_len t
    rw [h3]
    simp only [Option.getD_some]
    refine ⟨by omega, fun he => ⟨fun _ => bad (by rw [hp, tail_err h3 he]), fun h => absurd (okE_is (gP_ok t) he) h⟩, fun he => ?_⟩
    have he := Classical.not_not.1 he
    refine ⟨by simp; omega, ⟨⟨by first | rfl | trivial, by first | rfl | trivial, by first | rfl | trivial, by first | rfl | trivial, by first | rfl | trivial, by first | rfl | trivial, by first | rfl | trivial⟩, by rw [hp, tail_on h3 he], by simp; omega⟩, by omega⟩
  have h3 : hdIs 59 x = none := by simpa using h3
  rw [h3]
  simp only [Option.getD_none]
  refine ⟨fun h4 => ?_, fun h4 => ?_⟩
  · have h4 : hdIs 58 x = none := by simpa using h4
    exact ⟨fun _ => bad (by rw [hp, tail_no h3 h4]), fun h => absurd rfl h⟩
  obtain ⟨v, h4⟩ := Option.isSome_iff_exists.1 (Classical.not_not.1 h4)
  have hv := hdIs_len h4
  have hpe := tail_end (g := g') (n := nm') (l := l) h3 h4
  rw [h4]
  simp only [Option.getD_some]
  refine ⟨fun i => 0 ≤ i ∧ i ≤ v.length ∧ ∀ j : Int, 0 ≤ j → j < i → standsB (ix v j) = true, fun i => ((v.length : Int) - i).toNat, ⟨by omega, by omega, fun j _ _ => by omega⟩, ?_⟩
  rintro i ⟨i0, i1, hi⟩
  refine ⟨fun _ => i0, fun h => h, fun ⟨h, hc⟩ => ⟨⟨by omega, by omega⟩, ⟨by omega, by omega, fun j j0 j1 => ?_⟩, by first | omega | (dsimp only; omega)⟩, fun he => ?_⟩
  · by_cases e : j = i
    · subst e; exact hc
    · exact hi j j0 (by omega)
  · obtain ⟨e1, e2⟩ := while_take i0 i1 hi he
    have l1 : (v.take i.toNat).length ≤ v.length := by rw [List.length_take]; omega
    rw [e1] at l1
    rw [e1, e2]
    skip
    refine ⟨i0, i1, i0, i1, fun hn => ⟨fun _ => bad ?_, fun h => absurd rfl h⟩, fun hn => ⟨fun h => ?_, fun _ => ?_⟩⟩
    · rw [hp, hpe, if_neg (fun h => hn (while_nil.2 h))]
    · simp [Err.is, Err.num] at h
    · have hn := Classical.not_not.1 hn
      have ha := while_nil.1 hn
      rw [while_all hn]
      rw [if_pos ha] at hpe
      rw [hpe] at hp
      unfold parseS
      rw [hp]
      refine ⟨by omega, fun h => ?_, fun h => ?_⟩
      · simp only [finS, if_pos h]; exact ⟨by first | rfl | trivial, by first | rfl | trivial⟩
      · simp only [finS, if_neg h]; exact ⟨by first | rfl | trivial, by first | rfl | trivial⟩
set_option maxRecDepth 100000 in
theorem Y28_eq {s : Str} : W28 s (fun y0 y1 => y0 = (parseS s).1 ∧ y1 = (parseS s).2) = HZ NI64 (inlMN NI64 M103 an28 4) (an28 28) Tryd.f28 [.str s] 2 [.val 45, .err] ((parseS s).1, (parseS s).2, ()) := by kernel_rfl
theorem Y28_ok (s : Str) (hs : s.length ≤ 100000000) : HZ NI64 (inlMN NI64 M103 an28 4) (an28 28) Tryd.f28 [.str s] 2 [.val 45, .err] ((parseS s).1, (parseS s).2, ()) := by
  rw [← Y28_eq]
  exact V28_ok (p28 s hs)
def c28r (s : Str) : CR U := ⟨[List.length (α := UInt8) s ≤ 100000000], [], .tup [.agg [.str ((parseS s).1).Group, .str ((parseS s).1).Name, .sl 59 ((parseS s).1).Params, .str ((parseS s).1).Value], .err ((parseS s).2)], []⟩
set_option maxRecDepth 100000 in
theorem c28r_eq (s : Str) : (⟨[List.length (α := UInt8) s ≤ 100000000], [], tellA 2 (tell NI64 [.val 45, .err] ((parseS s).1, (parseS s).2, ())), []⟩ : CR NI64.N) = c28r s := by kernel_rfl
set_option maxRecDepth 100000 in
theorem c28r_ok (s : Str) (hs : s.length ≤ 100000000) (nx : Nat) (hp : ([.str s] : List (SV U)).all pureS = true) : ConOK NI64.P NI64.N NI64.T NI64.G 28 [.str s] nx (c28r s) := by
  rw [← c28r_eq]
  exact conH NI64_ok (inlMN_ok NI64_ok M103_ok an28 4) Tryd.func28 rfl hp (Y28_ok s hs)
def c28 (a : List (SV U)) (nx : Nat) : Option (CR U) := match a with | [.str s] => some (c28r s) | _ => none
theorem c28_ok (args : List (SV U)) (nx : Nat) (c : CR U) (h : c28 args nx = some c) (hp : args.all pureS = true) (ho : allP c.ob) : ConOK NI64.P NI64.N NI64.T NI64.G 28 args nx c := by
  unfold c28 at h
  split at h
  · rename_i s
    cases h
    exact c28r_ok s ho.1 nx hp
  · cases h
noncomputable def N28 : Env := NI64.addC 28 c28
theorem N28_ok : EnvOK N28 := NI64_ok.addC Tryd.call28 c28_ok
end Go.Proofs.YtadgfmmmdhlljaaDoor
end
section
namespace Go.Li
open Go Go.Wk Go.Wl Go.Rx Go.Fo
theorem ix_from {α : Type} [Inhabited α] {s : List α} {i j : Int} (i0 : 0 ≤ i) (j0 : 0 ≤ j) : ix (s.drop i.toNat) j = ix s (i + j) := by
  unfold ix
  rw [List.getD_eq_getElem?_getD, List.getD_eq_getElem?_getD, List.getElem?_drop]
  congr 2
  omega
theorem while_from {p : UInt8 → Bool} {s : Str} {i x : Int} (i0 : 0 ≤ i) (ix0 : i ≤ x) (x1 : x ≤ s.length) (h : ∀ j : Int, i ≤ j → j < x → p (ix s j) = true) (he : ¬ (x < s.length ∧ p (ix s x) = true)) :
    (s.take x.toNat).drop i.toNat = (s.drop i.toNat).takeWhile p ∧ s.drop x.toNat = (s.drop i.toNat).dropWhile p := by
  have hl : ((s.drop i.toNat).length : Int) = s.length - i := by rw [List.length_drop]; omega
  obtain ⟨a, b⟩ := while_take (p := p) (s := s.drop i.toNat) (i := x - i) (by omega) (by omega) (fun j j0 j1 => by rw [ix_from i0 j0]; exact h _ (by omega) (by omega)) (fun ⟨y, z⟩ => he ⟨by omega, by
    rw [ix_from i0 (by omega)] at z
    have : i + (x - i) = x := by omega
    rw [this] at z; exact z⟩)
  refine ⟨?_, ?_⟩
  · rw [List.drop_take, ← a]; congr 1; omega
  · rw [← b, List.drop_drop]; congr 1; omega
/-- A value, and where it ends. -/
def valS (s : Str) (i : Int) : Str × Int := match pValue (s.drop i.toNat) with
  | none => ([], -1)
  | some (v, r) => (v, (s.length : Int) - r.length)
theorem hdIs_at {s : Str} {i : Int} {c : UInt8} (i0 : 0 ≤ i) (h : i < s.length ∧ ix s i = c) : hdIs c (s.drop i.toNat) = some (s.drop (i + 1).toNat) := by
  rw [ix_drop i0 h.1, h.2, hdIs_cons]
theorem hdIs_not {s : Str} {i : Int} {c : UInt8} (i0 : 0 ≤ i) (h : ¬ (i < s.length ∧ ix s i = c)) : hdIs c (s.drop i.toNat) = none := by
  by_cases hl : i < s.length
  · rw [ix_drop i0 hl]
    exact hdIs_ne (fun e => h ⟨hl, e⟩) _
  · rw [drop_all (by omega)]; rfl
end Go.Li
end
section
namespace Go.Proofs.YtadgfmmmdhlljaaDoor
open Go Go.Wk Go.Wl Go.Rx Go.Fo Go.Li 
def an68 : Nat → Ann := fun | 68 => ⟨99, fun | 9 => some ⟨[0, 1], [.slot 7 (.int .i64)]⟩ | 3 => some ⟨[0, 1], [.slot 6 (.int .i64)]⟩ | _ => none, fun  | _ => none⟩ | _ => ⟨0, fun _ => none, fun _ => none⟩
def V68 (s : Str) (i : Int) (Q : Str → Int → Prop) : Prop :=
(i < (↑(List.length s) : Int) → (0 : Int) ≤ i) ∧
  (i < (↑(List.length s) : Int) → i < (↑(List.length s) : Int)) ∧
    (i < (↑(List.length s) : Int) ∧ ix s i = (34 : UInt8) →
        in64 (i + (1 : Int)) ∧
          ∃ (I : Int → Prop),
            ∃ (m : Int → Nat),
              I (i + (1 : Int)) ∧
                ∀ (x : Int),
                  I x →
                    (x < (↑(List.length s) : Int) → (0 : Int) ≤ x) ∧
                      (x < (↑(List.length s) : Int) → x < (↑(List.length s) : Int)) ∧
                        (x < (↑(List.length s) : Int) ∧ ix s x ≠ (34 : UInt8) → (0 : Int) ≤ x) ∧
                          (x < (↑(List.length s) : Int) ∧ ix s x ≠ (34 : UInt8) → x < (↑(List.length s) : Int)) ∧
                            ((x < (↑(List.length s) : Int) ∧ ix s x ≠ (34 : UInt8)) ∧ standsB (ix s x) = true → in64 (x + (1 : Int)) ∧ I (x + (1 : Int)) ∧ m (x + (1 : Int)) < m x) ∧
                              (¬((x < (↑(List.length s) : Int) ∧ ix s x ≠ (34 : UInt8)) ∧ standsB (ix s x) = true) →
                                (¬(↑(List.length s) : Int) ≤ x → (0 : Int) ≤ x) ∧
                                  (¬(↑(List.length s) : Int) ≤ x → x < (↑(List.length s) : Int)) ∧
                                    ((↑(List.length s) : Int) ≤ x ∨ ix s x ≠ (34 : UInt8) → Q [] (-1 : Int)) ∧
                                      (¬((↑(List.length s) : Int) ≤ x ∨ ix s x ≠ (34 : UInt8)) →
                                        in64 (i + (1 : Int)) ∧
                                          (0 : Int) ≤ i + (1 : Int) ∧
                                            i + (1 : Int) ≤ x ∧
                                              x ≤ (↑(List.length s) : Int) ∧
                                                (List.drop (i + (1 : Int)).toNat (List.take x.toNat s)).length ≤ (100000000 : Nat) ∧
                                                  in64 (x + (1 : Int)) ∧ Q (said (List.drop (i + (1 : Int)).toNat (List.take x.toNat s))) (x + (1 : Int))))) ∧
      (¬(i < (↑(List.length s) : Int) ∧ ix s i = (34 : UInt8)) →
        ∃ (I : Int → Prop),
          ∃ (m : Int → Nat),
            I i ∧
              ∀ (x : Int),
                I x →
                  (x < (↑(List.length s) : Int) → (0 : Int) ≤ x) ∧
                    (x < (↑(List.length s) : Int) → x < (↑(List.length s) : Int)) ∧
                      (x < (↑(List.length s) : Int) ∧ standsB (ix s x) = true → (0 : Int) ≤ x) ∧
                        (x < (↑(List.length s) : Int) ∧ standsB (ix s x) = true → x < (↑(List.length s) : Int)) ∧
                          ((x < (↑(List.length s) : Int) ∧ standsB (ix s x) = true) ∧ ix s x ≠ (34 : UInt8) → (0 : Int) ≤ x) ∧
                            ((x < (↑(List.length s) : Int) ∧ standsB (ix s x) = true) ∧ ix s x ≠ (34 : UInt8) → x < (↑(List.length s) : Int)) ∧
                              (((x < (↑(List.length s) : Int) ∧ standsB (ix s x) = true) ∧ ix s x ≠ (34 : UInt8)) ∧ ix s x ≠ (59 : UInt8) → (0 : Int) ≤ x) ∧
                                (((x < (↑(List.length s) : Int) ∧ standsB (ix s x) = true) ∧ ix s x ≠ (34 : UInt8)) ∧ ix s x ≠ (59 : UInt8) → x < (↑(List.length s) : Int)) ∧
                                  ((((x < (↑(List.length s) : Int) ∧ standsB (ix s x) = true) ∧ ix s x ≠ (34 : UInt8)) ∧ ix s x ≠ (59 : UInt8)) ∧ ix s x ≠ (58 : UInt8) → (0 : Int) ≤ x) ∧
                                    ((((x < (↑(List.length s) : Int) ∧ standsB (ix s x) = true) ∧ ix s x ≠ (34 : UInt8)) ∧ ix s x ≠ (59 : UInt8)) ∧ ix s x ≠ (58 : UInt8) →
                                        x < (↑(List.length s) : Int)) ∧
                                      (((((x < (↑(List.length s) : Int) ∧ standsB (ix s x) = true) ∧ ix s x ≠ (34 : UInt8)) ∧ ix s x ≠ (59 : UInt8)) ∧ ix s x ≠ (58 : UInt8)) ∧ ix s x ≠ (44 : UInt8) →
                                          in64 (x + (1 : Int)) ∧ I (x + (1 : Int)) ∧ m (x + (1 : Int)) < m x) ∧
                                        (¬(((((x < (↑(List.length s) : Int) ∧ standsB (ix s x) = true) ∧ ix s x ≠ (34 : UInt8)) ∧ ix s x ≠ (59 : UInt8)) ∧ ix s x ≠ (58 : UInt8)) ∧
                                              ix s x ≠ (44 : UInt8)) →
                                          (0 : Int) ≤ i ∧
                                            i ≤ x ∧
                                              x ≤ (↑(List.length s) : Int) ∧
                                                (List.drop i.toNat (List.take x.toNat s)).length ≤ (100000000 : Nat) ∧ Q (said (List.drop i.toNat (List.take x.toNat s))) x))
set_option maxRecDepth 100000 in
theorem V68_ok {s : Str} {i : Int} {Q : Str → Int → Prop} (h : V68 s i Q) : vcFun (E := N28) (inlMN N28 M103 an68 2) (an68 68) Tryd.f68 [.str s, .int .i64 i] [] [] 0 (resP N28 [.str, .int .i64] Q) := Eq.mp (show V68 s i Q = vcFun (E := N28) (inlMN N28 M103 an68 2) (an68 68) Tryd.f68 [.str s, .int .i64 i] [] [] 0 (resP N28 [.str, .int .i64] Q) by kernel_rfl) h
theorem inB_iff (c : UInt8) : inB c = true ↔ (c ≠ 34 ∧ standsB c = true) := by
  unfold inB; rw [Bool.and_eq_true, bne_iff_ne]; exact And.comm
theorem plainB_iff (c : UInt8) : plainB c = true ↔ ((((standsB c = true ∧ c ≠ 34) ∧ c ≠ 59) ∧ c ≠ 58) ∧ c ≠ 44) := by
  unfold plainB
  simp only [Bool.and_eq_true, Bool.not_eq_true', Bool.or_eq_false_iff, beq_eq_false_iff_ne, ne_eq]
  exact ⟨fun ⟨a, ⟨⟨b, c⟩, d⟩, e⟩ => ⟨⟨⟨⟨a, b⟩, c⟩, d⟩, e⟩, fun ⟨⟨⟨⟨a, b⟩, c⟩, d⟩, e⟩ => ⟨a, ⟨⟨b, c⟩, d⟩, e⟩⟩
theorem p68 (s : Str) (i : Int) (h0 : 0 ≤ i) (h1 : i ≤ (s.length : Int)) (hs : s.length ≤ 100000000) : V68 s i (fun y0 y1 => y0 = (valS s i).1 ∧ y1 = (valS s i).2) := by
  unfold V68
  refine ⟨fun _ => h0, fun h => h, fun hq => ?_, fun hq => ?_⟩
  · have hh := hdIs_at h0 hq
    refine ⟨⟨by omega, by omega⟩, fun x => i + 1 ≤ x ∧ x ≤ s.length ∧ ∀ j : Int, i + 1 ≤ j → j < x → inB (ix s j) = true, fun x => ((s.length : Int) - x).toNat, ⟨by omega, by omega, fun j _ _ => by omega⟩, ?_⟩
    rintro x ⟨x0, x1, hx⟩
    refine ⟨fun _ => by omega, fun h => h, fun _ => by omega, fun h => h.1, fun ⟨⟨a, b⟩, c⟩ => ⟨⟨by omega, by omega⟩, ⟨by omega, by omega, fun j j0 j1 => ?_⟩, by first | omega | (dsimp only; omega)⟩, fun he => ?_⟩
    · by_cases e : j = x
      · subst e; exact (inB_iff _).2 ⟨b, c⟩
      · exact hx j j0 (by omega)
    · obtain ⟨w1, w2⟩ := while_from (p := inB) (i := i + 1) (by omega) x0 x1 hx (fun ⟨a, b⟩ => he ⟨⟨a, ((inB_iff _).1 b).1⟩, ((inB_iff _).1 b).2⟩)
      refine ⟨fun _ => by omega, fun h => by omega, fun hb => ?_, fun hb => ?_⟩
      · have hn := hdIs_not (s := s) (i := x) (c := 34) (by omega) (fun ⟨a, b⟩ => by rcases hb with hb | hb; omega; exact hb b)
        rw [w2] at hn
        have : pValue (s.drop i.toNat) = none := by unfold pValue; rw [hh]; simp only [hn]
        unfold valS; rw [this]; exact ⟨rfl, rfl⟩
      · have hx34 : x < s.length ∧ ix s x = 34 := ⟨Classical.byContradiction fun h => hb (.inl (by omega)), Classical.byContradiction fun h => hb (.inr h)⟩
        have hn := hdIs_at (by omega) hx34
        rw [w2] at hn
        have : pValue (s.drop i.toNat) = some (said ((s.drop (i + 1).toNat).takeWhile inB), s.drop (x + 1).toNat) := by unfold pValue; rw [hh]; simp only [hn]
        have hl : ((s.take x.toNat).drop (i + 1).toNat).length ≤ s.length := by rw [List.length_drop, List.length_take]; omega
        refine ⟨⟨by omega, by omega⟩, by omega, by omega, by omega, by omega, ⟨by omega, by omega⟩, ?_⟩
        unfold valS; rw [this, w1]
        exact ⟨rfl, by simp only [List.length_drop]; omega⟩
  · have hh := hdIs_not h0 hq
    refine ⟨fun x => i ≤ x ∧ x ≤ s.length ∧ ∀ j : Int, i ≤ j → j < x → plainB (ix s j) = true, fun x => ((s.length : Int) - x).toNat, ⟨by omega, by omega, fun j _ _ => by omega⟩, ?_⟩
    rintro x ⟨x0, x1, hx⟩
    refine ⟨fun _ => by omega, fun h => h, fun _ => by omega, fun h => h.1, fun _ => by omega, fun h => h.1.1, fun _ => by omega, fun h => h.1.1.1, fun _ => by omega, fun h => h.1.1.1.1, fun ⟨⟨⟨⟨⟨a, b⟩, c⟩, d⟩, e⟩, f⟩ => ⟨⟨by omega, by omega⟩, ⟨by omega, by omega, fun j j0 j1 => ?_⟩, by first | omega | (dsimp only; omega)⟩, fun he => ?_⟩
    · by_cases ej : j = x
      · subst ej; exact (plainB_iff _).2 ⟨⟨⟨⟨b, c⟩, d⟩, e⟩, f⟩
      · exact hx j j0 (by omega)
    · obtain ⟨w1, w2⟩ := while_from (p := plainB) h0 x0 x1 hx (fun ⟨a, b⟩ => he (by
        obtain ⟨⟨⟨⟨b1, b2⟩, b3⟩, b4⟩, b5⟩ := (plainB_iff _).1 b
        exact ⟨⟨⟨⟨⟨a, b1⟩, b2⟩, b3⟩, b4⟩, b5⟩))
      have : pValue (s.drop i.toNat) = some (said ((s.drop i.toNat).takeWhile plainB), (s.drop i.toNat).dropWhile plainB) := by unfold pValue; rw [hh]
      have hl : ((s.take x.toNat).drop i.toNat).length ≤ s.length := by rw [List.length_drop, List.length_take]; omega
      refine ⟨h0, x0, x1, by omega, ?_⟩
      unfold valS; rw [this, w1]
      refine ⟨rfl, ?_⟩
      simp only
      rw [← w2, List.length_drop]; omega
def c68 (a : List (SV U)) : Option (Q1 U) := match a with | [.str s, .int .i64 i] => some ⟨[0 ≤ i, i ≤ (s.length : Int), List.length (α := UInt8) s ≤ 100000000], [], .tup [.str ((valS s i).1), .int .i64 ((valS s i).2)]⟩ | _ => none
set_option maxRecDepth 100000 in
theorem c68_ok (args : List (SV U)) (q : Q1 U) (h : c68 args = some q) (ho : allP q.ob) : LendOK N28 68 args ⟨q.ob, q.hy, q.v, []⟩ := by
  unfold c68 at h
  split at h
  · rename_i s i
    cases h
    exact lend2 N28_ok (inlMN_ok N28_ok M103_ok an68 2) Tryd.func68 (k1 := .str) (k2 := .int .i64) (x1 := (valS s i).1) (x2 := (valS s i).2) trivial trivial (V68_ok (p68 s i ho.1 ho.2.1 ho.2.2.1)) 0
  · cases h
noncomputable def N68 : Env := N28.addL 68 c68
theorem N68_ok : EnvOK N68 := N28_ok.addL Tryd.call68 c68_ok
end Go.Proofs.YtadgfmmmdhlljaaDoor
end
section
namespace Go.Li
open Go Go.Wk Go.Wl Go.Rx Go.Fo
theorem hdIs_suf {c : UInt8} {s r : Str} (h : hdIs c s = some r) : r <:+ s := by
  cases s with
  | nil => cases h
  | cons d t =>
    by_cases e : d = c
    · simp only [hdIs, if_pos e, Option.some.injEq] at h
      subst h; exact List.suffix_cons _ _
    · simp only [hdIs, if_neg e] at h
      cases h
theorem pValue_suf {s v r : Str} (h : pValue s = some (v, r)) : r <:+ s := by
  unfold pValue at h
  split at h
  · rename_i t ht
    split at h
    · rename_i u hu
      cases h
      exact (hdIs_suf hu).trans ((List.dropWhile_suffix _).trans (hdIs_suf ht))
    · cases h
  · cases h; exact List.dropWhile_suffix _
theorem suf_drop {s r : Str} {i : Int} (i0 : 0 ≤ i) (i1 : i ≤ s.length) (h : r <:+ s.drop i.toNat) : r = s.drop ((s.length : Int) - r.length).toNat ∧ i ≤ (s.length : Int) - r.length := by
  have hl := h.length_le
  rw [List.length_drop] at hl
  have e := List.suffix_iff_eq_drop.1 (h.trans (List.drop_suffix _ _))
  have e2 : ((s.length : Int) - r.length).toNat = s.length - r.length := by omega
  rw [e2]
  exact ⟨e, by omega⟩
theorem valS_none {s : Str} {i : Int} (h : pValue (s.drop i.toNat) = none) : valS s i = ([], -1) := by unfold valS; rw [h]
theorem valS_some {s v r : Str} {i : Int} (h : pValue (s.drop i.toNat) = some (v, r)) : valS s i = (v, (s.length : Int) - r.length) := by unfold valS; rw [h]
/-- Values, some of them read. -/
def valsS (vs : List Str) (t : Str) : Option (List Str × Str) := match pVals t with
  | none => none
  | some (l, u) => some (vs ++ l, u)
theorem valsS_nil (t : Str) : valsS [] t = pVals t := by
  unfold valsS
  cases pVals t with
  | none => rfl
  | some x => rfl
theorem valsS_none {vs : List Str} {t : Str} (h : pValue t = none) : valsS vs t = none := by
  unfold valsS; rw [pVals_eq, h]
theorem valsS_end {vs : List Str} {t v r : Str} (h : pValue t = some (v, r)) (h1 : hdIs 44 r = none) : valsS vs t = some (vs ++ [v], r) := by
  unfold valsS; rw [pVals_eq, h]; simp only [h1]
theorem valsS_on {vs : List Str} {t v r u : Str} (h : pValue t = some (v, r)) (h1 : hdIs 44 r = some u) : valsS vs t = valsS (vs ++ [v]) u := by
  unfold valsS; rw [pVals_eq, h]; simp only [h1]
  cases pVals u with
  | none => rfl
  | some x => simp
theorem tail_p {g n r t : Str} {l : List Param} (h : hdIs 59 r = some t) : tailS g n l r = match pParam t with | none => none | some (x, u) => tailS g n (l ++ [x]) u := by
  unfold tailS; rw [pParams_eq, h]
  simp only
  cases pParam t with
  | none => rfl
  | some x =>
    obtain ⟨x, u⟩ := x
    simp only
    cases pParams u with
    | none => rfl
    | some y => simp
theorem pParam_no {t : Str} (h : t.takeWhile letterB = [] ∨ hdIs 61 (t.dropWhile letterB) = none) : pParam t = none := by
  unfold pParam pName
  by_cases h0 : t.takeWhile letterB = []
  · rw [if_pos h0]
  · rw [if_neg h0]
    simp only [h.resolve_left h0]
theorem pParam_on {t u : Str} (h : t.takeWhile letterB ≠ []) (h1 : hdIs 61 (t.dropWhile letterB) = some u) : pParam t = match pVals u with | none => none | some (l, w) => some (⟨upper (t.takeWhile letterB), l⟩, w) := by
  unfold pParam pName
  rw [if_neg h]
  simp only [h1]
  cases pVals u with
  | none => rfl
  | some x => rfl
def parseR (s : Str) : Prp × Int := match pProp s with
  | none => (prp0, 11)
  | some p => if manyB p = true then (prp0, 5) else (p, 0)
theorem prop_no {s : Str} (h : s.takeWhile letterB = []) : pProp s = none := by
  rw [prop_tail]; unfold pHead pName; rw [if_pos h]
theorem prop_one {s : Str} (h : s.takeWhile letterB ≠ []) (h1 : hdIs 46 (s.dropWhile letterB) = none) : pProp s = tailS [] (upper (s.takeWhile letterB)) [] (s.dropWhile letterB) := by
  rw [prop_tail]; unfold pHead pName; rw [if_neg h]; simp only [h1]
theorem prop_two {s t : Str} (h : s.takeWhile letterB ≠ []) (h1 : hdIs 46 (s.dropWhile letterB) = some t) : pProp s = if t.takeWhile letterB = [] then none else tailS (upper (s.takeWhile letterB)) (upper (t.takeWhile letterB)) [] (t.dropWhile letterB) := by
  rw [prop_tail]; unfold pHead pName; rw [if_neg h]; simp only [h1]
  by_cases h2 : t.takeWhile letterB = []
  · simp only [h2, if_true]
  · simp only [h2, if_false]
theorem take_while {p : UInt8 → Bool} (t : Str) : t.take (t.takeWhile p).length = t.takeWhile p ∧ t.drop (t.takeWhile p).length = t.dropWhile p := by
  have e := List.takeWhile_append_dropWhile (p := p) (l := t)
  generalize t.takeWhile p = a at *
  generalize t.dropWhile p = b at *
  subst e
  exact ⟨List.take_left, List.drop_left⟩
/-! ### What is right -/
instance (s : Str) : Decidable (isName s) := by unfold isName; infer_instance
def rightXB (x : Param) : Bool := decide (isName x.Name) && decide (x.Values ≠ []) && x.Values.all fun v => v.all saysB
def rightB (p : Prp) : Bool := decide (isName p.Name) && (decide (p.Group = []) || decide (isName p.Group)) && !manyB p && p.Value.all standsB && p.Params.all rightXB
theorem rightXB_iff {x : Param} : rightXB x = true ↔ rightX x := by
  unfold rightXB rightX
  simp only [Bool.and_eq_true, decide_eq_true_eq, List.all_eq_true]
  exact ⟨fun ⟨⟨a, b⟩, c⟩ => ⟨a, b, c⟩, fun ⟨a, b, c⟩ => ⟨⟨a, b⟩, c⟩⟩
theorem rightB_iff {p : Prp} : rightB p = true ↔ right0 p ∧ manyB p = false := by
  unfold rightB right0
  simp only [Bool.and_eq_true, Bool.or_eq_true, decide_eq_true_eq, Bool.not_eq_true']
  have e : p.Params.all rightXB = true ↔ ∀ x ∈ p.Params, rightX x := by
    rw [List.all_eq_true]
    exact ⟨fun h x hx => rightXB_iff.1 (h x hx), fun h x hx => rightXB_iff.2 (h x hx)⟩
  rw [e]
  constructor
  · rintro ⟨⟨⟨⟨a, b⟩, c⟩, d⟩, e⟩
    exact ⟨⟨a, fun h => b.resolve_left h, d, e⟩, c⟩
  · rintro ⟨⟨a, b, d, e⟩, c⟩
    refine ⟨⟨⟨⟨a, ?_⟩, c⟩, d⟩, e⟩
    by_cases h : p.Group = []
    · exact .inl h
    · exact .inr (b h)
def printS (p : Prp) : Str × Err := if rightB p = true then (tell p, .nil) else ([], .no 2)
def printR (p : Prp) : Str × Int := if rightB p = true then (tell p, 0) else ([], 2)
/-! ### Sizes -/
/-- A property that is gone through: its texts have at most 5000 bytes each. -/
structure smallX (x : Param) : Prop where
  name : x.Name.length ≤ 5000
  vals : x.Values.length ≤ 5000
  val : ∀ v ∈ x.Values.take 31, v.length ≤ 5000
structure smallP (p : Prp) : Prop where
  name : p.Name.length ≤ 5000
  group : p.Group.length ≤ 5000
  value : p.Value.length ≤ 5000
  params : p.Params.length ≤ 5000
  param : ∀ x ∈ p.Params, smallX x
theorem small_val {p : Prp} (h : smallP p) (hm : manyB p = false) {x : Param} (hx : x ∈ p.Params) : x.Values.length ≤ 20 ∧ ∀ v ∈ x.Values, v.length ≤ 5000 := by
  have h1 : x.Values.length ≤ 20 := by
    unfold manyB at hm
    simp only [Bool.or_eq_false_iff, List.any_eq_false, decide_eq_true_eq] at hm
    have := hm.1.2 x hx
    omega
  refine ⟨h1, fun v hv => (h.param x hx).val v ?_⟩
  rw [List.take_of_length_le (by omega)]; exact hv
theorem small_params {p : Prp} (hm : manyB p = false) : p.Params.length ≤ 20 := by
  unfold manyB at hm
  simp only [Bool.or_eq_false_iff, decide_eq_false_iff_not] at hm
  omega
theorem esc_len2 : ∀ s : Str, (esc s).length ≤ 2 * s.length
  | [] => Nat.le_refl _
  | c :: s => by
    have ih := esc_len2 s
    have e : esc (c :: s) = escB c ++ esc s := by simp [esc]
    have : (escB c).length ≤ 2 := by unfold escB; split <;> (try split) <;> (try split) <;> simp
    rw [e, List.length_append, List.length_cons]; omega
theorem told_len (v : Str) : (told v).length ≤ 2 * v.length + 2 := by
  have := esc_len2 v
  unfold told
  split
  · simp only [List.length_cons, List.length_append, List.length_nil]; omega
  · omega
theorem joinV_len {k : Nat} : ∀ {l : List Str}, (∀ v ∈ l, v.length ≤ k) → (joinV l).length ≤ l.length * (2 * k + 3)
  | [], _ => Nat.zero_le _
  | [v], h => by
    have := told_len v
    have := h v (by simp)
    simp only [joinV, List.length_cons, List.length_nil]; omega
  | v :: w :: l, h => by
    have ih := joinV_len (k := k) (l := w :: l) fun x hx => h x (by simp [hx])
    have := told_len v
    have := h v (by simp)
    simp only [joinV, List.length_append, List.length_cons] at ih ⊢
    have e : (l.length + 1 + 1) * (2 * k + 3) = (l.length + 1) * (2 * k + 3) + (2 * k + 3) := Nat.succ_mul _ _
    rw [e]; omega
theorem tellP_len {p : Prp} (h : smallP p) (hm : manyB p = false) {x : Param} (hx : x ∈ p.Params) : (joinV x.Values).length ≤ 200060 ∧ (tellP x).length ≤ 210000 := by
  obtain ⟨h1, h2⟩ := small_val h hm hx
  have h3 := joinV_len h2
  have h4 : x.Values.length * (2 * 5000 + 3) ≤ 20 * (2 * 5000 + 3) := Nat.mul_le_mul_right _ h1
  have h5 := (h.param x hx).name
  unfold tellP
  simp only [List.length_cons, List.length_append]
  omega
theorem flat_len {α : Type} {f : α → Str} {k : Nat} : ∀ {l : List α}, (∀ x ∈ l, (f x).length ≤ k) → (l.flatMap f).length ≤ l.length * k
  | [], _ => Nat.zero_le _
  | x :: l, h => by
    have ih := flat_len (f := f) (k := k) (l := l) fun y hy => h y (by simp [hy])
    have := h x (by simp)
    rw [List.flatMap_cons, List.length_append, List.length_cons, Nat.succ_mul]
    omega
theorem tell_len {p : Prp} (h : smallP p) (hm : manyB p = false) : (p.Params.flatMap tellP).length ≤ 4200000 ∧ (tell p).length ≤ 5000000 := by
  have h1 := flat_len (f := tellP) (k := 210000) (l := p.Params) fun x hx => (tellP_len h hm hx).2
  have h2 := Nat.mul_le_mul_right 210000 (small_params hm)
  have h3 := h.name
  have h4 := h.group
  have h5 := h.value
  refine ⟨by omega, ?_⟩
  unfold tell
  simp only [List.length_append, List.length_cons]
  split
  · omega
  · simp only [List.length_append, List.length_cons]; omega
end Go.Li
end
section
namespace Go.Li
open Go Go.Wk Go.Wl Go.Rx Go.Fo
/-- Ahead of parameters and value. -/
def scB (c : UInt8) : Bool := c != 59 && c != 58
theorem letter_sc (c : UInt8) : letterB c = true → scB c = true ∧ letterB (lowB c) = true :=
  all8 (P := fun c => letterB c = true → scB c = true ∧ letterB (lowB c) = true) (by decide +kernel) c
theorem upper_low (a : Str) : upper (a.map lowB) = upper a := by
  unfold upper
  rw [List.map_map]
  exact List.map_congr_left fun c _ => (low_up c).1
theorem low_all {a : Str} (h : a.all letterB = true) : (a.map lowB).all letterB = true := by
  rw [List.all_map]
  exact List.all_eq_true.2 fun c hc => (letter_sc c (List.all_eq_true.1 h c hc)).2
/-- What a property's head leaves begins with a sign that is no name's. -/
theorem params_hd {r : Str} (h : (match pParams r with | none => none | some (l, t) => hdIs 58 t) ≠ (none : Option Str)) : ∃ (c : UInt8) (t : Str), r = c :: t ∧ (c = 59 ∨ c = 58) := by
  cases r with
  | nil => rw [pParams_eq] at h; exact absurd rfl h
  | cons c t =>
    refine ⟨c, t, rfl, ?_⟩
    by_cases h1 : c = 59
    · exact .inl h1
    · rw [pParams_eq, hdIs_ne h1] at h
      simp only at h
      by_cases h2 : c = 58
      · exact .inr h2
      · exact absurd (hdIs_ne h2 t) h
theorem prop_hd {s : Str} {p : Prp} (h : pProp s = some p) : ∃ g n r, pHead s = some (g, n, r) ∧ ∃ (c : UInt8) (t : Str), r = c :: t ∧ (c = 59 ∨ c = 58) := by
  unfold pProp at h
  cases hh : pHead s with
  | none => rw [hh] at h; cases h
  | some x =>
    obtain ⟨g, n, r⟩ := x
    rw [hh] at h
    refine ⟨g, n, r, rfl, params_hd ?_⟩
    intro hn
    simp only at h
    cases hp : pParams r with
    | none => rw [hp] at h; cases h
    | some y =>
      rw [hp] at h hn
      simp only at h hn
      rw [hn] at h; cases h
theorem prop_of_head {s s' : Str} (h : pHead s = pHead s') : pProp s = pProp s' := by
  unfold pProp; rw [h]
theorem low_read {s : Str} {p : Prp} (h : pProp s = some p) : pProp ((s.takeWhile scB).map lowB ++ s.dropWhile scB) = some p := by
  obtain ⟨g, n, r, hh, c, t, rfl, hc⟩ := prop_hd h
  rw [← h]
  refine prop_of_head ?_
  rw [hh]
  have hcl : letterB c = false := by rcases hc with rfl | rfl <;> decide
  have hcs : scB c = false := by rcases hc with rfl | rfl <;> decide
  have hcd : c ≠ 46 := by rcases hc with rfl | rfl <;> decide
  have es := List.takeWhile_append_dropWhile (p := letterB) (l := s)
  have ha := take_all letterB s
  unfold pHead pName at hh
  generalize s.takeWhile letterB = a at *
  generalize s.dropWhile letterB = b at *
  by_cases h0 : a = []
  · rw [if_pos h0] at hh; cases hh
  · rw [if_neg h0] at hh
    simp only at hh
    have has : a.all scB = true := all_imp (fun c hc => (letter_sc c hc).1) ha
    have h0' : a.map lowB ≠ [] := fun e => h0 (List.map_eq_nil_iff.1 e)
    cases h1 : hdIs 46 b with
    | none =>
      rw [h1] at hh
      simp only [Option.some.injEq, Prod.mk.injEq] at hh
      obtain ⟨rfl, rfl, rfl⟩ := hh
      rw [← es]
      obtain ⟨e1, e2⟩ := while_app has hcs t
      obtain ⟨e3, e4⟩ := while_app (low_all ha) hcl t
      rw [e1, e2]
      unfold pHead pName
      rw [e3, e4, if_neg h0']
      simp only [hdIs_ne hcd, upper_low]
    | some u =>
      rw [h1] at hh
      simp only at hh
      have eb : b = 46 :: u := by
        cases b with
        | nil => cases h1
        | cons d b =>
          by_cases e : d = 46
          · simp only [hdIs, if_pos e, Option.some.injEq] at h1
            rw [e, h1]
          · rw [hdIs_ne e] at h1; cases h1
      have eu := List.takeWhile_append_dropWhile (p := letterB) (l := u)
      have hau := take_all letterB u
      generalize u.takeWhile letterB = v at *
      generalize u.dropWhile letterB = w at *
      by_cases h2 : v = []
      · rw [if_pos h2] at hh; cases hh
      · rw [if_neg h2] at hh
        simp only [Option.some.injEq, Prod.mk.injEq] at hh
        obtain ⟨rfl, rfl, rfl⟩ := hh
        have hvs : v.all scB = true := all_imp (fun c hc => (letter_sc c hc).1) hau
        have h2' : v.map lowB ≠ [] := fun e => h2 (List.map_eq_nil_iff.1 e)
        have hall : (a ++ 46 :: v).all scB = true := by
          rw [List.all_append, List.all_cons, has, hvs]; rfl
        obtain ⟨e1, e2⟩ := while_app hall hcs t
        have es' : s = a ++ 46 :: v ++ c :: t := by rw [← es, eb, ← eu]; simp
        rw [es', e1, e2]
        have em : (a ++ 46 :: v).map lowB ++ c :: t = a.map lowB ++ 46 :: (v.map lowB ++ c :: t) := by
          simp only [List.map_append, List.map_cons, List.append_assoc, List.cons_append]
          rw [(low_up 46).2.2.2]
        rw [em]
        obtain ⟨e3, e4⟩ := while_app (low_all ha) (show letterB 46 = false by decide) (v.map lowB ++ c :: t)
        obtain ⟨e5, e6⟩ := while_app (low_all hau) hcl t
        unfold pHead pName
        rw [e3, e4, if_neg h0']
        simp only [hdIs_cons, e5, e6, if_neg h2', upper_low]
/-! ### What is read, told and read -/
theorem parse_tell {p : Prp} (h : rightB p = true) : parseS (tell p) = (p, .nil) := by
  obtain ⟨h1, h2⟩ := rightB_iff.1 h
  unfold parseS
  rw [tell_read h1]
  unfold finS
  simp only [h2]
  rfl
theorem parse_right {s : Str} (h : (parseS s).2 = .nil) : rightB (parseS s).1 = true ∧ pProp s = some (parseS s).1 := by
  unfold parseS finS at *
  cases hp : pProp s with
  | none => rw [hp] at h; cases h
  | some p =>
    rw [hp] at h
    simp only at h ⊢
    by_cases hm : manyB p = true
    · rw [if_pos hm] at h; cases h
    · rw [if_neg hm] at h ⊢
      exact ⟨rightB_iff.2 ⟨read_right hp, by simpa using hm⟩, rfl⟩
theorem parse_err {s : Str} (h : (parseS s).2 ≠ .nil) : (parseS s).1 = prp0 ∧ (∃ n, (parseS s).2 = .no n ∧ (n = 11 ∨ n = 5) ∧ (parseR s) = (prp0, n)) := by
  unfold parseS parseR finS at *
  cases hp : pProp s with
  | none => exact ⟨rfl, 11, rfl, .inl rfl, rfl⟩
  | some p =>
    rw [hp] at h
    simp only at h ⊢
    by_cases hm : manyB p = true
    · rw [if_pos hm]; exact ⟨rfl, 5, rfl, .inr rfl, by rw [if_pos hm]⟩
    · rw [if_neg hm] at h; exact absurd rfl h
/-- A property of one parameter. -/
def says (l : List Str) : Prp := ⟨[], [65], [⟨[88], l⟩], [118]⟩
/-! ### Sizes of what is read -/
theorem said_len2 : ∀ (n : Nat) (s : Str), s.length ≤ n → (said s).length ≤ s.length := by
  intro n
  induction n with
  | zero => intro s h; obtain rfl := List.eq_nil_of_length_eq_zero (Nat.le_zero.1 h); exact Nat.le_refl _
  | succ n ih =>
    intro s hs
    match s, hs with
    | [], _ => exact Nat.le_refl _
    | [c], _ => exact Nat.le_refl _
    | c :: d :: r, hs =>
      simp only [List.length_cons] at hs
      have i1 := ih r (by omega)
      have i2 := ih (d :: r) (by simp only [List.length_cons]; omega)
      simp only [List.length_cons] at i2
      rw [said]
      split
      · simp only [List.length_cons]; omega
      · split
        · simp only [List.length_cons]; omega
        · split <;> (simp only [List.length_cons]; omega)
theorem while_le (p : UInt8 → Bool) (s : Str) : (s.takeWhile p).length ≤ s.length := (List.takeWhile_sublist p).length_le
theorem pName_size {s n r : Str} (h : pName s = some (n, r)) : n.length ≤ s.length := by
  unfold pName at h
  split at h
  · cases h
  · cases h; unfold upper; rw [List.length_map]; exact while_le _ _
theorem pValue_size {s v r : Str} (h : pValue s = some (v, r)) : v.length ≤ s.length := by
  unfold pValue at h
  split at h
  · rename_i t ht
    split at h
    · cases h
      have := hdIs_len ht
      have := said_len2 _ (t.takeWhile inB) (Nat.le_refl _)
      have := while_le inB t
      omega
    · cases h
  · cases h
    have := said_len2 _ (s.takeWhile plainB) (Nat.le_refl _)
    have := while_le plainB s
    omega
theorem pVals_size : ∀ (n : Nat) (s : Str), s.length ≤ n → ∀ l r, pVals s = some (l, r) → l.length ≤ s.length + 1 ∧ ∀ v ∈ l, v.length ≤ s.length := by
  intro n
  induction n with
  | zero =>
    intro s hs l r h
    rw [pVals_eq] at h
    split at h
    · cases h
    · rename_i v t ht
      have h1 := pValue_len ht
      have h0 := pValue_size ht
      split at h
      · cases h; exact ⟨by simp, fun x hx => by rw [List.mem_singleton.1 hx]; exact h0⟩
      · rename_i u hu
        have := hdIs_len hu
        omega
  | succ n ih =>
    intro s hs l r h
    rw [pVals_eq] at h
    split at h
    · cases h
    · rename_i v t ht
      have h1 := pValue_len ht
      have h0 := pValue_size ht
      split at h
      · cases h; exact ⟨by simp, fun x hx => by rw [List.mem_singleton.1 hx]; exact h0⟩
      · rename_i u hu
        have := hdIs_len hu
        split at h
        · cases h
        · rename_i l' r' h'
          cases h
          obtain ⟨i1, i2⟩ := ih u (by omega) _ _ h'
          refine ⟨by simp only [List.length_cons]; omega, fun x hx => ?_⟩
          rcases List.mem_cons.1 hx with rfl | hx
          · exact h0
          · have := i2 x hx; omega
theorem pParam_size {s r : Str} {x : Param} (h : pParam s = some (x, r)) : x.Name.length ≤ s.length ∧ x.Values.length ≤ s.length ∧ ∀ v ∈ x.Values, v.length ≤ s.length := by
  unfold pParam at h
  split at h
  · cases h
  · rename_i n t ht
    split at h
    · cases h
    · rename_i u hu
      split at h
      · cases h
      · rename_i l' r' h'
        cases h
        obtain ⟨h1, h2⟩ := pVals_size _ _ (Nat.le_refl _) _ _ h'
        have a := pName_size ht
        have b := pName_len ht
        have c := hdIs_len hu
        exact ⟨a, by dsimp only; omega, fun v hv => by have := h2 v hv; omega⟩
theorem pParams_size : ∀ (n : Nat) (s : Str), s.length ≤ n → ∀ l r, pParams s = some (l, r) → (l.length ≤ s.length ∧ r.length ≤ s.length) ∧ ∀ x ∈ l, x.Name.length ≤ s.length ∧ x.Values.length ≤ s.length ∧ ∀ v ∈ x.Values, v.length ≤ s.length := by
  intro n
  induction n with
  | zero =>
    intro s hs l r h
    rw [pParams_eq] at h
    split at h
    · cases h; exact ⟨⟨Nat.zero_le _, Nat.le_refl _⟩, fun x hx => by cases hx⟩
    · rename_i t ht
      have := hdIs_len ht
      omega
  | succ n ih =>
    intro s hs l r h
    rw [pParams_eq] at h
    split at h
    · cases h; exact ⟨⟨Nat.zero_le _, Nat.le_refl _⟩, fun x hx => by cases hx⟩
    · rename_i t ht
      have h1 := hdIs_len ht
      split at h
      · cases h
      · rename_i x t' hp
        have h2 := pParam_len hp
        split at h
        · cases h
        · rename_i l' r' h'
          cases h
          obtain ⟨⟨i1, i3⟩, i2⟩ := ih _ (by omega) _ _ h'
          refine ⟨⟨by simp only [List.length_cons]; omega, by omega⟩, fun y hy => ?_⟩
          rcases List.mem_cons.1 hy with rfl | hy
          · obtain ⟨a, b, c⟩ := pParam_size hp
            exact ⟨by omega, by omega, fun v hv => by have := c v hv; omega⟩
          · obtain ⟨a, b, c⟩ := i2 y hy
            exact ⟨by omega, by omega, fun v hv => by have := c v hv; omega⟩
theorem head_size {s g n r : Str} (h : pHead s = some (g, n, r)) : g.length ≤ s.length ∧ n.length ≤ s.length ∧ r.length ≤ s.length := by
  unfold pHead at h
  split at h
  · cases h
  · rename_i m u hm
    have a := pName_size hm
    have b := pName_len hm
    split at h
    · cases h; exact ⟨Nat.zero_le _, a, b⟩
    · rename_i t ht
      have c := hdIs_len ht
      split at h
      · cases h
      · rename_i m2 u2 hm2
        cases h
        have d := pName_size hm2
        have e := pName_len hm2
        exact ⟨a, by omega, by omega⟩
theorem small_read {s : Str} {p : Prp} (hs : s.length ≤ 5000) (h : pProp s = some p) : smallP p := by
  unfold pProp at h
  split at h
  · cases h
  · rename_i g n r hh
    obtain ⟨a, b, c⟩ := head_size hh
    split at h
    · cases h
    · rename_i l t hl
      obtain ⟨⟨d, g1⟩, e⟩ := pParams_size _ _ (Nat.le_refl _) _ _ hl
      split at h
      · cases h
      · rename_i v hv
        have f := hdIs_len hv
        split at h
        · cases h
          refine ⟨by dsimp only; omega, by dsimp only; omega, by dsimp only; omega, by dsimp only; omega, fun x hx => ?_⟩
          obtain ⟨i, j, k⟩ := e x hx
          exact ⟨by omega, by omega, fun v hv => by have := k v (List.mem_of_mem_take hv); omega⟩
        · cases h
theorem small0 : smallP prp0 := ⟨Nat.zero_le _, Nat.zero_le _, Nat.zero_le _, Nat.zero_le _, fun x hx => by cases hx⟩
theorem parse_small {s : Str} (hs : s.length ≤ 5000) : smallP (parseS s).1 := by
  by_cases h : (parseS s).2 = .nil
  · exact small_read hs (parse_right h).2
  · rw [(parse_err h).1]; exact small0
/-! ### Small letters, one by one -/
def lowT (s : Str) (k : Int) : Str := (s.take k.toNat).map lowB ++ s.drop k.toNat
theorem lowT_len (s : Str) (k : Int) : (lowT s k).length = s.length := by
  unfold lowT
  rw [List.length_append, List.length_map, List.length_take, List.length_drop]; omega
theorem lowT_at {s : Str} {k : Int} (h0 : 0 ≤ k) (h1 : k < s.length) : ix (lowT s k) k = ix s k := by
  unfold lowT ix
  have hl : ((s.take k.toNat).map lowB).length = k.toNat := by rw [List.length_map, List.length_take]; omega
  rw [List.getD_eq_getElem?_getD, List.getD_eq_getElem?_getD, List.getElem?_append_right (by omega), hl, Nat.sub_self, List.getElem?_drop, Nat.add_zero]
theorem lowT_next {s : Str} {k : Int} (h0 : 0 ≤ k) (h1 : k < s.length) : lowT s (k + 1) = (lowT s k).set k.toNat (lowB (ix s k)) := by
  unfold lowT
  have hl : ((s.take k.toNat).map lowB).length = k.toNat := by rw [List.length_map, List.length_take]; omega
  rw [take_next h0 h1, List.map_append, ix_drop h0 h1, List.set_append_right _ _ (by omega), hl, Nat.sub_self]
  simp
theorem low_step {s : Str} {k : Int} (h0 : 0 ≤ k) (h1 : k < s.length) : (65 ≤ ix s k ∧ ix s k ≤ 90 → lowT s (k + 1) = (lowT s k).set k.toNat (ix s k + 32)) ∧ (¬ (65 ≤ ix s k ∧ ix s k ≤ 90) → lowT s (k + 1) = lowT s k) := by
  have hn := lowT_next h0 h1
  refine ⟨fun h => ?_, fun h => ?_⟩
  · rw [hn]; unfold lowB; rw [if_pos h]
  · rw [hn]; unfold lowB; rw [if_neg h]
    have ha := lowT_at h0 h1
    have hl := lowT_len s k
    refine List.ext_getElem (by simp) fun j a b => ?_
    by_cases e : k.toNat = j
    · subst e
      rw [List.getElem_set_self, ← ha, ix_get (by omega)]
    · rw [List.getElem_set_ne e]
end Go.Li
end
section
namespace Go.Proofs.YtadgfmmmdhlljaaDoor
open Go Go.Wk Go.Wl Go.Rx Go.Fo Go.Li 
def an29 : Nat → Ann := fun | 29 => ⟨160, fun | 31 => some ⟨[2, 4], [.slot 13 (.int .i64), .own 2 [.str, .str, (.acc 59), .str]]⟩ | 12 => some ⟨[0, 2, 4], [.slot 5 (.int .i64), .own 2 [.str, .str, (.acc 59), .str], .own 4 [.str, .str, (.acc 59), .str]]⟩ | 18 => some ⟨[0, 2, 4, 9], [.slot 8 (.int .i64), .slot 10 .bool, .own 2 [.str, .str, (.acc 59), .str], .own 9 [.str, (.acc 9)]]⟩ | _ => none, fun | 9 => some ⟨[0, 2, 4], [.slot 5 (.int .i64), .slot 6 .str, .own 4 [.str, .str, (.acc 59), .str]]⟩ | _ => none⟩ | _ => ⟨0, fun _ => none, fun _ => none⟩
def V29 (s : Str) (Q : Prp → Int → Prop) : Prop :=
(0 : Int) ≤ (0 : Int) ∧
  (0 : Int) ≤ (↑(List.length s) : Int) ∧
    List.length s ≤ (100000000 : Nat) ∧
      (0 : Int) ≤ (0 : Int) + nameLen s (0 : Int) ∧
        (0 : Int) + nameLen s (0 : Int) ≤ (↑(List.length s) : Int) ∧
          ∃ (J : Int → List UInt8 → List UInt8 → List UInt8 → List Param → List UInt8 → Prop),
            (((0 : Int) + nameLen s (0 : Int) < (↑(List.length s) : Int) → (0 : Int) ≤ (0 : Int) + nameLen s (0 : Int)) ∧
                ((0 : Int) + nameLen s (0 : Int) < (↑(List.length s) : Int) → (0 : Int) + nameLen s (0 : Int) < (↑(List.length s) : Int)) ∧
                  (((0 : Int) + nameLen s (0 : Int) < (↑(List.length s) : Int) ∧ ix s ((0 : Int) + nameLen s (0 : Int)) = (46 : UInt8)) ∧ List.take ((0 : Int) + nameLen s (0 : Int)).toNat s ≠ [] →
                      in64 ((0 : Int) + nameLen s (0 : Int) + (1 : Int)) ∧
                        (0 : Int) ≤ (0 : Int) + nameLen s (0 : Int) + (1 : Int) ∧
                          (0 : Int) + nameLen s (0 : Int) + (1 : Int) ≤ (↑(List.length s) : Int) ∧
                            List.length s ≤ (100000000 : Nat) ∧
                              in64 ((0 : Int) + nameLen s (0 : Int) + (1 : Int)) ∧
                                (0 : Int) ≤ (0 : Int) + nameLen s (0 : Int) + (1 : Int) ∧
                                  (0 : Int) + nameLen s (0 : Int) + (1 : Int) ≤ (0 : Int) + nameLen s (0 : Int) + (1 : Int) + nameLen s ((0 : Int) + nameLen s (0 : Int) + (1 : Int)) ∧
                                    (0 : Int) + nameLen s (0 : Int) + (1 : Int) + nameLen s ((0 : Int) + nameLen s (0 : Int) + (1 : Int)) ≤ (↑(List.length s) : Int) ∧
                                      J ((0 : Int) + nameLen s (0 : Int) + (1 : Int) + nameLen s ((0 : Int) + nameLen s (0 : Int) + (1 : Int)))
                                        (List.drop ((0 : Int) + nameLen s (0 : Int) + (1 : Int)).toNat
                                          (List.take ((0 : Int) + nameLen s (0 : Int) + (1 : Int) + nameLen s ((0 : Int) + nameLen s (0 : Int) + (1 : Int))).toNat s))
                                        (upper (List.take ((0 : Int) + nameLen s (0 : Int)).toNat s)) [] [] []) ∧
                    (¬(((0 : Int) + nameLen s (0 : Int) < (↑(List.length s) : Int) ∧ ix s ((0 : Int) + nameLen s (0 : Int)) = (46 : UInt8)) ∧
                          List.take ((0 : Int) + nameLen s (0 : Int)).toNat s ≠ []) →
                      J ((0 : Int) + nameLen s (0 : Int)) (List.take ((0 : Int) + nameLen s (0 : Int)).toNat s) [] [] [] [])) ∧
              ∀ (x : Int) (x_1 x_2 x_3 : List UInt8) (x_4 : List Param) (x_5 : List UInt8),
                J x x_1 x_2 x_3 x_4 x_5 →
                  (x_1 = [] → Q (Prp.mk [] [] [] []) (11 : Int)) ∧
                    (¬x_1 = [] →
                      ∃ (I : Int → List UInt8 → List UInt8 → List Param → List UInt8 → List UInt8 → List UInt8 → List Param → List UInt8 → Prop),
                        ∃ (m : Int → List UInt8 → List UInt8 → List Param → List UInt8 → List UInt8 → List UInt8 → List Param → List UInt8 → Nat),
                          I x [] [] [] [] x_2 (upper x_1) x_4 x_5 ∧
                            ∀ (x : Int) (x_6 x_7 : List UInt8) (x_8 : List Param) (x_9 x_10 x_11 : List UInt8) (x_12 : List Param) (x_13 : List UInt8),
                              I x x_6 x_7 x_8 x_9 x_10 x_11 x_12 x_13 →
                                (x < (↑(List.length s) : Int) → (0 : Int) ≤ x) ∧
                                  (x < (↑(List.length s) : Int) → x < (↑(List.length s) : Int)) ∧
                                    (x < (↑(List.length s) : Int) ∧ ix s x = (59 : UInt8) →
                                        in64 (x + (1 : Int)) ∧
                                          (0 : Int) ≤ x + (1 : Int) ∧
                                            x + (1 : Int) ≤ (↑(List.length s) : Int) ∧
                                              List.length s ≤ (100000000 : Nat) ∧
                                                in64 (x + (1 : Int)) ∧
                                                  (¬(x + (1 : Int) + nameLen s (x + (1 : Int)) = x + (1 : Int) ∨ (↑(List.length s) : Int) ≤ x + (1 : Int) + nameLen s (x + (1 : Int))) →
                                                      (0 : Int) ≤ x + (1 : Int) + nameLen s (x + (1 : Int))) ∧
                                                    (¬(x + (1 : Int) + nameLen s (x + (1 : Int)) = x + (1 : Int) ∨ (↑(List.length s) : Int) ≤ x + (1 : Int) + nameLen s (x + (1 : Int))) →
                                                        x + (1 : Int) + nameLen s (x + (1 : Int)) < (↑(List.length s) : Int)) ∧
                                                      ((x + (1 : Int) + nameLen s (x + (1 : Int)) = x + (1 : Int) ∨ (↑(List.length s) : Int) ≤ x + (1 : Int) + nameLen s (x + (1 : Int))) ∨
                                                            ix s (x + (1 : Int) + nameLen s (x + (1 : Int))) ≠ (61 : UInt8) →
                                                          Q (Prp.mk [] [] [] []) (11 : Int)) ∧
                                                        (¬((x + (1 : Int) + nameLen s (x + (1 : Int)) = x + (1 : Int) ∨ (↑(List.length s) : Int) ≤ x + (1 : Int) + nameLen s (x + (1 : Int))) ∨
                                                              ix s (x + (1 : Int) + nameLen s (x + (1 : Int))) ≠ (61 : UInt8)) →
                                                          in64 (x + (1 : Int)) ∧
                                                            (0 : Int) ≤ x + (1 : Int) ∧
                                                              x + (1 : Int) ≤ x + (1 : Int) + nameLen s (x + (1 : Int)) ∧
                                                                x + (1 : Int) + nameLen s (x + (1 : Int)) ≤ (↑(List.length s) : Int) ∧
                                                                  ∃ (I_1 : Int → Bool → List UInt8 → List UInt8 → List Param → List UInt8 → List UInt8 → List (List UInt8) → Prop),
                                                                    ∃ (m_1 : Int → Bool → List UInt8 → List UInt8 → List Param → List UInt8 → List UInt8 → List (List UInt8) → Nat),
                                                                      I_1 (x + (1 : Int) + nameLen s (x + (1 : Int))) true x_6 x_7 x_8 x_9
                                                                          (upper (List.drop (x + (1 : Int)).toNat (List.take (x + (1 : Int) + nameLen s (x + (1 : Int))).toNat s))) [] ∧
                                                                        ∀ (x_14 : Int) (x_15 : Bool) (x_16 x_17 : List UInt8) (x_18 : List Param) (x_19 x_20 : List UInt8) (x_21 : List (List UInt8)),
                                                                          I_1 x_14 x_15 x_16 x_17 x_18 x_19 x_20 x_21 →
                                                                            (x_15 = true →
                                                                                in64 (x_14 + (1 : Int)) ∧
                                                                                  (0 : Int) ≤ x_14 + (1 : Int) ∧
                                                                                    x_14 + (1 : Int) ≤ (↑(List.length s) : Int) ∧
                                                                                      List.length s ≤ (100000000 : Nat) ∧
                                                                                        ((valS s (x_14 + (1 : Int))).snd < (0 : Int) → Q (Prp.mk [] [] [] []) (11 : Int)) ∧
                                                                                          (¬(valS s (x_14 + (1 : Int))).snd < (0 : Int) →
                                                                                            (x_21.length + [(valS s (x_14 + (1 : Int))).fst].length) * (some (16 : Nat)).getD (0 : Nat) ≤
                                                                                                (140737488355328 : Nat) ∧
                                                                                              ((valS s (x_14 + (1 : Int))).snd < (↑(List.length s) : Int) →
                                                                                                  (0 : Int) ≤ (valS s (x_14 + (1 : Int))).snd) ∧
                                                                                                ((valS s (x_14 + (1 : Int))).snd < (↑(List.length s) : Int) →
                                                                                                    (valS s (x_14 + (1 : Int))).snd < (↑(List.length s) : Int)) ∧
                                                                                                  I_1 (valS s (x_14 + (1 : Int))).snd
                                                                                                      (decide
                                                                                                        ((valS s (x_14 + (1 : Int))).snd < (↑(List.length s) : Int) ∧
                                                                                                          ix s (valS s (x_14 + (1 : Int))).snd = (44 : UInt8)))
                                                                                                      x_16 x_17 x_18 x_19 x_20 (x_21 ++ [(valS s (x_14 + (1 : Int))).fst]) ∧
                                                                                                    m_1 (valS s (x_14 + (1 : Int))).snd
                                                                                                        (decide
                                                                                                          ((valS s (x_14 + (1 : Int))).snd < (↑(List.length s) : Int) ∧
                                                                                                            ix s (valS s (x_14 + (1 : Int))).snd = (44 : UInt8)))
                                                                                                        x_16 x_17 x_18 x_19 x_20 (x_21 ++ [(valS s (x_14 + (1 : Int))).fst]) <
                                                                                                      m_1 x_14 x_15 x_16 x_17 x_18 x_19 x_20 x_21)) ∧
                                                                              (¬x_15 = true →
                                                                                (x_12.length + [Param.mk x_20 x_21].length) * (some (40 : Nat)).getD (0 : Nat) ≤ (140737488355328 : Nat) ∧
                                                                                  I x_14 x_16 x_17 x_18 x_19 x_10 x_11 (x_12 ++ [Param.mk x_20 x_21]) x_13 ∧
                                                                                    m x_14 x_16 x_17 x_18 x_19 x_10 x_11 (x_12 ++ [Param.mk x_20 x_21]) x_13 <
                                                                                      m x x_6 x_7 x_8 x_9 x_10 x_11 x_12 x_13))) ∧
                                      (¬(x < (↑(List.length s) : Int) ∧ ix s x = (59 : UInt8)) →
                                        (¬(↑(List.length s) : Int) ≤ x → (0 : Int) ≤ x) ∧
                                          (¬(↑(List.length s) : Int) ≤ x → x < (↑(List.length s) : Int)) ∧
                                            ((↑(List.length s) : Int) ≤ x ∨ ix s x ≠ (58 : UInt8) → Q (Prp.mk [] [] [] []) (11 : Int)) ∧
                                              (¬((↑(List.length s) : Int) ≤ x ∨ ix s x ≠ (58 : UInt8)) →
                                                in64 (x + (1 : Int)) ∧
                                                  (0 : Int) ≤ x + (1 : Int) ∧
                                                    x + (1 : Int) ≤ (↑(List.length s) : Int) ∧
                                                      ∃ (I : Int → List UInt8 → List UInt8 → List Param → List UInt8 → Prop),
                                                        ∃ (m : Int → List UInt8 → List UInt8 → List Param → List UInt8 → Nat),
                                                          I (0 : Int) x_6 x_7 x_8 x_9 ∧
                                                            ∀ (x_14 : Int) (x_15 x_16 : List UInt8) (x_17 : List Param) (x_18 : List UInt8),
                                                              I x_14 x_15 x_16 x_17 x_18 →
                                                                (x_14 < (↑(List.drop (x + (1 : Int)).toNat s).length : Int) →
                                                                    (0 : Int) ≤ x_14 ∧
                                                                      x_14 < (↑(List.drop (x + (1 : Int)).toNat s).length : Int) ∧
                                                                        (¬standsB (ix (List.drop (x + (1 : Int)).toNat s) x_14) = true → Q (Prp.mk [] [] [] []) (11 : Int)) ∧
                                                                          (¬¬standsB (ix (List.drop (x + (1 : Int)).toNat s) x_14) = true →
                                                                            in64 (x_14 + (1 : Int)) ∧
                                                                              I (x_14 + (1 : Int)) x_15 x_16 x_17 x_18 ∧ m (x_14 + (1 : Int)) x_15 x_16 x_17 x_18 < m x_14 x_15 x_16 x_17 x_18)) ∧
                                                                  (¬x_14 < (↑(List.drop (x + (1 : Int)).toNat s).length : Int) →
                                                                    x_12.length ≤ (1000000000 : Nat) ∧
                                                                      (manyB (Prp.mk x_10 x_11 x_12 (List.drop (x + (1 : Int)).toNat s)) = true → Q (Prp.mk [] [] [] []) (5 : Int)) ∧
                                                                        (¬manyB (Prp.mk x_10 x_11 x_12 (List.drop (x + (1 : Int)).toNat s)) = true →
                                                                          Q (Prp.mk x_10 x_11 x_12 (List.drop (x + (1 : Int)).toNat s)) (0 : Int))))))
def W29 (s : Str) (Q : Prp → Int → Prop) : Prop := vcFun (E := N68) (inlMN N68 M103 an29 2) (an29 29) Tryd.f29 [.str s] [] [] 0 (resZ N68 2 [.val 45, .int .i64] Q)
attribute [local irreducible] W29 HZ
set_option maxRecDepth 100000 in
theorem V29_eq {s : Str} {Q : Prp → Int → Prop} : V29 s Q = W29 s Q := by kernel_rfl
set_option maxRecDepth 100000 in
theorem V29_ok {s : Str} {Q : Prp → Int → Prop} (h : V29 s Q) : W29 s Q := by rw [← V29_eq]; exact h
theorem name_at {s : Str} {i : Int} (h0 : 0 ≤ i) (h1 : i ≤ s.length) : 0 ≤ nameLen s i ∧ i + nameLen s i ≤ s.length ∧ List.drop i.toNat (List.take (i + nameLen s i).toNat s) = (s.drop i.toNat).takeWhile letterB ∧ s.drop (i + nameLen s i).toNat = (s.drop i.toNat).dropWhile letterB ∧ (nameLen s i = 0 ↔ (s.drop i.toNat).takeWhile letterB = []) := by
  obtain ⟨e1, e2⟩ := take_while (p := letterB) (s.drop i.toNat)
  have l := while_le letterB (s.drop i.toNat)
  rw [List.length_drop] at l
  unfold nameLen
  have e : (i + (((s.drop i.toNat).takeWhile letterB).length : Nat)).toNat = i.toNat + ((s.drop i.toNat).takeWhile letterB).length := by omega
  refine ⟨by omega, by omega, ?_, ?_, ?_⟩
  · rw [e, List.drop_take, Nat.add_sub_cancel_left, e1]
  · rw [e, ← List.drop_drop, e2]
  · rw [← List.length_eq_zero_iff]; omega
theorem p29 (s : Str) (hs : s.length ≤ 100000000) : V29 s (fun y0 y1 => y0 = (parseR s).1 ∧ y1 = (parseR s).2) := by
  unfold V29
  obtain ⟨a0, a1, a2, a3, -⟩ := name_at (s := s) (i := 0) (Int.le_refl _) (by omega)
  simp only [Int.toNat_zero, List.drop_zero] at a2 a3
  have bad : pProp s = none → prp0 = (parseR s).1 ∧ 11 = (parseR s).2 := fun h => by unfold parseR; rw [h]; exact ⟨rfl, rfl⟩
  rw [a2]
  refine ⟨Int.le_refl _, by omega, hs, by omega, a1, fun i f g n l v => (n = [] ∧ l = []) ∧ 0 ≤ i ∧ i ≤ s.length ∧ (f = [] → pProp s = none) ∧ (f ≠ [] → pProp s = tailS g (upper f) [] (s.drop i.toNat)), ⟨fun _ => by omega, fun h => h, fun ⟨⟨h1, h2⟩, h3⟩ => ?_, fun h => ?_⟩, ?_⟩
  · obtain ⟨b0, b1, b2, b3, b4⟩ := name_at (s := s) (i := 0 + nameLen s 0 + 1) (by omega) (by omega)
    have hd := hdIs_at (by omega) ⟨h1, h2⟩
    rw [a3] at hd
    have hp := prop_two h3 hd
    rw [b2]
    refine ⟨⟨by omega, by omega⟩, by omega, by omega, hs, ⟨by omega, by omega⟩, by omega, by omega, b1, ⟨rfl, rfl⟩, by omega, b1, fun h => ?_, fun h => ?_⟩
    · rw [hp, if_pos h]
    · rw [hp, if_neg h, b3]
  · refine ⟨⟨rfl, rfl⟩, by omega, a1, fun h0 => prop_no h0, fun h0 => ?_⟩
    rw [prop_one h0 (by rw [← a3]; exact hdIs_not (by omega) (fun x => h ⟨x, h0⟩)), a3]
  rintro i f g n l v ⟨⟨rfl, rfl⟩, i0, i1, h1, h2⟩
  refine ⟨fun hf => bad (h1 hf), fun hf => ?_⟩
  have h2 := h2 hf
  clear h1
  refine ⟨fun i _ _ _ _ g' n' l _ => g' = g ∧ n' = upper f ∧ 0 ≤ i ∧ i ≤ s.length ∧ (l.length : Int) ≤ i ∧ pProp s = tailS g (upper f) l (s.drop i.toNat), fun i _ _ _ _ _ _ _ _ => ((s.length : Int) - i).toNat, ⟨rfl, rfl, i0, i1, by simp; exact i0, h2⟩, ?_⟩
  clear h2 i0 i1
  rintro i r1 r2 r3 r4 g' n' l v ⟨rfl, rfl, i0, i1, hl, hp⟩
  refine ⟨fun _ => i0, fun h => h, fun ⟨hi, hc⟩ => ?_, fun hc => ?_⟩
  · obtain ⟨b0, b1, b2, b3, b4⟩ := name_at (s := s) (i := i + 1) (by omega) (by omega)
    rw [tail_p (hdIs_at i0 ⟨hi, hc⟩)] at hp
    rw [b2]
    refine ⟨⟨by omega, by omega⟩, by omega, by omega, hs, ⟨by omega, by omega⟩, fun _ => by omega, fun h => by omega, fun h => bad ?_, fun h => ⟨⟨by omega, by omega⟩, by omega, by omega, b1, ?_⟩⟩
    · have : (s.drop (i + 1).toNat).takeWhile letterB = [] ∨ hdIs 61 ((s.drop (i + 1).toNat).dropWhile letterB) = none := by
        by_cases e : nameLen s (i + 1) = 0
        · exact .inl (b4.1 e)
        · refine .inr ?_
          rw [← b3]
          exact hdIs_not (by omega) (fun ⟨x, y⟩ => by
            rcases h with (h | h) | h
            · omega
            · omega
            · exact h y)
      rw [hp, pParam_no this]
    · have hk : i + 1 + nameLen s (i + 1) < s.length ∧ ix s (i + 1 + nameLen s (i + 1)) = 61 := ⟨Classical.byContradiction fun n => h (.inl (.inr (by omega))), Classical.byContradiction fun n => h (.inr n)⟩
      have hne : (s.drop (i + 1).toNat).takeWhile letterB ≠ [] := fun e => h (.inl (.inl (by have := b4.2 e; omega)))
      have hd1 := hdIs_at (by omega) hk
      rw [b3] at hd1
      rw [pParam_on hne hd1] at hp
      have k00 : i + 1 ≤ i + 1 + nameLen s (i + 1) := by omega
      generalize i + 1 + nameLen s (i + 1) = k0 at *
      refine ⟨fun k more _ _ _ _ nm vs => nm = upper ((s.drop (i + 1).toNat).takeWhile letterB) ∧ i < k ∧ k ≤ s.length ∧ (vs.length : Int) ≤ k ∧ (more = true → k < s.length ∧ valsS vs (s.drop (k + 1).toNat) = pVals (s.drop (k0 + 1).toNat)) ∧ (more = false → pVals (s.drop (k0 + 1).toNat) = some (vs, s.drop k.toNat)), fun k _ _ _ _ _ _ _ => ((s.length : Int) - k).toNat, ⟨rfl, by omega, by omega, by simp; omega, fun _ => ⟨hk.1, valsS_nil _⟩, fun h => by cases h⟩, ?_⟩
      rintro k more c1 c2 c3 c4 nm vs ⟨rfl, k2, k1, kl, hm, hn⟩
      refine ⟨fun hmore => ?_, fun hmore => ?_⟩
      · obtain ⟨k3, hv⟩ := hm hmore
        cases hp2 : pValue (s.drop (k + 1).toNat) with
        | none =>
          rw [valS_none hp2]
          rw [valsS_none hp2] at hv
          rw [← hv] at hp
          exact ⟨⟨by omega, by omega⟩, by omega, by omega, hs, fun _ => bad hp, fun h => absurd (show (-1 : Int) < 0 by decide) h⟩
        | some x =>
          obtain ⟨v, r⟩ := x
          obtain ⟨e1, e2⟩ := suf_drop (i := k + 1) (by omega) (by omega) (pValue_suf hp2)
          rw [valS_some hp2]
          have j1 : (s.length : Int) - r.length ≤ s.length := by omega
          generalize (s.length : Int) - r.length = j at *
          dsimp only
          refine ⟨⟨by omega, by omega⟩, by omega, by omega, hs, fun h => by omega, fun h => ⟨by simp; omega, fun _ => by omega, fun h => h, ⟨rfl, by omega, j1, by simp; omega, fun hm => ?_, fun hm => ?_⟩, by omega⟩⟩
          · have hm := of_decide_eq_true hm
            have h44 := hdIs_at (by omega) hm
            rw [← e1] at h44
            exact ⟨hm.1, by rw [← hv, valsS_on hp2 h44]⟩
          · have hm := of_decide_eq_false hm
            have h44 := hdIs_not (c := 44) (s := s) (i := j) (by omega) hm
            rw [← e1] at h44
            rw [← hv, valsS_end hp2 h44, ← e1]
      · have := hn (by simpa using hmore)
        rw [this] at hp
        exact ⟨by simp; omega, ⟨rfl, rfl, by omega, k1, by simp; omega, hp⟩, by dsimp only; omega⟩
  · have h59 := hdIs_not i0 hc
    refine ⟨fun _ => i0, fun h => by omega, fun h => bad ?_, fun h => ?_⟩
    · rw [hp]
      exact tail_no h59 (hdIs_not i0 (fun ⟨a, b⟩ => by
        rcases h with h | h
        · omega
        · exact h b))
    · have h58 : i < s.length ∧ ix s i = 58 := ⟨Classical.byContradiction fun n => h (.inl (by omega)), Classical.byContradiction fun n => h (.inr n)⟩
      rw [tail_end h59 (hdIs_at i0 h58)] at hp
      have lt : (s.drop (i + 1).toNat).length ≤ s.length := by rw [List.length_drop]; omega
      refine ⟨⟨by omega, by omega⟩, by omega, by omega, ?_⟩
      generalize s.drop (i + 1).toNat = t at *
      refine ⟨fun j _ _ _ _ => 0 ≤ j ∧ j ≤ t.length ∧ ∀ k : Int, 0 ≤ k → k < j → standsB (ix t k) = true, fun j _ _ _ _ => ((t.length : Int) - j).toNat, ⟨by omega, by omega, fun j _ _ => by omega⟩, ?_⟩
      rintro j c1 c2 c3 c4 ⟨j0, j1, hj⟩
      refine ⟨fun hi => ⟨j0, hi, fun hn => bad ?_, fun hn => ⟨⟨by omega, by omega⟩, ⟨by omega, by omega, fun k k0 k1 => ?_⟩, by dsimp only; omega⟩⟩, fun hi => ⟨by omega, fun hm => ?_, fun hm => ?_⟩⟩
      · rw [hp, if_neg (not_all j0 hi hn)]
      · by_cases e : k = j
        · subst e; exact Classical.not_not.1 hn
        · exact hj k k0 (by omega)
      · rw [if_pos (all_ix fun k k0 k1 => hj k k0 (by omega))] at hp
        unfold parseR; rw [hp]; simp only [if_pos hm]; exact ⟨by first | rfl | trivial, by first | rfl | trivial⟩
      · rw [if_pos (all_ix fun k k0 k1 => hj k k0 (by omega))] at hp
        unfold parseR; rw [hp]; simp only [if_neg hm]; exact ⟨by first | rfl | trivial, by first | rfl | trivial⟩
set_option maxRecDepth 100000 in
theorem Y29_eq {s : Str} : W29 s (fun y0 y1 => y0 = (parseR s).1 ∧ y1 = (parseR s).2) = HZ N68 (inlMN N68 M103 an29 2) (an29 29) Tryd.f29 [.str s] 2 [.val 45, .int .i64] ((parseR s).1, (parseR s).2, ()) := by kernel_rfl
theorem Y29_ok (s : Str) (hs : s.length ≤ 100000000) : HZ N68 (inlMN N68 M103 an29 2) (an29 29) Tryd.f29 [.str s] 2 [.val 45, .int .i64] ((parseR s).1, (parseR s).2, ()) := by
  rw [← Y29_eq]
  exact V29_ok (p29 s hs)
def c29r (s : Str) : CR U := ⟨[List.length (α := UInt8) s ≤ 100000000], [], .tup [.agg [.str ((parseR s).1).Group, .str ((parseR s).1).Name, .sl 59 ((parseR s).1).Params, .str ((parseR s).1).Value], .int .i64 ((parseR s).2)], []⟩
set_option maxRecDepth 100000 in
theorem c29r_eq (s : Str) : (⟨[List.length (α := UInt8) s ≤ 100000000], [], tellA 2 (tell N68 [.val 45, .int .i64] ((parseR s).1, (parseR s).2, ())), []⟩ : CR N68.N) = c29r s := by kernel_rfl
set_option maxRecDepth 100000 in
theorem c29r_ok (s : Str) (hs : s.length ≤ 100000000) (nx : Nat) (hp : ([.str s] : List (SV U)).all pureS = true) : ConOK N68.P N68.N N68.T N68.G 29 [.str s] nx (c29r s) := by
  rw [← c29r_eq]
  exact conH N68_ok (inlMN_ok N68_ok M103_ok an29 2) Tryd.func29 rfl hp (Y29_ok s hs)
def c29 (a : List (SV U)) (nx : Nat) : Option (CR U) := match a with | [.str s] => some (c29r s) | _ => none
theorem c29_ok (args : List (SV U)) (nx : Nat) (c : CR U) (h : c29 args nx = some c) (hp : args.all pureS = true) (ho : allP c.ob) : ConOK N68.P N68.N N68.T N68.G 29 args nx c := by
  unfold c29 at h
  split at h
  · rename_i s
    cases h
    exact c29r_ok s ho.1 nx hp
  · cases h
noncomputable def N29 : Env := N68.addC 29 c29
theorem N29_ok : EnvOK N29 := N68_ok.addC Tryd.call29 c29_ok
end Go.Proofs.YtadgfmmmdhlljaaDoor
end
section
namespace Go.Proofs.YtadgfmmmdhlljaaDoor
open Go Go.Wk Go.Wl Go.Rx Go.Fo Go.Li 
def an34 : Nat → Ann := fun | 34 => ⟨53, fun | 4 => some ⟨[31, 32], [.slot 33 (.int .i64)]⟩ | _ => none, fun  | _ => none⟩ | 75 => ⟨9, fun _ => none, fun  | _ => none⟩ | 114 => ⟨19, fun | 2 => some ⟨[0, 1, 7], [.slot 8 (.int .i64)]⟩ | _ => none, fun  | _ => none⟩ | 76 => ⟨6, fun _ => none, fun  | _ => none⟩ | _ => ⟨0, fun _ => none, fun _ => none⟩
def V34 (p : Prp) (Q : Bool → Prop) : Prop :=
List.length p.Name ≤ (9223372036854775807 : Nat) ∧
  (¬¬nameB p.Name = true ∧ p.Group ≠ [] → List.length p.Group ≤ (9223372036854775807 : Nat)) ∧
    (¬(¬nameB p.Name = true ∨ p.Group ≠ [] ∧ ¬nameB p.Group = true) → p.Params.length ≤ (1000000000 : Nat)) ∧
      (¬((¬nameB p.Name = true ∨ p.Group ≠ [] ∧ ¬nameB p.Group = true) ∨ manyB (Prp.mk p.Group p.Name p.Params p.Value) = true) → List.length p.Value ≤ (9223372036854775807 : Nat)) ∧
        (((¬nameB p.Name = true ∨ p.Group ≠ [] ∧ ¬nameB p.Group = true) ∨ manyB (Prp.mk p.Group p.Name p.Params p.Value) = true) ∨ ¬standAll false p.Value = true → Q false) ∧
          (¬(((¬nameB p.Name = true ∨ p.Group ≠ [] ∧ ¬nameB p.Group = true) ∨ manyB (Prp.mk p.Group p.Name p.Params p.Value) = true) ∨ ¬standAll false p.Value = true) →
            ∃ (I : Int → Prop),
              ∃ (m : Int → Nat),
                I (0 : Int) ∧
                  ∀ (x : Int),
                    I x →
                      (x < (↑p.Params.length : Int) →
                          (0 : Int) ≤ x ∧
                            x < (↑p.Params.length : Int) ∧
                              List.length (ix p.Params x).Name ≤ (9223372036854775807 : Nat) ∧
                                (¬nameB (ix p.Params x).Name = true ∨ (↑(ix p.Params x).Values.length : Int) = (0 : Int) → Q false) ∧
                                  (¬(¬nameB (ix p.Params x).Name = true ∨ (↑(ix p.Params x).Values.length : Int) = (0 : Int)) →
                                    ∃ (I_1 : Int → Prop),
                                      ∃ (m_1 : Int → Nat),
                                        I_1 (0 : Int) ∧
                                          ∀ (x_1 : Int),
                                            I_1 x_1 →
                                              (x_1 < (↑(ix p.Params x).Values.length : Int) →
                                                  (0 : Int) ≤ x_1 ∧
                                                    x_1 < (↑(ix p.Params x).Values.length : Int) ∧
                                                      (ix (ix p.Params x).Values x_1).length ≤ (9223372036854775807 : Nat) ∧
                                                        (¬standAll true (ix (ix p.Params x).Values x_1) = true →
                                                            ((0 : Int) ≤ x_1 → Q false) ∧ (¬(0 : Int) ≤ x_1 → in64 (x + (1 : Int)) ∧ I (x + (1 : Int)) ∧ m (x + (1 : Int)) < m x)) ∧
                                                          (¬¬standAll true (ix (ix p.Params x).Values x_1) = true → in64 (x_1 + (1 : Int)) ∧ I_1 (x_1 + (1 : Int)) ∧ m_1 (x_1 + (1 : Int)) < m_1 x_1)) ∧
                                                (¬x_1 < (↑(ix p.Params x).Values.length : Int) →
                                                  ((0 : Int) ≤ (-1 : Int) → Q false) ∧ (¬(0 : Int) ≤ (-1 : Int) → in64 (x + (1 : Int)) ∧ I (x + (1 : Int)) ∧ m (x + (1 : Int)) < m x)))) ∧
                        (¬x < (↑p.Params.length : Int) → Q true))
set_option maxRecDepth 100000 in
theorem V34_ok {p : Prp} {Q : Bool → Prop} (h : V34 p Q) : vcFun (E := N29) (inlMN N29 M103 an34 4) (an34 34) Tryd.f34 [.agg [.str p.Group, .str p.Name, .sl (N := U) 59 p.Params, .str p.Value]] [] [] 0 (resP N29 [.bool] Q) := Eq.mp (show V34 p Q = vcFun (E := N29) (inlMN N29 M103 an34 4) (an34 34) Tryd.f34 [.agg [.str p.Group, .str p.Name, .sl (N := U) 59 p.Params, .str p.Value]] [] [] 0 (resP N29 [.bool] Q) by kernel_rfl) h
theorem name_iff (s : Str) : nameB s = true ↔ isName s := decide_eq_true_iff
theorem stand_f (s : Str) : standAll false s = s.all standsB := by unfold standAll; simp
theorem stand_t (s : Str) : standAll true s = s.all saysB := by unfold standAll saysB; simp
theorem right_no {p : Prp} (h : ¬ (right0 p ∧ manyB p = false)) : false = rightB p := by
  cases e : rightB p
  · rfl
  · exact absurd (rightB_iff.1 e) h
theorem right_yes {p : Prp} (h : right0 p ∧ manyB p = false) : true = rightB p := (rightB_iff.2 h).symm
theorem p34 (p : Prp) (h : smallP p) : V34 p (fun y0 => y0 = rightB p) := by
  unfold V34
  refine ⟨by have := h.name; omega, fun _ => by have := h.group; omega, fun _ => by have := h.params; omega, fun _ => by have := h.value; omega, fun hb => right_no fun ⟨⟨a, b, c, _⟩, d⟩ => ?_, fun hg => ?_⟩
  · rcases hb with ((hb | ⟨hb, hb2⟩) | hb) | hb
    · exact hb ((name_iff _).2 a)
    · exact hb2 ((name_iff _).2 (b hb))
    · have hb : manyB p = true := hb
      rw [d] at hb; cases hb
    · rw [stand_f] at hb; exact hb c
  have hN : isName p.Name := (name_iff _).1 (Classical.byContradiction fun n => hg (.inl (.inl (.inl n))))
  have hG : p.Group ≠ [] → isName p.Group := fun e => (name_iff _).1 (Classical.byContradiction fun n => hg (.inl (.inl (.inr ⟨e, n⟩))))
  have hM : manyB p = false := by
    cases e : manyB p
    · rfl
    · exact absurd (.inl (.inr e)) hg
  have hV : p.Value.all standsB = true := by rw [← stand_f]; exact Classical.byContradiction fun n => hg (.inr n)
  clear hg
  refine ⟨fun i => 0 ≤ i ∧ i ≤ p.Params.length ∧ ∀ j : Int, 0 ≤ j → j < i → rightX (ix p.Params j), fun i => ((p.Params.length : Int) - i).toNat, ⟨by omega, by omega, fun j _ _ => by omega⟩, ?_⟩
  rintro i ⟨i0, i1, hx⟩
  have hp := h.params
  refine ⟨fun hi => ?_, fun hi => right_yes ⟨⟨hN, hG, hV, fun x hm => ?_⟩, hM⟩⟩
  · have hm := mem_of_ix i0 hi
    have sx := h.param _ hm
    obtain ⟨v1, v2⟩ := small_val h hM hm
    generalize hxe : ix p.Params i = x at *
    have bad : ¬ rightX x → false = rightB p := fun hn => right_no fun ⟨⟨_, _, _, d⟩, _⟩ => hn (d x hm)
    refine ⟨i0, hi, by have := sx.name; omega, fun hb => bad fun ⟨a, b, _⟩ => ?_, fun hg => ?_⟩
    · rcases hb with hb | hb
      · exact hb ((name_iff _).2 a)
      · exact b (List.length_eq_zero_iff.1 (by omega))
    have hxN : isName x.Name := (name_iff _).1 (Classical.byContradiction fun n => hg (.inl n))
    have hxV : x.Values ≠ [] := fun e => hg (.inr (by rw [e]; rfl))
    refine ⟨fun k => 0 ≤ k ∧ k ≤ x.Values.length ∧ ∀ j : Int, 0 ≤ j → j < k → (ix x.Values j).all saysB = true, fun k => ((x.Values.length : Int) - k).toNat, ⟨by omega, by omega, fun j _ _ => by omega⟩, ?_⟩
    rintro k ⟨k0, k1, hk⟩
    refine ⟨fun hkl => ⟨k0, hkl, by have := v2 _ (mem_of_ix k0 hkl); omega, fun hs => ⟨fun _ => bad fun ⟨_, _, c⟩ => ?_, fun n => absurd k0 n⟩, fun hs => ⟨⟨by omega, by omega⟩, ⟨by omega, by omega, fun j j0 j1 => ?_⟩, by first | omega | (dsimp only; omega)⟩⟩, fun hkl => ⟨fun n => by omega, fun _ => ⟨⟨by omega, by omega⟩, ⟨by omega, by omega, fun j j0 j1 => ?_⟩, by first | omega | (dsimp only; omega)⟩⟩⟩
    · rw [stand_t] at hs
      exact hs (c _ (mem_of_ix k0 hkl))
    · rw [stand_t] at hs
      by_cases e : j = k
      · subst e; exact Classical.not_not.1 hs
      · exact hk j j0 (by omega)
    · by_cases e : j = i
      · subst e
        rw [hxe]
        refine ⟨hxN, hxV, fun v hv => ?_⟩
        obtain ⟨n, hn, rfl⟩ := List.getElem_of_mem hv
        have := hk n (by omega) (by omega)
        rw [ix_get (by simpa using hn)] at this
        simpa using this
      · exact hx j j0 (by omega)
  · obtain ⟨n, hn, rfl⟩ := List.getElem_of_mem hm
    have := hx n (by omega) (by omega)
    rw [ix_get (by simpa using hn)] at this
    simpa using this
def c34s (p : Prp) : Q1 U := ⟨[smallP p], [], blB (rightB p)⟩
def c34 (a : List (SV U)) : Option (Q1 U) := match a with | [.agg [.str p0, .str p1, .sl 59 p2, .str p3]] => some (c34s (⟨p0, p1, p2, p3⟩)) | _ => none
set_option maxRecDepth 100000 in
theorem c34_ok (args : List (SV U)) (q : Q1 U) (h : c34 args = some q) (ho : allP q.ob) : LendOK N29 34 args ⟨q.ob, q.hy, q.v, []⟩ := by
  unfold c34 at h
  split at h
  · rename_i p0 p1 p2 p3
    cases h
    exact lend1 N29_ok (inlMN_ok N29_ok M103_ok an34 4) Tryd.func34 (k := .bool) trivial (V34_ok (p34 (⟨p0, p1, p2, p3⟩) ho.1)) 0
  · cases h
noncomputable def N34 : Env := N29.addL 34 c34
theorem N34_ok : EnvOK N34 := N29_ok.addL Tryd.call34 c34_ok
end Go.Proofs.YtadgfmmmdhlljaaDoor
end
section
namespace Go.Proofs.YtadgfmmmdhlljaaDoor
open Go Go.Wk Go.Wl Go.Rx Go.Fo Go.Li 
def an35 : Nat → Ann := fun | 35 => ⟨98, fun | 9 => some ⟨[1], [.slot 4 (.int .i64)]⟩ | 15 => some ⟨[1, 4, 5], [.slot 6 (.int .i64)]⟩ | 18 => some ⟨[1, 4, 5, 6], [.slot 7 (.int .i64)]⟩ | 4 => some ⟨[1], [.slot 3 (.int .i64)]⟩ | _ => none, fun  | _ => none⟩ | _ => ⟨0, fun _ => none, fun _ => none⟩
def V35 (p : Prp) (Q : Bool → Prop) : Prop :=
List.length p.Name ≤ (100000000 : Nat) ∧
  (¬¬nameB p.Name = true ∧ p.Group ≠ [] → List.length p.Group ≤ (100000000 : Nat)) ∧
    (¬(¬nameB p.Name = true ∨ p.Group ≠ [] ∧ ¬nameB p.Group = true) → p.Params.length ≤ (1000000000 : Nat)) ∧
      ((¬nameB p.Name = true ∨ p.Group ≠ [] ∧ ¬nameB p.Group = true) ∨ manyB (Prp.mk p.Group p.Name p.Params p.Value) = true → Q false) ∧
        (¬((¬nameB p.Name = true ∨ p.Group ≠ [] ∧ ¬nameB p.Group = true) ∨ manyB (Prp.mk p.Group p.Name p.Params p.Value) = true) →
          ∃ (I : Int → Prop),
            ∃ (m : Int → Nat),
              I (0 : Int) ∧
                ∀ (x : Int),
                  I x →
                    (x < (↑(List.length p.Value) : Int) →
                        (0 : Int) ≤ x ∧
                          x < (↑(List.length p.Value) : Int) ∧
                            (¬standsB (ix p.Value x) = true → Q false) ∧ (¬¬standsB (ix p.Value x) = true → in64 (x + (1 : Int)) ∧ I (x + (1 : Int)) ∧ m (x + (1 : Int)) < m x)) ∧
                      (¬x < (↑(List.length p.Value) : Int) →
                        ∃ (I : Int → Prop),
                          ∃ (m : Int → Nat),
                            I (0 : Int) ∧
                              ∀ (x : Int),
                                I x →
                                  (x < (↑p.Params.length : Int) →
                                      (0 : Int) ≤ x ∧
                                        x < (↑p.Params.length : Int) ∧
                                          List.length (ix p.Params x).Name ≤ (100000000 : Nat) ∧
                                            (¬nameB (ix p.Params x).Name = true ∨ (↑(ix p.Params x).Values.length : Int) = (0 : Int) → Q false) ∧
                                              (¬(¬nameB (ix p.Params x).Name = true ∨ (↑(ix p.Params x).Values.length : Int) = (0 : Int)) →
                                                ∃ (I_1 : Int → Prop),
                                                  ∃ (m_1 : Int → Nat),
                                                    I_1 (0 : Int) ∧
                                                      ∀ (x_1 : Int),
                                                        I_1 x_1 →
                                                          (x_1 < (↑(ix p.Params x).Values.length : Int) →
                                                              ∃ (I : Int → Prop),
                                                                ∃ (m : Int → Nat),
                                                                  I (0 : Int) ∧
                                                                    ∀ (x_2 : Int),
                                                                      I x_2 →
                                                                        (0 : Int) ≤ x_1 ∧
                                                                          x_1 < (↑(ix p.Params x).Values.length : Int) ∧
                                                                            (x_2 < (↑(ix (ix p.Params x).Values x_1).length : Int) →
                                                                                (0 : Int) ≤ x_1 ∧
                                                                                  x_1 < (↑(ix p.Params x).Values.length : Int) ∧
                                                                                    (0 : Int) ≤ x_2 ∧
                                                                                      x_2 < (↑(ix (ix p.Params x).Values x_1).length : Int) ∧
                                                                                        (¬standsB (ix (ix (ix p.Params x).Values x_1) x_2) = true → (0 : Int) ≤ x_1) ∧
                                                                                          (¬standsB (ix (ix (ix p.Params x).Values x_1) x_2) = true → x_1 < (↑(ix p.Params x).Values.length : Int)) ∧
                                                                                            (¬standsB (ix (ix (ix p.Params x).Values x_1) x_2) = true → (0 : Int) ≤ x_2) ∧
                                                                                              (¬standsB (ix (ix (ix p.Params x).Values x_1) x_2) = true →
                                                                                                  x_2 < (↑(ix (ix p.Params x).Values x_1).length : Int)) ∧
                                                                                                (¬standsB (ix (ix (ix p.Params x).Values x_1) x_2) = true ∧
                                                                                                      ix (ix (ix p.Params x).Values x_1) x_2 ≠ (10 : UInt8) →
                                                                                                    Q false) ∧
                                                                                                  (¬(¬standsB (ix (ix (ix p.Params x).Values x_1) x_2) = true ∧
                                                                                                        ix (ix (ix p.Params x).Values x_1) x_2 ≠ (10 : UInt8)) →
                                                                                                    in64 (x_2 + (1 : Int)) ∧ I (x_2 + (1 : Int)) ∧ m (x_2 + (1 : Int)) < m x_2)) ∧
                                                                              (¬x_2 < (↑(ix (ix p.Params x).Values x_1).length : Int) →
                                                                                in64 (x_1 + (1 : Int)) ∧ I_1 (x_1 + (1 : Int)) ∧ m_1 (x_1 + (1 : Int)) < m_1 x_1)) ∧
                                                            (¬x_1 < (↑(ix p.Params x).Values.length : Int) → in64 (x + (1 : Int)) ∧ I (x + (1 : Int)) ∧ m (x + (1 : Int)) < m x))) ∧
                                    (¬x < (↑p.Params.length : Int) → Q true)))
set_option maxRecDepth 100000 in
theorem V35_ok {p : Prp} {Q : Bool → Prop} (h : V35 p Q) : vcFun (E := N34) (inlMN N34 M103 an35 2) (an35 35) Tryd.f35 [.agg [.str p.Group, .str p.Name, .sl (N := U) 59 p.Params, .str p.Value]] [] [] 0 (resP N34 [.bool] Q) := Eq.mp (show V35 p Q = vcFun (E := N34) (inlMN N34 M103 an35 2) (an35 35) Tryd.f35 [.agg [.str p.Group, .str p.Name, .sl (N := U) 59 p.Params, .str p.Value]] [] [] 0 (resP N34 [.bool] Q) by kernel_rfl) h
theorem says_iff (c : UInt8) : saysB c = true ↔ ¬ (¬ standsB c = true ∧ c ≠ 10) := by
  unfold saysB
  rw [Bool.or_eq_true, beq_iff_eq]
  constructor
  · rintro (h | h) ⟨a, b⟩
    · exact a h
    · exact b h
  · intro h
    by_cases a : standsB c = true
    · exact .inl a
    · exact .inr (Classical.byContradiction fun b => h ⟨a, b⟩)
theorem p35 (p : Prp) (h : smallP p) : V35 p (fun y0 => y0 = rightB p) := by
  unfold V35
  refine ⟨by have := h.name; omega, fun _ => by have := h.group; omega, fun _ => by have := h.params; omega, fun hb => right_no fun ⟨⟨a, b, c, _⟩, d⟩ => ?_, fun hg => ?_⟩
  · rcases hb with (hb | ⟨hb, hb2⟩) | hb
    · exact hb ((name_iff _).2 a)
    · exact hb2 ((name_iff _).2 (b hb))
    · have hb : manyB p = true := hb
      rw [d] at hb; cases hb
  have hN : isName p.Name := (name_iff _).1 (Classical.byContradiction fun n => hg (.inl (.inl n)))
  have hG : p.Group ≠ [] → isName p.Group := fun e => (name_iff _).1 (Classical.byContradiction fun n => hg (.inl (.inr ⟨e, n⟩)))
  have hM : manyB p = false := by
    cases e : manyB p
    · rfl
    · exact absurd (.inr e) hg
  clear hg
  have hv := h.value
  refine ⟨fun k => 0 ≤ k ∧ k ≤ p.Value.length ∧ ∀ j : Int, 0 ≤ j → j < k → standsB (ix p.Value j) = true, fun k => ((p.Value.length : Int) - k).toNat, ⟨by omega, by omega, fun j _ _ => by omega⟩, ?_⟩
  rintro k ⟨k0, k1, hk⟩
  refine ⟨fun hi => ⟨k0, hi, fun hs => right_no fun ⟨⟨_, _, c, _⟩, _⟩ => not_all k0 hi hs c, fun hs => ⟨⟨by omega, by omega⟩, ⟨by omega, by omega, fun j j0 j1 => ?_⟩, by first | omega | (dsimp only; omega)⟩⟩, fun hi => ?_⟩
  · by_cases e : j = k
    · subst e; exact Classical.not_not.1 hs
    · exact hk j j0 (by omega)
  have hV : p.Value.all standsB = true := all_ix fun j j0 j1 => hk j j0 (by omega)
  clear hi hk k1 k0
  refine ⟨fun i => 0 ≤ i ∧ i ≤ p.Params.length ∧ ∀ j : Int, 0 ≤ j → j < i → rightX (ix p.Params j), fun i => ((p.Params.length : Int) - i).toNat, ⟨by omega, by omega, fun j _ _ => by omega⟩, ?_⟩
  rintro i ⟨i0, i1, hx⟩
  have hp := h.params
  refine ⟨fun hi => ?_, fun hi => right_yes ⟨⟨hN, hG, hV, fun x hm => ?_⟩, hM⟩⟩
  · have hm := mem_of_ix i0 hi
    have sx := h.param _ hm
    obtain ⟨v1, v2⟩ := small_val h hM hm
    generalize hxe : ix p.Params i = x at *
    have bad : ¬ rightX x → false = rightB p := fun hn => right_no fun ⟨⟨_, _, _, d⟩, _⟩ => hn (d x hm)
    refine ⟨i0, hi, by have := sx.name; omega, fun hb => bad fun ⟨a, b, _⟩ => ?_, fun hg => ?_⟩
    · rcases hb with hb | hb
      · exact hb ((name_iff _).2 a)
      · exact b (List.length_eq_zero_iff.1 (by omega))
    have hxN : isName x.Name := (name_iff _).1 (Classical.byContradiction fun n => hg (.inl n))
    have hxV : x.Values ≠ [] := fun e => hg (.inr (by rw [e]; rfl))
    refine ⟨fun k => 0 ≤ k ∧ k ≤ x.Values.length ∧ ∀ j : Int, 0 ≤ j → j < k → (ix x.Values j).all saysB = true, fun k => ((x.Values.length : Int) - k).toNat, ⟨by omega, by omega, fun j _ _ => by omega⟩, ?_⟩
    rintro k ⟨k0, k1, hk⟩
    refine ⟨fun hkl => ?_, fun hkl => ⟨⟨by omega, by omega⟩, ⟨by omega, by omega, fun j j0 j1 => ?_⟩, by first | omega | (dsimp only; omega)⟩⟩
    · have hmk := mem_of_ix k0 hkl
      have hvk := v2 _ hmk
      refine ⟨fun y => 0 ≤ y ∧ y ≤ (ix x.Values k).length ∧ ∀ j : Int, 0 ≤ j → j < y → saysB (ix (ix x.Values k) j) = true, fun y => (((ix x.Values k).length : Int) - y).toNat, ⟨by omega, by omega, fun j _ _ => by omega⟩, ?_⟩
      rintro y ⟨y0, y1, hy⟩
      refine ⟨k0, hkl, fun hyl => ⟨k0, hkl, y0, hyl, fun _ => k0, fun _ => hkl, fun _ => y0, fun _ => hyl, fun hs => bad fun ⟨_, _, c⟩ => ?_, fun hs => ⟨⟨by omega, by omega⟩, ⟨by omega, by omega, fun j j0 j1 => ?_⟩, by first | omega | (dsimp only; omega)⟩⟩, fun hyl => ⟨⟨by omega, by omega⟩, ⟨by omega, by omega, fun j j0 j1 => ?_⟩, by first | omega | (dsimp only; omega)⟩⟩
      · exact (says_iff _).1 (List.all_eq_true.1 (c _ hmk) _ (mem_of_ix y0 hyl)) hs
      · by_cases e : j = y
        · subst e; exact (says_iff _).2 hs
        · exact hy j j0 (by omega)
      · by_cases e : j = k
        · subst e; exact all_ix fun z z0 z1 => hy z z0 (by omega)
        · exact hk j j0 (by omega)
    · by_cases e : j = i
      · subst e
        rw [hxe]
        refine ⟨hxN, hxV, fun v hv => ?_⟩
        obtain ⟨n, hn, rfl⟩ := List.getElem_of_mem hv
        have := hk n (by omega) (by omega)
        rw [ix_get (by simpa using hn)] at this
        simpa using this
      · exact hx j j0 (by omega)
  · obtain ⟨n, hn, rfl⟩ := List.getElem_of_mem hm
    have := hx n (by omega) (by omega)
    rw [ix_get (by simpa using hn)] at this
    simpa using this
def c35s (p : Prp) : Q1 U := ⟨[smallP p], [], blB (rightB p)⟩
def c35 (a : List (SV U)) : Option (Q1 U) := match a with | [.agg [.str p0, .str p1, .sl 59 p2, .str p3]] => some (c35s (⟨p0, p1, p2, p3⟩)) | _ => none
set_option maxRecDepth 100000 in
theorem c35_ok (args : List (SV U)) (q : Q1 U) (h : c35 args = some q) (ho : allP q.ob) : LendOK N34 35 args ⟨q.ob, q.hy, q.v, []⟩ := by
  unfold c35 at h
  split at h
  · rename_i p0 p1 p2 p3
    cases h
    exact lend1 N34_ok (inlMN_ok N34_ok M103_ok an35 2) Tryd.func35 (k := .bool) trivial (V35_ok (p35 (⟨p0, p1, p2, p3⟩) ho.1)) 0
  · cases h
noncomputable def N35 : Env := N34.addL 35 c35
theorem N35_ok : EnvOK N35 := N34_ok.addL Tryd.call35 c35_ok
end Go.Proofs.YtadgfmmmdhlljaaDoor
end
section
namespace Go.Proofs.YtadgfmmmdhlljaaDoor
open Go Go.Wk Go.Wl Go.Rx Go.Fo Go.Li 
def an70 : Nat → Ann := fun | 70 => ⟨15, fun _ => none, fun  | _ => none⟩ | _ => ⟨0, fun _ => none, fun _ => none⟩
def V70 (s : Str) (Q : Str → Prop) : Prop :=
(-1 : Int) < (0 : Int) ∧
  List.length s ≤ (1000000000 : Nat) ∧
    [(94 : UInt8), (94 : UInt8)].length = (2 : Nat) ∧
      (-1 : Int) < (0 : Int) ∧
        List.length (replB (94 : UInt8) [(94 : UInt8), (94 : UInt8)] s) ≤ (1000000000 : Nat) ∧
          [(94 : UInt8), (39 : UInt8)].length = (2 : Nat) ∧
            (-1 : Int) < (0 : Int) ∧
              List.length (replB (34 : UInt8) [(94 : UInt8), (39 : UInt8)] (replB (94 : UInt8) [(94 : UInt8), (94 : UInt8)] s)) ≤ (1000000000 : Nat) ∧
                [(94 : UInt8), (110 : UInt8)].length = (2 : Nat) ∧
                  List.length (replB (10 : UInt8) [(94 : UInt8), (110 : UInt8)] (replB (34 : UInt8) [(94 : UInt8), (39 : UInt8)] (replB (94 : UInt8) [(94 : UInt8), (94 : UInt8)] s))) ≤
                      (4000000000 : Nat) ∧
                    ([(59 : UInt8), (58 : UInt8), (44 : UInt8)] = [(13 : UInt8), (10 : UInt8)] ∨ [(59 : UInt8), (58 : UInt8), (44 : UInt8)] = [(59 : UInt8), (58 : UInt8), (44 : UInt8)]) ∧
                      ((List.any (replB (10 : UInt8) [(94 : UInt8), (110 : UInt8)] (replB (34 : UInt8) [(94 : UInt8), (39 : UInt8)] (replB (94 : UInt8) [(94 : UInt8), (94 : UInt8)] s)))
                              fun (c : UInt8) => [(59 : UInt8), (58 : UInt8), (44 : UInt8)].contains c) =
                            true →
                          [(34 : UInt8)].length +
                                List.length (replB (10 : UInt8) [(94 : UInt8), (110 : UInt8)] (replB (34 : UInt8) [(94 : UInt8), (39 : UInt8)] (replB (94 : UInt8) [(94 : UInt8), (94 : UInt8)] s))) ≤
                              (9223372036854775807 : Nat) ∧
                            List.length
                                    ([(34 : UInt8)] ++
                                      replB (10 : UInt8) [(94 : UInt8), (110 : UInt8)] (replB (34 : UInt8) [(94 : UInt8), (39 : UInt8)] (replB (94 : UInt8) [(94 : UInt8), (94 : UInt8)] s))) +
                                  [(34 : UInt8)].length ≤
                                (9223372036854775807 : Nat) ∧
                              Q
                                ([(34 : UInt8)] ++
                                    replB (10 : UInt8) [(94 : UInt8), (110 : UInt8)] (replB (34 : UInt8) [(94 : UInt8), (39 : UInt8)] (replB (94 : UInt8) [(94 : UInt8), (94 : UInt8)] s)) ++
                                  [(34 : UInt8)])) ∧
                        (¬(List.any (replB (10 : UInt8) [(94 : UInt8), (110 : UInt8)] (replB (34 : UInt8) [(94 : UInt8), (39 : UInt8)] (replB (94 : UInt8) [(94 : UInt8), (94 : UInt8)] s)))
                                fun (c : UInt8) => [(59 : UInt8), (58 : UInt8), (44 : UInt8)].contains c) =
                              true →
                          Q (replB (10 : UInt8) [(94 : UInt8), (110 : UInt8)] (replB (34 : UInt8) [(94 : UInt8), (39 : UInt8)] (replB (94 : UInt8) [(94 : UInt8), (94 : UInt8)] s))))
set_option maxRecDepth 100000 in
theorem V70_ok {s : Str} {Q : Str → Prop} (h : V70 s Q) : vcFun (E := N35) (inlMN N35 M103 an70 2) (an70 70) Tryd.f70 [.str s] [] [] 0 (resP N35 [.str] Q) := Eq.mp (show V70 s Q = vcFun (E := N35) (inlMN N35 M103 an70 2) (an70 70) Tryd.f70 [.str s] [] [] 0 (resP N35 [.str] Q) by kernel_rfl) h
theorem p70 (s : Str) (hs : s.length ≤ 100000000) : V70 s (fun y0 => y0 = told s) := by
  unfold V70
  have l1 := replB_len 94 (t := [94, 94]) rfl s
  have l2 := replB_len 34 (t := [94, 39]) rfl (replB 94 [94, 94] s)
  have e := esc_repl s
  have l3 := esc_len s
  have q := esc_quote s
  rw [e, q]
  refine ⟨by omega, by omega, rfl, by omega, by omega, rfl, by omega, by omega, rfl, by omega, .inr rfl, fun h => ⟨by simp only [List.length_cons, List.length_nil]; omega, by simp only [List.length_append, List.length_cons, List.length_nil]; omega, ?_⟩, fun h => ?_⟩
  · unfold told; rw [if_pos h]; rfl
  · unfold told; rw [if_neg h]
def c70 (a : List (SV U)) : Option (Q1 U) := match a with | [.str s] => some ⟨[List.length (α := UInt8) s ≤ 100000000], [], .str (told s)⟩ | _ => none
set_option maxRecDepth 100000 in
theorem c70_ok (args : List (SV U)) (q : Q1 U) (h : c70 args = some q) (ho : allP q.ob) : LendOK N35 70 args ⟨q.ob, q.hy, q.v, []⟩ := by
  unfold c70 at h
  split at h
  · rename_i s
    cases h
    exact lend1 N35_ok (inlMN_ok N35_ok M103_ok an70 2) Tryd.func70 (k := .str) (x := told s) trivial (V70_ok (p70 s ho.1)) 0
  · cases h
noncomputable def N70 : Env := N35.addL 70 c70
theorem N70_ok : EnvOK N70 := N35_ok.addL Tryd.call70 c70_ok
end Go.Proofs.YtadgfmmmdhlljaaDoor
end
section
namespace Go.Proofs.YtadgfmmmdhlljaaDoor
open Go Go.Wk Go.Wl Go.Rx Go.Fo Go.Li 
def an32 : Nat → Ann := fun | 32 => ⟨59, fun | 7 => some ⟨[1, 25, 26], [.slot 4 .str, .slot 27 (.int .i64)]⟩ | 11 => some ⟨[1, 4, 6, 25, 26, 27, 32, 33], [.slot 7 (.acc 9), .slot 34 (.int .i64)]⟩ | _ => none, fun | 6 => some ⟨[1], [.slot 4 .str]⟩ | _ => none⟩ | _ => ⟨0, fun _ => none, fun _ => none⟩
def V32 (p : Prp) (Q : Str → Err → Prop) : Prop :=
smallP (Prp.mk p.Group p.Name p.Params p.Value) ∧
  (¬rightB (Prp.mk p.Group p.Name p.Params p.Value) = true → Q [] (Err.no (2 : Int))) ∧
    (¬¬rightB (Prp.mk p.Group p.Name p.Params p.Value) = true →
      ∃ (J : List UInt8 → Prop),
        ((p.Group ≠ [] →
              List.length p.Group + [(46 : UInt8)].length ≤ (9223372036854775807 : Nat) ∧
                List.length (p.Group ++ [(46 : UInt8)]) + List.length p.Name ≤ (9223372036854775807 : Nat) ∧ J (p.Group ++ [(46 : UInt8)] ++ p.Name)) ∧
            (¬p.Group ≠ [] → J p.Name)) ∧
          ∀ (x : List UInt8),
            J x →
              ∃ (I : List UInt8 → Int → Prop),
                ∃ (m : List UInt8 → Int → Nat),
                  I x (0 : Int) ∧
                    ∀ (x : List UInt8) (x_1 : Int),
                      I x x_1 →
                        (x_1 < (↑p.Params.length : Int) →
                            (0 : Int) ≤ x_1 ∧
                              x_1 < (↑p.Params.length : Int) ∧
                                ∃ (I_1 : List (List UInt8) → Int → Prop),
                                  ∃ (m_1 : List (List UInt8) → Int → Nat),
                                    I_1 [] (0 : Int) ∧
                                      ∀ (x_2 : List (List UInt8)) (x_3 : Int),
                                        I_1 x_2 x_3 →
                                          (x_3 < (↑(ix p.Params x_1).Values.length : Int) →
                                              (0 : Int) ≤ x_3 ∧
                                                x_3 < (↑(ix p.Params x_1).Values.length : Int) ∧
                                                  (ix (ix p.Params x_1).Values x_3).length ≤ (100000000 : Nat) ∧
                                                    (x_2.length + [told (ix (ix p.Params x_1).Values x_3)].length) * (some (16 : Nat)).getD (0 : Nat) ≤ (140737488355328 : Nat) ∧
                                                      in64 (x_3 + (1 : Int)) ∧
                                                        I_1 (x_2 ++ [told (ix (ix p.Params x_1).Values x_3)]) (x_3 + (1 : Int)) ∧
                                                          m_1 (x_2 ++ [told (ix (ix p.Params x_1).Values x_3)]) (x_3 + (1 : Int)) < m_1 x_2 x_3) ∧
                                            (¬x_3 < (↑(ix p.Params x_1).Values.length : Int) →
                                              [(59 : UInt8)].length + List.length (ix p.Params x_1).Name ≤ (9223372036854775807 : Nat) ∧
                                                List.length ([(59 : UInt8)] ++ (ix p.Params x_1).Name) + [(61 : UInt8)].length ≤ (9223372036854775807 : Nat) ∧
                                                  ((Lib.join x_2 [(44 : UInt8)]).length ≤ (140737488355328 : Nat) ∧ x_2.length ≤ (140737488355328 : Nat)) ∧
                                                    List.length ([(59 : UInt8)] ++ (ix p.Params x_1).Name ++ [(61 : UInt8)]) + (Lib.join x_2 [(44 : UInt8)]).length ≤ (9223372036854775807 : Nat) ∧
                                                      x.length + List.length ([(59 : UInt8)] ++ (ix p.Params x_1).Name ++ [(61 : UInt8)] ++ Lib.join x_2 [(44 : UInt8)]) ≤ (9223372036854775807 : Nat) ∧
                                                        in64 (x_1 + (1 : Int)) ∧
                                                          I (x ++ ([(59 : UInt8)] ++ (ix p.Params x_1).Name ++ [(61 : UInt8)] ++ Lib.join x_2 [(44 : UInt8)])) (x_1 + (1 : Int)) ∧
                                                            m (x ++ ([(59 : UInt8)] ++ (ix p.Params x_1).Name ++ [(61 : UInt8)] ++ Lib.join x_2 [(44 : UInt8)])) (x_1 + (1 : Int)) < m x x_1)) ∧
                          (¬x_1 < (↑p.Params.length : Int) →
                            x.length + [(58 : UInt8)].length ≤ (9223372036854775807 : Nat) ∧
                              List.length (x ++ [(58 : UInt8)]) + List.length p.Value ≤ (9223372036854775807 : Nat) ∧ Q (x ++ [(58 : UInt8)] ++ p.Value) Err.nil))
set_option maxRecDepth 100000 in
theorem V32_ok {p : Prp} {Q : Str → Err → Prop} (h : V32 p Q) : vcFun (E := N70) (inlMN N70 M103 an32 2) (an32 32) Tryd.f32 [.agg [.str p.Group, .str p.Name, .sl (N := U) 59 p.Params, .str p.Value]] [] [] 0 (resP N70 [.str, .err] Q) := Eq.mp (show V32 p Q = vcFun (E := N70) (inlMN N70 M103 an32 2) (an32 32) Tryd.f32 [.agg [.str p.Group, .str p.Name, .sl (N := U) 59 p.Params, .str p.Value]] [] [] 0 (resP N70 [.str, .err] Q) by kernel_rfl) h
theorem tell_head {p : Prp} (h : smallP p) : (if p.Group = [] then p.Name else p.Group ++ 46 :: p.Name).length ≤ 10001 := by
  have := h.name
  have := h.group
  split
  · omega
  · simp only [List.length_append, List.length_cons]; omega
theorem flat_take {p : Prp} (h : smallP p) (hm : manyB p = false) (i : Nat) : ((p.Params.take i).flatMap tellP).length ≤ 4200000 := by
  have h1 := flat_len (f := tellP) (k := 210000) (l := p.Params.take i) fun x hx => (tellP_len h hm (List.mem_of_mem_take hx)).2
  have h2 := small_params hm
  have h3 : (p.Params.take i).length ≤ 20 := by rw [List.length_take]; omega
  have h4 := Nat.mul_le_mul_right 210000 h3
  omega
theorem joinV_snoc : ∀ {l : List Str}, l ≠ [] → ∀ v : Str, joinV (l ++ [v]) = joinV l ++ 44 :: told v
  | [], h, _ => absurd rfl h
  | [u], _, v => rfl
  | u :: w :: l, _, v => by
    have ih := joinV_snoc (l := w :: l) (by simp) v
    simp only [List.cons_append] at ih ⊢
    simp only [joinV]
    rw [ih]; simp
theorem join_take {p : Prp} (h : smallP p) (hm : manyB p = false) {x : Param} (hx : x ∈ p.Params) (k : Nat) : (joinV (x.Values.take k)).length ≤ 200060 := by
  obtain ⟨h1, h2⟩ := small_val h hm hx
  have h3 := joinV_len (k := 5000) (l := x.Values.take k) fun v hv => h2 v (List.mem_of_mem_take hv)
  have h4 : (x.Values.take k).length ≤ 20 := by rw [List.length_take]; omega
  have h5 := Nat.mul_le_mul_right (2 * 5000 + 3) h4
  omega
theorem p32 (p : Prp) (h : smallP p) : V32 p (fun y0 y1 => y0 = (printS p).1 ∧ y1 = (printS p).2) := by
  unfold V32
  refine ⟨h, fun hr => ?_, fun hr => ?_⟩
  · have hr : ¬ rightB p = true := hr
    unfold printS; rw [if_neg hr]; exact ⟨rfl, rfl⟩
  have hr : rightB p = true := Classical.not_not.1 hr
  obtain ⟨h0, hM⟩ := rightB_iff.1 hr
  have s1 := h.name
  have s2 := h.group
  have s3 := h.value
  have s4 := small_params hM
  refine ⟨fun x => x = if p.Group = [] then p.Name else p.Group ++ 46 :: p.Name, ⟨fun hg => ⟨by simp only [List.length_cons, List.length_nil]; omega, by simp only [List.length_append, List.length_cons, List.length_nil]; omega, by rw [if_neg hg]; simp⟩, fun hg => by rw [if_pos (Classical.not_not.1 hg)]⟩, ?_⟩
  rintro x hx
  have lx := tell_head h
  rw [← hx] at lx
  refine ⟨fun y i => 0 ≤ i ∧ i ≤ p.Params.length ∧ y = x ++ (p.Params.take i.toNat).flatMap tellP, fun _ i => ((p.Params.length : Int) - i).toNat, ⟨by omega, by omega, by simp⟩, ?_⟩
  rintro y i ⟨i0, i1, rfl⟩
  have fl := flat_take h hM i.toNat
  refine ⟨fun hi => ⟨i0, hi, ?_⟩, fun hi => ?_⟩
  · have hm := mem_of_ix i0 hi
    have tk := take_next i0 hi
    obtain ⟨v1, v2⟩ := small_val h hM hm
    obtain ⟨jl, tl⟩ := tellP_len h hM hm
    have nl := (h.param _ hm).name
    generalize ix p.Params i = z at *
    refine ⟨fun l k => 0 ≤ k ∧ k ≤ z.Values.length ∧ l = (z.Values.take k.toNat).map told, fun _ k => ((z.Values.length : Int) - k).toNat, ⟨by omega, by omega, by simp⟩, ?_⟩
    rintro l k ⟨k0, k1, rfl⟩
    refine ⟨fun hk => ⟨k0, hk, by have := v2 _ (mem_of_ix k0 hk); omega, by simp; omega, ⟨by omega, by omega⟩, ⟨by omega, by omega, by rw [take_next k0 hk]; simp⟩, by first | omega | (dsimp only; omega)⟩, fun hk => ?_⟩
    have e : z.Values.take k.toNat = z.Values := List.take_of_length_le (by omega)
    rw [e, join_told]
    simp only [List.length_cons, List.length_nil, List.length_append, List.length_map]
    refine ⟨by omega, by omega, ⟨by omega, by omega⟩, by omega, by omega, ⟨by omega, by omega⟩, ⟨by omega, by omega, ?_⟩, by first | omega | (dsimp only; omega)⟩
    rw [tk]; simp [tellP]
  · have e : p.Params.take i.toNat = p.Params := List.take_of_length_le (by omega)
    rw [e] at fl ⊢
    simp only [List.length_cons, List.length_nil, List.length_append]
    refine ⟨by omega, by omega, ?_⟩
    unfold printS Li.tell; rw [if_pos hr, ← hx]; simp
def c32s (p : Prp) (nx : Nat) : CR U := ⟨[smallP p], [], .tup [.str ((printS p).1), .err ((printS p).2)], []⟩
def c32 (a : List (SV U)) (nx : Nat) : Option (CR U) := match a with | [.agg [.str p0, .str p1, .sl 59 p2, .str p3]] => some (c32s (⟨p0, p1, p2, p3⟩) nx) | _ => none
set_option maxRecDepth 100000 in
theorem c32_ok (args : List (SV U)) (nx : Nat) (c : CR U) (h : c32 args nx = some c) (hp : args.all pureS = true) (ho : allP c.ob) : ConOK N70.P N70.N N70.T N70.G 32 args nx c := by
  unfold c32 at h
  split at h
  · rename_i p0 p1 p2 p3
    cases h
    exact con2 N70_ok (inlMN_ok N70_ok M103_ok an32 2) Tryd.func32 (k1 := .str) (k2 := .err) rfl hp (V32_ok (p32 (⟨p0, p1, p2, p3⟩) ho.1))
  · cases h
noncomputable def N32 : Env := N70.addC 32 c32
theorem N32_ok : EnvOK N32 := N70_ok.addC Tryd.call32 c32_ok
end Go.Proofs.YtadgfmmmdhlljaaDoor
end
section
namespace Go.Proofs.YtadgfmmmdhlljaaDoor
open Go Go.Wk Go.Wl Go.Rx Go.Fo Go.Li 
def an33 : Nat → Ann := fun | 33 => ⟨70, fun | 7 => some ⟨[1], [.slot 4 .str, .slot 5 (.int .i64)]⟩ | 11 => some ⟨[1, 5], [.slot 4 .str, .slot 6 (.int .i64)]⟩ | _ => none, fun | 6 => some ⟨[1], [.slot 4 .str]⟩ | 15 => some ⟨[1, 5, 6], [.slot 4 .str]⟩ | _ => none⟩ | _ => ⟨0, fun _ => none, fun _ => none⟩
def V33 (p : Prp) (Q : Str → Int → Prop) : Prop :=
smallP (Prp.mk p.Group p.Name p.Params p.Value) ∧
  (¬rightB (Prp.mk p.Group p.Name p.Params p.Value) = true → Q [] (2 : Int)) ∧
    (¬¬rightB (Prp.mk p.Group p.Name p.Params p.Value) = true →
      ∃ (J : List UInt8 → Prop),
        ((p.Group ≠ [] →
              List.length p.Group + [(46 : UInt8)].length ≤ (9223372036854775807 : Nat) ∧
                List.length (p.Group ++ [(46 : UInt8)]) + List.length p.Name ≤ (9223372036854775807 : Nat) ∧ J (p.Group ++ [(46 : UInt8)] ++ p.Name)) ∧
            (¬p.Group ≠ [] → J p.Name)) ∧
          ∀ (x : List UInt8),
            J x →
              ∃ (I : List UInt8 → Int → Prop),
                ∃ (m : List UInt8 → Int → Nat),
                  I x (0 : Int) ∧
                    ∀ (x : List UInt8) (x_1 : Int),
                      I x x_1 →
                        (x_1 < (↑p.Params.length : Int) →
                            x.length + [(59 : UInt8)].length ≤ (9223372036854775807 : Nat) ∧
                              (0 : Int) ≤ x_1 ∧
                                x_1 < (↑p.Params.length : Int) ∧
                                  List.length (x ++ [(59 : UInt8)]) + List.length (ix p.Params x_1).Name ≤ (9223372036854775807 : Nat) ∧
                                    List.length (x ++ [(59 : UInt8)] ++ (ix p.Params x_1).Name) + [(61 : UInt8)].length ≤ (9223372036854775807 : Nat) ∧
                                      ∃ (I_1 : List UInt8 → Int → Prop),
                                        ∃ (m_1 : List UInt8 → Int → Nat),
                                          I_1 (x ++ [(59 : UInt8)] ++ (ix p.Params x_1).Name ++ [(61 : UInt8)]) (0 : Int) ∧
                                            ∀ (x_2 : List UInt8) (x_3 : Int),
                                              I_1 x_2 x_3 →
                                                (0 : Int) ≤ x_1 ∧
                                                  x_1 < (↑p.Params.length : Int) ∧
                                                    (x_3 < (↑(ix p.Params x_1).Values.length : Int) →
                                                        ∃ (J : List UInt8 → Prop),
                                                          (((0 : Int) < x_3 → x_2.length + [(44 : UInt8)].length ≤ (9223372036854775807 : Nat) ∧ J (x_2 ++ [(44 : UInt8)])) ∧
                                                              (¬(0 : Int) < x_3 → J x_2)) ∧
                                                            ∀ (x : List UInt8),
                                                              J x →
                                                                (0 : Int) ≤ x_1 ∧
                                                                  x_1 < (↑p.Params.length : Int) ∧
                                                                    (0 : Int) ≤ x_3 ∧
                                                                      x_3 < (↑(ix p.Params x_1).Values.length : Int) ∧
                                                                        (ix (ix p.Params x_1).Values x_3).length ≤ (100000000 : Nat) ∧
                                                                          x.length + List.length (told (ix (ix p.Params x_1).Values x_3)) ≤ (9223372036854775807 : Nat) ∧
                                                                            in64 (x_3 + (1 : Int)) ∧
                                                                              I_1 (x ++ told (ix (ix p.Params x_1).Values x_3)) (x_3 + (1 : Int)) ∧
                                                                                m_1 (x ++ told (ix (ix p.Params x_1).Values x_3)) (x_3 + (1 : Int)) < m_1 x_2 x_3) ∧
                                                      (¬x_3 < (↑(ix p.Params x_1).Values.length : Int) → in64 (x_1 + (1 : Int)) ∧ I x_2 (x_1 + (1 : Int)) ∧ m x_2 (x_1 + (1 : Int)) < m x x_1)) ∧
                          (¬x_1 < (↑p.Params.length : Int) →
                            x.length + [(58 : UInt8)].length ≤ (9223372036854775807 : Nat) ∧
                              List.length (x ++ [(58 : UInt8)]) + List.length p.Value ≤ (9223372036854775807 : Nat) ∧ Q (x ++ [(58 : UInt8)] ++ p.Value) (0 : Int)))
set_option maxRecDepth 100000 in
theorem V33_ok {p : Prp} {Q : Str → Int → Prop} (h : V33 p Q) : vcFun (E := N32) (inlMN N32 M103 an33 2) (an33 33) Tryd.f33 [.agg [.str p.Group, .str p.Name, .sl (N := U) 59 p.Params, .str p.Value]] [] [] 0 (resP N32 [.str, .int .i64] Q) := Eq.mp (show V33 p Q = vcFun (E := N32) (inlMN N32 M103 an33 2) (an33 33) Tryd.f33 [.agg [.str p.Group, .str p.Name, .sl (N := U) 59 p.Params, .str p.Value]] [] [] 0 (resP N32 [.str, .int .i64] Q) by kernel_rfl) h
theorem p33 (p : Prp) (h : smallP p) : V33 p (fun y0 y1 => y0 = (printR p).1 ∧ y1 = (printR p).2) := by
  unfold V33
  refine ⟨h, fun hr => ?_, fun hr => ?_⟩
  · have hr : ¬ rightB p = true := hr
    unfold printR; rw [if_neg hr]; exact ⟨rfl, rfl⟩
  have hr : rightB p = true := Classical.not_not.1 hr
  obtain ⟨h0, hM⟩ := rightB_iff.1 hr
  have s1 := h.name
  have s2 := h.group
  have s3 := h.value
  have s4 := small_params hM
  refine ⟨fun x => x = if p.Group = [] then p.Name else p.Group ++ 46 :: p.Name, ⟨fun hg => ⟨by simp only [List.length_cons, List.length_nil]; omega, by simp only [List.length_append, List.length_cons, List.length_nil]; omega, by rw [if_neg hg]; simp⟩, fun hg => by rw [if_pos (Classical.not_not.1 hg)]⟩, ?_⟩
  rintro x hx
  have lx := tell_head h
  rw [← hx] at lx
  refine ⟨fun y i => 0 ≤ i ∧ i ≤ p.Params.length ∧ y = x ++ (p.Params.take i.toNat).flatMap tellP, fun _ i => ((p.Params.length : Int) - i).toNat, ⟨by omega, by omega, by simp⟩, ?_⟩
  rintro y i ⟨i0, i1, rfl⟩
  have fl := flat_take h hM i.toNat
  refine ⟨fun hi => ?_, fun hi => ?_⟩
  · have hm := mem_of_ix i0 hi
    have tk := take_next i0 hi
    obtain ⟨v1, v2⟩ := small_val h hM hm
    have jl := join_take h hM hm
    have nl := (h.param _ hm).name
    generalize ix p.Params i = z at *
    refine ⟨by simp only [List.length_cons, List.length_nil, List.length_append]; omega, i0, hi, by simp only [List.length_cons, List.length_nil, List.length_append]; omega, by simp only [List.length_cons, List.length_nil, List.length_append]; omega, ?_⟩
    obtain ⟨b, hb⟩ : ∃ b, b = x ++ (p.Params.take i.toNat).flatMap tellP ++ [59] ++ z.Name ++ [61] := ⟨_, rfl⟩
    have lb : b.length ≤ 5000000 := by rw [hb]; simp only [List.length_cons, List.length_nil, List.length_append]; omega
    rw [← hb]
    refine ⟨fun s k => 0 ≤ k ∧ k ≤ z.Values.length ∧ s = b ++ joinV (z.Values.take k.toNat), fun _ k => ((z.Values.length : Int) - k).toNat, ⟨by omega, by omega, by simp [joinV]⟩, ?_⟩
    rintro s k ⟨k0, k1, rfl⟩
    have jk := jl k.toNat
    refine ⟨i0, hi, fun hk => ?_, fun hk => ⟨⟨by omega, by omega⟩, ⟨by omega, by omega, ?_⟩, by first | omega | (dsimp only; omega)⟩⟩
    · have hv := v2 _ (mem_of_ix k0 hk)
      have tv := take_next k0 hk
      generalize ix z.Values k = v at *
      have tl := told_len v
      refine ⟨fun y => y = b ++ (if k = 0 then [] else joinV (z.Values.take k.toNat) ++ [44]), ⟨fun hp => ⟨by simp only [List.length_cons, List.length_nil, List.length_append]; omega, by rw [if_neg (by omega)]; simp⟩, fun hp => ?_⟩, ?_⟩
      · have : k = 0 := by omega
        subst this
        simp [joinV]
      rintro y rfl
      refine ⟨i0, hi, k0, hk, by omega, ?_, ⟨by omega, by omega⟩, ⟨by omega, by omega, ?_⟩, by first | omega | (dsimp only; omega)⟩
      · split
        · simp only [List.length_nil, List.length_append]; omega
        · simp only [List.length_cons, List.length_nil, List.length_append]; omega
      · rw [tv]
        by_cases hz : k = 0
        · subst hz; simp [joinV]
        · rw [if_neg hz, joinV_snoc (fun e => by
            have := congrArg List.length e
            rw [List.length_take, List.length_nil] at this; omega)]
          simp
    · have e : z.Values.take k.toNat = z.Values := List.take_of_length_le (by omega)
      rw [e, tk, hb]; simp [tellP]
  · have e : p.Params.take i.toNat = p.Params := List.take_of_length_le (by omega)
    rw [e] at fl ⊢
    simp only [List.length_cons, List.length_nil, List.length_append]
    refine ⟨by omega, by omega, ?_⟩
    unfold printR Li.tell; rw [if_pos hr, ← hx]; simp
def c33s (p : Prp) : Q1 U := ⟨[smallP p], [], .tup [.str ((printR p).1), .int .i64 ((printR p).2)]⟩
def c33 (a : List (SV U)) : Option (Q1 U) := match a with | [.agg [.str p0, .str p1, .sl 59 p2, .str p3]] => some (c33s (⟨p0, p1, p2, p3⟩)) | _ => none
set_option maxRecDepth 100000 in
theorem c33_ok (args : List (SV U)) (q : Q1 U) (h : c33 args = some q) (ho : allP q.ob) : LendOK N32 33 args ⟨q.ob, q.hy, q.v, []⟩ := by
  unfold c33 at h
  split at h
  · rename_i p0 p1 p2 p3
    cases h
    exact lend2 N32_ok (inlMN_ok N32_ok M103_ok an33 2) Tryd.func33 (k1 := .str) (k2 := .int .i64) trivial trivial (V33_ok (p33 (⟨p0, p1, p2, p3⟩) ho.1)) 0
  · cases h
noncomputable def N33 : Env := N32.addL 33 c33
theorem N33_ok : EnvOK N33 := N32_ok.addL Tryd.call33 c33_ok
end Go.Proofs.YtadgfmmmdhlljaaDoor
end
section
namespace Go.Proofs.YtadgfmmmdhlljaaDoor
open Go Go.Wk Go.Wl Go.Rx Go.Fo Go.Li 
def an63 : Nat → Ann := fun | 63 => ⟨28, fun | 2 => some ⟨[1, 9, 10], [.slot 11 (.int .i64)]⟩ | _ => none, fun  | _ => none⟩ | _ => ⟨0, fun _ => none, fun _ => none⟩
def V63 (p : Prp) (n : Str) (Q : Str → Bool → Prop) : Prop :=
∃ (I : Int → Prop),
  ∃ (m : Int → Nat),
    I (0 : Int) ∧
      ∀ (x : Int),
        I x →
          (x < (↑p.Params.length : Int) →
              (0 : Int) ≤ x ∧
                x < (↑p.Params.length : Int) ∧
                  ((ix p.Params x).Name = n →
                      ((↑(ix p.Params x).Values.length : Int) = (0 : Int) → Q [] false) ∧
                        (¬(↑(ix p.Params x).Values.length : Int) = (0 : Int) →
                          (0 : Int) ≤ (0 : Int) ∧ (0 : Int) < (↑(ix p.Params x).Values.length : Int) ∧ Q (ix (ix p.Params x).Values (0 : Int)) true)) ∧
                    (¬(ix p.Params x).Name = n → in64 (x + (1 : Int)) ∧ I (x + (1 : Int)) ∧ m (x + (1 : Int)) < m x)) ∧
            (¬x < (↑p.Params.length : Int) → Q [] false)
set_option maxRecDepth 100000 in
theorem V63_ok {p : Prp} {n : Str} {Q : Str → Bool → Prop} (h : V63 p n Q) : vcFun (E := N33) (inlMN N33 M103 an63 2) (an63 63) Tryd.f63 [.agg [.str p.Group, .str p.Name, .sl (N := U) 59 p.Params, .str p.Value], .str n] [] [] 0 (resP N33 [.str, .bool] Q) := Eq.mp (show V63 p n Q = vcFun (E := N33) (inlMN N33 M103 an63 2) (an63 63) Tryd.f63 [.agg [.str p.Group, .str p.Name, .sl (N := U) 59 p.Params, .str p.Value], .str n] [] [] 0 (resP N33 [.str, .bool] Q) by kernel_rfl) h
def getS (p : Prp) (n : Str) : Str × Bool := match p.Params.find? (fun x => decide (x.Name = n)) with
  | none => ([], false)
  | some x => match x.Values with
    | [] => ([], false)
    | v :: _ => (v, true)
theorem find_at {α : Type} [Inhabited α] {q : α → Bool} {l : List α} {i : Int} (i0 : 0 ≤ i) (hi : i < l.length) : (l.drop i.toNat).find? q = if q (ix l i) = true then some (ix l i) else (l.drop (i + 1).toNat).find? q := by
  have e : (i + 1).toNat = i.toNat + 1 := by omega
  have hd : l.drop i.toNat = ix l i :: l.drop (i.toNat + 1) := by
    rw [List.drop_eq_getElem_cons (by omega), ix_get (by omega)]
  rw [hd, e, List.find?_cons]
  split
  · rename_i h; rw [if_pos h]
  · rename_i h; rw [if_neg (by simp [h])]
theorem p63 (p : Prp) (n : Str) (hs : p.Params.length ≤ 1000000000) : V63 p n (fun y0 y1 => y0 = (getS p n).1 ∧ y1 = (getS p n).2) := by
  unfold V63
  refine ⟨fun i => 0 ≤ i ∧ i ≤ p.Params.length ∧ (p.Params.drop i.toNat).find? (fun x => decide (x.Name = n)) = p.Params.find? (fun x => decide (x.Name = n)), fun i => ((p.Params.length : Int) - i).toNat, ⟨by omega, by omega, rfl⟩, ?_⟩
  rintro i ⟨i0, i1, hf⟩
  refine ⟨fun hi => ?_, fun hi => ?_⟩
  · rw [find_at i0 hi] at hf
    generalize ix p.Params i = z at *
    refine ⟨i0, hi, fun hn => ?_, fun hn => ⟨⟨by omega, by omega⟩, ⟨by omega, by omega, ?_⟩, by first | omega | (dsimp only; omega)⟩⟩
    · rw [if_pos (decide_eq_true hn)] at hf
      unfold getS
      rw [← hf]
      refine ⟨fun hl => ?_, fun hl => ⟨Int.le_refl _, by omega, ?_⟩⟩
      · have : z.Values = [] := List.length_eq_zero_iff.1 (by omega)
        simp only [this]; exact ⟨by first | rfl | trivial, by first | rfl | trivial⟩
      · cases hv : z.Values with
        | nil => rw [hv] at hl; exact absurd rfl hl
        | cons v l => simp only [hv]; exact ⟨by first | rfl | trivial, by first | rfl | trivial⟩
    · rw [if_neg (by simpa using hn)] at hf; exact hf
  · rw [List.drop_eq_nil_of_le (by omega)] at hf
    unfold getS
    rw [← hf]; exact ⟨rfl, rfl⟩
def c63s (p : Prp) (n : Str) : Q1 U := ⟨[List.length (α := Param) p.Params ≤ 1000000000], [], .tup [.str ((getS p n).1), blB ((getS p n).2)]⟩
def c63 (a : List (SV U)) : Option (Q1 U) := match a with | [.agg [.str p0, .str p1, .sl 59 p2, .str p3], .str n] => some (c63s (⟨p0, p1, p2, p3⟩) n) | _ => none
set_option maxRecDepth 100000 in
theorem c63_ok (args : List (SV U)) (q : Q1 U) (h : c63 args = some q) (ho : allP q.ob) : LendOK N33 63 args ⟨q.ob, q.hy, q.v, []⟩ := by
  unfold c63 at h
  split at h
  · rename_i p0 p1 p2 p3 n
    cases h
    exact lend2 N33_ok (inlMN_ok N33_ok M103_ok an63 2) Tryd.func63 (k1 := .str) (k2 := .bool) trivial trivial (V63_ok (p63 (⟨p0, p1, p2, p3⟩) n ho.1)) 0
  · cases h
noncomputable def N63 : Env := N33.addL 63 c63
theorem N63_ok : EnvOK N63 := N33_ok.addL Tryd.call63 c63_ok
end Go.Proofs.YtadgfmmmdhlljaaDoor
end
section
namespace Go.Proofs.YtadgfmmmdhlljaaDoor
open Go Go.Wk Go.Wl Go.Rx Go.Fo Go.Li 
def an20b : Nat → Ann := fun | 20 => ⟨15, fun | 4 => some ⟨[0], [.slot 3 (.int .i64)]⟩ | _ => none, fun  | _ => none⟩ | _ => ⟨0, fun _ => none, fun _ => none⟩
def V20b (e : Err) (Q : Int → Prop) : Prop :=
(e = Err.nil → Q (0 : Int)) ∧
  (¬e = Err.nil →
    ∃ (I : Int → Prop),
      ∃ (m : Int → Nat),
        I (1 : Int) ∧ ∀ (x : Int), I x → (x ≤ (16 : Int) → (e.is x → Q x) ∧ (¬e.is x → in64 (x + (1 : Int)) ∧ I (x + (1 : Int)) ∧ m (x + (1 : Int)) < m x)) ∧ (¬x ≤ (16 : Int) → Q (-1 : Int)))
set_option maxRecDepth 100000 in
theorem V20b_ok {e : Err} {Q : Int → Prop} (h : V20b e Q) : vcFun (E := N63) (inlMN N63 M103 an20b 2) (an20b 20) Tryd.f20 [.err e] [] [] 0 (resP N63 [.int .i64] Q) := Eq.mp (show V20b e Q = vcFun (E := N63) (inlMN N63 M103 an20b 2) (an20b 20) Tryd.f20 [.err e] [] [] 0 (resP N63 [.int .i64] Q) by kernel_rfl) h
theorem nr_someb {e : Err} {n : Int} (h : ¬ e = .nil) (hn : e.num = some n) : e.nr = if 1 ≤ n ∧ n ≤ 16 then n else -1 := by
  cases e with
  | nil => exact absurd rfl h
  | _ => unfold Err.nr; simp only [hn]
theorem nr_noneb {e : Err} (h : ¬ e = .nil) (hn : e.num = none) : e.nr = -1 := by
  cases e with
  | nil => exact absurd rfl h
  | _ => unfold Err.nr; simp only [hn]
theorem p20b (e : Err)  : V20b e (fun y0 => y0 = e.nr) := by
  unfold V20b
  refine ⟨fun h => by subst h; rfl, fun h => ⟨fun x => 1 ≤ x ∧ x ≤ 17 ∧ ∀ j : Int, 1 ≤ j → j < x → ¬ e.is j, fun x => (17 - x).toNat, ⟨by omega, by omega, fun j _ _ => by omega⟩, ?_⟩⟩
  rintro x ⟨h0, h1, h2⟩
  refine ⟨fun hx => ⟨fun hi => ?_, fun hi => ⟨⟨by omega, by omega⟩, ⟨by omega, by omega, fun j j0 j1 => ?_⟩, by dsimp only; omega⟩⟩, fun hx => ?_⟩
  · have hi : e.num = some x := hi
    rw [nr_someb h hi, if_pos ⟨h0, hx⟩]
  · by_cases e1 : j = x
    · subst e1; exact hi
    · exact h2 j j0 (by omega)
  · cases hn : e.num with
    | none => rw [nr_noneb h hn]
    | some n => rw [nr_someb h hn, if_neg (fun hh => h2 n hh.1 (by omega) hn)]
def c20b (a : List (SV U)) : Option (Q1 U) := match a with | [.err e] => some ⟨[], [], .int .i64 e.nr⟩ | _ => none
set_option maxRecDepth 100000 in
theorem c20b_ok (args : List (SV U)) (q : Q1 U) (h : c20b args = some q) (ho : allP q.ob) : LendOK N63 20 args ⟨q.ob, q.hy, q.v, []⟩ := by
  unfold c20b at h
  split at h
  · rename_i e
    cases h
    exact lend1 N63_ok (inlMN_ok N63_ok M103_ok an20b 2) Tryd.func20 (k := .int .i64) (x := e.nr) trivial (V20b_ok (p20b e )) 0
  · cases h
noncomputable def N20b : Env := N63.addL 20 c20b
theorem N20b_ok : EnvOK N20b := N63_ok.addL Tryd.call20 c20b_ok
end Go.Proofs.YtadgfmmmdhlljaaDoor
end
section
namespace Go.Proofs.YtadgfmmmdhlljaaDoor
open Go Go.Wk Go.Wl Go.Rx Go.Fo Go.Li Go.Proofs Go.RowKit
theorem clone_run (l : List Str) (Z : Nat → Prop) (w w1 : World) (hs : Sim w w1) (v : Value) (hv : (dSlice dStr).rd Z w [v] l) (h0 : l.length ≠ 0) (h1 : l.length ≤ 1000000) :
    Calls Tryd.prog 83 #[v] w1 fun e w2 => ∃ v' g, e = .returned v' ∧ Ext [] w w2 ∧ w.heap.size ≤ g ∧ g < w2.heap.size ∧ (dSlice dStr).rd (fun b => Z b ∨ b = g) w2 [v'] l := by
  obtain ⟨hl63, A, cap, e, ⟨_, hcap⟩, hc⟩ := hv
  simp only [List.cons.injEq, and_true] at e
  subst e
  obtain ⟨b, o, c, eA, hb, hcell, hrd⟩ := hc 0 (by omega)
  subst eA
  obtain ⟨xs, hxs⟩ : ∃ xs : List ByteArray, xs = l.map fun s => ⟨s.toArray⟩ := ⟨_, rfl⟩
  have el : xs.length = l.length := by rw [hxs, List.length_map]
  have hget : ∀ (j : Nat) (hj : j < l.length), xs[j]? = some ⟨(l[j]).toArray⟩ := fun j hj => by
    rw [hxs, List.getElem?_map, List.getElem?_eq_getElem hj]; rfl
  have hcells : ∀ (j : Nat), j < xs.length → w1.cell? ⟨b, o + j, none⟩ = some (.string (xs.getD j ByteArray.empty)) := fun j hj => by
    rw [el] at hj
    rw [Sim.cell hs, List.getD_eq_getElem?_getD, hget j hj]
    obtain ⟨b', o', c', eA', _, hcell', hrd'⟩ := hc j hj
    simp only [Option.some.injEq, Addr.mk.injEq] at eA'
    obtain ⟨rfl, rfl, -⟩ := eA'
    have hc1 := hrd'.1
    subst hc1
    obtain ⟨C, T, z, hh, hC⟩ := hcell'
    have := hC 0 (by simp)
    have e1 : o + j * dStr.sz + 0 = o + j := by show o + j * 1 + 0 = o + j; omega
    rw [e1] at this
    unfold World.cell?
    simp only [hh]
    simpa [sv] using this
  have run := Tryd.slices_Clone_string b o l.length cap xs w1 (by rw [el]; exact Nat.le_refl _) (by omega) hcells
  refine Calls.mono run fun e w2 ⟨v', he, ho, hne, hbl⟩ => ?_
  have hx := below_ext hs hbl
  rcases ho.2 with ⟨hv, _⟩ | ⟨g, cap', cur, hv, hbg, hg, hn, hcm, hcs, hct⟩
  · exact absurd hv hne
  have hglt : g < w2.heap.size := by
    apply Classical.byContradiction
    intro hn
    rw [Array.getElem?_eq_none (by omega)] at hg; cases hg
  have hbg' : w.heap.size ≤ g := by obtain ⟨k, rfl⟩ := hs; exact hbg
  refine ⟨v', g, he, hx, hbg', hglt, hl63, some ⟨g, 0, none⟩, cap', by rw [hv], ⟨fun h => (by cases h), hn⟩, fun i hi => ?_⟩
  have hs1 : (l[i]).length ≤ 9223372036854775807 := by
    obtain ⟨_, _, _, _, _, _, h⟩ := hc i hi
    exact h.2
  refine ⟨g, 0, [sv l[i]], rfl, .inr rfl, ⟨cur, 9, (0, 0), hg, fun j hj => ?_⟩, ⟨rfl, hs1⟩⟩
  have hj0 : j = 0 := by simpa using hj
  subst hj0
  have e3 : 0 + i * dStr.sz + 0 = i := by show 0 + i * 1 + 0 = i; omega
  rw [e3]
  have := congrArg (fun x => x[i]?) hct

  rw [Nat.mul_one, List.getElem?_take_of_lt hi, List.getElem?_map, List.getElem?_take_of_lt hi, hget i hi, Array.getElem?_toList] at this
  simpa [sv] using this
/-- slices.Clone of some texts. -/
def cCl (a : List (SV U)) (_ : Nat) : Option (CR U) := match a with | [.sl 9 l] => some ⟨[List.length (α := Str) l ≠ 0, List.length (α := Str) l ≤ 1000000], [], .sl 9 l, []⟩ | _ => none
theorem cCl_ok (args : List (SV U)) (nx : Nat) (c : CR U) (h : cCl args nx = some c) (hp : args.all pureS = true) (ho : allP c.ob) : ConOK N20b.P N20b.N N20b.T N20b.G 83 args nx c := by
  clear hp
  unfold cCl at h
  split at h
  · rename_i l
    cases h
    obtain ⟨h0, h1, -⟩ := ho
    refine ⟨fun ρ Z w vs hρ hZ _ ha => ?_⟩
    obtain ⟨v1, r1, rfl, hv1, ha⟩ := Rep.tup_cons ha
    obtain rfl := tup0_inv ha
    cases hv1 with | sl hv =>
    intro w1 hs
    refine Calls.mono (clone_run l Z w w1 hs v1 hv h0 h1) fun e w2 ⟨v', g, he, hx, hbg, hglt, hrd⟩ => ?_
    refine ⟨v', w2, he, Sim.refl _, ρ, fun b => Z b ∨ b = g, fun _ _ h => h, fun i hi => hρ i hi, fun _ h => .inl h, fun b h => h.imp id fun e => by rw [e]; exact hbg, .sl hrd, ?_, trivial⟩
    exact (Sep.nil hZ).stepZ hx (fun _ h => .inl h) (fun b h => h.imp id fun e => by rw [e]; exact ⟨hbg, hglt⟩)
  · cases h
noncomputable def NCl : Env := N20b.addC 83 cCl
theorem NCl_ok : EnvOK NCl := N20b_ok.addC Tryd.call83 cCl_ok
end Go.Proofs.YtadgfmmmdhlljaaDoor
end
section
namespace Go.Li
open Go Go.Wk Go.Wl Go.Rx Go.Fo
def exA : Str := [103, 46, 116, 101, 108, 59, 84, 121, 112, 101, 61, 104, 111, 109, 101, 44, 34, 97, 59, 98, 34, 59, 120, 61, 97, 94, 94, 98, 58, 49]
def pA : Prp := ⟨[71], [84, 69, 76], [⟨[84, 89, 80, 69], [[104, 111, 109, 101], [97, 59, 98]]⟩, ⟨[88], [[97, 94, 98]]⟩], [49]⟩
theorem ex_parse : parseS exA = (pA, .nil) := by kernel_rfl
theorem ex_right : rightB pA = true := by decide +kernel
theorem ex_tell : tell pA = [71, 46, 84, 69, 76, 59, 84, 89, 80, 69, 61, 104, 111, 109, 101, 44, 34, 97, 59, 98, 34, 59, 88, 61, 97, 94, 94, 98, 58, 49] := by kernel_rfl
theorem ex_small : smallP pA := by
  refine ⟨by decide, by decide, by decide, by decide, fun x hx => ?_⟩
  have hx : x ∈ ([⟨[84, 89, 80, 69], [[104, 111, 109, 101], [97, 59, 98]]⟩, ⟨[88], [[97, 94, 98]]⟩] : List Param) := hx
  simp only [List.mem_cons, List.not_mem_nil, or_false] at hx
  rcases hx with rfl | rfl
  · exact ⟨by decide, by decide, by decide⟩
  · exact ⟨by decide, by decide, by decide⟩
theorem ex_print : printS pA = ([71, 46, 84, 69, 76, 59, 84, 89, 80, 69, 61, 104, 111, 109, 101, 44, 34, 97, 59, 98, 34, 59, 88, 61, 97, 94, 94, 98, 58, 49], .nil) := by
  unfold printS; rw [if_pos ex_right, ex_tell]
end Go.Li
end
section
namespace Go.Proofs.YtadgfmmmdhlljaaDoor
open Go Go.Wk Go.Wl Go.Rx Go.Fo Go.Li 
def an27 : Nat → Ann := fun | 27 => ⟨54, fun _ => none, fun  | _ => none⟩ | _ => ⟨0, fun _ => none, fun _ => none⟩
def V27  (Q : Bool → Prop) : Prop :=
exA.length ≤ 100000000 ∧ smallP (Prp.mk ((parseS exA).1.Group) ((parseS exA).1.Name) (parseS exA).1.Params (parseS exA).1.Value) ∧ (parseS exA).1.Params.length ≤ 1000000000 ∧ in64 ((parseS exA).snd.nr + (printS (Prp.mk ((parseS exA).1.Group) ((parseS exA).1.Name) (parseS exA).1.Params (parseS exA).1.Value)).snd.nr) ∧ Q (decide (((((((parseS exA).snd.nr + (printS (Prp.mk ((parseS exA).1.Group) ((parseS exA).1.Name) (parseS exA).1.Params (parseS exA).1.Value)).snd.nr = 0 ∧ (parseS exA).1.Group = [71]) ∧ (parseS exA).1.Name = [84, 69, 76]) ∧ (↑(parseS exA).1.Params.length : Int) = 2) ∧ (printS (Prp.mk ((parseS exA).1.Group) ((parseS exA).1.Name) (parseS exA).1.Params (parseS exA).1.Value)).fst = [71, 46, 84, 69, 76, 59, 84, 89, 80, 69, 61, 104, 111, 109, 101, 44, 34, 97, 59, 98, 34, 59, 88, 61, 97, 94, 94, 98, 58, 49]) ∧ (getS (Prp.mk ((parseS exA).1.Group) ((parseS exA).1.Name) (parseS exA).1.Params (parseS exA).1.Value) [88]).fst = [97, 94, 98]) ∧ (getS (Prp.mk ((parseS exA).1.Group) ((parseS exA).1.Name) (parseS exA).1.Params (parseS exA).1.Value) [88]).snd = true))
set_option maxRecDepth 100000 in
theorem V27_ok  {Q : Bool → Prop} (h : V27  Q) : vcFun (E := NCl) (inlMN NCl M103 an27 2) (an27 27) Tryd.f27 [] [] [] 0 (resP NCl [.bool] Q) := Eq.mp (show V27  Q = vcFun (E := NCl) (inlMN NCl M103 an27 2) (an27 27) Tryd.f27 [] [] [] 0 (resP NCl [.bool] Q) by kernel_rfl) h
theorem p27   : V27  (fun y0 => y0 = true) := by
  have hp : printS (Prp.mk (parseS exA).1.Group (parseS exA).1.Name (parseS exA).1.Params (parseS exA).1.Value) = ([71, 46, 84, 69, 76, 59, 84, 89, 80, 69, 61, 104, 111, 109, 101, 44, 34, 97, 59, 98, 34, 59, 88, 61, 97, 94, 94, 98, 58, 49], .nil) := by rw [ex_parse]; exact ex_print
  have hg : getS (Prp.mk (parseS exA).1.Group (parseS exA).1.Name (parseS exA).1.Params (parseS exA).1.Value) [88] = ([97, 94, 98], true) := by rw [ex_parse]; kernel_rfl
  unfold V27
  rw [hp, hg, ex_parse]
  exact ⟨by decide, ex_small, by decide, ⟨by decide, by decide⟩, by decide⟩
def c27 (a : List (SV U)) : Option (Q1 U) := match a with | [] => some ⟨[], [], blB true⟩ | _ => none
set_option maxRecDepth 100000 in
theorem c27_ok (args : List (SV U)) (q : Q1 U) (h : c27 args = some q) (ho : allP q.ob) : LendOK NCl 27 args ⟨q.ob, q.hy, q.v, []⟩ := by
  unfold c27 at h
  split at h
  · cases h
    exact lend1 NCl_ok (inlMN_ok NCl_ok M103_ok an27 2) Tryd.func27 (k := .bool) (x := true) trivial (V27_ok (p27  )) 0
  · cases h
noncomputable def N27 : Env := NCl.addL 27 c27
theorem N27_ok : EnvOK N27 := NCl_ok.addL Tryd.call27 c27_ok
end Go.Proofs.YtadgfmmmdhlljaaDoor
end
section
namespace Go.Proofs.YtadgfmmmdhlljaaDoor
open Go Go.Wk Go.Wl Go.Rx Go.Fo Go.Li 
noncomputable def NI78 : Env := N27.addI 78 Tryd.f78
theorem NI78_ok : EnvOK NI78 := N27_ok.addI Tryd.call78 Tryd.func78
end Go.Proofs.YtadgfmmmdhlljaaDoor
end
section
namespace Go.Proofs.YtadgfmmmdhlljaaDoor
open Go Go.Wk Go.Wl Go.Rx Go.Fo Go.Li 
def an37 : Nat → Ann := fun | 37 => ⟨41, fun _ => none, fun  | _ => none⟩ | 78 => ⟨8, fun _ => none, fun  | _ => none⟩ | 79 => ⟨19, fun | 2 => some ⟨[0, 1, 7], [.slot 8 (.int .i64)]⟩ | _ => none, fun  | _ => none⟩ | _ => ⟨0, fun _ => none, fun _ => none⟩
def V37 (p : Str × Str × Str) (n : Str) (vs : List Str) (Q : Prp → Prop) : Prop :=
∃ (I : Int → Prop),
  ∃ (m : Int → Nat),
    I (0 : Int) ∧
      ∀ (x : Int),
        I x →
          (x < (0 : Int) → False) ∧
            (¬x < (0 : Int) →
              ((↑vs.length : Int) = (0 : Int) → False) ∧
                (¬(↑vs.length : Int) = (0 : Int) →
                  ((0 : Int) ≤ (-1 : Int) → vs.length ≠ (0 : Nat) ∧ vs.length ≤ (1000000 : Nat) ∧ False) ∧
                    (¬(0 : Int) ≤ (-1 : Int) →
                      (vs.length ≠ (0 : Nat) ∧ vs.length ≤ (1000000 : Nat)) ∧
                        [Param.mk n vs].length * (some (40 : Nat)).getD (0 : Nat) ≤ (140737488355328 : Nat) ∧ Q (Prp.mk p.fst p.snd.fst [Param.mk n vs] p.snd.snd))))
def W37 (p : Str × Str × Str) (n : Str) (vs : List Str) (Q : Prp → Prop) : Prop := vcFun (E := NI78) (inlMN NI78 M103 an37 4) (an37 37) Tryd.f37 [.agg [.str p.1, .str p.2.1, .nils, .str p.2.2], .str n, .sl (N := U) 9 vs] [] [] 0 (resZ NI78 1 [.val 45] Q)
attribute [local irreducible] W37 HZ
set_option maxRecDepth 100000 in
theorem V37_eq {p : Str × Str × Str} {n : Str} {vs : List Str} {Q : Prp → Prop} : V37 p n vs Q = W37 p n vs Q := by kernel_rfl
set_option maxRecDepth 100000 in
theorem V37_ok {p : Str × Str × Str} {n : Str} {vs : List Str} {Q : Prp → Prop} (h : V37 p n vs Q) : W37 p n vs Q := by rw [← V37_eq]; exact h
theorem p37 (p : Str × Str × Str) (n : Str) (vs : List Str) (h0 : vs.length ≠ 0) (h1 : vs.length ≤ 1000000) : V37 p n vs (fun y0 => y0 = Prp.mk p.1 p.2.1 [⟨n, vs⟩] p.2.2) := by
  unfold V37
  refine ⟨fun x => x = 0, fun _ => 0, rfl, ?_⟩
  rintro x rfl
  refine ⟨fun h => absurd h (by decide), fun _ => ⟨fun h => absurd h (by omega), fun _ => ⟨fun h => absurd h (by decide), fun _ => ⟨⟨h0, h1⟩, by simp, rfl⟩⟩⟩⟩
set_option maxRecDepth 100000 in
theorem Y37_eq {p : Str × Str × Str} {n : Str} {vs : List Str} : W37 p n vs (fun y0 => y0 = Prp.mk p.1 p.2.1 [⟨n, vs⟩] p.2.2) = HZ NI78 (inlMN NI78 M103 an37 4) (an37 37) Tryd.f37 [.agg [.str p.1, .str p.2.1, .nils, .str p.2.2], .str n, .sl (N := U) 9 vs] 1 [.val 45] (Prp.mk p.1 p.2.1 [⟨n, vs⟩] p.2.2, ()) := by kernel_rfl
theorem Y37_ok (p : Str × Str × Str) (n : Str) (vs : List Str) (h0 : vs.length ≠ 0) (h1 : vs.length ≤ 1000000) : HZ NI78 (inlMN NI78 M103 an37 4) (an37 37) Tryd.f37 [.agg [.str p.1, .str p.2.1, .nils, .str p.2.2], .str n, .sl (N := U) 9 vs] 1 [.val 45] (Prp.mk p.1 p.2.1 [⟨n, vs⟩] p.2.2, ()) := by
  rw [← Y37_eq]
  exact V37_ok (p37 p n vs h0 h1)
def c37r (p : Str × Str × Str) (n : Str) (vs : List Str) : CR U := ⟨[List.length (α := Str) vs ≠ 0, List.length (α := Str) vs ≤ 1000000], [], .agg [.str (Prp.mk p.1 p.2.1 [⟨n, vs⟩] p.2.2).Group, .str (Prp.mk p.1 p.2.1 [⟨n, vs⟩] p.2.2).Name, .sl 59 (Prp.mk p.1 p.2.1 [⟨n, vs⟩] p.2.2).Params, .str (Prp.mk p.1 p.2.1 [⟨n, vs⟩] p.2.2).Value], []⟩
set_option maxRecDepth 100000 in
theorem c37r_eq (p : Str × Str × Str) (n : Str) (vs : List Str) : (⟨[List.length (α := Str) vs ≠ 0, List.length (α := Str) vs ≤ 1000000], [], tellA 1 (tell NI78 [.val 45] (Prp.mk p.1 p.2.1 [⟨n, vs⟩] p.2.2, ())), []⟩ : CR NI78.N) = c37r p n vs := by kernel_rfl
set_option maxRecDepth 100000 in
theorem c37r_ok (p : Str × Str × Str) (n : Str) (vs : List Str) (h0 : vs.length ≠ 0) (h1 : vs.length ≤ 1000000) (nx : Nat) (hp : ([.agg [.str p.1, .str p.2.1, .nils, .str p.2.2], .str n, .sl (N := U) 9 vs] : List (SV U)).all pureS = true) : ConOK NI78.P NI78.N NI78.T NI78.G 37 [.agg [.str p.1, .str p.2.1, .nils, .str p.2.2], .str n, .sl (N := U) 9 vs] nx (c37r p n vs) := by
  rw [← c37r_eq]
  exact conH NI78_ok (inlMN_ok NI78_ok M103_ok an37 4) Tryd.func37 rfl hp (Y37_ok p n vs h0 h1)
def c37 (a : List (SV U)) (nx : Nat) : Option (CR U) := match a with | [.agg [.str p0, .str p1, .nils, .str p2], .str n, .sl 9 vs] => some (c37r (⟨p0, p1, p2⟩) n vs) | _ => none
theorem c37_ok (args : List (SV U)) (nx : Nat) (c : CR U) (h : c37 args nx = some c) (hp : args.all pureS = true) (ho : allP c.ob) : ConOK NI78.P NI78.N NI78.T NI78.G 37 args nx c := by
  unfold c37 at h
  split at h
  · rename_i p0 p1 p2 n vs
    cases h
    exact c37r_ok (⟨p0, p1, p2⟩) n vs ho.1 ho.2.1 nx hp
  · cases h
noncomputable def N37 : Env := NI78.addC 37 c37
theorem N37_ok : EnvOK N37 := NI78_ok.addC Tryd.call37 c37_ok
end Go.Proofs.YtadgfmmmdhlljaaDoor
end
section
namespace Go.Proofs.YtadgfmmmdhlljaaDoor
open Go Go.Wk Go.Wl Go.Rx Go.Fo Go.Li Go.Proofs
theorem print_yes {p : Prp} (h : rightB p = true) : printS p = (Li.tell p, .nil) := by unfold printS; rw [if_pos h]
end Go.Proofs.YtadgfmmmdhlljaaDoor
end
