/- Disks: walks, printed by program, and their plain law. -/
import Derived.Test.YtdgcgifigkfeaaaR1
namespace Go.Proofs.Ytdgcgifigkfeaaa
open Go Go.Wk Go.Wl Classical
theorem rwrite_ok {w0 : World} {r : Nat} {x : Rk} {F : List Nat} (h : RkIs r w0 x F) (ok : x.Ok) (a : Int) (s : Str) :
    CallR Try.prog 30 [.pointer (some ⟨r, 0, none⟩), .int .i64 a, sv s] w0 (fun v w' => v = .int .i64 (x.write a s).1 ∧ ∃ F', RkIs r w' (x.write a s).2 F' ∧ Turn w0 w' F F') := by
  have hs0 := Sep.one (o := obRk r) (Z := fun _ => False) h (fun _ h => h.elim) (fun _ _ h => h)
  have ⟨hsame, hmax, hinn, hll, hfl, ⟨hi1, hi2⟩, hcnt⟩ := ok
  have ⟨fa, ff, fl_⟩ := ract_same (x := x)
  refine Call1 Try.func30 rfl rfl rfl rfl ?_
  refine W_seq ?_
  refine W_region ?_
  refine S_assign rfl ?_
  refine WL_nil ?_
  refine W_seq ?_
  refine W_seq ?_
  refine W_region ?_
  refine S_move rfl ?_
  refine S_lenT Try.runUnderlying9 rfl rfl ?_
  refine S_neq rfl rfl rfl ?_
  refine WL_nil ?_
  refine W_cond rfl (fun h1 => ?_) (fun h1 => ?_)
  ·
    have p2 := of_decide_eq_true h1
    refine W_seq ?_
    refine W_region ?_
    refine S_assign rfl ?_
    refine WL_nil ?_
    refine W_ret ?_
    show (Value.int .i64 2) = .int .i64 (x.write a s).1 ∧ ∃ F', RkIs r w0 (x.write a s).2 F' ∧ Turn w0 w0 F F'
    rw [Rk.write, if_pos (by omega)]
    exact ⟨rfl, _, hs0.at 0 rfl, hs0.ext, fun b hb => (hs0.org 0 rfl b hb)⟩
  ·
    have p3 := of_decide_eq_false h1
    refine W_skip ?_
    refine W_seq ?_
    refine W_seq ?_
    refine W_region ?_
    refine S_move rfl ?_
    refine S_lss rfl rfl rfl ?_
    refine S_move rfl ?_
    refine WL_split (dj := 12) rfl (fun h4 => ?_) (fun h4 => ?_)
    ·
      have p5 := of_decide_eq_true h4
      refine WL_off rfl rfl rfl (bT h4) ?_
      refine WL_off rfl rfl rfl (bT h4) ?_
      refine WL_off rfl rfl rfl (bT h4) ?_
      refine WL_off rfl rfl rfl (bT h4) ?_
      refine WL_off rfl rfl rfl (bT h4) ?_
      refine WL_off rfl rfl rfl (bT h4) ?_
      refine WL_off rfl rfl rfl (bT h4) ?_
      refine S_pick_t (bT h4) rfl ?_
      refine WL_nil ?_
      refine W_cond_true rfl ?_
      refine W_seq ?_
      refine W_live (L := []) trivial ?_
      intro g6
      refine W_region ?_
      refine S_assign rfl ?_
      refine WL_nil ?_
      refine W_ret ?_
      show (Value.int .i64 3) = .int .i64 (x.write a s).1 ∧ ∃ F', RkIs r w0 (x.write a s).2 F' ∧ Turn w0 w0 F F'
      rw [Rk.write, if_neg (by omega), if_pos (by omega)]
      exact ⟨rfl, _, hs0.at 0 rfl, hs0.ext, fun b hb => (hs0.org 0 rfl b hb)⟩
    ·
      have p7 := of_decide_eq_false h4
      refine WL_on rfl rfl (bF h4) ?_
      refine S_move rfl ?_
      refine WL_on rfl rfl (bF h4) ?_
      refine S_move rfl ?_
      refine WL_on rfl rfl (bF h4) ?_
      refine S_nilCheck rfl rfl ?_
      refine WL_on rfl rfl (bF h4) ?_
      refine S_fieldAddr Try.runUnderlying43 rfl Try.sizeOf41 rfl rfl ?_
      refine WL_on rfl rfl (bF h4) ?_
      have ⟨A_Lasts8, k_Lasts8, s_Lasts8, A_At8, k_At8, s_At8, A_Fresh8, k_Fresh8, s_Fresh8, _, _, ho9, _, _, _⟩ := (show RkIs r w0 x F from (hs0.at 0 rfl))
      refine S_load1 Try.isAgg41 rfl (Own.at ho9 rfl) rfl ?_
      refine WL_on rfl rfl (bF h4) ?_
      refine S_len Try.runUnderlying41 rfl rfl ?_
      refine WL_on rfl rfl (bF h4) ?_
      refine S_geq rfl rfl rfl ?_
      refine S_pick_f (bF h4) rfl ?_
      refine WL_nil ?_
      refine W_cond rfl (fun h10 => ?_) (fun h10 => ?_)
      ·
        have p11 := of_decide_eq_true h10
        refine W_seq ?_
        refine W_live (L := []) trivial ?_
        intro g12
        refine W_region ?_
        refine S_assign rfl ?_
        refine WL_nil ?_
        refine W_ret ?_
        show (Value.int .i64 3) = .int .i64 (x.write a s).1 ∧ ∃ F', RkIs r w0 (x.write a s).2 F' ∧ Turn w0 w0 F F'
        rw [Rk.write, if_neg (by omega), if_pos (by omega)]
        exact ⟨rfl, _, hs0.at 0 rfl, hs0.ext, fun b hb => (hs0.org 0 rfl b hb)⟩
      ·
        have p13 := of_decide_eq_false h10
        refine W_skip ?_
        refine W_seq ?_
        refine W_seq ?_
        refine W_live (L := [(0, .pointer (some ⟨r, 0, none⟩)), (1, .int .i64 a), (2, sv s)]) ⟨rfl, rfl, rfl, trivial⟩ ?_
        intro g14
        refine W_region ?_
        refine S_move rfl ?_
        have hz19 := ract_ok (hs0.at 0 rfl) ok
        refine S_callE Try.call41 rfl hz19 rfl ?_
        rintro w15 ⟨F16, h17, t18⟩
        have hs20 : Sep F w0 (fun _ => False) w15 [iOb (obRk r) x.act.2 F16 F] := hs0.turn 0 rfl h17 t18
        refine S_not rfl rfl ?_
        refine WL_nil ?_
        refine W_cond rfl (fun h22 => ?_) (fun h22 => ?_)
        ·
          have h23 := h22
          simp only [lrnN] at h23
          have p24 := h23
          try simp only [lrn] at p24
          refine W_seq ?_
          refine W_region ?_
          refine S_assign rfl ?_
          refine WL_nil ?_
          refine W_ret ?_
          show (Value.int .i64 9) = .int .i64 (x.write a s).1 ∧ ∃ F', RkIs r w15 (x.write a s).2 F' ∧ Turn w0 w15 F F'
          rw [rwrite_power (by omega) (by omega) (by omega) ‹_›]
          exact ⟨rfl, _, hs20.at 0 rfl, hs20.ext, fun b hb => (hs20.org 0 rfl b hb)⟩
        ·
          have h25 := h22
          simp only [lrnN] at h25
          have p26 := h25
          try simp only [lrn] at p26
          refine W_skip ?_
          refine W_seq ?_
          have ⟨A_Lasts27, k_Lasts27, s_Lasts27, A_At27, k_At27, s_At27, A_Fresh27, k_Fresh27, s_Fresh27, hs28⟩ := Sep.openRk hs20
          have hs28 : Sep F w0 (fun _ => False) w15 [iOwn r 43 [.slice A_Lasts27 x.act.2.Lasts.length k_Lasts27, .slice A_At27 x.act.2.At.length k_At27, .slice A_Fresh27 x.act.2.Fresh.length k_Fresh27, .int .i64 x.act.2.Left, .bool x.act.2.Off] F, iAc dStr (.slice A_Lasts27 x.act.2.Lasts.length k_Lasts27) x.act.2.Lasts s_Lasts27 F, iAc dInt (.slice A_At27 x.act.2.At.length k_At27) x.act.2.At s_At27 F, iAc dStr (.slice A_Fresh27 x.act.2.Fresh.length k_Fresh27) x.act.2.Fresh s_Fresh27 F] := hs28
          have hca := congrArg List.length fa
          have hcf := congrArg List.length ff
          refine W_region ?_
          refine S_move rfl ?_
          refine S_move rfl ?_
          refine S_nilCheck rfl rfl ?_
          refine S_fieldAddr Try.runUnderlying43 rfl Try.sizeOf37 rfl rfl ?_
          refine S_load1 Try.isAgg37 rfl (Own.at (hs28.at 0 rfl) rfl) rfl ?_
          refine S_move rfl ?_
          refine Z_buildSlice (r := dInt) (css := [[.int .i64 a]]) (al := [a]) hs28 Try.runUnderlying37 Try.sizeOf3 Try.zeroValue3 rfl rfl rfl rfl rfl rfl rfl ⟨⟨rfl, (by simp only [InI]; omega)⟩, trivial⟩ rfl ?_
          intro b29 w30 hs31
          have hs31 : Sep F w0 (fun _ => False) w30 [iAc dInt (.slice (some ⟨b29, 0, none⟩) 1 1) [a] [b29] [], iOwn r 43 [.slice A_Lasts27 x.act.2.Lasts.length k_Lasts27, .slice A_At27 x.act.2.At.length k_At27, .slice A_Fresh27 x.act.2.Fresh.length k_Fresh27, .int .i64 x.act.2.Left, .bool x.act.2.Off] F, iAc dStr (.slice A_Lasts27 x.act.2.Lasts.length k_Lasts27) x.act.2.Lasts s_Lasts27 F, iAc dInt (.slice A_At27 x.act.2.At.length k_At27) x.act.2.At s_At27 F, iAc dStr (.slice A_Fresh27 x.act.2.Fresh.length k_Fresh27) x.act.2.Fresh s_Fresh27 F] := hs31
          refine Z_append (r := dInt) (al := x.act.2.At) (xs := [a]) hs31 3 rfl (Src.ac (hs31.at 0 rfl)) Try.runUnderlying37 Try.typeInfo3 Try.sizeOf3 Try.zeroValue3 rfl (by show _ * 8 ≤ _; simp only [List.length_cons, List.length_nil]; omega) (by decide) rfl ?_
          intro A34 cap35 bs36 w32 hs33
          have hs33 : Sep F w0 (fun _ => False) w32 [iAc dInt (.slice (some ⟨b29, 0, none⟩) 1 1) [a] [b29] [], iOwn r 43 [.slice A_Lasts27 x.act.2.Lasts.length k_Lasts27, .slice A_At27 x.act.2.At.length k_At27, .slice A_Fresh27 x.act.2.Fresh.length k_Fresh27, .int .i64 x.act.2.Left, .bool x.act.2.Off] F, iAc dStr (.slice A_Lasts27 x.act.2.Lasts.length k_Lasts27) x.act.2.Lasts s_Lasts27 F, iAc dInt (.slice A34 ((x.act.2.At ++ [a]).length) cap35) (x.act.2.At ++ [a]) bs36 F, iAc dStr (.slice A_Fresh27 x.act.2.Fresh.length k_Fresh27) x.act.2.Fresh s_Fresh27 F] := hs33
          refine S_nilCheck rfl rfl ?_
          refine S_fieldAddr Try.runUnderlying43 rfl Try.sizeOf37 rfl rfl ?_
          refine Z_store hs33 1 rfl Try.sizeOf37 rfl rfl rfl (Nat.le_of_ble_eq_true rfl) rfl ?_
          intro w37 hs38
          have hs38 : Sep F w0 (fun _ => False) w37 [iAc dInt (.slice (some ⟨b29, 0, none⟩) 1 1) [a] [b29] [], iOwn r 43 [.slice A_Lasts27 x.act.2.Lasts.length k_Lasts27, .slice A34 ((x.act.2.At ++ [a]).length) cap35, .slice A_Fresh27 x.act.2.Fresh.length k_Fresh27, .int .i64 x.act.2.Left, .bool x.act.2.Off] F, iAc dStr (.slice A_Lasts27 x.act.2.Lasts.length k_Lasts27) x.act.2.Lasts s_Lasts27 F, iAc dInt (.slice A34 ((x.act.2.At ++ [a]).length) cap35) (x.act.2.At ++ [a]) bs36 F, iAc dStr (.slice A_Fresh27 x.act.2.Fresh.length k_Fresh27) x.act.2.Fresh s_Fresh27 F] := hs38
          refine WL_nil ?_
          refine W_seq ?_
          refine W_live (L := [(0, .pointer (some ⟨r, 0, none⟩)), (2, sv s)]) ⟨rfl, rfl, trivial⟩ ?_
          intro g39
          refine W_region ?_
          refine S_move rfl ?_
          refine S_move rfl ?_
          refine S_nilCheck rfl rfl ?_
          refine S_fieldAddr Try.runUnderlying43 rfl Try.sizeOf41 rfl rfl ?_
          refine S_load1 Try.isAgg41 rfl (Own.at (hs38.at 1 rfl) rfl) rfl ?_
          refine S_move rfl ?_
          refine Z_buildSlice (r := dStr) (css := [[sv s]]) (al := [s]) hs38 Try.runUnderlying41 Try.sizeOf9 Try.zeroValue9 rfl rfl rfl rfl rfl rfl rfl ⟨⟨rfl, (by first | omega | (simp; done) | (simp; omega))⟩, trivial⟩ rfl ?_
          intro b40 w41 hs42
          have hs42 : Sep F w0 (fun _ => False) w41 [iAc dStr (.slice (some ⟨b40, 0, none⟩) 1 1) [s] [b40] [], iAc dInt (.slice (some ⟨b29, 0, none⟩) 1 1) [a] [b29] [], iOwn r 43 [.slice A_Lasts27 x.act.2.Lasts.length k_Lasts27, .slice A34 ((x.act.2.At ++ [a]).length) cap35, .slice A_Fresh27 x.act.2.Fresh.length k_Fresh27, .int .i64 x.act.2.Left, .bool x.act.2.Off] F, iAc dStr (.slice A_Lasts27 x.act.2.Lasts.length k_Lasts27) x.act.2.Lasts s_Lasts27 F, iAc dInt (.slice A34 ((x.act.2.At ++ [a]).length) cap35) (x.act.2.At ++ [a]) bs36 F, iAc dStr (.slice A_Fresh27 x.act.2.Fresh.length k_Fresh27) x.act.2.Fresh s_Fresh27 F] := hs42
          refine Z_append (r := dStr) (al := x.act.2.Fresh) (xs := [s]) hs42 5 rfl (Src.ac (hs42.at 0 rfl)) Try.runUnderlying41 Try.typeInfo9 Try.sizeOf9 Try.zeroValue9 rfl (by show _ * 16 ≤ _; simp only [List.length_cons, List.length_nil]; omega) (by decide) rfl ?_
          intro A45 cap46 bs47 w43 hs44
          have hs44 : Sep F w0 (fun _ => False) w43 [iAc dStr (.slice (some ⟨b40, 0, none⟩) 1 1) [s] [b40] [], iAc dInt (.slice (some ⟨b29, 0, none⟩) 1 1) [a] [b29] [], iOwn r 43 [.slice A_Lasts27 x.act.2.Lasts.length k_Lasts27, .slice A34 ((x.act.2.At ++ [a]).length) cap35, .slice A_Fresh27 x.act.2.Fresh.length k_Fresh27, .int .i64 x.act.2.Left, .bool x.act.2.Off] F, iAc dStr (.slice A_Lasts27 x.act.2.Lasts.length k_Lasts27) x.act.2.Lasts s_Lasts27 F, iAc dInt (.slice A34 ((x.act.2.At ++ [a]).length) cap35) (x.act.2.At ++ [a]) bs36 F, iAc dStr (.slice A45 ((x.act.2.Fresh ++ [s]).length) cap46) (x.act.2.Fresh ++ [s]) bs47 F] := hs44
          refine S_nilCheck rfl rfl ?_
          refine S_fieldAddr Try.runUnderlying43 rfl Try.sizeOf41 rfl rfl ?_
          refine Z_store hs44 2 rfl Try.sizeOf41 rfl rfl rfl (Nat.le_of_ble_eq_true rfl) rfl ?_
          intro w48 hs49
          have hs49 : Sep F w0 (fun _ => False) w48 [iAc dStr (.slice (some ⟨b40, 0, none⟩) 1 1) [s] [b40] [], iAc dInt (.slice (some ⟨b29, 0, none⟩) 1 1) [a] [b29] [], iOwn r 43 [.slice A_Lasts27 x.act.2.Lasts.length k_Lasts27, .slice A34 ((x.act.2.At ++ [a]).length) cap35, .slice A45 ((x.act.2.Fresh ++ [s]).length) cap46, .int .i64 x.act.2.Left, .bool x.act.2.Off] F, iAc dStr (.slice A_Lasts27 x.act.2.Lasts.length k_Lasts27) x.act.2.Lasts s_Lasts27 F, iAc dInt (.slice A34 ((x.act.2.At ++ [a]).length) cap35) (x.act.2.At ++ [a]) bs36 F, iAc dStr (.slice A45 ((x.act.2.Fresh ++ [s]).length) cap46) (x.act.2.Fresh ++ [s]) bs47 F] := hs49
          refine WL_nil ?_
          refine W_seq ?_
          refine W_region ?_
          refine S_assign rfl ?_
          refine WL_nil ?_
          refine W_ret ?_
          show (Value.int .i64 0) = .int .i64 (x.write a s).1 ∧ ∃ F', RkIs r w48 (x.write a s).2 F' ∧ Turn w0 w48 F F'
          have hc := (RkIs.close (hs49.pick [2, 3, 4, 5, 0, 1] rfl (by decide) rfl))
          rw [rwrite_fine (by omega) (by omega) (by omega) ‹_›]
          exact ⟨rfl, _, hc⟩
end Go.Proofs.Ytdgcgifigkfeaaa
