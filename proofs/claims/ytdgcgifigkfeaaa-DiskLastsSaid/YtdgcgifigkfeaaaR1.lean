/- Disks: walks, printed by program, and their plain law. -/
import Derived.Test.YtdgcgifigkfeaaaR
namespace Go.Proofs.Ytdgcgifigkfeaaa
open Go Go.Wk Go.Wl Classical
theorem rnow_ok {w0 : World} {r : Nat} {x : Rk} {F : List Nat} (h : RkIs r w0 x F) (ok : x.Ok) (a : Int) :
    CallR Try.prog 35 [.pointer (some ⟨r, 0, none⟩), .int .i64 a] w0 (fun v w' => v = .tuple #[sv ((x.now a).getD []), .bool (x.now a).isSome] ∧ w' = w0) := by
  obtain ⟨A_Lasts, k_Lasts, s_Lasts, A_At, k_At, s_At, A_Fresh, k_Fresh, s_Fresh, hs0⟩ := h.fix (Z := fun b => b ∈ F) h.lt (fun b hb => hb)
  have ⟨hsame, hmax, hinn, hll, hfl, ⟨hi1, hi2⟩, hcnt⟩ := ok
  refine Call2 Try.func35 rfl rfl rfl rfl ?_
  refine W_seq ?_
  refine W_region ?_
  refine S_assign rfl ?_
  refine S_assign rfl ?_
  refine WL_nil ?_
  refine W_seq ?_
  refine W_seq ?_
  refine W_region ?_
  refine S_move rfl ?_
  refine S_nilCheck rfl rfl ?_
  refine S_fieldAddr Try.runUnderlying43 rfl Try.sizeOf37 rfl rfl ?_
  refine S_load1 Try.isAgg37 rfl (Own.at ((hs0.at 0 rfl)).2 rfl) rfl ?_
  refine S_len Try.runUnderlying37 rfl rfl ?_
  refine S_sub rfl rfl (by omega) rfl ?_
  refine S_assign rfl ?_
  refine WL_nil ?_
  refine W_block ?_
  refine W_loopE (fun m f w => ∃ (i : Int), m = (i + 1).toNat ∧ (-1 ≤ i) ∧ (i < x.At.length) ∧ (∀ j : Int, i < j → j < x.At.length → ix x.At j ≠ a) ∧ w0 = w ∧ Live f [(0, .pointer (some ⟨r, 0, none⟩)), (1, .int .i64 a), (6, .int .i64 i)]) ?_ ?_
  · exact ⟨_, (x.At.length : Int) - 1, rfl, (by omega), (by omega), (fun j h1 h2 => by omega), rfl, ⟨rfl, rfl, rfl, trivial⟩⟩
  ·
    rintro _ f2 _ ⟨i, rfl, q5, q6, q7, rfl, hl4⟩
    refine W_live hl4 ?_
    intro g8
    refine W_seq ?_
    refine W_seq ?_
    refine W_region ?_
    refine S_move rfl ?_
    refine S_geq rfl rfl rfl ?_
    refine WL_nil ?_
    refine W_cond rfl (fun h9 => ?_) (fun h9 => ?_)
    ·
      have p10 := of_decide_eq_true h9
      refine W_skip ?_
      refine W_seq ?_
      refine W_block ?_
      refine W_seq ?_
      refine W_region ?_
      refine S_move rfl ?_
      refine S_nilCheck rfl rfl ?_
      refine S_fieldAddr Try.runUnderlying43 rfl Try.sizeOf37 rfl rfl ?_
      refine S_load1 Try.isAgg37 rfl (Own.at ((hs0.at 0 rfl)).2 rfl) rfl ?_
      refine S_move rfl ?_
      refine Z_indexAc ((hs0.at 2 rfl)).choose_spec.2 Try.runUnderlying37 Try.sizeOf3 rfl rfl (show (0 : Int) ≤ i from by omega) (show i < ((x.At.length : Nat) : Int) from by omega) rfl ?_
      have o14 := cell_ac (q := (Int.toNat i) * 1) (sz := 1) (o := 0) ((hs0.at 2 rfl)).choose_spec.2 (Sub.self _) rfl (Nat.add_zero _).symm (show (0 : Int) ≤ i from by omega) (show i < ((x.At.length : Nat) : Int) from by omega)
      obtain ⟨c11, hc12, hr13⟩ := o14
      obtain ⟨rfl, r15⟩ := hr13
      have ⟨r16, r17⟩ := r15
      refine Z_load Try.isAgg3 rfl hc12 rfl ?_
      refine S_move rfl ?_
      refine S_eql rfl rfl rfl ?_
      refine WL_nil ?_
      refine W_cond rfl (fun h18 => ?_) (fun h18 => ?_)
      ·
        have p19 := of_decide_eq_true h18
        refine W_seq ?_
        refine W_live (L := [(0, .pointer (some ⟨r, 0, none⟩)), (6, .int .i64 i)]) ⟨rfl, rfl, trivial⟩ ?_
        intro g20
        refine W_region ?_
        refine S_move rfl ?_
        refine S_nilCheck rfl rfl ?_
        refine S_fieldAddr Try.runUnderlying43 rfl Try.sizeOf41 rfl rfl ?_
        refine S_load1 Try.isAgg41 rfl (Own.at ((hs0.at 0 rfl)).2 rfl) rfl ?_
        refine S_move rfl ?_
        refine Z_indexAc ((hs0.at 3 rfl)).choose_spec.2 Try.runUnderlying41 Try.sizeOf9 rfl rfl (show (0 : Int) ≤ i from by omega) (show i < ((x.Fresh.length : Nat) : Int) from by omega) rfl ?_
        have o24 := cell_ac (q := (Int.toNat i) * 1) (sz := 1) (o := 0) ((hs0.at 3 rfl)).choose_spec.2 (Sub.self _) rfl (Nat.add_zero _).symm (show (0 : Int) ≤ i from by omega) (show i < ((x.Fresh.length : Nat) : Int) from by omega)
        obtain ⟨c21, hc22, hr23⟩ := o24
        obtain ⟨rfl, r25⟩ := hr23
        refine Z_load Try.isAgg9 rfl hc22 rfl ?_
        refine S_assign rfl ?_
        refine S_assign rfl ?_
        refine WL_nil ?_
        refine W_ret ?_
        show (Value.tuple #[sv (ix x.Fresh i), .bool true]) = .tuple #[sv ((x.now a).getD []), .bool (x.now a).isSome] ∧ w0 = w0
        rw [now_found ok (i := i) (by omega) (by omega) ‹_› q7]
        exact ⟨rfl, rfl⟩
      ·
        have p26 := of_decide_eq_false h18
        refine W_skip ?_
        refine W_live (L := [(0, .pointer (some ⟨r, 0, none⟩)), (1, .int .i64 a), (6, .int .i64 i)]) ⟨rfl, rfl, rfl, trivial⟩ ?_
        intro g27
        refine W_region ?_
        refine S_move rfl ?_
        refine S_sub rfl rfl (by omega) rfl ?_
        refine S_assign rfl ?_
        refine WL_nil ?_
        exact ⟨_, (by omega), i - 1, rfl, (by omega), (by omega), (fun j h1 h2 => by by_cases e : j = i; (subst e; assumption); exact q7 j (by omega) h2), rfl, ⟨rfl, rfl, rfl, trivial⟩⟩
    ·
      have p28 := of_decide_eq_false h9
      refine W_exit ?_
      refine W_seq ?_
      refine W_region ?_
      refine S_assign rfl ?_
      refine S_assign rfl ?_
      refine WL_nil ?_
      refine W_ret ?_
      show (Value.tuple #[sv [], .bool false]) = .tuple #[sv ((x.now a).getD []), .bool (x.now a).isSome] ∧ w0 = w0
      have e : i = -1 := by omega
      subst e
      rw [now_none q7]
      exact ⟨rfl, rfl⟩
theorem ract_ok {w0 : World} {r : Nat} {x : Rk} {F : List Nat} (h : RkIs r w0 x F) (ok : x.Ok) :
    CallR Try.prog 41 [.pointer (some ⟨r, 0, none⟩)] w0 (fun v w' => v = .bool x.act.1 ∧ ∃ F', RkIs r w' x.act.2 F' ∧ Turn w0 w' F F') := by
  have hs1 := Sep.one (o := obRk r) (Z := fun _ => False) h (fun _ h => h.elim) (fun _ _ h => h)
  obtain ⟨A_Lasts, k_Lasts, s_Lasts, A_At, k_At, s_At, A_Fresh, k_Fresh, s_Fresh, hs0⟩ := Sep.openRk hs1
  have ⟨hsame, hmax, hinn, hll, hfl, ⟨hi1, hi2⟩, hcnt⟩ := ok
  refine Call1 Try.func41 rfl rfl rfl rfl ?_
  refine W_seq ?_
  refine W_region ?_
  refine S_assign rfl ?_
  refine WL_nil ?_
  refine W_seq ?_
  refine W_seq ?_
  refine W_region ?_
  refine S_move rfl ?_
  refine S_nilCheck rfl rfl ?_
  refine S_fieldAddr Try.runUnderlying43 rfl Try.sizeOf3 rfl rfl ?_
  refine S_load1 Try.isAgg3 rfl (Own.at (hs0.at 0 rfl) rfl) rfl ?_
  refine S_eql rfl rfl rfl ?_
  refine WL_nil ?_
  refine W_cond rfl (fun h1 => ?_) (fun h1 => ?_)
  ·
    have p2 := of_decide_eq_true h1
    refine W_region ?_
    refine S_move rfl ?_
    refine S_nilCheck rfl rfl ?_
    refine S_fieldAddr Try.runUnderlying43 rfl Try.sizeOf4 rfl rfl ?_
    refine Z_store hs0 0 rfl Try.sizeOf4 rfl rfl rfl (Nat.le_of_ble_eq_true rfl) rfl ?_
    intro w3 hs4
    have hs4 : Sep F w0 (fun _ => False) w3 [iOwn r 43 [.slice A_Lasts x.Lasts.length k_Lasts, .slice A_At x.At.length k_At, .slice A_Fresh x.Fresh.length k_Fresh, .int .i64 x.Left, .bool true] F, iAc dStr (.slice A_Lasts x.Lasts.length k_Lasts) x.Lasts s_Lasts F, iAc dInt (.slice A_At x.At.length k_At) x.At s_At F, iAc dStr (.slice A_Fresh x.Fresh.length k_Fresh) x.Fresh s_Fresh F] := hs4
    refine WL_nil ?_
    refine W_seq ?_
    refine W_seq ?_
    refine W_region ?_
    refine S_move rfl ?_
    refine S_nilCheck rfl rfl ?_
    refine S_fieldAddr Try.runUnderlying43 rfl Try.sizeOf4 rfl rfl ?_
    refine S_load1 Try.isAgg4 rfl (Own.at (hs4.at 0 rfl) rfl) rfl ?_
    refine WL_nil ?_
    refine W_cond_true rfl ?_
    refine W_seq ?_
    refine W_live (L := []) trivial ?_
    intro g5
    refine W_region ?_
    refine S_assign rfl ?_
    refine WL_nil ?_
    refine W_ret ?_
    show (Value.bool false) = .bool x.act.1 ∧ ∃ F', RkIs r w3 x.act.2 F' ∧ Turn w0 w3 F F'
    have hc := (RkIs.close hs4)
    simp only [Rk.act]
    first | (rw [if_pos (by assumption)]; exact ⟨rfl, _, hc⟩) | (rw [if_neg (by assumption), if_pos (by assumption)]; exact ⟨rfl, _, hc⟩) | (rw [if_neg (by assumption), if_neg (by simp_all), if_pos (by assumption)]; exact ⟨rfl, _, hc⟩) | (rw [if_neg (by assumption), if_neg (by simp_all), if_neg (by assumption)]; exact ⟨rfl, _, hc⟩)
  ·
    have p6 := of_decide_eq_false h1
    refine W_skip ?_
    refine W_seq ?_
    refine W_seq ?_
    refine W_region ?_
    refine S_move rfl ?_
    refine S_nilCheck rfl rfl ?_
    refine S_fieldAddr Try.runUnderlying43 rfl Try.sizeOf4 rfl rfl ?_
    refine S_load1 Try.isAgg4 rfl (Own.at (hs0.at 0 rfl) rfl) rfl ?_
    refine WL_nil ?_
    refine W_cond rfl (fun h7 => ?_) (fun h7 => ?_)
    ·
      have p8 := h7
      try simp only [lrn] at p8
      refine W_seq ?_
      refine W_region ?_
      refine S_assign rfl ?_
      refine WL_nil ?_
      refine W_ret ?_
      show (Value.bool false) = .bool x.act.1 ∧ ∃ F', RkIs r w0 x.act.2 F' ∧ Turn w0 w0 F F'
      have hc := (RkIs.close hs0)
      simp only [Rk.act]
      first | (rw [if_pos (by assumption)]; exact ⟨rfl, _, hc⟩) | (rw [if_neg (by assumption), if_pos (by assumption)]; exact ⟨rfl, _, hc⟩) | (rw [if_neg (by assumption), if_neg (by simp_all), if_pos (by assumption)]; exact ⟨rfl, _, hc⟩) | (rw [if_neg (by assumption), if_neg (by simp_all), if_neg (by assumption)]; exact ⟨rfl, _, hc⟩)
    ·
      have p9 := h7
      try simp only [lrn] at p9
      refine W_skip ?_
      refine W_seq ?_
      refine W_seq ?_
      refine W_region ?_
      refine S_move rfl ?_
      refine S_nilCheck rfl rfl ?_
      refine S_fieldAddr Try.runUnderlying43 rfl Try.sizeOf3 rfl rfl ?_
      refine S_load1 Try.isAgg3 rfl (Own.at (hs0.at 0 rfl) rfl) rfl ?_
      refine S_gtr rfl rfl rfl ?_
      refine WL_nil ?_
      refine W_cond rfl (fun h10 => ?_) (fun h10 => ?_)
      ·
        have p11 := of_decide_eq_true h10
        refine W_live (L := [(0, .pointer (some ⟨r, 0, none⟩))]) ⟨rfl, trivial⟩ ?_
        intro g12
        refine W_region ?_
        refine S_move rfl ?_
        refine S_nilCheck rfl rfl ?_
        refine S_fieldAddr Try.runUnderlying43 rfl Try.sizeOf3 rfl rfl ?_
        refine S_load1 Try.isAgg3 rfl (Own.at (hs0.at 0 rfl) rfl) rfl ?_
        refine S_sub rfl rfl (by omega) rfl ?_
        refine S_nilCheck rfl rfl ?_
        refine S_fieldAddr Try.runUnderlying43 rfl Try.sizeOf3 rfl rfl ?_
        refine Z_store hs0 0 rfl Try.sizeOf3 rfl rfl rfl (Nat.le_of_ble_eq_true rfl) rfl ?_
        intro w13 hs14
        have hs14 : Sep F w0 (fun _ => False) w13 [iOwn r 43 [.slice A_Lasts x.Lasts.length k_Lasts, .slice A_At x.At.length k_At, .slice A_Fresh x.Fresh.length k_Fresh, .int .i64 (x.Left - 1), .bool x.Off] F, iAc dStr (.slice A_Lasts x.Lasts.length k_Lasts) x.Lasts s_Lasts F, iAc dInt (.slice A_At x.At.length k_At) x.At s_At F, iAc dStr (.slice A_Fresh x.Fresh.length k_Fresh) x.Fresh s_Fresh F] := hs14
        refine WL_nil ?_
        refine W_seq ?_
        refine W_region ?_
        refine S_assign rfl ?_
        refine WL_nil ?_
        refine W_ret ?_
        show (Value.bool true) = .bool x.act.1 ∧ ∃ F', RkIs r w13 x.act.2 F' ∧ Turn w0 w13 F F'
        have hc := (RkIs.close hs14)
        simp only [Rk.act]
        first | (rw [if_pos (by assumption)]; exact ⟨rfl, _, hc⟩) | (rw [if_neg (by assumption), if_pos (by assumption)]; exact ⟨rfl, _, hc⟩) | (rw [if_neg (by assumption), if_neg (by simp_all), if_pos (by assumption)]; exact ⟨rfl, _, hc⟩) | (rw [if_neg (by assumption), if_neg (by simp_all), if_neg (by assumption)]; exact ⟨rfl, _, hc⟩)
      ·
        have p15 := of_decide_eq_false h10
        refine W_skip ?_
        refine W_seq ?_
        refine W_live (L := []) trivial ?_
        intro g16
        refine W_region ?_
        refine S_assign rfl ?_
        refine WL_nil ?_
        refine W_ret ?_
        show (Value.bool true) = .bool x.act.1 ∧ ∃ F', RkIs r w0 x.act.2 F' ∧ Turn w0 w0 F F'
        have hc := (RkIs.close hs0)
        simp only [Rk.act]
        first | (rw [if_pos (by assumption)]; exact ⟨rfl, _, hc⟩) | (rw [if_neg (by assumption), if_pos (by assumption)]; exact ⟨rfl, _, hc⟩) | (rw [if_neg (by assumption), if_neg (by simp_all), if_pos (by assumption)]; exact ⟨rfl, _, hc⟩) | (rw [if_neg (by assumption), if_neg (by simp_all), if_neg (by assumption)]; exact ⟨rfl, _, hc⟩)
theorem rlimit_ok {w0 : World} {r : Nat} {x : Rk} {F : List Nat} (h : RkIs r w0 x F) (ok : x.Ok) (n : Int) :
    CallR Try.prog 32 [.pointer (some ⟨r, 0, none⟩), .int .i64 n] w0 (fun _ w' => ∃ F', RkIs r w' (x.limit n) F' ∧ Turn w0 w' F F') := by
  have hs1 := Sep.one (o := obRk r) (Z := fun _ => False) h (fun _ h => h.elim) (fun _ _ h => h)
  obtain ⟨A_Lasts, k_Lasts, s_Lasts, A_At, k_At, s_At, A_Fresh, k_Fresh, s_Fresh, hs0⟩ := Sep.openRk hs1
  have ⟨hsame, hmax, hinn, hll, hfl, ⟨hi1, hi2⟩, hcnt⟩ := ok
  refine Call0 Try.func32 rfl rfl rfl rfl ?_
  refine W_seq ?_
  refine W_region ?_
  refine S_move rfl ?_
  refine S_move rfl ?_
  refine S_nilCheck rfl rfl ?_
  refine S_fieldAddr Try.runUnderlying43 rfl Try.sizeOf3 rfl rfl ?_
  refine Z_store hs0 0 rfl Try.sizeOf3 rfl rfl rfl (Nat.le_of_ble_eq_true rfl) rfl ?_
  intro w1 hs2
  have hs2 : Sep F w0 (fun _ => False) w1 [iOwn r 43 [.slice A_Lasts x.Lasts.length k_Lasts, .slice A_At x.At.length k_At, .slice A_Fresh x.Fresh.length k_Fresh, .int .i64 n, .bool x.Off] F, iAc dStr (.slice A_Lasts x.Lasts.length k_Lasts) x.Lasts s_Lasts F, iAc dInt (.slice A_At x.At.length k_At) x.At s_At F, iAc dStr (.slice A_Fresh x.Fresh.length k_Fresh) x.Fresh s_Fresh F] := hs2
  refine WL_nil ?_
  refine W_seq ?_
  refine W_region ?_
  refine S_move rfl ?_
  refine S_lss rfl rfl rfl ?_
  refine WL_nil ?_
  refine W_cond rfl (fun h3 => ?_) (fun h3 => ?_)
  ·
    have p4 := of_decide_eq_true h3
    refine W_region ?_
    refine S_move rfl ?_
    refine S_nilCheck rfl rfl ?_
    refine S_fieldAddr Try.runUnderlying43 rfl Try.sizeOf3 rfl rfl ?_
    refine Z_store hs2 0 rfl Try.sizeOf3 rfl rfl rfl (Nat.le_of_ble_eq_true rfl) rfl ?_
    intro w5 hs6
    have hs6 : Sep F w0 (fun _ => False) w5 [iOwn r 43 [.slice A_Lasts x.Lasts.length k_Lasts, .slice A_At x.At.length k_At, .slice A_Fresh x.Fresh.length k_Fresh, .int .i64 (-1), .bool x.Off] F, iAc dStr (.slice A_Lasts x.Lasts.length k_Lasts) x.Lasts s_Lasts F, iAc dInt (.slice A_At x.At.length k_At) x.At s_At F, iAc dStr (.slice A_Fresh x.Fresh.length k_Fresh) x.Fresh s_Fresh F] := hs6
    refine WL_nil ?_
    show ∃ F', RkIs r w5 (x.limit n) F' ∧ Turn w0 w5 F F'
    have hc := (RkIs.close hs6)
    simp only [Rk.limit]
    first | (rw [if_pos (by assumption)]; exact ⟨_, hc⟩) | (rw [if_neg (by assumption)]; exact ⟨_, hc⟩)
  ·
    have p7 := of_decide_eq_false h3
    refine W_skip ?_
    show ∃ F', RkIs r w1 (x.limit n) F' ∧ Turn w0 w1 F F'
    have hc := (RkIs.close hs2)
    simp only [Rk.limit]
    first | (rw [if_pos (by assumption)]; exact ⟨_, hc⟩) | (rw [if_neg (by assumption)]; exact ⟨_, hc⟩)
end Go.Proofs.Ytdgcgifigkfeaaa
