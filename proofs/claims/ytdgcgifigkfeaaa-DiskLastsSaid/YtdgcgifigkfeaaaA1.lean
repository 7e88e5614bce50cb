/- Disks: walks, printed by program, and their plain law. -/
import Derived.Test.YtdgcgifigkfeaaaM
namespace Go.Proofs.Ytdgcgifigkfeaaa
open Go Go.Wk Go.Wl Classical
theorem size_ok {w0 : World} {d : Nat} {x : Dk} {F : List Nat} (h : DkIs d w0 x F) (ok : x.Ok) :
    CallR Try.prog 16 [.pointer (some ⟨d, 0, none⟩)] w0 (fun v w' => v = .int .i64 (x.lasts.length : Int) ∧ w' = w0) := by
  obtain ⟨A, cap, bm, hs0⟩ := h.fix
  have ⟨hp, hm, hl, hfl, ⟨hi1, hi2⟩, hky⟩ := ok
  refine Call1 Try.func16 rfl rfl rfl rfl ?_
  refine W_seq ?_
  refine W_region ?_
  refine S_assign rfl ?_
  refine WL_nil ?_
  refine W_seq ?_
  refine W_seq ?_
  refine W_region ?_
  refine S_move rfl ?_
  refine S_eqlP Try.runUnderlying23 rfl rfl ?_
  refine WL_nil ?_
  refine W_cond_false rfl ?_
  refine W_skip ?_
  refine W_seq ?_
  refine W_region ?_
  refine S_move rfl ?_
  refine S_nilCheck rfl rfl ?_
  refine S_fieldAddr Try.runUnderlying68 rfl Try.sizeOf65 rfl rfl ?_
  refine S_load1 Try.isAgg65 rfl (Own.at ((hs0.at 0 rfl)).2 rfl) rfl ?_
  refine S_len Try.runUnderlying65 rfl rfl ?_
  refine S_assign rfl ?_
  refine WL_nil ?_
  refine W_ret ?_
  show (Value.int .i64 (x.lasts.length : Int)) = .int .i64 (x.lasts.length : Int) ∧ w0 = w0
  exact ⟨rfl, rfl⟩
theorem size_nil {w0 : World} :
    CallR Try.prog 16 [.pointer none] w0 (fun v w' => v = .int .i64 0 ∧ w' = w0) := by
  refine Call1 Try.func16 rfl rfl rfl rfl ?_
  refine W_seq ?_
  refine W_region ?_
  refine S_assign rfl ?_
  refine WL_nil ?_
  refine W_seq ?_
  refine W_seq ?_
  refine W_region ?_
  refine S_move rfl ?_
  refine S_eqlP0 Try.runUnderlying23 rfl rfl ?_
  refine WL_nil ?_
  refine W_cond_true rfl ?_
  refine W_seq ?_
  refine W_region ?_
  refine S_assign rfl ?_
  refine WL_nil ?_
  refine W_ret ?_
  show (Value.int .i64 0) = .int .i64 0 ∧ w0 = w0
  exact ⟨rfl, rfl⟩
theorem off_ok {w0 : World} {d : Nat} {x : Dk} {F : List Nat} (h : DkIs d w0 x F) (ok : x.Ok) :
    CallR Try.prog 15 [.pointer (some ⟨d, 0, none⟩)] w0 (fun v w' => v = .bool x.off ∧ w' = w0) := by
  obtain ⟨A, cap, bm, hs0⟩ := h.fix
  have ⟨hp, hm, hl, hfl, ⟨hi1, hi2⟩, hky⟩ := ok
  refine Call1 Try.func15 rfl rfl rfl rfl ?_
  refine W_seq ?_
  refine W_region ?_
  refine S_assign rfl ?_
  refine WL_nil ?_
  refine W_seq ?_
  refine W_region ?_
  refine S_move rfl ?_
  refine S_neqP Try.runUnderlying23 rfl rfl ?_
  refine S_move rfl ?_
  refine WL_on rfl rfl rfl ?_
  refine S_move rfl ?_
  refine WL_on rfl rfl rfl ?_
  refine S_nilCheck rfl rfl ?_
  refine WL_on rfl rfl rfl ?_
  refine S_fieldAddr Try.runUnderlying68 rfl Try.sizeOf4 rfl rfl ?_
  refine WL_on rfl rfl rfl ?_
  refine S_load1 Try.isAgg4 rfl (Own.at ((hs0.at 0 rfl)).2 rfl) rfl ?_
  refine S_pick_t rfl rfl ?_
  refine S_assign rfl ?_
  refine WL_nil ?_
  refine W_ret ?_
  show (Value.bool x.off) = .bool x.off ∧ w0 = w0
  exact ⟨rfl, rfl⟩
theorem off_nil {w0 : World} :
    CallR Try.prog 15 [.pointer none] w0 (fun v w' => v = .bool false ∧ w' = w0) := by
  refine Call1 Try.func15 rfl rfl rfl rfl ?_
  refine W_seq ?_
  refine W_region ?_
  refine S_assign rfl ?_
  refine WL_nil ?_
  refine W_seq ?_
  refine W_region ?_
  refine S_move rfl ?_
  refine S_neqP0 Try.runUnderlying23 rfl rfl ?_
  refine S_move rfl ?_
  refine WL_off rfl rfl rfl rfl ?_
  refine WL_off rfl rfl rfl rfl ?_
  refine WL_off rfl rfl rfl rfl ?_
  refine WL_off rfl rfl rfl rfl ?_
  refine S_pick_f rfl rfl ?_
  refine S_assign rfl ?_
  refine WL_nil ?_
  refine W_ret ?_
  show (Value.bool false) = .bool false ∧ w0 = w0
  exact ⟨rfl, rfl⟩
theorem wrong_ok {w0 : World} {d : Nat} {x : Dk} {F : List Nat} (h : DkIs d w0 x F) (ok : x.Ok) (at_ : Int) :
    CallR Try.prog 36 [.pointer (some ⟨d, 0, none⟩), .int .i64 at_] w0 (fun v w' => v = .int .i64 (x.wrong at_) ∧ w' = w0) := by
  obtain ⟨A, cap, bm, hs0⟩ := h.fix
  have ⟨hp, hm, hl, hfl, ⟨hi1, hi2⟩, hky⟩ := ok
  refine Call1 Try.func36 rfl rfl rfl rfl ?_
  refine W_seq ?_
  refine W_region ?_
  refine S_assign rfl ?_
  refine WL_nil ?_
  refine W_seq ?_
  refine W_block ?_
  refine W_seq ?_
  refine W_region ?_
  refine S_move rfl ?_
  refine S_callQ Try.call16 rfl (size_ok h ok) rfl ?_
  refine S_eql rfl rfl rfl ?_
  refine S_assign rfl ?_
  refine WL_nil ?_
  refine W_cond rfl (fun h1 => ?_) (fun h1 => ?_)
  ·
    have p2 := of_decide_eq_true h1
    exfalso; omega
  ·
    have p3 := of_decide_eq_false h1
    refine W_seq ?_
    refine W_region ?_
    refine S_move rfl ?_
    refine S_lss rfl rfl rfl ?_
    refine S_move rfl ?_
    refine WL_split (dj := 12) rfl (fun h4 => ?_) (fun h4 => ?_)
    ·
      have p5 := of_decide_eq_true h4
      refine WL_off rfl rfl rfl (bT h4) ?_
      refine WL_off rfl rfl rfl (bT h4) ?_
      refine WL_off rfl rfl rfl (bT h4) ?_
      refine WL_off rfl rfl rfl (bT h4) ?_
      refine WL_off rfl rfl rfl (bT h4) ?_
      refine WL_off rfl rfl rfl (bT h4) ?_
      refine WL_off rfl rfl rfl (bT h4) ?_
      refine S_pick_t (bT h4) rfl ?_
      refine S_assign rfl ?_
      refine WL_nil ?_
      refine W_cond_true rfl ?_
      refine W_seq ?_
      refine W_live (L := []) trivial ?_
      intro g6
      refine W_region ?_
      refine S_assign rfl ?_
      refine WL_nil ?_
      refine W_ret ?_
      show (Value.int .i64 3) = .int .i64 (x.wrong at_) ∧ w0 = w0
      exact ⟨by rw [Dk.wrong, if_pos (by omega)], rfl⟩
    ·
      have p7 := of_decide_eq_false h4
      refine WL_on rfl rfl (bF h4) ?_
      refine S_move rfl ?_
      refine WL_on rfl rfl (bF h4) ?_
      refine S_move rfl ?_
      refine WL_on rfl rfl (bF h4) ?_
      refine S_nilCheck rfl rfl ?_
      refine WL_on rfl rfl (bF h4) ?_
      refine S_fieldAddr Try.runUnderlying68 rfl Try.sizeOf65 rfl rfl ?_
      refine WL_on rfl rfl (bF h4) ?_
      refine S_load1 Try.isAgg65 rfl (Own.at ((hs0.at 0 rfl)).2 rfl) rfl ?_
      refine WL_on rfl rfl (bF h4) ?_
      refine S_len Try.runUnderlying65 rfl rfl ?_
      refine WL_on rfl rfl (bF h4) ?_
      refine S_geq rfl rfl rfl ?_
      refine S_pick_f (bF h4) rfl ?_
      refine S_assign rfl ?_
      refine WL_nil ?_
      refine W_cond rfl (fun h8 => ?_) (fun h8 => ?_)
      ·
        have p9 := of_decide_eq_true h8
        refine W_seq ?_
        refine W_live (L := []) trivial ?_
        intro g10
        refine W_region ?_
        refine S_assign rfl ?_
        refine WL_nil ?_
        refine W_ret ?_
        show (Value.int .i64 3) = .int .i64 (x.wrong at_) ∧ w0 = w0
        exact ⟨by rw [Dk.wrong, if_pos (by omega)], rfl⟩
      ·
        have p11 := of_decide_eq_false h8
        refine W_skip ?_
        refine W_seq ?_
        refine W_live (L := []) trivial ?_
        intro g12
        refine W_region ?_
        refine S_assign rfl ?_
        refine WL_nil ?_
        refine W_ret ?_
        show (Value.int .i64 0) = .int .i64 (x.wrong at_) ∧ w0 = w0
        exact ⟨by rw [Dk.wrong, if_neg (by omega)], rfl⟩
theorem wrong_nil {w0 : World} (at_ : Int) :
    CallR Try.prog 36 [.pointer none, .int .i64 at_] w0 (fun v w' => v = .int .i64 1 ∧ w' = w0) := by
  refine Call1 Try.func36 rfl rfl rfl rfl ?_
  refine W_seq ?_
  refine W_region ?_
  refine S_assign rfl ?_
  refine WL_nil ?_
  refine W_seq ?_
  refine W_block ?_
  refine W_seq ?_
  refine W_region ?_
  refine S_move rfl ?_
  refine S_callQ Try.call16 rfl (size_nil) rfl ?_
  refine S_eql rfl rfl rfl ?_
  refine S_assign rfl ?_
  refine WL_nil ?_
  refine W_cond rfl (fun h1 => ?_) (fun h1 => ?_)
  ·
    have p2 := of_decide_eq_true h1
    refine W_seq ?_
    refine W_region ?_
    refine S_assign rfl ?_
    refine WL_nil ?_
    refine W_ret ?_
    show (Value.int .i64 1) = .int .i64 1 ∧ w0 = w0
    exact ⟨rfl, rfl⟩
  ·
    have p3 := of_decide_eq_false h1
    exfalso; omega
theorem act_ok {w0 : World} {d : Nat} {x : Dk} {F : List Nat} (h : DkIs d w0 x F) (ok : x.Ok) (wr : Int) :
    CallR Try.prog 37 [.pointer (some ⟨d, 0, none⟩), .int .i64 wr] w0 (fun v w' => v = errv 64 (x.act wr).1 ∧ ∃ F', DkIs d w' (x.act wr).2 F' ∧ Turn w0 w' F F') := by
  obtain ⟨A, cap, bm, bs, eF, hs0⟩ := h.sep (Z := fun _ => False) (fun _ h => h.elim) (fun _ _ h => h)
  have ⟨hp, hm, hl, hfl, ⟨hi1, hi2⟩, hky⟩ := ok
  refine Call1 Try.func37 rfl rfl rfl rfl ?_
  refine W_seq ?_
  refine W_region ?_
  refine S_assign rfl ?_
  refine WL_nil ?_
  refine W_seq ?_
  refine W_seq ?_
  refine W_region ?_
  refine S_move rfl ?_
  refine WL_nil ?_
  refine W_block ?_
  refine W_seq ?_
  refine W_region ?_
  refine S_eql rfl rfl rfl ?_
  refine S_assign rfl ?_
  refine WL_nil ?_
  refine W_cond rfl (fun h1 => ?_) (fun h1 => ?_)
  ·
    have p2 := of_decide_eq_true h1
    refine W_seq ?_
    refine W_region ?_
    refine S_makeI Try.runUnderlying64 rfl rfl rfl ?_
    refine S_assign rfl ?_
    refine WL_nil ?_
    refine W_ret ?_
    show (Value.iface 64 (.int .i64 1)) = errv 64 (x.act wr).1 ∧ ∃ F', DkIs d w0 (x.act wr).2 F' ∧ Turn w0 w0 F F'
    have hc := DkIs.close hs0 (Ac.bs1 (hs0.at 2 rfl))
    simp only [Dk.act]
    first | (rw [if_pos (by omega)]; exact ⟨(by first | rfl | exact errv_ne (by decide) | exact errv_0), _, hc⟩) | (rw [if_neg (by omega), if_pos (by omega)]; exact ⟨(by first | rfl | exact errv_ne (by decide) | exact errv_0), _, hc⟩) | (rw [if_neg (by omega), if_neg (by omega), if_pos (by omega)]; exact ⟨(by first | rfl | exact errv_ne (by decide) | exact errv_0), _, hc⟩) | (rw [if_neg (by omega), if_neg (by omega), if_neg (by omega), if_pos (by omega)]; exact ⟨(by first | rfl | exact errv_ne (by decide) | exact errv_0), _, hc⟩) | (rw [if_neg (by omega), if_neg (by omega), if_neg (by omega), if_neg (by omega), if_pos (by assumption)]; exact ⟨(by first | rfl | exact errv_ne (by decide) | exact errv_0), _, hc⟩) | (rw [if_neg (by omega), if_neg (by omega), if_neg (by omega), if_neg (by omega), if_neg (by simp_all), if_pos (by omega)]; exact ⟨(by first | rfl | exact errv_ne (by decide) | exact errv_0), _, hc⟩) | (rw [if_neg (by omega), if_neg (by omega), if_neg (by omega), if_neg (by omega), if_neg (by simp_all), if_neg (by omega)]; exact ⟨(by first | rfl | exact errv_ne (by decide) | exact errv_0), _, hc⟩)
  ·
    have p3 := of_decide_eq_false h1
    refine W_seq ?_
    refine W_region ?_
    refine S_eql rfl rfl rfl ?_
    refine S_assign rfl ?_
    refine WL_nil ?_
    refine W_cond rfl (fun h4 => ?_) (fun h4 => ?_)
    ·
      have p5 := of_decide_eq_true h4
      refine W_seq ?_
      refine W_region ?_
      refine S_makeI Try.runUnderlying64 rfl rfl rfl ?_
      refine S_assign rfl ?_
      refine WL_nil ?_
      refine W_ret ?_
      show (Value.iface 64 (.int .i64 2)) = errv 64 (x.act wr).1 ∧ ∃ F', DkIs d w0 (x.act wr).2 F' ∧ Turn w0 w0 F F'
      have hc := DkIs.close hs0 (Ac.bs1 (hs0.at 2 rfl))
      simp only [Dk.act]
      first | (rw [if_pos (by omega)]; exact ⟨(by first | rfl | exact errv_ne (by decide) | exact errv_0), _, hc⟩) | (rw [if_neg (by omega), if_pos (by omega)]; exact ⟨(by first | rfl | exact errv_ne (by decide) | exact errv_0), _, hc⟩) | (rw [if_neg (by omega), if_neg (by omega), if_pos (by omega)]; exact ⟨(by first | rfl | exact errv_ne (by decide) | exact errv_0), _, hc⟩) | (rw [if_neg (by omega), if_neg (by omega), if_neg (by omega), if_pos (by omega)]; exact ⟨(by first | rfl | exact errv_ne (by decide) | exact errv_0), _, hc⟩) | (rw [if_neg (by omega), if_neg (by omega), if_neg (by omega), if_neg (by omega), if_pos (by assumption)]; exact ⟨(by first | rfl | exact errv_ne (by decide) | exact errv_0), _, hc⟩) | (rw [if_neg (by omega), if_neg (by omega), if_neg (by omega), if_neg (by omega), if_neg (by simp_all), if_pos (by omega)]; exact ⟨(by first | rfl | exact errv_ne (by decide) | exact errv_0), _, hc⟩) | (rw [if_neg (by omega), if_neg (by omega), if_neg (by omega), if_neg (by omega), if_neg (by simp_all), if_neg (by omega)]; exact ⟨(by first | rfl | exact errv_ne (by decide) | exact errv_0), _, hc⟩)
    ·
      have p6 := of_decide_eq_false h4
      refine W_seq ?_
      refine W_region ?_
      refine S_eql rfl rfl rfl ?_
      refine S_assign rfl ?_
      refine WL_nil ?_
      refine W_cond rfl (fun h7 => ?_) (fun h7 => ?_)
      ·
        have p8 := of_decide_eq_true h7
        refine W_seq ?_
        refine W_region ?_
        refine S_makeI Try.runUnderlying64 rfl rfl rfl ?_
        refine S_assign rfl ?_
        refine WL_nil ?_
        refine W_ret ?_
        show (Value.iface 64 (.int .i64 3)) = errv 64 (x.act wr).1 ∧ ∃ F', DkIs d w0 (x.act wr).2 F' ∧ Turn w0 w0 F F'
        have hc := DkIs.close hs0 (Ac.bs1 (hs0.at 2 rfl))
        simp only [Dk.act]
        first | (rw [if_pos (by omega)]; exact ⟨(by first | rfl | exact errv_ne (by decide) | exact errv_0), _, hc⟩) | (rw [if_neg (by omega), if_pos (by omega)]; exact ⟨(by first | rfl | exact errv_ne (by decide) | exact errv_0), _, hc⟩) | (rw [if_neg (by omega), if_neg (by omega), if_pos (by omega)]; exact ⟨(by first | rfl | exact errv_ne (by decide) | exact errv_0), _, hc⟩) | (rw [if_neg (by omega), if_neg (by omega), if_neg (by omega), if_pos (by omega)]; exact ⟨(by first | rfl | exact errv_ne (by decide) | exact errv_0), _, hc⟩) | (rw [if_neg (by omega), if_neg (by omega), if_neg (by omega), if_neg (by omega), if_pos (by assumption)]; exact ⟨(by first | rfl | exact errv_ne (by decide) | exact errv_0), _, hc⟩) | (rw [if_neg (by omega), if_neg (by omega), if_neg (by omega), if_neg (by omega), if_neg (by simp_all), if_pos (by omega)]; exact ⟨(by first | rfl | exact errv_ne (by decide) | exact errv_0), _, hc⟩) | (rw [if_neg (by omega), if_neg (by omega), if_neg (by omega), if_neg (by omega), if_neg (by simp_all), if_neg (by omega)]; exact ⟨(by first | rfl | exact errv_ne (by decide) | exact errv_0), _, hc⟩)
      ·
        have p9 := of_decide_eq_false h7
        refine W_skip ?_
        refine W_seq ?_
        refine W_block ?_
        refine W_seq ?_
        refine W_block ?_
        refine W_seq ?_
        refine W_block ?_
        refine W_seq ?_
        refine W_block ?_
        refine W_seq ?_
        refine W_seq ?_
        refine W_seq ?_
        refine W_region ?_
        refine S_move rfl ?_
        refine S_nilCheck rfl rfl ?_
        refine S_fieldAddr Try.runUnderlying68 rfl Try.sizeOf3 rfl rfl ?_
        refine S_load1 Try.isAgg3 rfl (Own.at (hs0.at 0 rfl) rfl) rfl ?_
        refine S_eql rfl rfl rfl ?_
        refine S_assign rfl ?_
        refine WL_nil ?_
        refine W_cond rfl (fun h10 => ?_) (fun h10 => ?_)
        ·
          have p11 := of_decide_eq_true h10
          refine W_exit ?_
          refine W_live (L := [(0, .pointer (some ⟨d, 0, none⟩))]) ⟨rfl, trivial⟩ ?_
          intro g12
          refine W_region ?_
          refine S_move rfl ?_
          refine S_nilCheck rfl rfl ?_
          refine S_fieldAddr Try.runUnderlying68 rfl Try.sizeOf4 rfl rfl ?_
          refine Z_store hs0 0 rfl Try.sizeOf4 rfl rfl rfl (Nat.le_of_ble_eq_true rfl) rfl ?_
          intro w13 hs14
          have hs14 : Sep F w0 (fun _ => False) w13 [iOwn d 68 [.slice A x.lasts.length cap, .map (some bm), .int .i64 x.left, .bool true] [d], iMap kInt bm (emap (fun s => av s) x.fresh) [bm], iAc (dArr 256) (.slice A x.lasts.length cap) x.lasts bs bs] := hs14
          refine WL_nil ?_
          refine W_seq ?_
          refine W_seq ?_
          refine W_region ?_
          refine S_makeI Try.runUnderlying64 rfl rfl rfl ?_
          refine S_assign rfl ?_
          refine WL_nil ?_
          refine W_ret ?_
          show (Value.iface 64 (.int .i64 9)) = errv 64 (x.act wr).1 ∧ ∃ F', DkIs d w13 (x.act wr).2 F' ∧ Turn w0 w13 F F'
          have hc := DkIs.close hs14 (Ac.bs1 (hs14.at 2 rfl))
          simp only [Dk.act]
          first | (rw [if_pos (by omega)]; exact ⟨(by first | rfl | exact errv_ne (by decide) | exact errv_0), _, hc⟩) | (rw [if_neg (by omega), if_pos (by omega)]; exact ⟨(by first | rfl | exact errv_ne (by decide) | exact errv_0), _, hc⟩) | (rw [if_neg (by omega), if_neg (by omega), if_pos (by omega)]; exact ⟨(by first | rfl | exact errv_ne (by decide) | exact errv_0), _, hc⟩) | (rw [if_neg (by omega), if_neg (by omega), if_neg (by omega), if_pos (by omega)]; exact ⟨(by first | rfl | exact errv_ne (by decide) | exact errv_0), _, hc⟩) | (rw [if_neg (by omega), if_neg (by omega), if_neg (by omega), if_neg (by omega), if_pos (by assumption)]; exact ⟨(by first | rfl | exact errv_ne (by decide) | exact errv_0), _, hc⟩) | (rw [if_neg (by omega), if_neg (by omega), if_neg (by omega), if_neg (by omega), if_neg (by simp_all), if_pos (by omega)]; exact ⟨(by first | rfl | exact errv_ne (by decide) | exact errv_0), _, hc⟩) | (rw [if_neg (by omega), if_neg (by omega), if_neg (by omega), if_neg (by omega), if_neg (by simp_all), if_neg (by omega)]; exact ⟨(by first | rfl | exact errv_ne (by decide) | exact errv_0), _, hc⟩)
        ·
          have p15 := of_decide_eq_false h10
          refine W_skip ?_
          refine W_seq ?_
          refine W_seq ?_
          refine W_live (L := [(0, .pointer (some ⟨d, 0, none⟩))]) ⟨rfl, trivial⟩ ?_
          intro g16
          refine W_region ?_
          refine S_move rfl ?_
          refine S_nilCheck rfl rfl ?_
          refine S_fieldAddr Try.runUnderlying68 rfl Try.sizeOf4 rfl rfl ?_
          refine S_load1 Try.isAgg4 rfl (Own.at (hs0.at 0 rfl) rfl) rfl ?_
          refine S_assign rfl ?_
          refine WL_nil ?_
          refine W_cond rfl (fun h17 => ?_) (fun h17 => ?_)
          ·
            have p18 := h17
            try simp only [lrn] at p18
            refine W_exit ?_
            refine W_seq ?_
            refine W_seq ?_
            refine W_region ?_
            refine S_makeI Try.runUnderlying64 rfl rfl rfl ?_
            refine S_assign rfl ?_
            refine WL_nil ?_
            refine W_ret ?_
            show (Value.iface 64 (.int .i64 9)) = errv 64 (x.act wr).1 ∧ ∃ F', DkIs d w0 (x.act wr).2 F' ∧ Turn w0 w0 F F'
            have hc := DkIs.close hs0 (Ac.bs1 (hs0.at 2 rfl))
            simp only [Dk.act]
            first | (rw [if_pos (by omega)]; exact ⟨(by first | rfl | exact errv_ne (by decide) | exact errv_0), _, hc⟩) | (rw [if_neg (by omega), if_pos (by omega)]; exact ⟨(by first | rfl | exact errv_ne (by decide) | exact errv_0), _, hc⟩) | (rw [if_neg (by omega), if_neg (by omega), if_pos (by omega)]; exact ⟨(by first | rfl | exact errv_ne (by decide) | exact errv_0), _, hc⟩) | (rw [if_neg (by omega), if_neg (by omega), if_neg (by omega), if_pos (by omega)]; exact ⟨(by first | rfl | exact errv_ne (by decide) | exact errv_0), _, hc⟩) | (rw [if_neg (by omega), if_neg (by omega), if_neg (by omega), if_neg (by omega), if_pos (by assumption)]; exact ⟨(by first | rfl | exact errv_ne (by decide) | exact errv_0), _, hc⟩) | (rw [if_neg (by omega), if_neg (by omega), if_neg (by omega), if_neg (by omega), if_neg (by simp_all), if_pos (by omega)]; exact ⟨(by first | rfl | exact errv_ne (by decide) | exact errv_0), _, hc⟩) | (rw [if_neg (by omega), if_neg (by omega), if_neg (by omega), if_neg (by omega), if_neg (by simp_all), if_neg (by omega)]; exact ⟨(by first | rfl | exact errv_ne (by decide) | exact errv_0), _, hc⟩)
          ·
            have p19 := h17
            try simp only [lrn] at p19
            refine W_skip ?_
            refine W_seq ?_
            refine W_region ?_
            refine S_move rfl ?_
            refine S_nilCheck rfl rfl ?_
            refine S_fieldAddr Try.runUnderlying68 rfl Try.sizeOf3 rfl rfl ?_
            refine S_load1 Try.isAgg3 rfl (Own.at (hs0.at 0 rfl) rfl) rfl ?_
            refine S_gtr rfl rfl rfl ?_
            refine S_assign rfl ?_
            refine WL_nil ?_
            refine W_cond rfl (fun h20 => ?_) (fun h20 => ?_)
            ·
              have p21 := of_decide_eq_true h20
              refine W_exit ?_
              refine W_seq ?_
              refine W_live (L := [(0, .pointer (some ⟨d, 0, none⟩))]) ⟨rfl, trivial⟩ ?_
              intro g22
              refine W_region ?_
              refine S_move rfl ?_
              refine S_nilCheck rfl rfl ?_
              refine S_fieldAddr Try.runUnderlying68 rfl Try.sizeOf3 rfl rfl ?_
              refine S_load1 Try.isAgg3 rfl (Own.at (hs0.at 0 rfl) rfl) rfl ?_
              refine S_sub rfl rfl (by omega) rfl ?_
              refine S_nilCheck rfl rfl ?_
              refine S_fieldAddr Try.runUnderlying68 rfl Try.sizeOf3 rfl rfl ?_
              refine Z_store hs0 0 rfl Try.sizeOf3 rfl rfl rfl (Nat.le_of_ble_eq_true rfl) rfl ?_
              intro w23 hs24
              have hs24 : Sep F w0 (fun _ => False) w23 [iOwn d 68 [.slice A x.lasts.length cap, .map (some bm), .int .i64 (x.left - 1), .bool x.off] [d], iMap kInt bm (emap (fun s => av s) x.fresh) [bm], iAc (dArr 256) (.slice A x.lasts.length cap) x.lasts bs bs] := hs24
              refine WL_nil ?_
              refine W_exit ?_
              refine W_seq ?_
              refine W_region ?_
              refine S_assign rfl ?_
              refine WL_nil ?_
              refine W_ret ?_
              show (Value.nilIface) = errv 64 (x.act wr).1 ∧ ∃ F', DkIs d w23 (x.act wr).2 F' ∧ Turn w0 w23 F F'
              have hc := DkIs.close hs24 (Ac.bs1 (hs24.at 2 rfl))
              simp only [Dk.act]
              first | (rw [if_pos (by omega)]; exact ⟨(by first | rfl | exact errv_ne (by decide) | exact errv_0), _, hc⟩) | (rw [if_neg (by omega), if_pos (by omega)]; exact ⟨(by first | rfl | exact errv_ne (by decide) | exact errv_0), _, hc⟩) | (rw [if_neg (by omega), if_neg (by omega), if_pos (by omega)]; exact ⟨(by first | rfl | exact errv_ne (by decide) | exact errv_0), _, hc⟩) | (rw [if_neg (by omega), if_neg (by omega), if_neg (by omega), if_pos (by omega)]; exact ⟨(by first | rfl | exact errv_ne (by decide) | exact errv_0), _, hc⟩) | (rw [if_neg (by omega), if_neg (by omega), if_neg (by omega), if_neg (by omega), if_pos (by assumption)]; exact ⟨(by first | rfl | exact errv_ne (by decide) | exact errv_0), _, hc⟩) | (rw [if_neg (by omega), if_neg (by omega), if_neg (by omega), if_neg (by omega), if_neg (by simp_all), if_pos (by omega)]; exact ⟨(by first | rfl | exact errv_ne (by decide) | exact errv_0), _, hc⟩) | (rw [if_neg (by omega), if_neg (by omega), if_neg (by omega), if_neg (by omega), if_neg (by simp_all), if_neg (by omega)]; exact ⟨(by first | rfl | exact errv_ne (by decide) | exact errv_0), _, hc⟩)
            ·
              have p25 := of_decide_eq_false h20
              refine W_skip ?_
              refine W_exit ?_
              refine W_seq ?_
              refine W_live (L := []) trivial ?_
              intro g26
              refine W_region ?_
              refine S_assign rfl ?_
              refine WL_nil ?_
              refine W_ret ?_
              show (Value.nilIface) = errv 64 (x.act wr).1 ∧ ∃ F', DkIs d w0 (x.act wr).2 F' ∧ Turn w0 w0 F F'
              have hc := DkIs.close hs0 (Ac.bs1 (hs0.at 2 rfl))
              simp only [Dk.act]
              first | (rw [if_pos (by omega)]; exact ⟨(by first | rfl | exact errv_ne (by decide) | exact errv_0), _, hc⟩) | (rw [if_neg (by omega), if_pos (by omega)]; exact ⟨(by first | rfl | exact errv_ne (by decide) | exact errv_0), _, hc⟩) | (rw [if_neg (by omega), if_neg (by omega), if_pos (by omega)]; exact ⟨(by first | rfl | exact errv_ne (by decide) | exact errv_0), _, hc⟩) | (rw [if_neg (by omega), if_neg (by omega), if_neg (by omega), if_pos (by omega)]; exact ⟨(by first | rfl | exact errv_ne (by decide) | exact errv_0), _, hc⟩) | (rw [if_neg (by omega), if_neg (by omega), if_neg (by omega), if_neg (by omega), if_pos (by assumption)]; exact ⟨(by first | rfl | exact errv_ne (by decide) | exact errv_0), _, hc⟩) | (rw [if_neg (by omega), if_neg (by omega), if_neg (by omega), if_neg (by omega), if_neg (by simp_all), if_pos (by omega)]; exact ⟨(by first | rfl | exact errv_ne (by decide) | exact errv_0), _, hc⟩) | (rw [if_neg (by omega), if_neg (by omega), if_neg (by omega), if_neg (by omega), if_neg (by simp_all), if_neg (by omega)]; exact ⟨(by first | rfl | exact errv_ne (by decide) | exact errv_0), _, hc⟩)
theorem act_nil {w0 : World} :
    CallR Try.prog 37 [.pointer none, .int .i64 1] w0 (fun v w' => v = .iface 64 (.int .i64 1) ∧ w' = w0) := by
  refine Call1 Try.func37 rfl rfl rfl rfl ?_
  refine W_seq ?_
  refine W_region ?_
  refine S_assign rfl ?_
  refine WL_nil ?_
  refine W_seq ?_
  refine W_seq ?_
  refine W_region ?_
  refine S_move rfl ?_
  refine WL_nil ?_
  refine W_block ?_
  refine W_seq ?_
  refine W_region ?_
  refine S_eql rfl rfl rfl ?_
  refine S_assign rfl ?_
  refine WL_nil ?_
  refine W_cond rfl (fun h1 => ?_) (fun h1 => ?_)
  ·
    have p2 := of_decide_eq_true h1
    refine W_seq ?_
    refine W_region ?_
    refine S_makeI Try.runUnderlying64 rfl rfl rfl ?_
    refine S_assign rfl ?_
    refine WL_nil ?_
    refine W_ret ?_
    show (Value.iface 64 (.int .i64 1)) = .iface 64 (.int .i64 1) ∧ w0 = w0
    exact ⟨rfl, rfl⟩
  ·
    have p3 := of_decide_eq_false h1
    exfalso; omega
end Go.Proofs.Ytdgcgifigkfeaaa
