/- The walks of a history's functions, printed by program. -/
import Derived.Test.YtpgegnmaophapaaT
namespace Go.Proofs.Ytpgegnmaophapaa
open Go.Wk Classical
theorem there_ok {M : List Nat} {w0 : World} {A : Option Addr} {cap : Nat} {l : List Commit} (h : (rSlice rCommit).rd M w0 [.slice A l.length cap] l) (id : Int) :
    CallR Try.prog 31 [.slice A l.length cap, .int .i64 id] w0 (fun v w' => v = .bool (decide (There l id)) ∧ w' = w0) := by
  refine Call1 Try.func31 rfl rfl rfl rfl ?_
  refine W_seq ?_
  refine W_region ?_
  refine S_assign rfl ?_
  refine WL_nil ?_
  refine W_seq ?_
  refine W_region ?_
  refine S_move rfl ?_
  refine S_geq rfl rfl rfl ?_
  refine S_move rfl ?_
  refine WL_split (dj := 7) rfl (fun h_2 => ?_) (fun h_2 => ?_)
  ·
    have p_3 := h_2
    try simp only [lrn] at p_3
    refine WL_on rfl rfl (bT h_2) ?_
    refine S_move rfl ?_
    refine WL_on rfl rfl (bT h_2) ?_
    refine S_move rfl ?_
    refine WL_on rfl rfl (bT h_2) ?_
    refine S_len Try.runUnderlying22 rfl rfl ?_
    refine WL_on rfl rfl (bT h_2) ?_
    refine S_leq rfl rfl rfl ?_
    refine S_pick_t (bT h_2) rfl ?_
    refine S_assign rfl ?_
    refine WL_nil ?_
    refine W_ret ?_
    exact ⟨by show Value.bool _ = _; congr 1; unfold There; symm; simp; omega, rfl⟩
  ·
    have p_5 := h_2
    try simp only [lrn] at p_5
    refine WL_off rfl rfl rfl (bF h_2) ?_
    refine WL_off rfl rfl rfl (bF h_2) ?_
    refine WL_off rfl rfl rfl (bF h_2) ?_
    refine WL_off rfl rfl rfl (bF h_2) ?_
    refine S_pick_f (bF h_2) rfl ?_
    refine S_assign rfl ?_
    refine WL_nil ?_
    refine W_ret ?_
    exact ⟨by show Value.bool _ = _; congr 1; unfold There; symm; simp; omega, rfl⟩
theorem there_ref_ok {M : List Nat} {w0 : World} {A : Option Addr} {cap : Nat} {l : List Commit} (h : (rSlice rCommit).rd M w0 [.slice A l.length cap] l) (id : Int) :
    CallR Try.prog 27 [.slice A l.length cap, .int .i64 id] w0 (fun v w' => v = .bool (decide (There l id)) ∧ w' = w0) := by
  refine Call1 Try.func27 rfl rfl rfl rfl ?_
  refine W_seq ?_
  refine W_region ?_
  refine S_assign rfl ?_
  refine WL_nil ?_
  refine W_seq ?_
  refine W_region ?_
  refine S_move rfl ?_
  refine S_geq rfl rfl rfl ?_
  refine S_move rfl ?_
  refine WL_split (dj := 7) rfl (fun h_2 => ?_) (fun h_2 => ?_)
  ·
    have p_3 := h_2
    try simp only [lrn] at p_3
    refine WL_on rfl rfl (bT h_2) ?_
    refine S_move rfl ?_
    refine WL_on rfl rfl (bT h_2) ?_
    refine S_move rfl ?_
    refine WL_on rfl rfl (bT h_2) ?_
    refine S_len Try.runUnderlying22 rfl rfl ?_
    refine WL_on rfl rfl (bT h_2) ?_
    refine S_leq rfl rfl rfl ?_
    refine S_pick_t (bT h_2) rfl ?_
    refine S_assign rfl ?_
    refine WL_nil ?_
    refine W_ret ?_
    exact ⟨by show Value.bool _ = _; congr 1; unfold There; symm; simp; omega, rfl⟩
  ·
    have p_5 := h_2
    try simp only [lrn] at p_5
    refine WL_off rfl rfl rfl (bF h_2) ?_
    refine WL_off rfl rfl rfl (bF h_2) ?_
    refine WL_off rfl rfl rfl (bF h_2) ?_
    refine WL_off rfl rfl rfl (bF h_2) ?_
    refine S_pick_f (bF h_2) rfl ?_
    refine S_assign rfl ?_
    refine WL_nil ?_
    refine W_ret ?_
    exact ⟨by show Value.bool _ = _; congr 1; unfold There; symm; simp; omega, rfl⟩
theorem right_ok {M : List Nat} {w0 : World} {A : Option Addr} {cap : Nat} {l : List Commit} (h : (rSlice rCommit).rd M w0 [.slice A l.length cap] l) :
    CallR Try.prog 20 [.slice A l.length cap] w0 (fun v w' => v = .bool (decide (Right l)) ∧ Ext [] w0 w') := by
  have ll := rSlice_len h
  refine Call1 Try.func20 rfl rfl rfl rfl ?_
  refine W_seq ?_
  refine W_region ?_
  refine S_assign rfl ?_
  refine WL_nil ?_
  refine W_seq ?_
  refine W_seq ?_
  refine W_region ?_
  refine S_move rfl ?_
  refine S_len Try.runUnderlying22 rfl rfl ?_
  refine S_move rfl ?_
  refine WL_nil ?_
  refine W_block ?_
  refine W_loopF [2, 3, 4, 5, 6, 9, 10, 11, 12, 13, 14, 15, 16, 17, 18, 19, 20, 21, 22, 23, 24, 25, 26, 27, 28, 29, 30, 31, 32, 33, 34, 35, 36, 37, 38, 39, 40, 41, 42, 43, 44, 45, 46, 47, 48, 49, 50] (fun m f w => ∃ i : Int, m = (l.length - i).toNat ∧ 0 ≤ i ∧ i ≤ l.length ∧ RightTo l i ∧ Ext [] w0 w ∧ Ext ([]) w0 w ∧ Live f [(9, .int .i64 i)]) ?_ ?_
  · exact ⟨_, 0, rfl, by omega, by omega, rightTo_zero, (Ext.refl [] w0), (Ext.refl _ _), rfl, trivial⟩
  ·
    rintro m g_5 w_1 ⟨i, rfl, q0, q1, q2, E_2, e_3, hl_4⟩
    refine W_liveM hl_4 rfl ?_
    refine W_seq ?_
    refine W_region ?_
    refine S_lss rfl rfl rfl ?_
    refine WL_nil ?_
    refine W_seq ?_
    refine W_cond rfl (fun h_7 => ?_) (fun h_7 => ?_)
    ·
      have p_8 := h_7
      try simp only [lrn] at p_8
      refine W_skip ?_
      refine W_seq ?_
      refine W_block ?_
      refine W_seq ?_
      refine W_region ?_
      refine S_move rfl ?_
      have h_9 := Rep.ext _ h E_2
      refine S_index Try.runUnderlying22 Try.sizeOf37 h_9 rfl (by omega) (by omega) rfl ?_
      intro b_10 o_11 cs_12 hi_13 hc_14 hb_15 hr_16
      have o_22 := rCommit_open hr_16
      obtain ⟨A_19, cap_20, rfl, ⟨r_17, r_18⟩, h_21⟩ := o_22
      have hl_23 := rSlice_len h_21
      refine S_loadAgg Try.isAgg37 Try.sizeOf37 rfl rfl hc_14 rfl ?_
      refine S_alloc Try.zeroValue37 rfl ?_
      intro b_24 w_25 e_26 z_27 z_28 ho_29
      have hb_30 : w0.heap.size ≤ b_24 := by have := (E_2).size; omega
      have n_31 : (w0).heap.size ≤ b_24 := by have := (e_3).size; omega
      have E_32 := Ext.stepO E_2 e_26 mem0
      have c_33 := Ext.stepO e_3 e_26 mem0
      have h_34 := Rep.mono (M' := b_24 :: M) _ hr_16 e_26 mem0 (cons_fresh z_27)
      have hb_36 : b_10 ∉ b_24 :: M := ninC (by have := Cells.lt hc_14; omega) hb_15
      have h_35 := Cells.ext hc_14 e_26 nin0
      have h_37 := Rep.mono (M' := b_24 :: M) _ h_21 e_26 mem0 (cons_fresh z_27)
      have ho_29 : Own _ _ _ [_, _] := ho_29
      refine S_assign rfl ?_
      refine S_store Try.sizeOf37 rfl rfl rfl ho_29 (Nat.le_of_ble_eq_true rfl) rfl ?_
      intro w_38 e_39 z_40 ho_41
      have ho_41 : Own _ _ _ [_, _] := ho_41
      have E_42 := Ext.stepO E_32 e_39 (memC (.inr hb_30) mem0)
      have c_43 := Ext.stepO c_33 e_39 (memC (.inr n_31) mem0)
      have h_44 := Rep.extB _ h_34 e_39 (by intro x hx; first | (simp [hx]; done) | (simp at hx; first | (subst hx; assumption) | (rcases hx with rfl | rfl <;> simp; done) | simp [hx]))
      have h_45 := Cells.ext h_35 e_39 (fun h => hb_36 (by simp at h; first | (subst h; assumption) | (rcases h with rfl | rfl <;> simp; done) | simp [h]))
      have h_46 := Rep.extB _ h_37 e_39 (by intro x hx; first | (simp [hx]; done) | (simp at hx; first | (subst hx; assumption) | (rcases hx with rfl | rfl <;> simp; done) | simp [hx]))
      refine WL_nil ?_
      refine W_seq ?_
      refine W_seq ?_
      refine W_region ?_
      refine S_fieldAddr Try.runUnderlying37 rfl Try.sizeOf3 rfl rfl ?_
      refine S_load1 Try.isAgg3 rfl (ho_41.at rfl) rfl ?_
      refine S_move rfl ?_
      refine S_add rfl rfl (by omega) rfl ?_
      refine S_neq rfl rfl rfl ?_
      refine WL_nil ?_
      refine W_cond rfl (fun h_48 => ?_) (fun h_48 => ?_)
      ·
        have p_49 := h_48
        try simp only [lrn] at p_49
        refine W_seq ?_
        refine W_region ?_
        refine S_assign rfl ?_
        refine WL_nil ?_
        refine W_ret ?_
        exact ⟨by show Value.bool _ = _; congr 1; symm; rw [decide_eq_false_iff_not]; exact not_right_id q0 _ (by omega), E_42⟩
      ·
        have p_50 := h_48
        try simp only [lrn] at p_50
        refine W_skip ?_
        refine W_seq ?_
        refine W_region ?_
        refine S_fieldAddr Try.runUnderlying37 rfl Try.sizeOf26 rfl rfl ?_
        refine S_load1 Try.isAgg26 rfl (ho_41.at rfl) rfl ?_
        refine S_len Try.runUnderlying26 rfl rfl ?_
        refine S_move rfl ?_
        refine WL_nil ?_
        refine W_block ?_
        refine W_loopF [2, 5, 6, 22, 23, 24, 25, 26, 27, 28, 29, 30, 31, 32, 33, 34, 35, 36, 37, 38, 39, 40, 41, 42, 43, 44, 45, 46, 47, 48, 49] (fun m f w => ∃ j : Int, m = (l[i.toNat].Parents.length - j).toNat ∧ 0 ≤ j ∧ RisesTo i l[i.toNat].Parents j ∧ w_38 = w ∧ Live f [(22, .int .i64 j)]) ?_ ?_
        · exact ⟨_, 0, rfl, by omega, risesTo_zero, rfl, rfl, trivial⟩
        ·
          rintro m g_53 _ ⟨j, rfl, s0, s1, rfl, hl_52⟩
          refine W_liveM hl_52 rfl ?_
          refine W_seq ?_
          refine W_region ?_
          refine S_lss rfl rfl rfl ?_
          refine WL_nil ?_
          refine W_seq ?_
          refine W_cond rfl (fun h_56 => ?_) (fun h_56 => ?_)
          ·
            have p_57 := h_56
            try simp only [lrn] at p_57
            refine W_skip ?_
            refine W_seq ?_
            refine W_block ?_
            refine W_seq ?_
            refine W_region ?_
            refine S_move rfl ?_
            refine S_index Try.runUnderlying26 Try.sizeOf3 h_46 rfl (by omega) (by omega) rfl ?_
            intro b_58 o_59 cs_60 hi_61 hc_62 hb_63 hr_64
            refine S_loadI Try.isAgg3 rfl hc_62 hr_64 rfl ?_
            rintro ⟨r_65, r_66⟩
            refine S_assign rfl ?_
            refine S_assign rfl ?_
            refine WL_nil ?_
            refine W_seq ?_
            refine W_region ?_
            refine S_move rfl ?_
            refine S_lss rfl rfl rfl ?_
            refine S_move rfl ?_
            refine WL_split (dj := 29) rfl (fun h_68 => ?_) (fun h_68 => ?_)
            ·
              have p_69 := h_68
              try simp only [lrn] at p_69
              refine WL_off rfl rfl rfl (bT h_68) ?_
              refine WL_off rfl rfl rfl (bT h_68) ?_
              refine WL_off rfl rfl rfl (bT h_68) ?_
              refine WL_off rfl rfl rfl (bT h_68) ?_
              refine S_pick_t (bT h_68) rfl ?_
              refine S_move rfl ?_
              refine WL_off rfl rfl rfl rfl ?_
              refine WL_off rfl rfl rfl rfl ?_
              refine WL_off rfl rfl rfl rfl ?_
              refine WL_off0 rfl rfl rfl rfl ?_
              refine WL_off0 rfl rfl rfl rfl ?_
              refine WL_off0 rfl rfl rfl rfl ?_
              refine WL_off0 rfl rfl rfl rfl ?_
              refine WL_off0 rfl rfl rfl rfl ?_
              refine WL_off0 rfl rfl rfl rfl ?_
              refine WL_off0 rfl rfl rfl rfl ?_
              refine WL_off0 rfl rfl rfl rfl ?_
              refine WL_off rfl rfl rfl rfl ?_
              refine S_pick_t rfl rfl ?_
              refine WL_nil ?_
              refine W_cond_true rfl ?_
              refine W_seq ?_
              refine W_region ?_
              refine S_assign rfl ?_
              refine WL_nil ?_
              refine W_ret ?_
              refine ⟨by show Value.bool _ = _; congr 1; symm; rw [decide_eq_false_iff_not]; first | exact not_right_par q0 _ s0 (by omega) (by omega) | exact not_right_rise q0 _ (by omega) (by omega) (by omega) (by omega), E_42⟩
            ·
              have p_70 := h_68
              try simp only [lrn] at p_70
              refine WL_on rfl rfl (bF h_68) ?_
              refine S_move rfl ?_
              refine WL_on rfl rfl (bF h_68) ?_
              refine S_fieldAddr Try.runUnderlying37 rfl Try.sizeOf3 rfl rfl ?_
              refine WL_on rfl rfl (bF h_68) ?_
              refine S_load1 Try.isAgg3 rfl (ho_41.at rfl) rfl ?_
              refine WL_on rfl rfl (bF h_68) ?_
              refine S_geq rfl rfl rfl ?_
              refine S_pick_f (bF h_68) rfl ?_
              refine S_move rfl ?_
              refine WL_split (dj := 35) rfl (fun h_72 => ?_) (fun h_72 => ?_)
              ·
                have p_73 := h_72
                try simp only [lrn] at p_73
                refine WL_off rfl rfl rfl (bT h_72) ?_
                refine WL_off rfl rfl rfl (bT h_72) ?_
                refine WL_off rfl rfl rfl (bT h_72) ?_
                refine WL_off0 rfl rfl rfl rfl ?_
                refine WL_off0 rfl rfl rfl rfl ?_
                refine WL_off0 rfl rfl rfl rfl ?_
                refine WL_off0 rfl rfl rfl rfl ?_
                refine WL_off0 rfl rfl rfl rfl ?_
                refine WL_off0 rfl rfl rfl rfl ?_
                refine WL_off0 rfl rfl rfl rfl ?_
                refine WL_off0 rfl rfl rfl rfl ?_
                refine WL_off rfl rfl rfl (bT h_72) ?_
                refine S_pick_t (bT h_72) rfl ?_
                refine WL_nil ?_
                refine W_cond_true rfl ?_
                refine W_seq ?_
                refine W_region ?_
                refine S_assign rfl ?_
                refine WL_nil ?_
                refine W_ret ?_
                refine ⟨by show Value.bool _ = _; congr 1; symm; rw [decide_eq_false_iff_not]; first | exact not_right_par q0 _ s0 (by omega) (by omega) | exact not_right_rise q0 _ (by omega) (by omega) (by omega) (by omega), E_42⟩
              ·
                have p_74 := h_72
                try simp only [lrn] at p_74
                refine WL_on rfl rfl (bF h_72) ?_
                refine S_move rfl ?_
                refine WL_on rfl rfl (bF h_72) ?_
                refine S_gtr rfl rfl rfl ?_
                refine WL_on rfl rfl (bF h_72) ?_
                refine S_move rfl ?_
                refine WL_split (dj := 38) rfl (fun h_76 => ?_) (fun h_76 => ?_)
                ·
                  have p_77 := h_76
                  try simp only [lrn] at p_77
                  refine WL_on rfl rfl (bT h_76) ?_
                  refine S_fieldAddr Try.runUnderlying37 rfl Try.sizeOf26 rfl rfl ?_
                  refine WL_on rfl rfl (bT h_76) ?_
                  refine S_load1 Try.isAgg26 rfl (ho_41.at rfl) rfl ?_
                  refine WL_on rfl rfl (bT h_76) ?_
                  refine S_move rfl ?_
                  refine WL_on rfl rfl (bT h_76) ?_
                  refine S_sub rfl rfl (by omega) rfl ?_
                  refine WL_on rfl rfl (bT h_76) ?_
                  refine S_index Try.runUnderlying26 Try.sizeOf3 h_46 rfl (by omega) (by omega) rfl ?_
                  intro b_78 o_79 cs_80 hi_81 hc_82 hb_83 hr_84
                  refine WL_on rfl rfl (bT h_76) ?_
                  refine S_loadI Try.isAgg3 rfl hc_82 hr_84 rfl ?_
                  rintro ⟨r_85, r_86⟩
                  refine WL_on rfl rfl (bT h_76) ?_
                  refine S_move rfl ?_
                  refine WL_on rfl rfl (bT h_76) ?_
                  refine S_geq rfl rfl rfl ?_
                  refine WL_on rfl rfl (bF h_72) ?_
                  refine S_pick_t (bT h_76) rfl ?_
                  refine S_pick_f (bF h_72) rfl ?_
                  refine WL_nil ?_
                  refine W_cond rfl (fun h_88 => ?_) (fun h_88 => ?_)
                  ·
                    have p_89 := h_88
                    try simp only [lrn] at p_89
                    refine W_seq ?_
                    refine W_region ?_
                    refine S_assign rfl ?_
                    refine WL_nil ?_
                    refine W_ret ?_
                    refine ⟨by show Value.bool _ = _; congr 1; symm; rw [decide_eq_false_iff_not]; first | exact not_right_par q0 _ s0 (by omega) (by omega) | exact not_right_rise q0 _ (by omega) (by omega) (by omega) (by omega), E_42⟩
                  ·
                    have p_90 := h_88
                    try simp only [lrn] at p_90
                    refine W_skip ?_
                    refine W_region ?_
                    refine S_add rfl rfl (by omega) rfl ?_
                    refine S_move rfl ?_
                    refine WL_nil ?_
                    refine ⟨by repeat (first | refine agree_upd rfl ?_ | exact agree_mix rfl agree_refl | refine agree_mix rfl ?_), ?_⟩
                    exact ⟨_, by omega, j + 1, rfl, by omega, risesTo_step s1 s0 _ (by omega) (by omega) (by intros; omega), rfl, rfl, trivial⟩
                ·
                  have p_91 := h_76
                  try simp only [lrn] at p_91
                  refine WL_off rfl rfl rfl (bF h_76) ?_
                  refine WL_off rfl rfl rfl (bF h_76) ?_
                  refine WL_off rfl rfl rfl (bF h_76) ?_
                  refine WL_off rfl rfl rfl (bF h_76) ?_
                  refine WL_off rfl rfl rfl (bF h_76) ?_
                  refine WL_off rfl rfl rfl (bF h_76) ?_
                  refine WL_off rfl rfl rfl (bF h_76) ?_
                  refine WL_off rfl rfl rfl (bF h_76) ?_
                  refine WL_on rfl rfl (bF h_72) ?_
                  refine S_pick_f (bF h_76) rfl ?_
                  refine S_pick_f (bF h_72) rfl ?_
                  refine WL_nil ?_
                  refine W_cond_false rfl ?_
                  refine W_skip ?_
                  refine W_region ?_
                  refine S_add rfl rfl (by omega) rfl ?_
                  refine S_move rfl ?_
                  refine WL_nil ?_
                  refine ⟨by repeat (first | refine agree_upd rfl ?_ | exact agree_mix rfl agree_refl | refine agree_mix rfl ?_), ?_⟩
                  exact ⟨_, by omega, j + 1, rfl, by omega, risesTo_step s1 s0 _ (by omega) (by omega) (by intros; omega), rfl, rfl, trivial⟩
          ·
            have p_92 := h_56
            try simp only [lrn] at p_92
            refine W_exit ?_
            refine W_region ?_
            refine S_add rfl rfl (by omega) rfl ?_
            refine S_move rfl ?_
            refine WL_nil ?_
            refine ⟨by repeat (first | refine agree_upd rfl ?_ | exact agree_mix rfl agree_refl | refine agree_mix rfl ?_), ?_⟩
            exact ⟨_, by omega, i + 1, rfl, by omega, by omega, rightTo_step q2 q0 _ (by omega) ‹RisesTo _ _ _› (by omega), E_42, c_43, rfl, trivial⟩
    ·
      have p_93 := h_7
      try simp only [lrn] at p_93
      refine W_exit ?_
      refine W_seq ?_
      refine W_region ?_
      refine S_assign rfl ?_
      refine WL_nil ?_
      refine W_ret ?_
      exact ⟨by show Value.bool _ = _; congr 1; symm; rw [decide_eq_true_eq]; exact rightTo_all q2 (by omega), E_2⟩
theorem right_ref_ok {M : List Nat} {w0 : World} {A : Option Addr} {cap : Nat} {l : List Commit} (h : (rSlice rCommit).rd M w0 [.slice A l.length cap] l) :
    CallR Try.prog 21 [.slice A l.length cap] w0 (fun v w' => v = .bool (decide (Right l)) ∧ w' = w0) := by
  have ll := rSlice_len h
  refine Call1 Try.func21 rfl rfl rfl rfl ?_
  refine W_seq ?_
  refine W_region ?_
  refine S_assign rfl ?_
  refine WL_nil ?_
  refine W_seq ?_
  refine W_seq ?_
  refine W_region ?_
  refine S_assign rfl ?_
  refine WL_nil ?_
  refine W_block ?_
  refine W_loopF [2, 3, 4, 5, 6, 7, 8, 9, 10, 11, 12, 13, 14, 15, 16, 17, 18, 19, 20, 21, 22, 23, 24, 25, 26, 27, 28, 29, 30, 31, 32, 33, 34, 35, 36, 37, 38, 39, 40, 41, 42, 43, 44, 45, 46, 47, 48, 49, 50, 51, 52, 53, 54, 55, 56, 57, 58, 59] (fun m f w => ∃ i : Int, m = (l.length - i).toNat ∧ 0 ≤ i ∧ i ≤ l.length ∧ RightTo l i ∧ w0 = w ∧ Live f [(3, .int .i64 i)]) ?_ ?_
  · exact ⟨_, 0, rfl, by omega, by omega, rightTo_zero, rfl, rfl, trivial⟩
  ·
    rintro m g_3 _ ⟨i, rfl, q0, q1, q2, rfl, hl_2⟩
    refine W_liveM hl_2 rfl ?_
    refine W_seq ?_
    refine W_seq ?_
    refine W_region ?_
    refine S_move rfl ?_
    refine S_move rfl ?_
    refine S_len Try.runUnderlying22 rfl rfl ?_
    refine S_lss rfl rfl rfl ?_
    refine WL_nil ?_
    refine W_cond rfl (fun h_6 => ?_) (fun h_6 => ?_)
    ·
      have p_7 := h_6
      try simp only [lrn] at p_7
      refine W_skip ?_
      refine W_seq ?_
      refine W_block ?_
      refine W_seq ?_
      refine W_seq ?_
      refine W_region ?_
      refine S_move rfl ?_
      refine S_move rfl ?_
      refine S_index Try.runUnderlying22 Try.sizeOf37 h rfl (by omega) (by omega) rfl ?_
      intro b_8 o_9 cs_10 hi_11 hc_12 hb_13 hr_14
      have o_21 := rCommit_cells hc_12 hr_14
      obtain ⟨c_15, c_18, ⟨hc_16, hr_17⟩, ⟨hc_19, hr_20⟩⟩ := o_21
      refine S_fieldAddr Try.runUnderlying37 rfl Try.sizeOf3 rfl rfl ?_
      refine S_loadI Try.isAgg3 rfl hc_16 hr_17 rfl ?_
      rintro ⟨r_22, r_23⟩
      refine S_move rfl ?_
      refine S_add rfl rfl (by omega) rfl ?_
      refine S_neq rfl rfl rfl ?_
      refine WL_nil ?_
      refine W_cond rfl (fun h_25 => ?_) (fun h_25 => ?_)
      ·
        have p_26 := h_25
        try simp only [lrn] at p_26
        refine W_seq ?_
        refine W_region ?_
        refine S_assign rfl ?_
        refine WL_nil ?_
        refine W_ret ?_
        exact ⟨by show Value.bool _ = _; congr 1; symm; rw [decide_eq_false_iff_not]; exact not_right_id q0 _ (by omega), rfl⟩
      ·
        have p_27 := h_25
        try simp only [lrn] at p_27
        refine W_skip ?_
        refine W_seq ?_
        refine W_region ?_
        refine S_move rfl ?_
        refine S_move rfl ?_
        refine S_index Try.runUnderlying22 Try.sizeOf37 h rfl (by omega) (by omega) rfl ?_
        intro b_28 o_29 cs_30 hi_31 hc_32 hb_33 hr_34
        have o_41 := rCommit_cells hc_32 hr_34
        obtain ⟨c_35, c_38, ⟨hc_36, hr_37⟩, ⟨hc_39, hr_40⟩⟩ := o_41
        refine S_fieldAddr Try.runUnderlying37 rfl Try.sizeOf26 rfl rfl ?_
        refine S_loadR Try.isAgg26 rfl hc_39 hr_40 rfl rfl ?_
        intro v_42 h_43
        have o_47 := rSlice_val h_43
        obtain ⟨A_45, cap_46, rfl⟩ := o_47
        have hl_44 := rSlice_len h_43
        refine S_assign rfl ?_
        refine WL_nil ?_
        refine W_seq ?_
        refine W_region ?_
        refine S_assign rfl ?_
        refine WL_nil ?_
        refine W_block ?_
        refine W_loopF [2, 5, 25, 26, 27, 28, 29, 30, 31, 32, 33, 34, 35, 36, 37, 38, 39, 40, 41, 42, 43, 44, 45, 46, 47, 48, 49, 50, 51, 52, 53, 54, 55, 56, 57, 58, 59] (fun m f w => ∃ j : Int, m = (l[i.toNat].Parents.length - j).toNat ∧ 0 ≤ j ∧ RisesTo i l[i.toNat].Parents j ∧ w0 = w ∧ Live f [(5, .int .i64 j)]) ?_ ?_
        · exact ⟨_, 0, rfl, by omega, risesTo_zero, rfl, rfl, trivial⟩
        ·
          rintro m g_50 _ ⟨j, rfl, s0, s1, rfl, hl_49⟩
          refine W_liveM hl_49 rfl ?_
          refine W_seq ?_
          refine W_seq ?_
          refine W_region ?_
          refine S_move rfl ?_
          refine S_move rfl ?_
          refine S_len Try.runUnderlying26 rfl rfl ?_
          refine S_lss rfl rfl rfl ?_
          refine WL_nil ?_
          refine W_cond rfl (fun h_53 => ?_) (fun h_53 => ?_)
          ·
            have p_54 := h_53
            try simp only [lrn] at p_54
            refine W_skip ?_
            refine W_seq ?_
            refine W_block ?_
            refine W_seq ?_
            refine W_region_quiet rfl (by decide +kernel) ?_
            refine S_move rfl ?_
            refine S_move rfl ?_
            refine S_index Try.runUnderlying26 Try.sizeOf3 h_43 rfl (by omega) (by omega) rfl ?_
            intro b_55 o_56 cs_57 hi_58 hc_59 hb_60 hr_61
            refine S_loadI Try.isAgg3 rfl hc_59 hr_61 rfl ?_
            rintro ⟨r_62, r_63⟩
            refine S_lss rfl rfl rfl ?_
            refine S_move rfl ?_
            refine WL_split (dj := 36) rfl (fun h_65 => ?_) (fun h_65 => ?_)
            ·
              have p_66 := h_65
              try simp only [lrn] at p_66
              refine WL_off rfl rfl rfl (bT h_65) ?_
              refine WL_off rfl rfl rfl (bT h_65) ?_
              refine WL_off rfl rfl rfl (bT h_65) ?_
              refine WL_off rfl rfl rfl (bT h_65) ?_
              refine WL_off rfl rfl rfl (bT h_65) ?_
              refine WL_off rfl rfl rfl (bT h_65) ?_
              refine S_pick_t (bT h_65) rfl ?_
              refine S_move rfl ?_
              refine WL_off rfl rfl rfl rfl ?_
              refine WL_off rfl rfl rfl rfl ?_
              refine WL_off rfl rfl rfl rfl ?_
              refine WL_off0 rfl rfl rfl rfl ?_
              refine WL_off0 rfl rfl rfl rfl ?_
              refine WL_off0 rfl rfl rfl rfl ?_
              refine WL_off0 rfl rfl rfl rfl ?_
              refine WL_off0 rfl rfl rfl rfl ?_
              refine WL_off0 rfl rfl rfl rfl ?_
              refine WL_off0 rfl rfl rfl rfl ?_
              refine WL_off0 rfl rfl rfl rfl ?_
              refine WL_off0 rfl rfl rfl rfl ?_
              refine WL_off0 rfl rfl rfl rfl ?_
              refine WL_off rfl rfl rfl rfl ?_
              refine S_pick_t rfl rfl ?_
              refine WL_nil ?_
              refine W_cond_true rfl ?_
              refine W_seq ?_
              refine W_region ?_
              refine S_assign rfl ?_
              refine WL_nil ?_
              refine W_ret ?_
              refine ⟨by show Value.bool _ = _; congr 1; symm; rw [decide_eq_false_iff_not]; first | exact not_right_par q0 _ s0 (by omega) (by omega) | exact not_right_rise q0 _ (by omega) (by omega) (by omega) (by omega), rfl⟩
            ·
              have p_67 := h_65
              try simp only [lrn] at p_67
              refine WL_on rfl rfl (bF h_65) ?_
              refine S_move rfl ?_
              refine WL_on rfl rfl (bF h_65) ?_
              refine S_move rfl ?_
              refine WL_on rfl rfl (bF h_65) ?_
              refine S_index Try.runUnderlying26 Try.sizeOf3 h_43 rfl (by omega) (by omega) rfl ?_
              intro b_68 o_69 cs_70 hi_71 hc_72 hb_73 hr_74
              refine WL_on rfl rfl (bF h_65) ?_
              refine S_loadI Try.isAgg3 rfl hc_72 hr_74 rfl ?_
              rintro ⟨r_75, r_76⟩
              refine WL_on rfl rfl (bF h_65) ?_
              refine S_move rfl ?_
              refine WL_on rfl rfl (bF h_65) ?_
              refine S_gtr rfl rfl rfl ?_
              refine S_pick_f (bF h_65) rfl ?_
              refine S_move rfl ?_
              refine WL_split (dj := 44) rfl (fun h_78 => ?_) (fun h_78 => ?_)
              ·
                have p_79 := h_78
                try simp only [lrn] at p_79
                refine WL_off rfl rfl rfl (bT h_78) ?_
                refine WL_off rfl rfl rfl (bT h_78) ?_
                refine WL_off rfl rfl rfl (bT h_78) ?_
                refine WL_off0 rfl rfl rfl rfl ?_
                refine WL_off0 rfl rfl rfl rfl ?_
                refine WL_off0 rfl rfl rfl rfl ?_
                refine WL_off0 rfl rfl rfl rfl ?_
                refine WL_off0 rfl rfl rfl rfl ?_
                refine WL_off0 rfl rfl rfl rfl ?_
                refine WL_off0 rfl rfl rfl rfl ?_
                refine WL_off0 rfl rfl rfl rfl ?_
                refine WL_off0 rfl rfl rfl rfl ?_
                refine WL_off0 rfl rfl rfl rfl ?_
                refine WL_off rfl rfl rfl (bT h_78) ?_
                refine S_pick_t (bT h_78) rfl ?_
                refine WL_nil ?_
                refine W_cond_true rfl ?_
                refine W_seq ?_
                refine W_region ?_
                refine S_assign rfl ?_
                refine WL_nil ?_
                refine W_ret ?_
                refine ⟨by show Value.bool _ = _; congr 1; symm; rw [decide_eq_false_iff_not]; first | exact not_right_par q0 _ s0 (by omega) (by omega) | exact not_right_rise q0 _ (by omega) (by omega) (by omega) (by omega), rfl⟩
              ·
                have p_80 := h_78
                try simp only [lrn] at p_80
                refine WL_on rfl rfl (bF h_78) ?_
                refine S_move rfl ?_
                refine WL_on rfl rfl (bF h_78) ?_
                refine S_gtr rfl rfl rfl ?_
                refine WL_on rfl rfl (bF h_78) ?_
                refine S_move rfl ?_
                refine WL_split (dj := 47) rfl (fun h_82 => ?_) (fun h_82 => ?_)
                ·
                  have p_83 := h_82
                  try simp only [lrn] at p_83
                  refine WL_on rfl rfl (bT h_82) ?_
                  refine S_move rfl ?_
                  refine WL_on rfl rfl (bT h_82) ?_
                  refine S_move rfl ?_
                  refine WL_on rfl rfl (bT h_82) ?_
                  refine S_sub rfl rfl (by omega) rfl ?_
                  refine WL_on rfl rfl (bT h_82) ?_
                  refine S_index Try.runUnderlying26 Try.sizeOf3 h_43 rfl (by omega) (by omega) rfl ?_
                  intro b_84 o_85 cs_86 hi_87 hc_88 hb_89 hr_90
                  refine WL_on rfl rfl (bT h_82) ?_
                  refine S_loadI Try.isAgg3 rfl hc_88 hr_90 rfl ?_
                  rintro ⟨r_91, r_92⟩
                  refine WL_on rfl rfl (bT h_82) ?_
                  refine S_move rfl ?_
                  refine WL_on rfl rfl (bT h_82) ?_
                  refine S_move rfl ?_
                  refine WL_on rfl rfl (bT h_82) ?_
                  refine S_index Try.runUnderlying26 Try.sizeOf3 h_43 rfl (by omega) (by omega) rfl ?_
                  intro b_93 o_94 cs_95 hi_96 hc_97 hb_98 hr_99
                  refine WL_on rfl rfl (bT h_82) ?_
                  refine S_loadI Try.isAgg3 rfl hc_97 hr_99 rfl ?_
                  rintro ⟨r_100, r_101⟩
                  refine WL_on rfl rfl (bT h_82) ?_
                  refine S_geq rfl rfl rfl ?_
                  refine WL_on rfl rfl (bF h_78) ?_
                  refine S_pick_t (bT h_82) rfl ?_
                  refine S_pick_f (bF h_78) rfl ?_
                  refine WL_nil ?_
                  refine W_cond rfl (fun h_103 => ?_) (fun h_103 => ?_)
                  ·
                    have p_104 := h_103
                    try simp only [lrn] at p_104
                    refine W_seq ?_
                    refine W_region ?_
                    refine S_assign rfl ?_
                    refine WL_nil ?_
                    refine W_ret ?_
                    refine ⟨by show Value.bool _ = _; congr 1; symm; rw [decide_eq_false_iff_not]; first | exact not_right_par q0 _ s0 (by omega) (by omega) | exact not_right_rise q0 _ (by omega) (by omega) (by omega) (by omega), rfl⟩
                  ·
                    have p_105 := h_103
                    try simp only [lrn] at p_105
                    refine W_skip ?_
                    refine W_region ?_
                    refine S_move rfl ?_
                    refine S_add rfl rfl (by omega) rfl ?_
                    refine S_assign rfl ?_
                    refine WL_nil ?_
                    refine ⟨by repeat (first | refine agree_upd rfl ?_ | exact agree_mix rfl agree_refl | refine agree_mix rfl ?_), ?_⟩
                    exact ⟨_, by omega, j + 1, rfl, by omega, risesTo_step s1 s0 _ (by omega) (by omega) (by intros; omega), rfl, rfl, trivial⟩
                ·
                  have p_106 := h_82
                  try simp only [lrn] at p_106
                  refine WL_off rfl rfl rfl (bF h_82) ?_
                  refine WL_off rfl rfl rfl (bF h_82) ?_
                  refine WL_off rfl rfl rfl (bF h_82) ?_
                  refine WL_off rfl rfl rfl (bF h_82) ?_
                  refine WL_off rfl rfl rfl (bF h_82) ?_
                  refine WL_off rfl rfl rfl (bF h_82) ?_
                  refine WL_off rfl rfl rfl (bF h_82) ?_
                  refine WL_off rfl rfl rfl (bF h_82) ?_
                  refine WL_off rfl rfl rfl (bF h_82) ?_
                  refine WL_off rfl rfl rfl (bF h_82) ?_
                  refine WL_on rfl rfl (bF h_78) ?_
                  refine S_pick_f (bF h_82) rfl ?_
                  refine S_pick_f (bF h_78) rfl ?_
                  refine WL_nil ?_
                  refine W_cond_false rfl ?_
                  refine W_skip ?_
                  refine W_region ?_
                  refine S_move rfl ?_
                  refine S_add rfl rfl (by omega) rfl ?_
                  refine S_assign rfl ?_
                  refine WL_nil ?_
                  refine ⟨by repeat (first | refine agree_upd rfl ?_ | exact agree_mix rfl agree_refl | refine agree_mix rfl ?_), ?_⟩
                  exact ⟨_, by omega, j + 1, rfl, by omega, risesTo_step s1 s0 _ (by omega) (by omega) (by intros; omega), rfl, rfl, trivial⟩
          ·
            have p_107 := h_53
            try simp only [lrn] at p_107
            refine W_exit ?_
            refine W_region ?_
            refine S_move rfl ?_
            refine S_add rfl rfl (by omega) rfl ?_
            refine S_assign rfl ?_
            refine WL_nil ?_
            refine ⟨by repeat (first | refine agree_upd rfl ?_ | exact agree_mix rfl agree_refl | refine agree_mix rfl ?_), ?_⟩
            exact ⟨_, by omega, i + 1, rfl, by omega, by omega, rightTo_step q2 q0 _ (by omega) ‹RisesTo _ _ _› (by omega), rfl, rfl, trivial⟩
    ·
      have p_108 := h_6
      try simp only [lrn] at p_108
      refine W_exit ?_
      refine W_seq ?_
      refine W_region ?_
      refine S_assign rfl ?_
      refine WL_nil ?_
      refine W_ret ?_
      exact ⟨by show Value.bool _ = _; congr 1; symm; rw [decide_eq_true_eq]; exact rightTo_all q2 (by omega), rfl⟩
theorem few_ok {M : List Nat} {w0 : World} {A : Option Addr} {cap : Nat} {l : List Commit} (h : (rSlice rCommit).rd M w0 [.slice A l.length cap] l) :
    CallR Try.prog 9 [.slice A l.length cap] w0 (fun v w' => (∃ p : Bool, v = .bool p ∧ (p = true → Few l)) ∧ w' = w0) := by
  have ll := rSlice_len h
  refine Call1 Try.func9 rfl rfl rfl rfl ?_
  refine W_seq ?_
  refine W_region ?_
  refine S_assign rfl ?_
  refine WL_nil ?_
  refine W_seq ?_
  refine W_seq ?_
  refine W_region ?_
  refine S_move rfl ?_
  refine S_len Try.runUnderlying22 rfl rfl ?_
  refine S_gtr rfl rfl rfl ?_
  refine WL_nil ?_
  refine W_cond rfl (fun h_2 => ?_) (fun h_2 => ?_)
  ·
    have p_3 := h_2
    try simp only [lrn] at p_3
    refine W_seq ?_
    refine W_region ?_
    refine S_assign rfl ?_
    refine WL_nil ?_
    refine W_ret ?_
    exact ⟨⟨_, rfl, fun h => by cases h⟩, rfl⟩
  ·
    have p_4 := h_2
    try simp only [lrn] at p_4
    refine W_skip ?_
    refine W_seq ?_
    refine W_seq ?_
    refine W_region ?_
    refine S_move rfl ?_
    refine S_len Try.runUnderlying22 rfl rfl ?_
    refine S_move rfl ?_
    refine WL_nil ?_
    refine W_block ?_
    refine W_loopF [2, 3, 9, 10, 11, 12, 13, 14, 15, 16, 17, 18, 19] (fun m f w => ∃ i : Int, m = (l.length - i).toNat ∧ 0 ≤ i ∧ l.length ≤ 60 ∧ FewTo l i ∧ w0 = w ∧ Live f [(9, .int .i64 i)]) ?_ ?_
    · exact ⟨_, 0, rfl, by omega, by omega, fewTo_zero, rfl, rfl, trivial⟩
    ·
      rintro m g_7 _ ⟨i, rfl, q0, q1, q2, rfl, hl_6⟩
      refine W_liveM hl_6 rfl ?_
      refine W_seq ?_
      refine W_region ?_
      refine S_lss rfl rfl rfl ?_
      refine WL_nil ?_
      refine W_seq ?_
      refine W_cond rfl (fun h_10 => ?_) (fun h_10 => ?_)
      ·
        have p_11 := h_10
        try simp only [lrn] at p_11
        refine W_skip ?_
        refine W_seq ?_
        refine W_block ?_
        refine W_seq ?_
        refine W_region ?_
        refine S_move rfl ?_
        refine S_assign rfl ?_
        refine WL_nil ?_
        refine W_seq ?_
        refine W_region ?_
        refine S_move rfl ?_
        refine S_move rfl ?_
        refine S_index Try.runUnderlying22 Try.sizeOf37 h rfl (by omega) (by omega) rfl ?_
        intro b_12 o_13 cs_14 hi_15 hc_16 hb_17 hr_18
        have o_25 := rCommit_cells hc_16 hr_18
        obtain ⟨c_19, c_22, ⟨hc_20, hr_21⟩, ⟨hc_23, hr_24⟩⟩ := o_25
        refine S_fieldAddr Try.runUnderlying37 rfl Try.sizeOf26 rfl rfl ?_
        refine S_loadR Try.isAgg26 rfl hc_23 hr_24 rfl rfl ?_
        intro v_26 h_27
        have o_31 := rSlice_val h_27
        obtain ⟨A_29, cap_30, rfl⟩ := o_31
        have hl_28 := rSlice_len h_27
        refine S_len Try.runUnderlying26 rfl rfl ?_
        refine S_gtr rfl rfl rfl ?_
        refine WL_nil ?_
        refine W_cond rfl (fun h_33 => ?_) (fun h_33 => ?_)
        ·
          have p_34 := h_33
          try simp only [lrn] at p_34
          refine W_seq ?_
          refine W_region ?_
          refine S_assign rfl ?_
          refine WL_nil ?_
          refine W_ret ?_
          exact ⟨⟨_, rfl, fun h => by cases h⟩, rfl⟩
        ·
          have p_35 := h_33
          try simp only [lrn] at p_35
          refine W_skip ?_
          refine W_region ?_
          refine S_add rfl rfl (by omega) rfl ?_
          refine S_move rfl ?_
          refine WL_nil ?_
          refine ⟨by repeat (first | refine agree_upd rfl ?_ | exact agree_mix rfl agree_refl | refine agree_mix rfl ?_), ?_⟩
          exact ⟨_, by omega, i + 1, rfl, by omega, q1, fewTo_step q2 q0 _ (by omega), rfl, rfl, trivial⟩
      ·
        have p_36 := h_10
        try simp only [lrn] at p_36
        refine W_exit ?_
        refine W_seq ?_
        refine W_region ?_
        refine S_assign rfl ?_
        refine WL_nil ?_
        refine W_ret ?_
        exact ⟨⟨_, rfl, fun _ => fewTo_all q1 q2 (by omega)⟩, rfl⟩
end Go.Proofs.Ytpgegnmaophapaa
