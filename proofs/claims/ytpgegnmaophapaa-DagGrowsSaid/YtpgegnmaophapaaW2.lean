/- The walks of a history's functions, printed by program. -/
import Derived.Test.YtpgegnmaophapaaW1
namespace Go.Proofs.Ytpgegnmaophapaa
open Go.Wk Classical
theorem table_ok {M : List Nat} {w0 : World} {A : Option Addr} {cap : Nat} {l : List Commit} (h : (rSlice rCommit).rd M w0 [.slice A l.length cap] l) (hM : ∀ b ∈ M, b < w0.heap.size) (hr : Right l) (hl : l.length ≤ 60) :
    CallR Try.prog 28 [.slice A l.length cap] w0 (fun v w' => ∃ L A cap, v = .slice A L.length cap ∧ (rSlice rBool).rd M w' [.slice A L.length cap] L ∧ TabI l L (fun r c => Rch l (r + 1) (c + 1)) ∧ Ext [] w0 w') := by
  refine Call1 Try.func28 rfl rfl rfl rfl ?_
  refine W_seq ?_
  refine W_region ?_
  refine S_assign rfl ?_
  refine WL_nil ?_
  refine W_seq ?_
  refine W_region ?_
  refine S_move rfl ?_
  refine S_len Try.runUnderlying22 rfl rfl ?_
  refine S_assign rfl ?_
  refine WL_nil ?_
  refine W_seq ?_
  refine W_region ?_
  refine S_move rfl ?_
  refine S_move rfl ?_
  refine S_mul rfl rfl (mul60 (by omega) (by omega) (by omega) (by omega)) rfl ?_
  refine S_makeSlice Try.runUnderlying44 Try.typeInfo4 Try.sizeOf4 Try.zeroValue4 rfl rfl rfl (mul60z hl).1 (mul60z hl).2.1 (mul60z hl).2.2 rfl ?_
  intro b_1 w_2 e_3 z_4 z_5 ho_6
  have hb_7 : w0.heap.size ≤ b_1 := by have := ((Ext.refl [] w0)).size; omega
  have E_8 := Ext.stepO (Ext.refl [] w0) e_3 mem0
  have ho_9 := Own.rep (enc := Value.bool) ho_6
  refine S_assign rfl ?_
  refine WL_nil ?_
  refine W_seq ?_
  refine W_seq ?_
  refine W_region ?_
  refine S_assign rfl ?_
  refine WL_nil ?_
  refine W_block ?_
  refine W_loopF [5, 6, 7, 14, 15, 16, 17, 18, 19, 20, 21, 22, 23, 24, 25, 26, 27, 28, 29, 30, 31, 32, 33, 34, 35, 36, 37, 38, 39, 40, 41, 42, 43, 44, 45, 46, 47, 48, 49, 50, 51, 52, 53, 54, 55, 56, 57, 58, 59, 60, 61, 62, 63, 64, 65, 66, 67, 68, 69, 70, 71, 72, 73] (fun m f w => ∃ (i : Int) (T : List Bool), m = (l.length - i).toNat ∧ 0 ≤ i ∧ i ≤ l.length ∧ TabI l T (S0 l i) ∧ Ext [] w0 w ∧ Ext ([b_1]) w_2 w ∧ Own w b_1 4 (T.map Value.bool) ∧ Live f [(5, .int .i64 i)]) ?_ ?_
  · exact ⟨_, 0, _, rfl, by omega, by omega, tab_init hl, E_8, (Ext.refl _ _), ho_9, rfl, trivial⟩
  ·
    rintro m g_14 w_10 ⟨i, T, rfl, q0, q1, q2, E_11, e_12, ho, hl_13⟩
    refine W_liveM hl_13 rfl ?_
    refine W_seq ?_
    refine W_seq ?_
    refine W_region ?_
    refine S_move rfl ?_
    refine S_move rfl ?_
    refine S_lss rfl rfl rfl ?_
    refine WL_nil ?_
    refine W_cond rfl (fun h_16 => ?_) (fun h_16 => ?_)
    ·
      have p_17 := h_16
      try simp only [lrn] at p_17
      refine W_skip ?_
      refine W_seq ?_
      refine W_block ?_
      refine W_seq ?_
      refine W_region ?_
      refine S_move rfl ?_
      refine S_move rfl ?_
      refine S_move rfl ?_
      refine S_mul rfl rfl (mul60 (by omega) (by omega) (by omega) (by omega)) rfl ?_
      refine S_move rfl ?_
      refine S_add rfl rfl (tab2 (by omega) (by omega) (by omega) (by omega) (by omega)) rfl ?_
      refine S_indexRow Try.runUnderlying44 Try.sizeOf4 rfl rfl (by exact tab0 (by omega) (by omega)) (by exact tab1 (by omega) (by omega) (by omega) (by omega)) rfl ?_
      refine S_storeRow (enc := Value.bool) Try.sizeOf4 ho rfl rfl rfl (tab3 (by assumption) (by omega) (by omega) (by omega) (by omega)) ?_
      intro w_18 e_19 z_20 ho_21
      have E_22 := Ext.stepO E_11 e_19 (memC (.inr hb_7) mem0)
      have c_23 := Ext.stepO e_12 e_19 (memC (.inl (by simp)) mem0)
      refine WL_nil ?_
      refine W_seq ?_
      refine W_region ?_
      refine S_assign rfl ?_
      refine WL_nil ?_
      refine W_block ?_
      refine W_loopF [6, 7, 26, 27, 28, 29, 30, 31, 32, 33, 34, 35, 36, 37, 38, 39, 40, 41, 42, 43, 44, 45, 46, 47, 48, 49, 50, 51, 52, 53, 54, 55, 56, 57, 58, 59, 60, 61, 62, 63, 64, 65, 66, 67, 68, 69, 70, 71, 72, 73] (fun m f w => ∃ (k : Int) (T : List Bool), m = (l[i.toNat].Parents.length - k).toNat ∧ 0 ≤ k ∧ TabI l T (S1 l i k) ∧ Ext [] w0 w ∧ Ext ([b_1]) w_18 w ∧ Own w b_1 4 (T.map Value.bool) ∧ Live f [(6, .int .i64 k)]) ?_ ?_
      · exact ⟨_, 0, _, rfl, by omega, tab_diag q2 q0 (by omega), E_22, (Ext.refl _ _), ho_21, rfl, trivial⟩
      ·
        rintro m g_28 w_24 ⟨k, T, rfl, s0, s1, E_25, e_26, ho, hl_27⟩
        refine W_liveM hl_27 rfl ?_
        have c_29 := Ext.stepO c_23 e_26 (memC (.inl (by simp)) mem0)
        refine W_seq ?_
        refine W_seq ?_
        refine W_region ?_
        refine S_move rfl ?_
        refine S_move rfl ?_
        refine S_move rfl ?_
        have h_30 := Rep.ext _ h E_25
        refine S_index Try.runUnderlying22 Try.sizeOf37 h_30 rfl (by omega) (by omega) rfl ?_
        intro b_31 o_32 cs_33 hi_34 hc_35 hb_36 hr_37
        have o_44 := rCommit_cells hc_35 hr_37
        obtain ⟨c_38, c_41, ⟨hc_39, hr_40⟩, ⟨hc_42, hr_43⟩⟩ := o_44
        refine S_fieldAddr Try.runUnderlying37 rfl Try.sizeOf26 rfl rfl ?_
        refine S_loadR Try.isAgg26 rfl hc_42 hr_43 rfl rfl ?_
        intro v_45 h_46
        have o_50 := rSlice_val h_46
        obtain ⟨A_48, cap_49, rfl⟩ := o_50
        have hl_47 := rSlice_len h_46
        refine S_len Try.runUnderlying26 rfl rfl ?_
        refine S_lss rfl rfl rfl ?_
        refine WL_nil ?_
        refine W_cond rfl (fun h_52 => ?_) (fun h_52 => ?_)
        ·
          have p_53 := h_52
          try simp only [lrn] at p_53
          refine W_skip ?_
          refine W_seq ?_
          refine W_block ?_
          refine W_seq ?_
          refine W_region ?_
          refine S_assign rfl ?_
          refine WL_nil ?_
          refine W_block ?_
          refine W_loopF [7, 36, 37, 38, 39, 40, 41, 42, 43, 44, 45, 46, 47, 48, 49, 50, 51, 52, 53, 54, 55, 56, 57, 58, 59, 60, 61, 62, 63, 64, 65, 66, 67, 68, 69, 70, 71, 72, 73] (fun m f w => ∃ (j : Int) (T : List Bool), m = (l.length - j).toNat ∧ 0 ≤ j ∧ j ≤ l.length ∧ TabI l T (S2 l i k j) ∧ Ext [] w0 w ∧ Ext ([b_1]) w_24 w ∧ Own w b_1 4 (T.map Value.bool) ∧ Live f [(7, .int .i64 j)]) ?_ ?_
          · exact ⟨_, 0, _, rfl, by omega, by omega, tab_in s1, E_25, (Ext.refl _ _), ho, rfl, trivial⟩
          ·
            rintro m g_58 w_54 ⟨j, T, rfl, u0, u1, u2, E_55, e_56, ho, hl_57⟩
            refine W_liveM hl_57 rfl ?_
            have c_59 := Ext.stepO c_29 e_56 (memC (.inl (by simp)) mem0)
            have c_60 := Ext.stepO e_26 e_56 (memC (.inl (by simp)) mem0)
            refine W_seq ?_
            refine W_seq ?_
            refine W_region ?_
            refine S_move rfl ?_
            refine S_move rfl ?_
            refine S_lss rfl rfl rfl ?_
            refine WL_nil ?_
            refine W_cond rfl (fun h_62 => ?_) (fun h_62 => ?_)
            ·
              have p_63 := h_62
              try simp only [lrn] at p_63
              refine W_skip ?_
              refine W_seq ?_
              refine W_block ?_
              refine W_region ?_
              refine S_move rfl ?_
              refine S_move rfl ?_
              refine S_move rfl ?_
              refine S_mul rfl rfl (mul60 (by omega) (by omega) (by omega) (by omega)) rfl ?_
              refine S_move rfl ?_
              refine S_add rfl rfl (tab2 (by omega) (by omega) (by omega) (by omega) (by omega)) rfl ?_
              refine S_move rfl ?_
              refine S_move rfl ?_
              refine S_move rfl ?_
              refine S_mul rfl rfl (mul60 (by omega) (by omega) (by omega) (by omega)) rfl ?_
              refine S_move rfl ?_
              refine S_add rfl rfl (tab2 (by omega) (by omega) (by omega) (by omega) (by omega)) rfl ?_
              refine S_indexRow Try.runUnderlying44 Try.sizeOf4 rfl rfl (by exact tab0 (by omega) (by omega)) (by exact tab1 (by omega) (by omega) (by omega) (by omega)) rfl ?_
              refine S_loadRow (enc := Value.bool) Try.isAgg4 ho rfl (tab3 (by assumption) (by omega) (by omega) (by omega) (by omega)) rfl ?_
              refine S_move rfl ?_
              refine WL_split (dj := 55) rfl (fun h_65 => ?_) (fun h_65 => ?_)
              ·
                have p_66 := h_65
                try simp only [lrn] at p_66
                refine WL_off rfl rfl rfl (bT h_65) ?_
                refine WL_off rfl rfl rfl (bT h_65) ?_
                refine WL_off rfl rfl rfl (bT h_65) ?_
                refine WL_off rfl rfl rfl (bT h_65) ?_
                refine WL_off rfl rfl rfl (bT h_65) ?_
                refine WL_off rfl rfl rfl (bT h_65) ?_
                refine WL_off rfl rfl rfl (bT h_65) ?_
                refine WL_off rfl rfl rfl (bT h_65) ?_
                refine WL_off rfl rfl rfl (bT h_65) ?_
                refine WL_off rfl rfl rfl (bT h_65) ?_
                refine WL_off rfl rfl rfl (bT h_65) ?_
                refine WL_off rfl rfl rfl (bT h_65) ?_
                refine WL_off rfl rfl rfl (bT h_65) ?_
                refine WL_off rfl rfl rfl (bT h_65) ?_
                refine WL_off rfl rfl rfl (bT h_65) ?_
                refine WL_off rfl rfl rfl (bT h_65) ?_
                refine S_pick_t (bT h_65) rfl ?_
                refine S_indexRow Try.runUnderlying44 Try.sizeOf4 rfl rfl (by exact tab0 (by omega) (by omega)) (by exact tab1 (by omega) (by omega) (by omega) (by omega)) rfl ?_
                refine S_storeRow (enc := Value.bool) Try.sizeOf4 ho rfl rfl rfl (tab3 (by assumption) (by omega) (by omega) (by omega) (by omega)) ?_
                intro w_67 e_68 z_69 ho_70
                have E_71 := Ext.stepO E_55 e_68 (memC (.inr hb_7) mem0)
                have c_72 := Ext.stepO c_59 e_68 (memC (.inl (by simp)) mem0)
                have c_73 := Ext.stepO c_60 e_68 (memC (.inl (by simp)) mem0)
                have c_74 := Ext.stepO e_56 e_68 (memC (.inl (by simp)) mem0)
                refine WL_nil ?_
                refine W_region ?_
                refine S_move rfl ?_
                refine S_add rfl rfl (by omega) rfl ?_
                refine S_assign rfl ?_
                refine WL_nil ?_
                refine ⟨by repeat (first | refine agree_upd rfl ?_ | exact agree_mix rfl agree_refl | refine agree_mix rfl ?_), ?_⟩
                exact ⟨_, by omega, j + 1, _, rfl, by omega, by omega, by first | exact tab_set_t u2 q0 (by omega) u0 (by omega) (by assumption) | exact tab_set_f hr u2 q0 (by omega) s0 (by omega) u0 (by omega) (by assumption), E_71, c_74, ho_70, rfl, trivial⟩
              ·
                have p_75 := h_65
                try simp only [lrn] at p_75
                refine WL_on rfl rfl (bF h_65) ?_
                refine S_move rfl ?_
                refine WL_on rfl rfl (bF h_65) ?_
                refine S_move rfl ?_
                refine WL_on rfl rfl (bF h_65) ?_
                refine S_move rfl ?_
                refine WL_on rfl rfl (bF h_65) ?_
                have h_76 := Rep.ext _ h E_55
                refine S_index Try.runUnderlying22 Try.sizeOf37 h_76 rfl (by omega) (by omega) rfl ?_
                intro b_77 o_78 cs_79 hi_80 hc_81 hb_82 hr_83
                refine WL_on rfl rfl (bF h_65) ?_
                have o_90 := rCommit_cells hc_81 hr_83
                obtain ⟨c_84, c_87, ⟨hc_85, hr_86⟩, ⟨hc_88, hr_89⟩⟩ := o_90
                refine S_fieldAddr Try.runUnderlying37 rfl Try.sizeOf26 rfl rfl ?_
                refine WL_on rfl rfl (bF h_65) ?_
                refine S_loadR Try.isAgg26 rfl hc_88 hr_89 rfl rfl ?_
                intro v_91 h_92
                have o_96 := rSlice_val h_92
                obtain ⟨A_94, cap_95, rfl⟩ := o_96
                have hl_93 := rSlice_len h_92
                refine WL_on rfl rfl (bF h_65) ?_
                refine S_move rfl ?_
                refine WL_on rfl rfl (bF h_65) ?_
                refine S_index Try.runUnderlying26 Try.sizeOf3 h_92 rfl (by omega) (by omega) rfl ?_
                intro b_97 o_98 cs_99 hi_100 hc_101 hb_102 hr_103
                refine WL_on rfl rfl (bF h_65) ?_
                refine S_loadI Try.isAgg3 rfl hc_101 hr_103 rfl ?_
                rintro ⟨r_104, r_105⟩
                have tp := par_bd hr (i := i) (k := k) q0 (by omega) (by omega)
                refine WL_on rfl rfl (bF h_65) ?_
                refine S_sub rfl rfl (by omega) rfl ?_
                refine WL_on rfl rfl (bF h_65) ?_
                refine S_move rfl ?_
                refine WL_on rfl rfl (bF h_65) ?_
                refine S_mul rfl rfl (mul60 (by omega) (by omega) (by omega) (by omega)) rfl ?_
                refine WL_on rfl rfl (bF h_65) ?_
                refine S_move rfl ?_
                refine WL_on rfl rfl (bF h_65) ?_
                refine S_add rfl rfl (tab2 (by omega) (by omega) (by omega) (by omega) (by omega)) rfl ?_
                refine WL_on rfl rfl (bF h_65) ?_
                refine S_indexRow Try.runUnderlying44 Try.sizeOf4 rfl rfl (by exact tab0 (by omega) (by omega)) (by exact tab1 (by omega) (by omega) (by omega) (by omega)) rfl ?_
                refine WL_on rfl rfl (bF h_65) ?_
                refine S_loadRow (enc := Value.bool) Try.isAgg4 ho rfl (tab3 (by assumption) (by omega) (by omega) (by omega) (by omega)) rfl ?_
                refine S_pick_f (bF h_65) rfl ?_
                refine S_indexRow Try.runUnderlying44 Try.sizeOf4 rfl rfl (by exact tab0 (by omega) (by omega)) (by exact tab1 (by omega) (by omega) (by omega) (by omega)) rfl ?_
                refine S_storeRow (enc := Value.bool) Try.sizeOf4 ho rfl rfl rfl (tab3 (by assumption) (by omega) (by omega) (by omega) (by omega)) ?_
                intro w_107 e_108 z_109 ho_110
                have E_111 := Ext.stepO E_55 e_108 (memC (.inr hb_7) mem0)
                have c_112 := Ext.stepO c_59 e_108 (memC (.inl (by simp)) mem0)
                have c_113 := Ext.stepO c_60 e_108 (memC (.inl (by simp)) mem0)
                have c_114 := Ext.stepO e_56 e_108 (memC (.inl (by simp)) mem0)
                refine WL_nil ?_
                refine W_region ?_
                refine S_move rfl ?_
                refine S_add rfl rfl (by omega) rfl ?_
                refine S_assign rfl ?_
                refine WL_nil ?_
                refine ⟨by repeat (first | refine agree_upd rfl ?_ | exact agree_mix rfl agree_refl | refine agree_mix rfl ?_), ?_⟩
                exact ⟨_, by omega, j + 1, _, rfl, by omega, by omega, by first | exact tab_set_t u2 q0 (by omega) u0 (by omega) (by assumption) | exact tab_set_f hr u2 q0 (by omega) s0 (by omega) u0 (by omega) (by assumption), E_111, c_114, ho_110, rfl, trivial⟩
            ·
              have p_115 := h_62
              try simp only [lrn] at p_115
              refine W_exit ?_
              refine W_region ?_
              refine S_move rfl ?_
              refine S_add rfl rfl (by omega) rfl ?_
              refine S_assign rfl ?_
              refine WL_nil ?_
              refine ⟨by repeat (first | refine agree_upd rfl ?_ | exact agree_mix rfl agree_refl | refine agree_mix rfl ?_), ?_⟩
              exact ⟨_, by omega, k + 1, _, rfl, by omega, tab_par s0 ‹TabI _ _ (S2 _ _ _ _)› (by omega), E_55, c_60, ho, rfl, trivial⟩
        ·
          have p_116 := h_52
          try simp only [lrn] at p_116
          refine W_exit ?_
          refine W_region ?_
          refine S_move rfl ?_
          refine S_add rfl rfl (by omega) rfl ?_
          refine S_assign rfl ?_
          refine WL_nil ?_
          refine ⟨by repeat (first | refine agree_upd rfl ?_ | exact agree_mix rfl agree_refl | refine agree_mix rfl ?_), ?_⟩
          exact ⟨_, by omega, i + 1, _, rfl, by omega, by omega, tab_row hr q0 (by omega) ‹TabI _ _ (S1 _ _ _)› (by omega) (by omega), E_25, c_29, ho, rfl, trivial⟩
    ·
      have p_117 := h_16
      try simp only [lrn] at p_117
      refine W_exit ?_
      refine W_seq ?_
      refine W_region ?_
      refine S_move rfl ?_
      refine S_assign rfl ?_
      refine WL_nil ?_
      refine W_ret ?_
      exact table_ret ho (notin_old hM hb_7) q2 (by omega) hl E_11
end Go.Proofs.Ytpgegnmaophapaa
