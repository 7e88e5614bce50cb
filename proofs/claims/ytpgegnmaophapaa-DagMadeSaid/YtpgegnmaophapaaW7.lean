/- The walks of a history's functions, printed by program. -/
import Derived.Test.YtpgegnmaophapaaW6
namespace Go.Proofs.Ytpgegnmaophapaa
open Go.Wk Classical
theorem heads_ok {M : List Nat} {w0 : World} {A : Option Addr} {cap : Nat} {l : List Commit} (h : (rSlice rCommit).rd M w0 [.slice A l.length cap] l) (hM : ∀ b ∈ M, b < w0.heap.size) (hl : l.length ≤ 60) :
    CallR Try.prog 14 [.slice A l.length cap] w0 (fun v w' => ∃ L A cap, v = .slice A L.length cap ∧ (rSlice rInt).rd M w' [.slice A L.length cap] L ∧ HeadL l L ∧ Ext [] w0 w') := by
  have ll := rSlice_len h
  refine Call1 Try.func14 rfl rfl rfl rfl ?_
  refine W_seq ?_
  refine W_region ?_
  refine S_assign rfl ?_
  refine WL_nil ?_
  refine W_seq ?_
  refine W_seq ?_
  refine W_region ?_
  refine S_move rfl ?_
  refine S_call Try.call20 rfl (right_ok h) rfl ?_
  rintro _ w_1 ⟨rfl, e_2⟩
  have E_3 := Ext.stepO (Ext.refl [] w0) e_2 mem0
  refine S_not rfl rfl ?_
  refine WL_nil ?_
  refine W_cond rfl (fun h_5 => ?_) (fun h_5 => ?_)
  ·
    have h_6 := h_5
    simp only [lrnN] at h_6
    have p_7 := h_6
    try simp only [lrn] at p_7
    refine W_seq ?_
    refine W_region ?_
    refine S_assign rfl ?_
    refine WL_nil ?_
    refine W_ret ?_
    exact ⟨[], _, _, rfl, rd_nil, headL_no ‹¬ Right l›, E_3⟩
  ·
    have h_8 := h_5
    simp only [lrnN] at h_8
    have p_9 := h_8
    try simp only [lrn] at p_9
    refine W_skip ?_
    refine W_seq ?_
    refine W_region ?_
    refine S_makeMap (ky := kInt) rfl ?_
    intro b_10 w_11 e_12 z_13 z_14 hm_15
    have hb_16 : w0.heap.size ≤ b_10 := by have := (E_3).size; omega
    have E_17 := Ext.stepO E_3 e_12 mem0
    refine S_assign rfl ?_
    refine WL_nil ?_
    refine W_seq ?_
    refine W_seq ?_
    refine W_region ?_
    have hZ := Rep.mono (M' := b_10 :: M) _ h E_17 mem0 (memC (.inr hb_16) (fun x hx => .inl hx))
    refine S_move rfl ?_
    refine S_len Try.runUnderlying22 rfl rfl ?_
    refine S_move rfl ?_
    refine WL_nil ?_
    refine W_block ?_
    refine W_loopF [5, 7, 14, 15, 16, 17, 18, 19, 20, 21, 22, 23, 24, 25, 26, 27, 28, 29, 30, 31] (fun m f w => ∃ (i : Int) (S1 : List Int), m = (l.length - i).toNat ∧ 0 ≤ i ∧ i ≤ l.length ∧ (∀ x, x ∈ S1 ↔ HeadTo l i x) ∧ Ext [] w0 w ∧ Ext ([b_10]) w_11 w ∧ MapAt kInt w b_10 (setL S1) ∧ Live f [(14, .int .i64 i)]) ?_ ?_
    · exact ⟨_, 0, [], rfl, by omega, by omega, (fun x => by simp [headTo_zero]), E_17, (Ext.refl _ _), hm_15, rfl, trivial⟩
    ·
      rintro m g_22 w_18 ⟨i, S1, rfl, q0, q1, q2, E_19, e_20, hm1, hl_21⟩
      refine W_liveM hl_21 rfl ?_
      have h_23 := Rep.extB _ hZ e_20 (by intro x hx; simp at hx; first | (subst hx; assumption) | (rcases hx with rfl | rfl <;> simp; done) | simp [hx])
      refine W_seq ?_
      refine W_region ?_
      refine S_lss rfl rfl rfl ?_
      refine WL_nil ?_
      refine W_seq ?_
      refine W_cond rfl (fun h_25 => ?_) (fun h_25 => ?_)
      ·
        have p_26 := h_25
        try simp only [lrn] at p_26
        refine W_skip ?_
        refine W_seq ?_
        refine W_block ?_
        refine W_seq ?_
        refine W_region ?_
        refine S_index Try.runUnderlying22 Try.sizeOf37 h_23 rfl (by omega) (by omega) rfl ?_
        intro b_27 o_28 cs_29 hi_30 hc_31 hb_32 hr_33
        have o_39 := rCommit_open hr_33
        obtain ⟨A_36, cap_37, rfl, ⟨r_34, r_35⟩, h_38⟩ := o_39
        have hl_40 := rSlice_len h_38
        refine S_loadAgg Try.isAgg37 Try.sizeOf37 rfl rfl hc_31 rfl ?_
        refine S_alloc Try.zeroValue37 rfl ?_
        intro b_41 w_42 e_43 z_44 z_45 ho_46
        have hb_47 : w0.heap.size ≤ b_41 := by have := (E_19).size; omega
        have n_48 : (w_11).heap.size ≤ b_41 := by have := (e_20).size; omega
        have n_49 : b_10 ≠ b_41 := by have := hm1.lt; omega
        have E_50 := Ext.stepO E_19 e_43 mem0
        have c_51 := Ext.stepO e_20 e_43 mem0
        have h_52 := Rep.mono (M' := b_41 :: (b_10 :: M)) _ h_23 e_43 mem0 (cons_fresh z_44)
        have h_53 := Rep.mono (M' := b_41 :: (b_10 :: M)) _ hr_33 e_43 mem0 (cons_fresh z_44)
        have hb_55 : b_27 ∉ b_41 :: (b_10 :: M) := ninC (by have := Cells.lt hc_31; omega) hb_32
        have h_54 := Cells.ext hc_31 e_43 nin0
        have h_56 := Rep.mono (M' := b_41 :: (b_10 :: M)) _ h_38 e_43 mem0 (cons_fresh z_44)
        have h_57 := hm1.ext e_43 nin0
        have ho_46 : Own _ _ _ [_, _] := ho_46
        refine S_store Try.sizeOf37 rfl rfl rfl ho_46 (Nat.le_of_ble_eq_true rfl) rfl ?_
        intro w_58 e_59 z_60 ho_61
        have ho_61 : Own _ _ _ [_, _] := ho_61
        have E_62 := Ext.stepO E_50 e_59 (memC (.inr hb_47) mem0)
        have c_63 := Ext.stepO c_51 e_59 (memC (.inr n_48) mem0)
        have h_64 := Rep.extB _ h_52 e_59 (by intro x hx; simp at hx; first | (subst hx; assumption) | (rcases hx with rfl | rfl <;> simp; done) | simp [hx])
        have h_65 := Rep.extB _ h_53 e_59 (by intro x hx; simp at hx; first | (subst hx; assumption) | (rcases hx with rfl | rfl <;> simp; done) | simp [hx])
        have h_66 := Cells.ext h_54 e_59 (fun h => hb_55 (by simp at h; first | (subst h; assumption) | (rcases h with rfl | rfl <;> simp; done) | simp [h]))
        have h_67 := Rep.extB _ h_56 e_59 (by intro x hx; simp at hx; first | (subst hx; assumption) | (rcases hx with rfl | rfl <;> simp; done) | simp [hx])
        have h_68 := h_57.ext e_59 (ninC n_49 nin0)
        refine WL_nil ?_
        refine W_seq ?_
        refine W_region ?_
        refine S_move rfl ?_
        refine S_fieldAddr Try.runUnderlying37 rfl Try.sizeOf3 rfl rfl ?_
        refine S_load1 Try.isAgg3 rfl (ho_61.at rfl) rfl ?_
        refine S_mapUpdate (ky := kInt) Try.runUnderlying40 Try.runUnderlying3 rfl rfl rfl h_68 ?_
        intro w_69 e_70 z_71 hm_72
        have E_73 := Ext.stepO E_62 e_70 (memC (.inr hb_16) mem0)
        have c_74 := Ext.stepO c_63 e_70 (memC (.inl (by simp)) mem0)
        have h_75 := Rep.extB _ h_64 e_70 (by intro x hx; simp at hx; first | (subst hx; assumption) | (rcases hx with rfl | rfl <;> simp; done) | simp [hx])
        have h_76 := Rep.extB _ h_65 e_70 (by intro x hx; simp at hx; first | (subst hx; assumption) | (rcases hx with rfl | rfl <;> simp; done) | simp [hx])
        have h_77 := Cells.ext h_66 e_70 (fun h => hb_55 (by simp at h; first | (subst h; assumption) | (rcases h with rfl | rfl <;> simp; done) | simp [h]))
        have h_78 := Rep.extB _ h_67 e_70 (by intro x hx; simp at hx; first | (subst hx; assumption) | (rcases hx with rfl | rfl <;> simp; done) | simp [hx])
        have h_79 := ho_61.ext e_70 (ninC (Ne.symm n_49) nin0)
        have hm_80 := put_set hm_72
        refine WL_nil ?_
        refine W_seq ?_
        refine W_region ?_
        refine S_fieldAddr Try.runUnderlying37 rfl Try.sizeOf26 rfl rfl ?_
        refine S_load1 Try.isAgg26 rfl (h_79.at rfl) rfl ?_
        refine S_len Try.runUnderlying26 rfl rfl ?_
        refine S_move rfl ?_
        refine WL_nil ?_
        refine W_block ?_
        refine W_loopF [7, 24, 25, 26, 27, 28, 29, 30] (fun m f w => ∃ (j : Int) (S2 : List Int), m = (l[i.toNat].Parents.length - j).toNat ∧ 0 ≤ j ∧ (∀ x, x ∈ S2 ↔ HeadIn l i l[i.toNat].Parents j x) ∧ Ext [] w0 w ∧ Ext ([b_10]) w_69 w ∧ MapAt kInt w b_10 (setL S2) ∧ Live f [(24, .int .i64 j)]) ?_ ?_
        · exact ⟨_, 0, _, rfl, by omega, head_init ‹Right l› q0 _ q2, E_73, (Ext.refl _ _), hm_80, rfl, trivial⟩
        ·
          rintro m g_85 w_81 ⟨j, S2, rfl, u0, u1, E_82, e_83, hm2, hl_84⟩
          refine W_liveM hl_84 rfl ?_
          have c_86 := Ext.stepO c_74 e_83 (memC (.inl (by simp)) mem0)
          have h_87 := Rep.extB _ h_75 e_83 (by intro x hx; simp at hx; first | (subst hx; assumption) | (rcases hx with rfl | rfl <;> simp; done) | simp [hx])
          have h_88 := Rep.extB _ h_76 e_83 (by intro x hx; simp at hx; first | (subst hx; assumption) | (rcases hx with rfl | rfl <;> simp; done) | simp [hx])
          have h_89 := Cells.ext h_77 e_83 (fun h => hb_55 (by simp at h; first | (subst h; assumption) | (rcases h with rfl | rfl <;> simp; done) | simp [h]))
          have h_90 := Rep.extB _ h_78 e_83 (by intro x hx; simp at hx; first | (subst hx; assumption) | (rcases hx with rfl | rfl <;> simp; done) | simp [hx])
          have h_91 := h_79.ext e_83 (ninC (Ne.symm n_49) nin0)
          refine W_seq ?_
          refine W_region ?_
          refine S_lss rfl rfl rfl ?_
          refine WL_nil ?_
          refine W_seq ?_
          refine W_cond rfl (fun h_93 => ?_) (fun h_93 => ?_)
          ·
            have p_94 := h_93
            try simp only [lrn] at p_94
            refine W_skip ?_
            refine W_seq ?_
            refine W_block ?_
            refine W_seq ?_
            refine W_region ?_
            refine S_index Try.runUnderlying26 Try.sizeOf3 h_90 rfl (by omega) (by omega) rfl ?_
            intro b_95 o_96 cs_97 hi_98 hc_99 hb_100 hr_101
            refine S_loadI Try.isAgg3 rfl hc_99 hr_101 rfl ?_
            rintro ⟨r_102, r_103⟩
            refine S_assign rfl ?_
            refine WL_nil ?_
            refine W_region ?_
            refine S_move rfl ?_
            refine S_move rfl ?_
            refine S_delete (ky := kInt) Try.runUnderlying40 Try.runUnderlying3 rfl rfl hm2 ?_
            intro w_104 e_105 z_106 hm_107
            have E_108 := Ext.stepO E_82 e_105 (memC (.inr hb_16) mem0)
            have c_109 := Ext.stepO c_86 e_105 (memC (.inl (by simp)) mem0)
            have c_110 := Ext.stepO e_83 e_105 (memC (.inl (by simp)) mem0)
            have h_111 := Rep.extB _ h_87 e_105 (by intro x hx; simp at hx; first | (subst hx; assumption) | (rcases hx with rfl | rfl <;> simp; done) | simp [hx])
            have h_112 := Rep.extB _ h_88 e_105 (by intro x hx; simp at hx; first | (subst hx; assumption) | (rcases hx with rfl | rfl <;> simp; done) | simp [hx])
            have h_113 := Cells.ext h_89 e_105 (fun h => hb_55 (by simp at h; first | (subst h; assumption) | (rcases h with rfl | rfl <;> simp; done) | simp [h]))
            have h_114 := Rep.extB _ h_90 e_105 (by intro x hx; simp at hx; first | (subst hx; assumption) | (rcases hx with rfl | rfl <;> simp; done) | simp [hx])
            have h_115 := Rep.extB _ hr_101 e_105 (by intro x hx; simp at hx; first | (subst hx; assumption) | (rcases hx with rfl | rfl <;> simp; done) | simp [hx])
            have h_116 := Cells.ext hc_99 e_105 (fun h => hb_100 (by simp at h; first | (subst h; assumption) | (rcases h with rfl | rfl <;> simp; done) | simp [h]))
            have h_117 := h_91.ext e_105 (ninC (Ne.symm n_49) nin0)
            have hm_118 := del_set hm_107
            refine WL_nil ?_
            refine W_region ?_
            refine S_add rfl rfl (by omega) rfl ?_
            refine S_move rfl ?_
            refine WL_nil ?_
            refine ⟨by repeat (first | refine agree_upd rfl ?_ | exact agree_mix rfl agree_refl | refine agree_mix rfl ?_), ?_⟩
            exact ⟨_, by omega, j + 1, _, rfl, by omega, (fun x => by rw [mem_delS, u1, headIn_step u0 (by omega)]), E_108, c_110, hm_118, rfl, trivial⟩
          ·
            have p_119 := h_93
            try simp only [lrn] at p_119
            refine W_exit ?_
            refine W_region ?_
            refine S_add rfl rfl (by omega) rfl ?_
            refine S_move rfl ?_
            refine WL_nil ?_
            refine ⟨by repeat (first | refine agree_upd rfl ?_ | exact agree_mix rfl agree_refl | refine agree_mix rfl ?_), ?_⟩
            exact ⟨_, by omega, i + 1, _, rfl, by omega, by omega, (fun x => (u1 x).trans (headIn_all ‹Right l› q0 _ (by omega) x)), E_82, c_86, hm2, rfl, trivial⟩
      ·
        have p_120 := h_25
        try simp only [lrn] at p_120
        refine W_exit ?_
        refine W_seq ?_
        refine W_region ?_
        refine S_move rfl ?_
        have hB : ∀ x, x ∈ S1 ↔ HeadP l x := fun x => (q2 x).trans (headTo_all (by omega) x)
        have th_121 : ∀ x ∈ S1, There l x := (fun x hx => ((hB x).1 hx).1)
        refine S_call Try.call26 rfl (rising_ok (M := b_10 :: M) (memC (hm1.lt) (fun x hx => Nat.lt_of_lt_of_le (hM x hx) (E_19).size)) hm1 (fun x hx => there_in hl (th_121 x hx)) (set_small hl hm1 th_121)) rfl ?_
        rintro _ w_122 ⟨L_124, A_125, cap_126, rfl, hr_127, hp_128, e_123⟩
        have E_129 := Ext.stepO E_19 e_123 mem0
        have h_130 := Rep.ext _ h_23 e_123
        have h_131 := hm1.ext e_123 nin0
        have hl_132 := rSlice_len hr_127
        refine S_assign rfl ?_
        refine WL_nil ?_
        refine W_ret ?_
        exact ⟨_, _, _, rfl, Rep.mono (M' := M) _ hr_127 (Ext.refl [] _) mem0 (fun x hx => .inl (by simp [hx])), ⟨fun _ => RiseOf.congr hp_128 hB, fun k => absurd ‹Right l› k⟩, E_129⟩
theorem heads_ref_ok {M : List Nat} {w0 : World} {A : Option Addr} {cap : Nat} {l : List Commit} (h : (rSlice rCommit).rd M w0 [.slice A l.length cap] l) (hM : ∀ b ∈ M, b < w0.heap.size) (hl : l.length ≤ 60) :
    CallR Try.prog 15 [.slice A l.length cap] w0 (fun v w' => ∃ L A cap, v = .slice A L.length cap ∧ (rSlice rInt).rd M w' [.slice A L.length cap] L ∧ HeadL l L ∧ Ext [] w0 w') := by
  have ll := rSlice_len h
  refine Call1 Try.func15 rfl rfl rfl rfl ?_
  refine W_seq ?_
  refine W_region ?_
  refine S_assign rfl ?_
  refine WL_nil ?_
  refine W_seq ?_
  refine W_seq ?_
  refine W_region ?_
  refine S_move rfl ?_
  refine S_call Try.call21 rfl (right_ref_ok h) rfl ?_
  rintro _ _ ⟨rfl, hw_1⟩
  obtain rfl := hw_1.symm
  refine S_not rfl rfl ?_
  refine WL_nil ?_
  refine W_cond rfl (fun h_3 => ?_) (fun h_3 => ?_)
  ·
    have h_4 := h_3
    simp only [lrnN] at h_4
    have p_5 := h_4
    try simp only [lrn] at p_5
    refine W_seq ?_
    refine W_region ?_
    refine S_assign rfl ?_
    refine WL_nil ?_
    refine W_ret ?_
    exact ⟨[], _, _, rfl, rd_nil, headL_no ‹¬ Right l›, (Ext.refl [] w0)⟩
  ·
    have h_6 := h_3
    simp only [lrnN] at h_6
    have p_7 := h_6
    try simp only [lrn] at p_7
    refine W_skip ?_
    refine W_seq ?_
    refine W_region ?_
    refine S_assign rfl ?_
    have ha_8 : Acc rInt M w0 (.slice none 0 0) [] [] := Acc.nil
    refine WL_nil ?_
    refine W_seq ?_
    refine W_seq ?_
    refine W_region ?_
    refine S_assign rfl ?_
    refine WL_nil ?_
    refine W_block ?_
    refine W_loopF [3, 4, 5, 6, 7, 11, 12, 13, 14, 15, 16, 17, 18, 19, 20, 21, 22, 23, 24, 25, 26, 27, 28, 29, 30, 31, 32, 33, 34, 35, 36, 37, 38, 39, 40, 41, 42, 43, 44, 45, 46, 47, 48, 49, 50, 51] (fun m f w => ∃ (n : Int) (xs : List Int) (A_9 : Option Addr) (cap_10 : Nat) (bs_11 : List Nat), m = (l.length + 1 - n).toNat ∧ 1 ≤ n ∧ n ≤ l.length + 1 ∧ (xs.length : Int) < n ∧ HeadsTo l n xs ∧ Ext [] w0 w ∧ Ext ([]) w0 w ∧ Acc rInt M w (.slice A_9 xs.length cap_10) xs bs_11 ∧ (∀ b ∈ bs_11, w0.heap.size ≤ b) ∧ (∀ b ∈ bs_11, b ∈ [] ∨ (w0).heap.size ≤ b) ∧ Live f [(4, .int .i64 n), (3, .slice A_9 xs.length cap_10)]) ?_ ?_
    · exact ⟨_, 1, [], _, _, _, rfl, by omega, by omega, by simp, headsTo_zero, (Ext.refl [] w0), (Ext.refl _ _), ha_8, mem0, rel_refl, rfl, rfl, trivial⟩
    ·
      rintro m g_19 w_15 ⟨n, xs, A_9, cap_10, bs_11, rfl, q0, q1, q2, q3, E_16, e_17, ha_12, hb_13, rel_14, hl_18⟩
      refine W_liveM hl_18 rfl ?_
      refine W_seq ?_
      refine W_seq ?_
      refine W_region ?_
      refine S_move rfl ?_
      refine S_move rfl ?_
      refine S_len Try.runUnderlying22 rfl rfl ?_
      refine S_leq rfl rfl rfl ?_
      refine WL_nil ?_
      refine W_cond rfl (fun h_21 => ?_) (fun h_21 => ?_)
      ·
        have p_22 := h_21
        try simp only [lrn] at p_22
        refine W_skip ?_
        refine W_seq ?_
        refine W_block ?_
        refine W_seq ?_
        refine W_region ?_
        refine S_assign rfl ?_
        refine WL_nil ?_
        refine W_seq ?_
        refine W_seq ?_
        refine W_region ?_
        refine S_assign rfl ?_
        refine WL_nil ?_
        refine W_block ?_
        refine W_loopF [5, 6, 7, 17, 18, 19, 20, 21, 22, 23, 24, 25, 26, 27, 28, 29, 30, 31, 32, 33, 34, 35, 36, 37, 38, 39, 40, 41, 42, 43, 44, 45] (fun m f w => ∃ (i : Int) (p : Bool), m = (l.length - i).toNat ∧ 0 ≤ i ∧ p = decide (OnTo l i n) ∧ w_15 = w ∧ Live f [(6, .int .i64 i), (5, .bool p)]) ?_ ?_
        · exact ⟨_, 0, _, rfl, by omega, on0, rfl, rfl, rfl, trivial⟩
        ·
          rintro m g_26 _ ⟨i, p, rfl, s0, s1, rfl, hl_25⟩
          refine W_liveM hl_25 rfl ?_
          refine W_seq ?_
          refine W_seq ?_
          refine W_region ?_
          refine S_move rfl ?_
          refine S_move rfl ?_
          refine S_len Try.runUnderlying22 rfl rfl ?_
          refine S_lss rfl rfl rfl ?_
          refine WL_nil ?_
          refine W_cond rfl (fun h_29 => ?_) (fun h_29 => ?_)
          ·
            have p_30 := h_29
            try simp only [lrn] at p_30
            refine W_skip ?_
            refine W_seq ?_
            refine W_block ?_
            refine W_seq ?_
            refine W_region ?_
            refine S_assign rfl ?_
            refine WL_nil ?_
            refine W_block ?_
            refine W_loopF [5, 7, 23, 24, 25, 26, 27, 28, 29, 30, 31, 32, 33, 34, 35, 36, 37, 38, 39, 40, 41, 42, 43, 44, 45] (fun m f w => ∃ (j : Int) (p2 : Bool), m = (l[i.toNat].Parents.length - j).toNat ∧ 0 ≤ j ∧ p2 = decide (OnIn l i l[i.toNat].Parents j n) ∧ w_15 = w ∧ Live f [(7, .int .i64 j), (5, .bool p2)]) ?_ ?_
            · exact ⟨_, 0, _, rfl, by omega, onIn0 s1, rfl, rfl, rfl, trivial⟩
            ·
              rintro m g_34 _ ⟨j, p2, rfl, u0, u1, rfl, hl_33⟩
              refine W_liveM hl_33 rfl ?_
              refine W_seq ?_
              refine W_seq ?_
              refine W_region ?_
              refine S_move rfl ?_
              refine S_move rfl ?_
              refine S_move rfl ?_
              have h_36 := Rep.ext _ h E_16
              refine S_index Try.runUnderlying22 Try.sizeOf37 h_36 rfl (by omega) (by omega) rfl ?_
              intro b_37 o_38 cs_39 hi_40 hc_41 hb_42 hr_43
              have o_50 := rCommit_cells hc_41 hr_43
              obtain ⟨c_44, c_47, ⟨hc_45, hr_46⟩, ⟨hc_48, hr_49⟩⟩ := o_50
              refine S_fieldAddr Try.runUnderlying37 rfl Try.sizeOf26 rfl rfl ?_
              refine S_loadR Try.isAgg26 rfl hc_48 hr_49 rfl rfl ?_
              intro v_51 h_52
              have o_56 := rSlice_val h_52
              obtain ⟨A_54, cap_55, rfl⟩ := o_56
              have hl_53 := rSlice_len h_52
              refine S_len Try.runUnderlying26 rfl rfl ?_
              refine S_lss rfl rfl rfl ?_
              refine WL_nil ?_
              refine W_cond rfl (fun h_58 => ?_) (fun h_58 => ?_)
              ·
                have p_59 := h_58
                try simp only [lrn] at p_59
                refine W_skip ?_
                refine W_seq ?_
                refine W_block ?_
                refine W_region ?_
                refine S_move rfl ?_
                refine S_move rfl ?_
                refine WL_split (dj := 34) rfl (fun h_60 => ?_) (fun h_60 => ?_)
                ·
                  have p_61 := h_60
                  try simp only [lrn] at p_61
                  refine WL_off rfl rfl rfl (bT h_60) ?_
                  refine WL_off rfl rfl rfl (bT h_60) ?_
                  refine WL_off rfl rfl rfl (bT h_60) ?_
                  refine WL_off rfl rfl rfl (bT h_60) ?_
                  refine WL_off rfl rfl rfl (bT h_60) ?_
                  refine WL_off rfl rfl rfl (bT h_60) ?_
                  refine WL_off rfl rfl rfl (bT h_60) ?_
                  refine WL_off rfl rfl rfl (bT h_60) ?_
                  refine WL_off rfl rfl rfl (bT h_60) ?_
                  refine WL_off rfl rfl rfl (bT h_60) ?_
                  refine S_pick_t (bT h_60) rfl ?_
                  refine S_assign rfl ?_
                  refine WL_nil ?_
                  refine W_region ?_
                  refine S_move rfl ?_
                  refine S_add rfl rfl (by omega) rfl ?_
                  refine S_assign rfl ?_
                  refine WL_nil ?_
                  refine ⟨by repeat (first | refine agree_upd rfl ?_ | exact agree_mix rfl agree_refl | refine agree_mix rfl ?_), ?_⟩
                  exact ⟨_, by omega, j + 1, _, rfl, by omega, by first | exact on1 u1 ‹_› u0 (by omega) | exact on2 u1 ‹_› u0 (by omega), rfl, rfl, rfl, trivial⟩
                ·
                  have p_62 := h_60
                  try simp only [lrn] at p_62
                  refine WL_on rfl rfl (bF h_60) ?_
                  refine S_move rfl ?_
                  refine WL_on rfl rfl (bF h_60) ?_
                  refine S_move rfl ?_
                  refine WL_on rfl rfl (bF h_60) ?_
                  refine S_index Try.runUnderlying22 Try.sizeOf37 h_36 rfl (by omega) (by omega) rfl ?_
                  intro b_63 o_64 cs_65 hi_66 hc_67 hb_68 hr_69
                  refine WL_on rfl rfl (bF h_60) ?_
                  have o_76 := rCommit_cells hc_67 hr_69
                  obtain ⟨c_70, c_73, ⟨hc_71, hr_72⟩, ⟨hc_74, hr_75⟩⟩ := o_76
                  refine S_fieldAddr Try.runUnderlying37 rfl Try.sizeOf26 rfl rfl ?_
                  refine WL_on rfl rfl (bF h_60) ?_
                  refine S_loadR Try.isAgg26 rfl hc_74 hr_75 rfl rfl ?_
                  intro v_77 h_78
                  have o_82 := rSlice_val h_78
                  obtain ⟨A_80, cap_81, rfl⟩ := o_82
                  have hl_79 := rSlice_len h_78
                  refine WL_on rfl rfl (bF h_60) ?_
                  refine S_move rfl ?_
                  refine WL_on rfl rfl (bF h_60) ?_
                  refine S_index Try.runUnderlying26 Try.sizeOf3 h_78 rfl (by omega) (by omega) rfl ?_
                  intro b_83 o_84 cs_85 hi_86 hc_87 hb_88 hr_89
                  refine WL_on rfl rfl (bF h_60) ?_
                  refine S_loadI Try.isAgg3 rfl hc_87 hr_89 rfl ?_
                  rintro ⟨r_90, r_91⟩
                  refine WL_on rfl rfl (bF h_60) ?_
                  refine S_move rfl ?_
                  refine WL_on rfl rfl (bF h_60) ?_
                  refine S_eql rfl rfl rfl ?_
                  refine S_pick_f (bF h_60) rfl ?_
                  refine S_assign rfl ?_
                  refine WL_nil ?_
                  refine W_region ?_
                  refine S_move rfl ?_
                  refine S_add rfl rfl (by omega) rfl ?_
                  refine S_assign rfl ?_
                  refine WL_nil ?_
                  refine ⟨by repeat (first | refine agree_upd rfl ?_ | exact agree_mix rfl agree_refl | refine agree_mix rfl ?_), ?_⟩
                  exact ⟨_, by omega, j + 1, _, rfl, by omega, by first | exact on1 u1 ‹_› u0 (by omega) | exact on2 u1 ‹_› u0 (by omega), rfl, rfl, rfl, trivial⟩
              ·
                have p_93 := h_58
                try simp only [lrn] at p_93
                refine W_exit ?_
                refine W_region ?_
                refine S_move rfl ?_
                refine S_add rfl rfl (by omega) rfl ?_
                refine S_assign rfl ?_
                refine WL_nil ?_
                refine ⟨by repeat (first | refine agree_upd rfl ?_ | exact agree_mix rfl agree_refl | refine agree_mix rfl ?_), ?_⟩
                exact ⟨_, by omega, i + 1, _, rfl, by omega, onIn_all s0 _ u1 (by omega), rfl, rfl, rfl, trivial⟩
          ·
            have p_94 := h_29
            try simp only [lrn] at p_94
            refine W_exit ?_
            refine W_seq ?_
            refine W_region ?_
            refine S_move rfl ?_
            refine S_not rfl rfl ?_
            refine WL_nil ?_
            refine W_cond rfl (fun h_95 => ?_) (fun h_95 => ?_)
            ·
              have h_96 := h_95
              simp only [lrnN] at h_96
              have p_97 := h_96
              try simp only [lrn] at p_97
              refine W_region ?_
              refine S_move rfl ?_
              refine S_move rfl ?_
              refine S_buildSlice Try.runUnderlying26 Try.sizeOf3 Try.zeroValue3 rfl rfl rfl rfl rfl rfl rfl ?_
              intro b_98 w_99 e_100 z_101 z_102 ho_103
              have hb_104 : w0.heap.size ≤ b_98 := by have := (E_16).size; omega
              have n_105 : (w0).heap.size ≤ b_98 := by have := (e_17).size; omega
              have n_106 : b_98 ∉ bs_11 := fun h => by have := Acc.bs_lt ha_12 _ h; omega
              have E_107 := Ext.stepO E_16 e_100 mem0
              have c_108 := Ext.stepO e_17 e_100 mem0
              have h_109 := Acc.ext (Acc.weak ha_12 (cons_fresh z_101)) e_100 mem0
              have ho_103 : Own _ _ _ [_] := ho_103
              have h_110 := Acc.weak (M' := M) h_109 (fun x hx => .inl (List.mem_cons_of_mem _ hx))
              have hr_111 := rd_ints (xs := [_]) (M := bs_11 ++ M) ho_103 (ninA n_106 (notin_old hM hb_104)) (by simp [InI]; omega) (by simp)
              refine S_append Try.runUnderlying26 Try.typeInfo3 Try.sizeOf3 Try.zeroValue3 rfl h_110 hr_111 (by show _ * 8 ≤ _; simp; omega) (by decide) (fun x hx => Nat.lt_of_lt_of_le (hM x hx) (E_107).size) rfl ?_
              intro v_112 w_113 bs_114 ha_115 e_116 hf_117
              have hb_118 := fresh_bs hf_117 hb_13 (E_107).size
              have rel_119 := rel_step hf_117 rel_14 (c_108).size
              have E_120 := Ext.stepO E_107 e_116 (fun x hx => .inr (hb_13 x hx))
              have c_121 := Ext.stepO c_108 e_116 (fun x hx => (rel_14 x hx).imp (fun h => by first | exact h | (cases h; done) | simp [h]) id)
              have o_124 := Acc.val ha_115
              obtain ⟨A_122, cap_123, rfl⟩ := o_124
              refine S_assign rfl ?_
              refine WL_nil ?_
              refine W_region ?_
              refine S_move rfl ?_
              refine S_add rfl rfl (by omega) rfl ?_
              refine S_assign rfl ?_
              refine WL_nil ?_
              refine ⟨by repeat (first | refine agree_upd rfl ?_ | exact agree_mix rfl agree_refl | refine agree_mix rfl ?_), ?_⟩
              exact ⟨_, by omega, n + 1, _, _, _, _, rfl, by omega, by omega, by first | omega | (simp; omega), by first | exact heads_add q3 s1 (by omega) ⟨by omega, by omega⟩ ‹_› | exact heads_skip q3 s1 (by omega) ⟨by omega, by omega⟩ ‹_›, E_120, c_121, ha_115, hb_118, rel_119, rfl, rfl, trivial⟩
            ·
              have h_125 := h_95
              simp only [lrnN] at h_125
              have p_126 := h_125
              try simp only [lrn] at p_126
              refine W_skip ?_
              refine W_region ?_
              refine S_move rfl ?_
              refine S_add rfl rfl (by omega) rfl ?_
              refine S_assign rfl ?_
              refine WL_nil ?_
              refine ⟨by repeat (first | refine agree_upd rfl ?_ | exact agree_mix rfl agree_refl | refine agree_mix rfl ?_), ?_⟩
              exact ⟨_, by omega, n + 1, _, _, _, _, rfl, by omega, by omega, by first | omega | (simp; omega), by first | exact heads_add q3 s1 (by omega) ⟨by omega, by omega⟩ ‹_› | exact heads_skip q3 s1 (by omega) ⟨by omega, by omega⟩ ‹_›, E_16, e_17, ha_12, hb_13, rel_14, rfl, rfl, trivial⟩
      ·
        have p_127 := h_21
        try simp only [lrn] at p_127
        refine W_exit ?_
        refine W_seq ?_
        refine W_region ?_
        refine S_move rfl ?_
        refine S_assign rfl ?_
        refine WL_nil ?_
        refine W_ret ?_
        exact ⟨_, _, _, rfl, Acc.rd ha_12 (by omega), headsTo_all ‹Right l› q3 (by omega), E_16⟩
end Go.Proofs.Ytpgegnmaophapaa
