/- The walks of a history's functions, printed by program. -/
import Derived.Test.YtpgegnmaophapaaW6
namespace Go.Proofs.Ytpgegnmaophapaa
open Go.Wk Classical
theorem heads_ok {M : List Nat} {w0 : World} {A : Option Addr} {cap : Nat} {l : List Commit} (h : (rSlice rCommit).rd M w0 [.slice A l.length cap] l) (hM : ∀ b ∈ M, b < w0.heap.size) (hl : l.length ≤ 60) :
    CallR Try.prog 14 [.slice A l.length cap] w0 (fun v w' => ∃ L A cap, v = .slice A L.length cap ∧ (rSlice rInt).rd M w' [.slice A L.length cap] L ∧ HeadL l L ∧ Ext [] w0 w') := by
  have ll := rSlice_len h
  refine Call1 Try.func14 rfl rfl rfl rfl ?_
  refine W_seq ?_
  refine W_region ?_
  refine S_assign rfl ?_
  refine WL_nil ?_
  refine W_seq ?_
  refine W_seq ?_
  refine W_region ?_
  refine S_move rfl ?_
  have hz_3 := right_ok h
  refine S_callE Try.call20 rfl hz_3 rfl ?_
  intro w_1 e_2
  have E_4 := Ext.stepO (Ext.refl [] w0) e_2 mem0
  refine S_not rfl rfl ?_
  refine WL_nil ?_
  refine W_cond rfl (fun h_6 => ?_) (fun h_6 => ?_)
  ·
    have h_7 := h_6
    simp only [lrnN] at h_7
    have p_8 := h_7
    try simp only [lrn] at p_8
    refine W_seq ?_
    refine W_region ?_
    refine S_assign rfl ?_
    refine WL_nil ?_
    refine W_ret ?_
    exact ⟨[], _, _, rfl, rd_nil, headL_no ‹¬ Right l›, E_4⟩
  ·
    have h_9 := h_6
    simp only [lrnN] at h_9
    have p_10 := h_9
    try simp only [lrn] at p_10
    refine W_skip ?_
    refine W_seq ?_
    refine W_region ?_
    refine S_makeMap (ky := kInt) rfl ?_
    intro b_11 w_12 e_13 z_14 z_15 hm_16
    have hb_17 : w0.heap.size ≤ b_11 := by have := (E_4).size; omega
    have E_18 := Ext.stepO E_4 e_13 mem0
    refine S_assign rfl ?_
    refine WL_nil ?_
    refine W_seq ?_
    refine W_seq ?_
    refine W_region ?_
    have hZ := Rep.mono (M' := b_11 :: M) _ h E_18 mem0 (memC (.inr hb_17) (fun x hx => .inl hx))
    refine S_move rfl ?_
    refine S_len Try.runUnderlying22 rfl rfl ?_
    refine S_move rfl ?_
    refine WL_nil ?_
    refine W_block ?_
    refine W_loopF [5, 7, 14, 15, 16, 17, 18, 19, 20, 21, 22, 23, 24, 25, 26, 27, 28, 29, 30, 31] (fun m f w => ∃ (i : Int) (S1 : List Int), m = (l.length - i).toNat ∧ 0 ≤ i ∧ i ≤ l.length ∧ (∀ x, x ∈ S1 ↔ HeadTo l i x) ∧ Ext [] w0 w ∧ Ext ([b_11]) w_12 w ∧ MapAt kInt w b_11 (setL S1) ∧ Live f [(14, .int .i64 i)]) ?_ ?_
    · exact ⟨_, 0, [], rfl, by omega, by omega, (fun x => by simp [headTo_zero]), E_18, (Ext.refl _ _), hm_16, rfl, trivial⟩
    ·
      rintro m g_23 w_19 ⟨i, S1, rfl, q0, q1, q2, E_20, e_21, hm1, hl_22⟩
      refine W_liveM hl_22 rfl ?_
      have h_24 := Rep.extB _ hZ e_21 (by intro x hx; first | (simp [hx]; done) | (simp at hx; first | (subst hx; assumption) | (rcases hx with rfl | rfl <;> simp; done) | simp [hx]))
      refine W_seq ?_
      refine W_region ?_
      refine S_lss rfl rfl rfl ?_
      refine WL_nil ?_
      refine W_seq ?_
      refine W_cond rfl (fun h_26 => ?_) (fun h_26 => ?_)
      ·
        have p_27 := h_26
        try simp only [lrn] at p_27
        refine W_skip ?_
        refine W_seq ?_
        refine W_block ?_
        refine W_seq ?_
        refine W_region ?_
        refine S_index Try.runUnderlying22 Try.sizeOf37 h_24 rfl (by omega) (by omega) rfl ?_
        intro b_28 o_29 cs_30 hi_31 hc_32 hb_33 hr_34
        have o_40 := rCommit_open hr_34
        obtain ⟨A_37, cap_38, rfl, ⟨r_35, r_36⟩, h_39⟩ := o_40
        have hl_41 := rSlice_len h_39
        refine S_loadAgg Try.isAgg37 Try.sizeOf37 rfl rfl hc_32 rfl ?_
        refine S_alloc Try.zeroValue37 rfl ?_
        intro b_42 w_43 e_44 z_45 z_46 ho_47
        have hb_48 : w0.heap.size ≤ b_42 := by have := (E_20).size; omega
        have n_49 : (w_12).heap.size ≤ b_42 := by have := (e_21).size; omega
        have n_50 : b_11 ≠ b_42 := by have := hm1.lt; omega
        have E_51 := Ext.stepO E_20 e_44 mem0
        have c_52 := Ext.stepO e_21 e_44 mem0
        have h_53 := Rep.mono (M' := b_42 :: (b_11 :: M)) _ h_24 e_44 mem0 (cons_fresh z_45)
        have h_54 := Rep.mono (M' := b_42 :: (b_11 :: M)) _ hr_34 e_44 mem0 (cons_fresh z_45)
        have hb_56 : b_28 ∉ b_42 :: (b_11 :: M) := ninC (by have := Cells.lt hc_32; omega) hb_33
        have h_55 := Cells.ext hc_32 e_44 nin0
        have h_57 := Rep.mono (M' := b_42 :: (b_11 :: M)) _ h_39 e_44 mem0 (cons_fresh z_45)
        have h_58 := hm1.ext e_44 nin0
        have ho_47 : Own _ _ _ [_, _] := ho_47
        refine S_store Try.sizeOf37 rfl rfl rfl ho_47 (Nat.le_of_ble_eq_true rfl) rfl ?_
        intro w_59 e_60 z_61 ho_62
        have ho_62 : Own _ _ _ [_, _] := ho_62
        have E_63 := Ext.stepO E_51 e_60 (memC (.inr hb_48) mem0)
        have c_64 := Ext.stepO c_52 e_60 (memC (.inr n_49) mem0)
        have h_65 := Rep.extB _ h_53 e_60 (by intro x hx; first | (simp [hx]; done) | (simp at hx; first | (subst hx; assumption) | (rcases hx with rfl | rfl <;> simp; done) | simp [hx]))
        have h_66 := Rep.extB _ h_54 e_60 (by intro x hx; first | (simp [hx]; done) | (simp at hx; first | (subst hx; assumption) | (rcases hx with rfl | rfl <;> simp; done) | simp [hx]))
        have h_67 := Cells.ext h_55 e_60 (fun h => hb_56 (by simp at h; first | (subst h; assumption) | (rcases h with rfl | rfl <;> simp; done) | simp [h]))
        have h_68 := Rep.extB _ h_57 e_60 (by intro x hx; first | (simp [hx]; done) | (simp at hx; first | (subst hx; assumption) | (rcases hx with rfl | rfl <;> simp; done) | simp [hx]))
        have h_69 := h_58.ext e_60 (ninC n_50 nin0)
        refine WL_nil ?_
        refine W_seq ?_
        refine W_region ?_
        refine S_move rfl ?_
        refine S_fieldAddr Try.runUnderlying37 rfl Try.sizeOf3 rfl rfl ?_
        refine S_load1 Try.isAgg3 rfl (ho_62.at rfl) rfl ?_
        refine S_mapUpdate (ky := kInt) Try.runUnderlying40 Try.runUnderlying3 rfl rfl rfl h_69 ?_
        intro w_70 e_71 z_72 hm_73
        have E_74 := Ext.stepO E_63 e_71 (memC (.inr hb_17) mem0)
        have c_75 := Ext.stepO c_64 e_71 (memC (.inl (by simp)) mem0)
        have h_76 := Rep.extB _ h_65 e_71 (by intro x hx; first | (simp [hx]; done) | (simp at hx; first | (subst hx; assumption) | (rcases hx with rfl | rfl <;> simp; done) | simp [hx]))
        have h_77 := Rep.extB _ h_66 e_71 (by intro x hx; first | (simp [hx]; done) | (simp at hx; first | (subst hx; assumption) | (rcases hx with rfl | rfl <;> simp; done) | simp [hx]))
        have h_78 := Cells.ext h_67 e_71 (fun h => hb_56 (by simp at h; first | (subst h; assumption) | (rcases h with rfl | rfl <;> simp; done) | simp [h]))
        have h_79 := Rep.extB _ h_68 e_71 (by intro x hx; first | (simp [hx]; done) | (simp at hx; first | (subst hx; assumption) | (rcases hx with rfl | rfl <;> simp; done) | simp [hx]))
        have h_80 := ho_62.ext e_71 (ninC (Ne.symm n_50) nin0)
        have hm_81 := put_set hm_73
        refine WL_nil ?_
        refine W_seq ?_
        refine W_region ?_
        refine S_fieldAddr Try.runUnderlying37 rfl Try.sizeOf26 rfl rfl ?_
        refine S_load1 Try.isAgg26 rfl (h_80.at rfl) rfl ?_
        refine S_len Try.runUnderlying26 rfl rfl ?_
        refine S_move rfl ?_
        refine WL_nil ?_
        refine W_block ?_
        refine W_loopF [7, 24, 25, 26, 27, 28, 29, 30] (fun m f w => ∃ (j : Int) (S2 : List Int), m = (l[i.toNat].Parents.length - j).toNat ∧ 0 ≤ j ∧ (∀ x, x ∈ S2 ↔ HeadIn l i l[i.toNat].Parents j x) ∧ Ext [] w0 w ∧ Ext ([b_11]) w_70 w ∧ MapAt kInt w b_11 (setL S2) ∧ Live f [(24, .int .i64 j)]) ?_ ?_
        · exact ⟨_, 0, _, rfl, by omega, head_init ‹Right l› q0 _ q2, E_74, (Ext.refl _ _), hm_81, rfl, trivial⟩
        ·
          rintro m g_86 w_82 ⟨j, S2, rfl, u0, u1, E_83, e_84, hm2, hl_85⟩
          refine W_liveM hl_85 rfl ?_
          have c_87 := Ext.stepO c_75 e_84 (memC (.inl (by simp)) mem0)
          have h_88 := Rep.extB _ h_76 e_84 (by intro x hx; first | (simp [hx]; done) | (simp at hx; first | (subst hx; assumption) | (rcases hx with rfl | rfl <;> simp; done) | simp [hx]))
          have h_89 := Rep.extB _ h_77 e_84 (by intro x hx; first | (simp [hx]; done) | (simp at hx; first | (subst hx; assumption) | (rcases hx with rfl | rfl <;> simp; done) | simp [hx]))
          have h_90 := Cells.ext h_78 e_84 (fun h => hb_56 (by simp at h; first | (subst h; assumption) | (rcases h with rfl | rfl <;> simp; done) | simp [h]))
          have h_91 := Rep.extB _ h_79 e_84 (by intro x hx; first | (simp [hx]; done) | (simp at hx; first | (subst hx; assumption) | (rcases hx with rfl | rfl <;> simp; done) | simp [hx]))
          have h_92 := h_80.ext e_84 (ninC (Ne.symm n_50) nin0)
          refine W_seq ?_
          refine W_region ?_
          refine S_lss rfl rfl rfl ?_
          refine WL_nil ?_
          refine W_seq ?_
          refine W_cond rfl (fun h_94 => ?_) (fun h_94 => ?_)
          ·
            have p_95 := h_94
            try simp only [lrn] at p_95
            refine W_skip ?_
            refine W_seq ?_
            refine W_block ?_
            refine W_seq ?_
            refine W_region ?_
            refine S_index Try.runUnderlying26 Try.sizeOf3 h_91 rfl (by omega) (by omega) rfl ?_
            intro b_96 o_97 cs_98 hi_99 hc_100 hb_101 hr_102
            refine S_loadI Try.isAgg3 rfl hc_100 hr_102 rfl ?_
            rintro ⟨r_103, r_104⟩
            refine S_assign rfl ?_
            refine WL_nil ?_
            refine W_region ?_
            refine S_move rfl ?_
            refine S_move rfl ?_
            refine S_delete (ky := kInt) Try.runUnderlying40 Try.runUnderlying3 rfl rfl hm2 ?_
            intro w_105 e_106 z_107 hm_108
            have E_109 := Ext.stepO E_83 e_106 (memC (.inr hb_17) mem0)
            have c_110 := Ext.stepO c_87 e_106 (memC (.inl (by simp)) mem0)
            have c_111 := Ext.stepO e_84 e_106 (memC (.inl (by simp)) mem0)
            have h_112 := Rep.extB _ h_88 e_106 (by intro x hx; first | (simp [hx]; done) | (simp at hx; first | (subst hx; assumption) | (rcases hx with rfl | rfl <;> simp; done) | simp [hx]))
            have h_113 := Rep.extB _ h_89 e_106 (by intro x hx; first | (simp [hx]; done) | (simp at hx; first | (subst hx; assumption) | (rcases hx with rfl | rfl <;> simp; done) | simp [hx]))
            have h_114 := Cells.ext h_90 e_106 (fun h => hb_56 (by simp at h; first | (subst h; assumption) | (rcases h with rfl | rfl <;> simp; done) | simp [h]))
            have h_115 := Rep.extB _ h_91 e_106 (by intro x hx; first | (simp [hx]; done) | (simp at hx; first | (subst hx; assumption) | (rcases hx with rfl | rfl <;> simp; done) | simp [hx]))
            have h_116 := Rep.extB _ hr_102 e_106 (by intro x hx; first | (simp [hx]; done) | (simp at hx; first | (subst hx; assumption) | (rcases hx with rfl | rfl <;> simp; done) | simp [hx]))
            have h_117 := Cells.ext hc_100 e_106 (fun h => hb_101 (by simp at h; first | (subst h; assumption) | (rcases h with rfl | rfl <;> simp; done) | simp [h]))
            have h_118 := h_92.ext e_106 (ninC (Ne.symm n_50) nin0)
            have hm_119 := del_set hm_108
            refine WL_nil ?_
            refine W_region ?_
            refine S_add rfl rfl (by omega) rfl ?_
            refine S_move rfl ?_
            refine WL_nil ?_
            refine ⟨by repeat (first | refine agree_upd rfl ?_ | exact agree_mix rfl agree_refl | refine agree_mix rfl ?_), ?_⟩
            exact ⟨_, by omega, j + 1, _, rfl, by omega, (fun x => by rw [mem_delS, u1, headIn_step u0 (by omega)]), E_109, c_111, hm_119, rfl, trivial⟩
          ·
            have p_120 := h_94
            try simp only [lrn] at p_120
            refine W_exit ?_
            refine W_region ?_
            refine S_add rfl rfl (by omega) rfl ?_
            refine S_move rfl ?_
            refine WL_nil ?_
            refine ⟨by repeat (first | refine agree_upd rfl ?_ | exact agree_mix rfl agree_refl | refine agree_mix rfl ?_), ?_⟩
            exact ⟨_, by omega, i + 1, _, rfl, by omega, by omega, (fun x => (u1 x).trans (headIn_all ‹Right l› q0 _ (by omega) x)), E_83, c_87, hm2, rfl, trivial⟩
      ·
        have p_121 := h_26
        try simp only [lrn] at p_121
        refine W_exit ?_
        refine W_seq ?_
        refine W_region ?_
        refine S_move rfl ?_
        have hB : ∀ x, x ∈ S1 ↔ HeadP l x := fun x => (q2 x).trans (headTo_all (by omega) x)
        have th_122 : ∀ x ∈ S1, There l x := (fun x hx => ((hB x).1 hx).1)
        refine S_call Try.call26 rfl (rising_ok (M := b_11 :: M) (memC (hm1.lt) (fun x hx => Nat.lt_of_lt_of_le (hM x hx) (E_20).size)) hm1 (fun x hx => there_in hl (th_122 x hx)) (set_small hl hm1 th_122)) rfl ?_
        rintro _ w_123 ⟨L_125, A_126, cap_127, rfl, hr_128, hp_129, e_124⟩
        have E_130 := Ext.stepO E_20 e_124 mem0
        have h_131 := Rep.ext _ h_24 e_124
        have h_132 := hm1.ext e_124 nin0
        have hl_133 := rSlice_len hr_128
        refine S_assign rfl ?_
        refine WL_nil ?_
        refine W_ret ?_
        exact ⟨_, _, _, rfl, Rep.mono (M' := M) _ hr_128 (Ext.refl [] _) mem0 (fun x hx => .inl (by simp [hx])), ⟨fun _ => RiseOf.congr hp_129 hB, fun k => absurd ‹Right l› k⟩, E_130⟩
theorem heads_ref_ok {M : List Nat} {w0 : World} {A : Option Addr} {cap : Nat} {l : List Commit} (h : (rSlice rCommit).rd M w0 [.slice A l.length cap] l) (hM : ∀ b ∈ M, b < w0.heap.size) (hl : l.length ≤ 60) :
    CallR Try.prog 15 [.slice A l.length cap] w0 (fun v w' => ∃ L A cap, v = .slice A L.length cap ∧ (rSlice rInt).rd M w' [.slice A L.length cap] L ∧ HeadL l L ∧ Ext [] w0 w') := by
  have ll := rSlice_len h
  refine Call1 Try.func15 rfl rfl rfl rfl ?_
  refine W_seq ?_
  refine W_region ?_
  refine S_assign rfl ?_
  refine WL_nil ?_
  refine W_seq ?_
  refine W_seq ?_
  refine W_region ?_
  refine S_move rfl ?_
  refine S_callQ Try.call21 rfl (right_ref_ok h) rfl ?_
  refine S_not rfl rfl ?_
  refine WL_nil ?_
  refine W_cond rfl (fun h_2 => ?_) (fun h_2 => ?_)
  ·
    have h_3 := h_2
    simp only [lrnN] at h_3
    have p_4 := h_3
    try simp only [lrn] at p_4
    refine W_seq ?_
    refine W_region ?_
    refine S_assign rfl ?_
    refine WL_nil ?_
    refine W_ret ?_
    exact ⟨[], _, _, rfl, rd_nil, headL_no ‹¬ Right l›, (Ext.refl [] w0)⟩
  ·
    have h_5 := h_2
    simp only [lrnN] at h_5
    have p_6 := h_5
    try simp only [lrn] at p_6
    refine W_skip ?_
    refine W_seq ?_
    refine W_region ?_
    refine S_assign rfl ?_
    have ha_7 : Acc rInt M w0 (.slice none 0 0) [] [] := Acc.nil
    refine WL_nil ?_
    refine W_seq ?_
    refine W_seq ?_
    refine W_region ?_
    refine S_assign rfl ?_
    refine WL_nil ?_
    refine W_block ?_
    refine W_loopF [3, 4, 5, 6, 7, 11, 12, 13, 14, 15, 16, 17, 18, 19, 20, 21, 22, 23, 24, 25, 26, 27, 28, 29, 30, 31, 32, 33, 34, 35, 36, 37, 38, 39, 40, 41, 42, 43, 44, 45, 46, 47, 48, 49, 50, 51] (fun m f w => ∃ (n : Int) (xs : List Int) (A_8 : Option Addr) (cap_9 : Nat) (bs_10 : List Nat), m = (l.length + 1 - n).toNat ∧ 1 ≤ n ∧ n ≤ l.length + 1 ∧ (xs.length : Int) < n ∧ HeadsTo l n xs ∧ Ext [] w0 w ∧ Ext ([]) w0 w ∧ Acc rInt M w (.slice A_8 xs.length cap_9) xs bs_10 ∧ (∀ b ∈ bs_10, w0.heap.size ≤ b) ∧ (∀ b ∈ bs_10, b ∈ [] ∨ (w0).heap.size ≤ b) ∧ Live f [(4, .int .i64 n), (3, .slice A_8 xs.length cap_9)]) ?_ ?_
    · exact ⟨_, 1, [], _, _, _, rfl, by omega, by omega, by simp, headsTo_zero, (Ext.refl [] w0), (Ext.refl _ _), ha_7, mem0, rel_refl, rfl, rfl, trivial⟩
    ·
      rintro m g_18 w_14 ⟨n, xs, A_8, cap_9, bs_10, rfl, q0, q1, q2, q3, E_15, e_16, ha_11, hb_12, rel_13, hl_17⟩
      refine W_liveM hl_17 rfl ?_
      refine W_seq ?_
      refine W_seq ?_
      refine W_region ?_
      refine S_move rfl ?_
      refine S_move rfl ?_
      refine S_len Try.runUnderlying22 rfl rfl ?_
      refine S_leq rfl rfl rfl ?_
      refine WL_nil ?_
      refine W_cond rfl (fun h_20 => ?_) (fun h_20 => ?_)
      ·
        have p_21 := h_20
        try simp only [lrn] at p_21
        refine W_skip ?_
        refine W_seq ?_
        refine W_block ?_
        refine W_seq ?_
        refine W_region ?_
        refine S_assign rfl ?_
        refine WL_nil ?_
        refine W_seq ?_
        refine W_seq ?_
        refine W_region ?_
        refine S_assign rfl ?_
        refine WL_nil ?_
        refine W_block ?_
        refine W_loopF [5, 6, 7, 17, 18, 19, 20, 21, 22, 23, 24, 25, 26, 27, 28, 29, 30, 31, 32, 33, 34, 35, 36, 37, 38, 39, 40, 41, 42, 43, 44, 45] (fun m f w => ∃ (i : Int) (p : Bool), m = (l.length - i).toNat ∧ 0 ≤ i ∧ p = decide (OnTo l i n) ∧ w_14 = w ∧ Live f [(6, .int .i64 i), (5, .bool p)]) ?_ ?_
        · exact ⟨_, 0, _, rfl, by omega, on0, rfl, rfl, rfl, trivial⟩
        ·
          rintro m g_25 _ ⟨i, p, rfl, s0, s1, rfl, hl_24⟩
          refine W_liveM hl_24 rfl ?_
          refine W_seq ?_
          refine W_seq ?_
          refine W_region ?_
          refine S_move rfl ?_
          refine S_move rfl ?_
          refine S_len Try.runUnderlying22 rfl rfl ?_
          refine S_lss rfl rfl rfl ?_
          refine WL_nil ?_
          refine W_cond rfl (fun h_28 => ?_) (fun h_28 => ?_)
          ·
            have p_29 := h_28
            try simp only [lrn] at p_29
            refine W_skip ?_
            refine W_seq ?_
            refine W_block ?_
            refine W_seq ?_
            refine W_region ?_
            refine S_assign rfl ?_
            refine WL_nil ?_
            refine W_block ?_
            refine W_loopF [5, 7, 23, 24, 25, 26, 27, 28, 29, 30, 31, 32, 33, 34, 35, 36, 37, 38, 39, 40, 41, 42, 43, 44, 45] (fun m f w => ∃ (j : Int) (p2 : Bool), m = (l[i.toNat].Parents.length - j).toNat ∧ 0 ≤ j ∧ p2 = decide (OnIn l i l[i.toNat].Parents j n) ∧ w_14 = w ∧ Live f [(7, .int .i64 j), (5, .bool p2)]) ?_ ?_
            · exact ⟨_, 0, _, rfl, by omega, onIn0 s1, rfl, rfl, rfl, trivial⟩
            ·
              rintro m g_33 _ ⟨j, p2, rfl, u0, u1, rfl, hl_32⟩
              refine W_liveM hl_32 rfl ?_
              refine W_seq ?_
              refine W_seq ?_
              refine W_region ?_
              refine S_move rfl ?_
              refine S_move rfl ?_
              refine S_move rfl ?_
              have h_35 := Rep.ext _ h E_15
              refine S_index Try.runUnderlying22 Try.sizeOf37 h_35 rfl (by omega) (by omega) rfl ?_
              intro b_36 o_37 cs_38 hi_39 hc_40 hb_41 hr_42
              have o_49 := rCommit_cells hc_40 hr_42
              obtain ⟨c_43, c_46, ⟨hc_44, hr_45⟩, ⟨hc_47, hr_48⟩⟩ := o_49
              refine S_fieldAddr Try.runUnderlying37 rfl Try.sizeOf26 rfl rfl ?_
              refine S_loadR Try.isAgg26 rfl hc_47 hr_48 rfl rfl ?_
              intro v_50 h_51
              have o_55 := rSlice_val h_51
              obtain ⟨A_53, cap_54, rfl⟩ := o_55
              have hl_52 := rSlice_len h_51
              refine S_len Try.runUnderlying26 rfl rfl ?_
              refine S_lss rfl rfl rfl ?_
              refine WL_nil ?_
              refine W_cond rfl (fun h_57 => ?_) (fun h_57 => ?_)
              ·
                have p_58 := h_57
                try simp only [lrn] at p_58
                refine W_skip ?_
                refine W_seq ?_
                refine W_block ?_
                refine W_region ?_
                refine S_move rfl ?_
                refine S_move rfl ?_
                refine WL_split (dj := 34) rfl (fun h_59 => ?_) (fun h_59 => ?_)
                ·
                  have p_60 := h_59
                  try simp only [lrn] at p_60
                  refine WL_off rfl rfl rfl (bT h_59) ?_
                  refine WL_off rfl rfl rfl (bT h_59) ?_
                  refine WL_off rfl rfl rfl (bT h_59) ?_
                  refine WL_off rfl rfl rfl (bT h_59) ?_
                  refine WL_off rfl rfl rfl (bT h_59) ?_
                  refine WL_off rfl rfl rfl (bT h_59) ?_
                  refine WL_off rfl rfl rfl (bT h_59) ?_
                  refine WL_off rfl rfl rfl (bT h_59) ?_
                  refine WL_off rfl rfl rfl (bT h_59) ?_
                  refine WL_off rfl rfl rfl (bT h_59) ?_
                  refine S_pick_t (bT h_59) rfl ?_
                  refine S_assign rfl ?_
                  refine WL_nil ?_
                  refine W_region ?_
                  refine S_move rfl ?_
                  refine S_add rfl rfl (by omega) rfl ?_
                  refine S_assign rfl ?_
                  refine WL_nil ?_
                  refine ⟨by repeat (first | refine agree_upd rfl ?_ | exact agree_mix rfl agree_refl | refine agree_mix rfl ?_), ?_⟩
                  exact ⟨_, by omega, j + 1, _, rfl, by omega, by first | exact on1 u1 ‹_› u0 (by omega) | exact on2 u1 ‹_› u0 (by omega), rfl, rfl, rfl, trivial⟩
                ·
                  have p_61 := h_59
                  try simp only [lrn] at p_61
                  refine WL_on rfl rfl (bF h_59) ?_
                  refine S_move rfl ?_
                  refine WL_on rfl rfl (bF h_59) ?_
                  refine S_move rfl ?_
                  refine WL_on rfl rfl (bF h_59) ?_
                  refine S_index Try.runUnderlying22 Try.sizeOf37 h_35 rfl (by omega) (by omega) rfl ?_
                  intro b_62 o_63 cs_64 hi_65 hc_66 hb_67 hr_68
                  refine WL_on rfl rfl (bF h_59) ?_
                  have o_75 := rCommit_cells hc_66 hr_68
                  obtain ⟨c_69, c_72, ⟨hc_70, hr_71⟩, ⟨hc_73, hr_74⟩⟩ := o_75
                  refine S_fieldAddr Try.runUnderlying37 rfl Try.sizeOf26 rfl rfl ?_
                  refine WL_on rfl rfl (bF h_59) ?_
                  refine S_loadR Try.isAgg26 rfl hc_73 hr_74 rfl rfl ?_
                  intro v_76 h_77
                  have o_81 := rSlice_val h_77
                  obtain ⟨A_79, cap_80, rfl⟩ := o_81
                  have hl_78 := rSlice_len h_77
                  refine WL_on rfl rfl (bF h_59) ?_
                  refine S_move rfl ?_
                  refine WL_on rfl rfl (bF h_59) ?_
                  refine S_index Try.runUnderlying26 Try.sizeOf3 h_77 rfl (by omega) (by omega) rfl ?_
                  intro b_82 o_83 cs_84 hi_85 hc_86 hb_87 hr_88
                  refine WL_on rfl rfl (bF h_59) ?_
                  refine S_loadI Try.isAgg3 rfl hc_86 hr_88 rfl ?_
                  rintro ⟨r_89, r_90⟩
                  refine WL_on rfl rfl (bF h_59) ?_
                  refine S_move rfl ?_
                  refine WL_on rfl rfl (bF h_59) ?_
                  refine S_eql rfl rfl rfl ?_
                  refine S_pick_f (bF h_59) rfl ?_
                  refine S_assign rfl ?_
                  refine WL_nil ?_
                  refine W_region ?_
                  refine S_move rfl ?_
                  refine S_add rfl rfl (by omega) rfl ?_
                  refine S_assign rfl ?_
                  refine WL_nil ?_
                  refine ⟨by repeat (first | refine agree_upd rfl ?_ | exact agree_mix rfl agree_refl | refine agree_mix rfl ?_), ?_⟩
                  exact ⟨_, by omega, j + 1, _, rfl, by omega, by first | exact on1 u1 ‹_› u0 (by omega) | exact on2 u1 ‹_› u0 (by omega), rfl, rfl, rfl, trivial⟩
              ·
                have p_92 := h_57
                try simp only [lrn] at p_92
                refine W_exit ?_
                refine W_region ?_
                refine S_move rfl ?_
                refine S_add rfl rfl (by omega) rfl ?_
                refine S_assign rfl ?_
                refine WL_nil ?_
                refine ⟨by repeat (first | refine agree_upd rfl ?_ | exact agree_mix rfl agree_refl | refine agree_mix rfl ?_), ?_⟩
                exact ⟨_, by omega, i + 1, _, rfl, by omega, onIn_all s0 _ u1 (by omega), rfl, rfl, rfl, trivial⟩
          ·
            have p_93 := h_28
            try simp only [lrn] at p_93
            refine W_exit ?_
            refine W_seq ?_
            refine W_region ?_
            refine S_move rfl ?_
            refine S_not rfl rfl ?_
            refine WL_nil ?_
            refine W_cond rfl (fun h_94 => ?_) (fun h_94 => ?_)
            ·
              have h_95 := h_94
              simp only [lrnN] at h_95
              have p_96 := h_95
              try simp only [lrn] at p_96
              refine W_region ?_
              refine S_move rfl ?_
              refine S_move rfl ?_
              refine S_buildSlice Try.runUnderlying26 Try.sizeOf3 Try.zeroValue3 rfl rfl rfl rfl rfl rfl rfl ?_
              intro b_97 w_98 e_99 z_100 z_101 ho_102
              have hb_103 : w0.heap.size ≤ b_97 := by have := (E_15).size; omega
              have n_104 : (w0).heap.size ≤ b_97 := by have := (e_16).size; omega
              have n_105 : b_97 ∉ bs_10 := fun h => by have := Acc.bs_lt ha_11 _ h; omega
              have E_106 := Ext.stepO E_15 e_99 mem0
              have c_107 := Ext.stepO e_16 e_99 mem0
              have h_108 := Acc.ext (Acc.weak ha_11 (cons_fresh z_100)) e_99 mem0
              have ho_102 : Own _ _ _ [_] := ho_102
              have h_109 := Acc.weak (M' := M) h_108 (fun x hx => .inl (List.mem_cons_of_mem _ hx))
              have hr_110 := rd_ints (xs := [_]) (M := bs_10 ++ M) ho_102 (ninA n_105 (notin_old hM hb_103)) (by simp [InI]; omega) (by simp)
              refine S_append Try.runUnderlying26 Try.typeInfo3 Try.sizeOf3 Try.zeroValue3 rfl h_109 hr_110 (by show _ * 8 ≤ _; simp; omega) (by decide) (fun x hx => Nat.lt_of_lt_of_le (hM x hx) (E_106).size) rfl ?_
              intro v_111 w_112 bs_113 ha_114 e_115 hf_116
              have hb_117 := fresh_bs hf_116 hb_12 (E_106).size
              have rel_118 := rel_step hf_116 rel_13 (c_107).size
              have E_119 := Ext.stepO E_106 e_115 (fun x hx => .inr (hb_12 x hx))
              have c_120 := Ext.stepO c_107 e_115 (fun x hx => (rel_13 x hx).imp (fun h => by first | exact h | (cases h; done) | simp [h]) id)
              have o_123 := Acc.val ha_114
              obtain ⟨A_121, cap_122, rfl⟩ := o_123
              refine S_assign rfl ?_
              refine WL_nil ?_
              refine W_region ?_
              refine S_move rfl ?_
              refine S_add rfl rfl (by omega) rfl ?_
              refine S_assign rfl ?_
              refine WL_nil ?_
              refine ⟨by repeat (first | refine agree_upd rfl ?_ | exact agree_mix rfl agree_refl | refine agree_mix rfl ?_), ?_⟩
              exact ⟨_, by omega, n + 1, _, _, _, _, rfl, by omega, by omega, by first | omega | (simp; omega), by first | exact heads_add q3 s1 (by omega) ⟨by omega, by omega⟩ ‹_› | exact heads_skip q3 s1 (by omega) ⟨by omega, by omega⟩ ‹_›, E_119, c_120, ha_114, hb_117, rel_118, rfl, rfl, trivial⟩
            ·
              have h_124 := h_94
              simp only [lrnN] at h_124
              have p_125 := h_124
              try simp only [lrn] at p_125
              refine W_skip ?_
              refine W_region ?_
              refine S_move rfl ?_
              refine S_add rfl rfl (by omega) rfl ?_
              refine S_assign rfl ?_
              refine WL_nil ?_
              refine ⟨by repeat (first | refine agree_upd rfl ?_ | exact agree_mix rfl agree_refl | refine agree_mix rfl ?_), ?_⟩
              exact ⟨_, by omega, n + 1, _, _, _, _, rfl, by omega, by omega, by first | omega | (simp; omega), by first | exact heads_add q3 s1 (by omega) ⟨by omega, by omega⟩ ‹_› | exact heads_skip q3 s1 (by omega) ⟨by omega, by omega⟩ ‹_›, E_15, e_16, ha_11, hb_12, rel_13, rfl, rfl, trivial⟩
      ·
        have p_126 := h_20
        try simp only [lrn] at p_126
        refine W_exit ?_
        refine W_seq ?_
        refine W_region ?_
        refine S_move rfl ?_
        refine S_assign rfl ?_
        refine WL_nil ?_
        refine W_ret ?_
        exact ⟨_, _, _, rfl, Acc.rd ha_11 (by omega), headsTo_all ‹Right l› q3 (by omega), E_15⟩
end Go.Proofs.Ytpgegnmaophapaa
