/- The walks of a history's functions, printed by program. -/
import Derived.Test.YtpgegnmaophapaaW13
namespace Go.Proofs.Ytpgegnmaophapaa
open Go.Wk Classical
set_option maxHeartbeats 1000000 in
theorem made_ok {M : List Nat} {w0 : World} (hM : ∀ b ∈ M, b < w0.heap.size) {A' : Option Addr} {cap' : Nat} {xs : List Int} (hi : (rSlice rInt).rd M w0 [.slice A' xs.length cap'] xs) (hx : xs.length ≤ 40) :
    CallR Try.prog 18 [.slice A' xs.length cap'] w0 (fun v w' => ∃ L A cap, v = .slice A L.length cap ∧ (rSlice rCommit).rd M w' [.slice A L.length cap] L ∧ (Right L ∧ L.length = xs.length) ∧ Ext [] w0 w') := by
  have li := rSlice_len hi
  refine Call1 Try.func18 rfl rfl rfl rfl ?_
  refine W_seq ?_
  refine W_region ?_
  refine S_assign rfl ?_
  refine WL_nil ?_
  refine W_seq ?_
  refine W_region ?_
  refine S_assign rfl ?_
  have ha_1 : Acc rCommit M w0 (.slice none 0 0) [] [] := Acc.nil
  refine WL_nil ?_
  refine W_seq ?_
  refine W_seq ?_
  refine W_region ?_
  refine S_move rfl ?_
  refine S_len Try.runUnderlying26 rfl rfl ?_
  refine S_move rfl ?_
  refine WL_nil ?_
  refine W_block ?_
  refine W_loopF [3, 4, 5, 6, 7, 10, 11, 12, 13, 14, 15, 16, 17, 18, 19, 20, 21, 22, 23, 24, 25, 26, 27, 28, 29, 30, 31, 32, 33, 34, 35, 36, 37, 38, 39, 40, 41, 42, 43, 44, 45, 46, 47, 48, 49, 50, 51, 52] (fun m f w => ∃ (i : Int) (ls : List Commit) (A_2 : Option Addr) (cap_3 : Nat) (bs_4 : List Nat), m = (xs.length - i).toNat ∧ 0 ≤ i ∧ i ≤ xs.length ∧ (ls.length : Int) = i ∧ Right ls ∧ Ext [] w0 w ∧ Ext ([]) w0 w ∧ Acc rCommit M w (.slice A_2 ls.length cap_3) ls bs_4 ∧ (∀ b ∈ bs_4, w0.heap.size ≤ b) ∧ (∀ b ∈ bs_4, b ∈ [] ∨ (w0).heap.size ≤ b) ∧ Live f [(10, .int .i64 i), (3, .slice A_2 ls.length cap_3)]) ?_ ?_
  · exact ⟨_, 0, [], _, _, _, rfl, by omega, by omega, by simp, right_nil, (Ext.refl [] w0), (Ext.refl _ _), ha_1, mem0, rel_refl, rfl, rfl, trivial⟩
  ·
    rintro m g_12 w_8 ⟨i, ls, A_2, cap_3, bs_4, rfl, q0, q1, q2, q3, E_9, e_10, ha_5, hb_6, rel_7, hl_11⟩
    refine W_liveM hl_11 rfl ?_
    refine W_seq ?_
    refine W_region ?_
    refine S_lss rfl rfl rfl ?_
    refine WL_nil ?_
    refine W_seq ?_
    refine W_cond rfl (fun h_14 => ?_) (fun h_14 => ?_)
    ·
      have p_15 := h_14
      try simp only [lrn] at p_15
      refine W_skip ?_
      refine W_seq ?_
      refine W_block ?_
      refine W_seq ?_
      refine W_region ?_
      refine S_move rfl ?_
      have h_16 := Rep.ext _ hi E_9
      refine S_index Try.runUnderlying26 Try.sizeOf3 h_16 rfl (by omega) (by omega) rfl ?_
      intro b_17 o_18 cs_19 hi_20 hc_21 hb_22 hr_23
      refine S_loadI Try.isAgg3 rfl hc_21 hr_23 rfl ?_
      rintro ⟨r_24, r_25⟩
      refine S_assign rfl ?_
      refine S_assign rfl ?_
      refine WL_nil ?_
      refine W_seq ?_
      refine W_region ?_
      refine S_move rfl ?_
      refine S_add rfl rfl (by omega) rfl ?_
      refine S_build (pl := #[(0, 1), (1, 1)]) Try.runUnderlying37 Try.zeroValue37 (fun w => by simp [Try.sizeOf26, Try.sizeOf3]) rfl rfl rfl ?_
      refine S_alloc Try.zeroValue37 rfl ?_
      intro b_26 w_27 e_28 z_29 z_30 ho_31
      have hb_32 : w0.heap.size ≤ b_26 := by have := (E_9).size; omega
      have n_33 : (w0).heap.size ≤ b_26 := by have := (e_10).size; omega
      have n_34 : b_26 ∉ bs_4 := fun h => by have := Acc.bs_lt ha_5 _ h; omega
      have E_35 := Ext.stepO E_9 e_28 mem0
      have c_36 := Ext.stepO e_10 e_28 mem0
      have h_37 := Acc.ext (Acc.weak ha_5 (cons_fresh z_29)) e_28 mem0
      have h_38 := Rep.mono (M' := b_26 :: M) _ hr_23 e_28 mem0 (cons_fresh z_29)
      have hb_40 : b_17 ∉ b_26 :: M := ninC (by have := Cells.lt hc_21; omega) hb_22
      have h_39 := Cells.ext hc_21 e_28 nin0
      have ho_31 : Own _ _ _ [_, _] := ho_31
      refine S_store Try.sizeOf37 rfl rfl rfl ho_31 (Nat.le_of_ble_eq_true rfl) rfl ?_
      intro w_41 e_42 z_43 ho_44
      have ho_44 : Own _ _ _ [_, _] := ho_44
      have E_45 := Ext.stepO E_35 e_42 (memC (.inr hb_32) mem0)
      have c_46 := Ext.stepO c_36 e_42 (memC (.inr n_33) mem0)
      have h_47 := Acc.ext h_37 e_42 (by first | (simp; done) | (intro x hx; left; simp [hx]))
      have h_48 := Rep.extB _ h_38 e_42 (by intro x hx; first | (simp [hx]; done) | (simp at hx; first | (subst hx; assumption) | (rcases hx with rfl | rfl <;> simp; done) | simp [hx]))
      have h_49 := Cells.ext h_39 e_42 (fun h => hb_40 (by simp at h; first | (subst h; assumption) | (rcases h with rfl | rfl <;> simp; done) | simp [h]))
      refine WL_nil ?_
      refine W_seq ?_
      refine W_seq ?_
      refine W_region ?_
      have ha_50 : Acc rInt (b_26 :: (bs_4 ++ M)) w_41 (.slice none 0 0) [] [] := Acc.nil
      refine S_assign rfl ?_
      refine WL_nil ?_
      refine W_block ?_
      refine W_loopF [7, 18, 19, 20, 21, 22, 23, 24, 25, 26, 27, 28, 29, 30, 31, 32, 33, 34, 35, 36, 37, 38, 39, 40, 41, 42, 43, 44, 45, 46, 47] (fun m f w => ∃ (p : Int) (ps : List Int) (A_51 : Option Addr) (cap_52 : Nat) (bs_53 : List Nat), m = (i + 1 - p).toNat ∧ 1 ≤ p ∧ p ≤ i + 1 ∧ RiseP p ps ∧ (ps.length : Int) < p ∧ Ext [] w0 w ∧ Ext ([b_26]) w_41 w ∧ Own w b_26 37 [.int .i64 (i + 1), .slice A_51 ps.length cap_52] ∧ Acc rInt (b_26 :: (bs_4 ++ M)) w (.slice A_51 ps.length cap_52) ps bs_53 ∧ (∀ b ∈ bs_53, w0.heap.size ≤ b) ∧ (∀ b ∈ bs_53, b ∈ [] ∨ (w_41).heap.size ≤ b) ∧ Live f [(7, .int .i64 p)]) ?_ ?_
      · exact ⟨_, 1, [], _, _, _, rfl, by omega, by omega, riseP_nil, by simp, E_45, (Ext.refl _ _), ho_44, ha_50, mem0, rel_refl, rfl, trivial⟩
      ·
        rintro m g_61 w_57 ⟨p, ps, A_51, cap_52, bs_53, rfl, s0, s1, s2, s3, E_58, e_59, ho1, ha_54, hb_55, rel_56, hl_60⟩
        refine W_liveM hl_60 rfl ?_
        have c_62 := Ext.stepO c_46 e_59 (memC (.inr n_33) mem0)
        have h_63 := Acc.ext h_47 e_59 (by first | (simp; done) | (intro x hx; left; simp [hx]))
        have h_64 := Rep.extB _ h_48 e_59 (by intro x hx; first | (simp [hx]; done) | (simp at hx; first | (subst hx; assumption) | (rcases hx with rfl | rfl <;> simp; done) | simp [hx]))
        have h_65 := Cells.ext h_49 e_59 (fun h => hb_40 (by simp at h; first | (subst h; assumption) | (rcases h with rfl | rfl <;> simp; done) | simp [h]))
        have rel_66 := rel_step rel_56 (rel_refl (bs := [])) (c_46).size
        refine W_seq ?_
        refine W_seq ?_
        refine W_region ?_
        refine S_move rfl ?_
        refine S_move rfl ?_
        refine S_leq rfl rfl rfl ?_
        refine WL_nil ?_
        refine W_cond rfl (fun h_68 => ?_) (fun h_68 => ?_)
        ·
          have p_69 := h_68
          try simp only [lrn] at p_69
          refine W_skip ?_
          refine W_seq ?_
          refine W_block ?_
          refine W_seq ?_
          refine W_region ?_
          refine S_move rfl ?_
          refine S_move rfl ?_
          refine S_rem rfl rfl (by omega) rfl ?_
          refine S_shr rfl rfl (Int.tmod_nonneg _ (by omega)) rfl ?_
          refine S_and rfl rfl rfl ?_
          refine S_eql rfl rfl rfl ?_
          refine S_move rfl ?_
          refine WL_split (dj := 29) rfl (fun h_71 => ?_) (fun h_71 => ?_)
          ·
            have p_72 := h_71
            try simp only [lrn] at p_72
            refine WL_on rfl rfl (bT h_71) ?_
            refine S_move rfl ?_
            refine WL_on rfl rfl (bT h_71) ?_
            refine S_move rfl ?_
            refine WL_on rfl rfl (bT h_71) ?_
            refine S_sub rfl rfl (by omega) rfl ?_
            refine WL_on rfl rfl (bT h_71) ?_
            refine S_gtr rfl rfl rfl ?_
            refine WL_on rfl rfl (bT h_71) ?_
            refine S_move rfl ?_
            refine WL_split (dj := 34) rfl (fun h_74 => ?_) (fun h_74 => ?_)
            ·
              have p_75 := h_74
              try simp only [lrn] at p_75
              refine WL_off rfl rfl rfl (bT h_74) ?_
              refine WL_off rfl rfl rfl (bT h_74) ?_
              refine WL_off rfl rfl rfl (bT h_74) ?_
              refine WL_off rfl rfl rfl (bT h_74) ?_
              refine WL_off rfl rfl rfl (bT h_74) ?_
              refine WL_on rfl rfl (bT h_71) ?_
              refine S_pick_t (bT h_74) rfl ?_
              refine S_pick_t (bT h_71) rfl ?_
              refine WL_nil ?_
              refine W_cond_true rfl ?_
              refine W_region ?_
              refine S_fieldAddr Try.runUnderlying37 rfl Try.sizeOf26 rfl rfl ?_
              refine S_load1 Try.isAgg26 rfl (ho1.at rfl) rfl ?_
              refine S_move rfl ?_
              refine S_buildSlice Try.runUnderlying26 Try.sizeOf3 Try.zeroValue3 rfl rfl rfl rfl rfl rfl rfl ?_
              intro b_76 w_77 e_78 z_79 z_80 ho_81
              have hb_82 : w0.heap.size ≤ b_76 := by have := (E_58).size; omega
              have n_83 : (w0).heap.size ≤ b_76 := by have := (c_62).size; omega
              have n_84 : (w_41).heap.size ≤ b_76 := by have := (e_59).size; omega
              have n_85 : b_26 ≠ b_76 := by have := ho1.lt; omega
              have n_86 : b_76 ∉ bs_4 := fun h => by have := Acc.bs_lt h_63 _ h; omega
              have n_87 : b_76 ∉ bs_53 := fun h => by have := Acc.bs_lt ha_54 _ h; omega
              have E_88 := Ext.stepO E_58 e_78 mem0
              have c_89 := Ext.stepO c_62 e_78 mem0
              have c_90 := Ext.stepO e_59 e_78 mem0
              have h_91 := Acc.ext (Acc.weak h_63 (cons_fresh z_79)) e_78 mem0
              have h_92 := Rep.mono (M' := b_76 :: (b_26 :: M)) _ h_64 e_78 mem0 (cons_fresh z_79)
              have hb_94 : b_17 ∉ b_76 :: (b_26 :: M) := ninC (by have := Cells.lt h_65; omega) hb_40
              have h_93 := Cells.ext h_65 e_78 nin0
              have h_95 := Acc.ext (Acc.weak ha_54 (cons_fresh z_79)) e_78 mem0
              have h_96 := ho1.ext e_78 nin0
              have ho_81 : Own _ _ _ [_] := ho_81
              have h_97 := Acc.weak (M' := (b_26 :: (bs_4 ++ M))) h_95 (fun x hx => .inl (List.mem_cons_of_mem _ hx))
              have hr_98 := rd_ints (xs := [_]) (M := bs_53 ++ (b_26 :: (bs_4 ++ M))) ho_81 (ninA n_87 (ninC (Ne.symm n_85) (ninA n_86 (notin_old hM hb_82)))) (by simp [InI]; omega) (by simp)
              refine S_append Try.runUnderlying26 Try.typeInfo3 Try.sizeOf3 Try.zeroValue3 rfl h_97 hr_98 (by show _ * 8 ≤ _; simp; omega) (by decide) (memC (h_96.lt) (memA (Acc.bs_lt h_91) (fun x hx => Nat.lt_of_lt_of_le (hM x hx) (E_88).size))) rfl ?_
              intro v_99 w_100 bs_101 ha_102 e_103 hf_104
              have hb_105 := fresh_bs hf_104 hb_55 (E_88).size
              have rel_106 := rel_step hf_104 rel_66 (c_89).size
              have rel_107 := rel_step hf_104 rel_56 (c_90).size
              have E_108 := Ext.stepO E_88 e_103 (fun x hx => .inr (hb_55 x hx))
              have c_109 := Ext.stepO c_89 e_103 (fun x hx => (rel_66 x hx).imp (fun h => by first | exact h | (cases h; done) | simp [h]) id)
              have c_110 := Ext.stepO c_90 e_103 (fun x hx => (rel_56 x hx).imp (fun h => by first | exact h | (cases h; done) | simp [h]) id)
              have h_111 := h_96.ext e_103 (fun h => Acc.bs_notin h_97 _ h (by simp))
              have o_114 := Acc.val ha_102
              obtain ⟨A_112, cap_113, rfl⟩ := o_114
              refine S_fieldAddr Try.runUnderlying37 rfl Try.sizeOf26 rfl rfl ?_
              refine S_store Try.sizeOf26 rfl rfl rfl h_111 (Nat.le_of_ble_eq_true rfl) rfl ?_
              intro w_115 e_116 z_117 ho_118
              have ho_118 : Own _ _ _ [_, _] := ho_118
              have E_119 := Ext.stepO E_108 e_116 (memC (.inr hb_32) mem0)
              have c_120 := Ext.stepO c_109 e_116 (memC (.inr n_33) mem0)
              have c_121 := Ext.stepO c_110 e_116 (memC (.inl (by simp)) mem0)
              have h_122 := Acc.ext ha_102 e_116 (by first | (simp; done) | (intro x hx; left; simp [hx]))
              refine WL_nil ?_
              refine W_region ?_
              refine S_move rfl ?_
              refine S_add rfl rfl (by omega) rfl ?_
              skip
              refine S_assign rfl ?_
              refine WL_nil ?_
              refine ⟨by repeat (first | refine agree_upd rfl ?_ | exact agree_mix rfl agree_refl | refine agree_mix rfl ?_), ?_⟩
              exact ⟨_, by omega, p + 1, _, _, _, _, rfl, by omega, by omega, by first | exact riseP_add s2 s0 | exact riseP_skip s2, by first | omega | (rw [List.length_append, List.length_singleton]; omega), E_119, c_121, ho_118, h_122, hb_105, rel_107, rfl, trivial⟩
            ·
              have p_123 := h_74
              try simp only [lrn] at p_123
              refine WL_on rfl rfl (bF h_74) ?_
              refine S_move rfl ?_
              refine WL_on rfl rfl (bF h_74) ?_
              refine S_rem rfl rfl (by omega) rfl ?_
              refine WL_on rfl rfl (bF h_74) ?_
              refine S_move rfl ?_
              refine WL_on rfl rfl (bF h_74) ?_
              refine S_rem rfl rfl (by omega) rfl ?_
              refine WL_on rfl rfl (bF h_74) ?_
              refine S_eql rfl rfl rfl ?_
              refine WL_on rfl rfl (bT h_71) ?_
              refine S_pick_f (bF h_74) rfl ?_
              refine S_pick_t (bT h_71) rfl ?_
              refine WL_nil ?_
              refine W_cond rfl (fun h_125 => ?_) (fun h_125 => ?_)
              ·
                have p_126 := h_125
                try simp only [lrn] at p_126
                refine W_region ?_
                refine S_fieldAddr Try.runUnderlying37 rfl Try.sizeOf26 rfl rfl ?_
                refine S_load1 Try.isAgg26 rfl (ho1.at rfl) rfl ?_
                refine S_move rfl ?_
                refine S_buildSlice Try.runUnderlying26 Try.sizeOf3 Try.zeroValue3 rfl rfl rfl rfl rfl rfl rfl ?_
                intro b_127 w_128 e_129 z_130 z_131 ho_132
                have hb_133 : w0.heap.size ≤ b_127 := by have := (E_58).size; omega
                have n_134 : (w0).heap.size ≤ b_127 := by have := (c_62).size; omega
                have n_135 : (w_41).heap.size ≤ b_127 := by have := (e_59).size; omega
                have n_136 : b_26 ≠ b_127 := by have := ho1.lt; omega
                have n_137 : b_127 ∉ bs_4 := fun h => by have := Acc.bs_lt h_63 _ h; omega
                have n_138 : b_127 ∉ bs_53 := fun h => by have := Acc.bs_lt ha_54 _ h; omega
                have E_139 := Ext.stepO E_58 e_129 mem0
                have c_140 := Ext.stepO c_62 e_129 mem0
                have c_141 := Ext.stepO e_59 e_129 mem0
                have h_142 := Acc.ext (Acc.weak h_63 (cons_fresh z_130)) e_129 mem0
                have h_143 := Rep.mono (M' := b_127 :: (b_26 :: M)) _ h_64 e_129 mem0 (cons_fresh z_130)
                have hb_145 : b_17 ∉ b_127 :: (b_26 :: M) := ninC (by have := Cells.lt h_65; omega) hb_40
                have h_144 := Cells.ext h_65 e_129 nin0
                have h_146 := Acc.ext (Acc.weak ha_54 (cons_fresh z_130)) e_129 mem0
                have h_147 := ho1.ext e_129 nin0
                have ho_132 : Own _ _ _ [_] := ho_132
                have h_148 := Acc.weak (M' := (b_26 :: (bs_4 ++ M))) h_146 (fun x hx => .inl (List.mem_cons_of_mem _ hx))
                have hr_149 := rd_ints (xs := [_]) (M := bs_53 ++ (b_26 :: (bs_4 ++ M))) ho_132 (ninA n_138 (ninC (Ne.symm n_136) (ninA n_137 (notin_old hM hb_133)))) (by simp [InI]; omega) (by simp)
                refine S_append Try.runUnderlying26 Try.typeInfo3 Try.sizeOf3 Try.zeroValue3 rfl h_148 hr_149 (by show _ * 8 ≤ _; simp; omega) (by decide) (memC (h_147.lt) (memA (Acc.bs_lt h_142) (fun x hx => Nat.lt_of_lt_of_le (hM x hx) (E_139).size))) rfl ?_
                intro v_150 w_151 bs_152 ha_153 e_154 hf_155
                have hb_156 := fresh_bs hf_155 hb_55 (E_139).size
                have rel_157 := rel_step hf_155 rel_66 (c_140).size
                have rel_158 := rel_step hf_155 rel_56 (c_141).size
                have E_159 := Ext.stepO E_139 e_154 (fun x hx => .inr (hb_55 x hx))
                have c_160 := Ext.stepO c_140 e_154 (fun x hx => (rel_66 x hx).imp (fun h => by first | exact h | (cases h; done) | simp [h]) id)
                have c_161 := Ext.stepO c_141 e_154 (fun x hx => (rel_56 x hx).imp (fun h => by first | exact h | (cases h; done) | simp [h]) id)
                have h_162 := h_147.ext e_154 (fun h => Acc.bs_notin h_148 _ h (by simp))
                have o_165 := Acc.val ha_153
                obtain ⟨A_163, cap_164, rfl⟩ := o_165
                refine S_fieldAddr Try.runUnderlying37 rfl Try.sizeOf26 rfl rfl ?_
                refine S_store Try.sizeOf26 rfl rfl rfl h_162 (Nat.le_of_ble_eq_true rfl) rfl ?_
                intro w_166 e_167 z_168 ho_169
                have ho_169 : Own _ _ _ [_, _] := ho_169
                have E_170 := Ext.stepO E_159 e_167 (memC (.inr hb_32) mem0)
                have c_171 := Ext.stepO c_160 e_167 (memC (.inr n_33) mem0)
                have c_172 := Ext.stepO c_161 e_167 (memC (.inl (by simp)) mem0)
                have h_173 := Acc.ext ha_153 e_167 (by first | (simp; done) | (intro x hx; left; simp [hx]))
                refine WL_nil ?_
                refine W_region ?_
                refine S_move rfl ?_
                refine S_add rfl rfl (by omega) rfl ?_
                skip
                refine S_assign rfl ?_
                refine WL_nil ?_
                refine ⟨by repeat (first | refine agree_upd rfl ?_ | exact agree_mix rfl agree_refl | refine agree_mix rfl ?_), ?_⟩
                exact ⟨_, by omega, p + 1, _, _, _, _, rfl, by omega, by omega, by first | exact riseP_add s2 s0 | exact riseP_skip s2, by first | omega | (rw [List.length_append, List.length_singleton]; omega), E_170, c_172, ho_169, h_173, hb_156, rel_158, rfl, trivial⟩
              ·
                have p_174 := h_125
                try simp only [lrn] at p_174
                refine W_skip ?_
                refine W_region ?_
                refine S_move rfl ?_
                refine S_add rfl rfl (by omega) rfl ?_
                skip
                refine S_assign rfl ?_
                refine WL_nil ?_
                refine ⟨by repeat (first | refine agree_upd rfl ?_ | exact agree_mix rfl agree_refl | refine agree_mix rfl ?_), ?_⟩
                exact ⟨_, by omega, p + 1, _, _, _, _, rfl, by omega, by omega, by first | exact riseP_add s2 s0 | exact riseP_skip s2, by first | omega | (rw [List.length_append, List.length_singleton]; omega), E_58, e_59, ho1, ha_54, hb_55, rel_56, rfl, trivial⟩
          ·
            have p_175 := h_71
            try simp only [lrn] at p_175
            refine WL_off rfl rfl rfl (bF h_71) ?_
            refine WL_off rfl rfl rfl (bF h_71) ?_
            refine WL_off rfl rfl rfl (bF h_71) ?_
            refine WL_off rfl rfl rfl (bF h_71) ?_
            refine WL_off rfl rfl rfl (bF h_71) ?_
            refine WL_off0 rfl rfl rfl rfl ?_
            refine WL_off0 rfl rfl rfl rfl ?_
            refine WL_off0 rfl rfl rfl rfl ?_
            refine WL_off0 rfl rfl rfl rfl ?_
            refine WL_off0 rfl rfl rfl rfl ?_
            refine WL_off rfl rfl rfl (bF h_71) ?_
            refine S_pick_f (bF h_71) rfl ?_
            refine WL_nil ?_
            refine W_cond_false rfl ?_
            refine W_skip ?_
            refine W_region ?_
            refine S_move rfl ?_
            refine S_add rfl rfl (by omega) rfl ?_
            skip
            refine S_assign rfl ?_
            refine WL_nil ?_
            refine ⟨by repeat (first | refine agree_upd rfl ?_ | exact agree_mix rfl agree_refl | refine agree_mix rfl ?_), ?_⟩
            exact ⟨_, by omega, p + 1, _, _, _, _, rfl, by omega, by omega, by first | exact riseP_add s2 s0 | exact riseP_skip s2, by first | omega | (rw [List.length_append, List.length_singleton]; omega), E_58, e_59, ho1, ha_54, hb_55, rel_56, rfl, trivial⟩
        ·
          have p_176 := h_68
          try simp only [lrn] at p_176
          refine W_exit ?_
          refine W_region ?_
          refine S_move rfl ?_
          refine S_loadAgg Try.isAgg37 Try.sizeOf37 rfl rfl ho1.all rfl ?_
          refine S_buildSlice Try.runUnderlying22 Try.sizeOf37 Try.zeroValue37 rfl rfl rfl rfl rfl rfl rfl ?_
          intro b_177 w_178 e_179 z_180 z_181 ho_182
          have hb_183 : w0.heap.size ≤ b_177 := by have := (E_58).size; omega
          have n_184 : (w0).heap.size ≤ b_177 := by have := (c_62).size; omega
          have n_185 : b_26 ≠ b_177 := by have := ho1.lt; omega
          have n_186 : b_177 ∉ bs_4 := fun h => by have := Acc.bs_lt h_63 _ h; omega
          have n_187 : b_177 ∉ bs_53 := fun h => by have := Acc.bs_lt ha_54 _ h; omega
          have E_188 := Ext.stepO E_58 e_179 mem0
          have c_189 := Ext.stepO c_62 e_179 mem0
          have h_190 := Acc.ext (Acc.weak h_63 (cons_fresh z_180)) e_179 mem0
          have h_191 := Rep.mono (M' := b_177 :: (b_26 :: M)) _ h_64 e_179 mem0 (cons_fresh z_180)
          have hb_193 : b_17 ∉ b_177 :: (b_26 :: M) := ninC (by have := Cells.lt h_65; omega) hb_40
          have h_192 := Cells.ext h_65 e_179 nin0
          have h_194 := Acc.ext (Acc.weak ha_54 (cons_fresh z_180)) e_179 mem0
          have h_195 := ho1.ext e_179 nin0
          have ho_182 : Own _ _ _ [_, _] := ho_182
          have h_196 := Acc.weak (M' := (b_26 :: M)) h_190 (fun x hx => .inl (List.mem_cons_of_mem _ hx))
          have hr_197_1 : (rSlice rInt).rd (b_177 :: (bs_4 ++ (b_26 :: M))) w_178 _ ps := Rep.mono _ (Acc.rd h_194 (by omega)) (Ext.refl [] _) mem0 (fun x hx => .inl (by simp only [List.mem_cons, List.mem_append] at hx ⊢; rcases hx with h | h | h | h <;> simp [h]))
          have hr_197 : (rSlice rCommit).rd (bs_4 ++ (b_26 :: M)) w_178 [.slice (some ⟨b_177, 0, none⟩) 1 1] ([⟨i + 1, ps⟩] : List Commit) := Acc.rd (Acc.lit (l := ([⟨i + 1, ps⟩] : List Commit)) ho_182 rfl (ninA n_186 (ninC (Ne.symm n_185) (notin_old hM hb_183))) (fun k hk => match k, hk with | 0, _ => rCommit_mk (x := ⟨i + 1, ps⟩) (by unfold InI; show _ ≤ i + 1 ∧ i + 1 ≤ _; omega) hr_197_1)) (by simp)
          refine S_append Try.runUnderlying22 Try.typeInfo37 Try.sizeOf37 Try.zeroValue37 rfl h_196 hr_197 (by show _ * 32 ≤ _; simp; omega) (by decide) (memC (h_195.lt) (fun x hx => Nat.lt_of_lt_of_le (hM x hx) (E_188).size)) rfl ?_
          intro v_198 w_199 bs_200 ha_201 e_202 hf_203
          have hb_204 := fresh_bs hf_203 hb_6 (E_188).size
          have rel_205 := rel_step hf_203 rel_7 (c_189).size
          have E_206 := Ext.stepO E_188 e_202 (fun x hx => .inr (hb_6 x hx))
          have c_207 := Ext.stepO c_189 e_202 (fun x hx => (rel_7 x hx).imp (fun h => by first | exact h | (cases h; done) | simp [h]) id)
          have h_208 := Acc.ext h_194 e_202 (by first | (simp; done) | (intro x hx; left; simp [hx]))
          have h_209 := h_195.ext e_202 (fun h => Acc.bs_notin h_196 _ h (by simp))
          have o_212 := Acc.val ha_201
          obtain ⟨A_210, cap_211, rfl⟩ := o_212
          refine S_assign rfl ?_
          refine WL_nil ?_
          refine W_region ?_
          refine S_add rfl rfl (by omega) rfl ?_
          refine S_move rfl ?_
          refine WL_nil ?_
          refine ⟨by repeat (first | refine agree_upd rfl ?_ | exact agree_mix rfl agree_refl | refine agree_mix rfl ?_), ?_⟩
          exact ⟨_, by omega, i + 1, _, _, _, _, rfl, by omega, by omega, by rw [List.length_append, List.length_singleton]; omega, right_add q3 q2 (riseP_rises s2 (by omega)), E_206, c_207, (Acc.weak (M' := M) ha_201 (fun x hx => .inl (by simp [hx]))), hb_204, rel_205, rfl, rfl, trivial⟩
    ·
      have p_213 := h_14
      try simp only [lrn] at p_213
      refine W_exit ?_
      refine W_seq ?_
      refine W_region ?_
      refine S_move rfl ?_
      refine S_assign rfl ?_
      refine WL_nil ?_
      refine W_ret ?_
      exact ⟨_, _, _, rfl, Acc.rd ha_5 (by omega), ⟨q3, by omega⟩, E_9⟩
end Go.Proofs.Ytpgegnmaophapaa
