/- The walks of a history's functions, printed by program. -/
import Derived.Test.YtpgegnmaophapaaW10
namespace Go.Proofs.Ytpgegnmaophapaa
open Go.Wk Classical
theorem index_ok {M : List Nat} {w0 : World} {A : Option Addr} {cap : Nat} {l : List Commit} {b1 b2 : Nat} (h : (rSlice rCommit).rd M w0 [.slice A l.length cap] l) (hM : ∀ b ∈ M, b < w0.heap.size) (hr : Right l) (to : Int) {A' : Option Addr} {cap' : Nat} {xs : List Int} (hi : (rSlice rInt).rd M w0 [.slice A' xs.length cap'] xs) (h1 : Own w0 b1 22 [.slice A l.length cap]) (h2 : Own w0 b2 3 [.int .i64 to]) :
    CallR Try.prog 29 [.slice A' xs.length cap', .func (.func 30) #[] #[.pointer (some ⟨b1, 0, none⟩), .pointer (some ⟨b2, 0, none⟩)]] w0 (fun v w' => ∃ i : Int, v = .int .i64 i ∧ IdxP l to xs i ∧ Ext [] w0 w') := by
  have ll := rSlice_len h
  have li := rSlice_len hi
  refine Call1 Try.func29 rfl rfl rfl rfl ?_
  refine W_seq ?_
  refine W_region ?_
  refine S_assign rfl ?_
  refine WL_nil ?_
  refine W_seq ?_
  refine W_seq ?_
  refine W_region ?_
  refine S_move rfl ?_
  refine S_len Try.runUnderlying26 rfl rfl ?_
  refine S_move rfl ?_
  refine WL_nil ?_
  refine W_block ?_
  refine W_loopF [4, 5, 8, 9, 10, 11, 12, 13, 14, 15, 16, 17, 18] (fun m f w => ∃ i : Int, m = (xs.length - i).toNat ∧ 0 ≤ i ∧ i ≤ xs.length ∧ (∀ j (hj : j < xs.length), (j : Int) < i → ¬ Rch l xs[j] to) ∧ Ext [] w0 w ∧ Ext ([]) w0 w ∧ Live f [(8, .int .i64 i)]) ?_ ?_
  · exact ⟨_, 0, rfl, by omega, by omega, (fun j _ h => by omega), (Ext.refl [] w0), (Ext.refl _ _), rfl, trivial⟩
  ·
    rintro m g_5 w_1 ⟨i, rfl, q0, q1, q2, E_2, e_3, hl_4⟩
    refine W_liveM hl_4 rfl ?_
    have h_6 := h1.ext e_3 nin0
    have h_7 := h2.ext e_3 nin0
    refine W_seq ?_
    refine W_region ?_
    refine S_lss rfl rfl rfl ?_
    refine WL_nil ?_
    refine W_seq ?_
    refine W_cond rfl (fun h_9 => ?_) (fun h_9 => ?_)
    ·
      have p_10 := h_9
      try simp only [lrn] at p_10
      refine W_skip ?_
      refine W_seq ?_
      refine W_block ?_
      refine W_seq ?_
      refine W_region ?_
      refine S_move rfl ?_
      refine S_assign rfl ?_
      refine WL_nil ?_
      refine W_seq ?_
      refine W_region ?_
      refine S_move rfl ?_
      refine S_move rfl ?_
      refine S_move rfl ?_
      have h_11 := Rep.ext _ hi E_2
      refine S_index Try.runUnderlying26 Try.sizeOf3 h_11 rfl (by omega) (by omega) rfl ?_
      intro b_12 o_13 cs_14 hi_15 hc_16 hb_17 hr_18
      refine S_loadI Try.isAgg3 rfl hc_16 hr_18 rfl ?_
      rintro ⟨r_19, r_20⟩
      have h_21 := Rep.ext _ h E_2
      have hz_24 := path1_ok h_21 (fun x hx => Nat.lt_of_lt_of_le (hM x hx) (E_2).size) hr to xs[i.toNat] (by unfold InI; omega) h_6 h_7
      refine S_callV rfl Try.call30 rfl hz_24 rfl ?_
      rintro _ w_22 ⟨rfl, e_23⟩
      have E_25 := Ext.stepO E_2 e_23 mem0
      have c_26 := Ext.stepO e_3 e_23 mem0
      have h_27 := Rep.ext _ hr_18 e_23
      have h_28 := Cells.ext hc_16 e_23 nin0
      have h_29 := h_6.ext e_23 nin0
      have h_30 := h_7.ext e_23 nin0
      refine WL_nil ?_
      refine W_cond rfl (fun h_32 => ?_) (fun h_32 => ?_)
      ·
        have p_33 := h_32
        try simp only [lrn] at p_33
        refine W_seq ?_
        refine W_region ?_
        refine S_move rfl ?_
        refine S_assign rfl ?_
        refine WL_nil ?_
        refine W_ret ?_
        exact ⟨_, rfl, idx_yes q2 q0 (by omega) ‹_›, E_25⟩
      ·
        have p_34 := h_32
        try simp only [lrn] at p_34
        refine W_skip ?_
        refine W_region ?_
        refine S_add rfl rfl (by omega) rfl ?_
        refine S_move rfl ?_
        refine WL_nil ?_
        refine ⟨by repeat (first | refine agree_upd rfl ?_ | exact agree_mix rfl agree_refl | refine agree_mix rfl ?_), ?_⟩
        exact ⟨_, by omega, i + 1, rfl, by omega, by omega, idx_step q2 q0 (by omega) ‹_›, E_25, c_26, rfl, trivial⟩
    ·
      have p_35 := h_9
      try simp only [lrn] at p_35
      refine W_exit ?_
      refine W_seq ?_
      refine W_region ?_
      refine S_assign rfl ?_
      refine WL_nil ?_
      refine W_ret ?_
      exact ⟨_, rfl, idx_no q2 (by omega), E_2⟩
theorem path_ok {M : List Nat} {w0 : World} {A : Option Addr} {cap : Nat} {l : List Commit} (h : (rSlice rCommit).rd M w0 [.slice A l.length cap] l) (hM : ∀ b ∈ M, b < w0.heap.size) (hl : l.length ≤ 60) (a b : Int) (hia : InI a) (hib : InI b) :
    CallR Try.prog 16 [.slice A l.length cap, .int .i64 a, .int .i64 b] w0 (fun v w' => ∃ L A cap, v = .slice A L.length cap ∧ (rSlice rInt).rd M w' [.slice A L.length cap] L ∧ PathL l a b L ∧ Ext [] w0 w') := by
  have ll := rSlice_len h
  refine Call1 Try.func16 rfl rfl rfl rfl ?_
  refine W_seq ?_
  refine W_region ?_
  refine S_box rfl ?_
  intro b_1 w_2 e_3 z_4 z_5 ho_6
  have hb_7 : w0.heap.size ≤ b_1 := by have := ((Ext.refl [] w0)).size; omega
  have E_8 := Ext.stepO (Ext.refl [] w0) e_3 mem0
  have ho_6 : Own _ _ _ [_] := ho_6
  refine S_box rfl ?_
  intro b_9 w_10 e_11 z_12 z_13 ho_14
  have hb_15 : w0.heap.size ≤ b_9 := by have := (E_8).size; omega
  have n_16 : b_1 ≠ b_9 := by have := ho_6.lt; omega
  have E_17 := Ext.stepO E_8 e_11 mem0
  have h_18 := ho_6.ext e_11 nin0
  have ho_14 : Own _ _ _ [_] := ho_14
  refine S_assign rfl ?_
  refine WL_nil ?_
  refine W_seq ?_
  refine W_seq ?_
  refine W_region ?_
  refine S_load1 Try.isAgg22 rfl (h_18.at rfl) rfl ?_
  refine S_move rfl ?_
  refine S_load1 Try.isAgg3 rfl (ho_14.at rfl) rfl ?_
  have h_19 := Rep.ext _ h E_17
  have hz_22 := reaches_ok h_19 (fun x hx => Nat.lt_of_lt_of_le (hM x hx) (E_17).size) hl a b hia
  refine S_callE Try.call19 rfl hz_22 rfl ?_
  intro w_20 e_21
  have E_23 := Ext.stepO E_17 e_21 mem0
  have h_24 := h_18.ext e_21 nin0
  have h_25 := ho_14.ext e_21 nin0
  refine S_not rfl rfl ?_
  refine WL_nil ?_
  refine W_cond rfl (fun h_27 => ?_) (fun h_27 => ?_)
  ·
    have h_28 := h_27
    simp only [lrnN] at h_28
    have p_29 := h_28
    try simp only [lrn] at p_29
    refine W_seq ?_
    refine W_region ?_
    refine S_assign rfl ?_
    refine WL_nil ?_
    refine W_ret ?_
    exact ⟨[], _, _, rfl, rd_nil, pathL_no ‹¬ _›, E_23⟩
  ·
    have h_30 := h_27
    simp only [lrnN] at h_30
    have p_31 := h_30
    try simp only [lrn] at p_31
    refine W_skip ?_
    refine W_seq ?_
    refine W_region ?_
    have hz : Right l ∧ Rch l a b := ‹_›
    have ⟨hr, hR0⟩ := hz
    have ⟨⟨a1, a2⟩, tb⟩ := hR0.there
    have ⟨b1, b2⟩ := tb
    refine S_move rfl ?_
    refine S_buildSlice Try.runUnderlying26 Try.sizeOf3 Try.zeroValue3 rfl rfl rfl rfl rfl rfl rfl ?_
    intro b_32 w_33 e_34 z_35 z_36 ho_37
    have hb_38 : w0.heap.size ≤ b_32 := by have := (E_23).size; omega
    have n_39 : b_1 ≠ b_32 := by have := h_24.lt; omega
    have n_40 : b_9 ≠ b_32 := by have := h_25.lt; omega
    have E_41 := Ext.stepO E_23 e_34 mem0
    have h_42 := h_24.ext e_34 nin0
    have h_43 := h_25.ext e_34 nin0
    have ho_37 : Own _ _ _ [_] := ho_37
    refine S_assign rfl ?_
    have ha_44 := acc_ints (xs := [a]) (M := M) ho_37 (notin_old hM hb_38) (by simp only [List.mem_singleton, forall_eq]; unfold InI; omega)
    have hb_45 : ∀ x ∈ [b_32], w0.heap.size ≤ x := memC hb_38 mem0
    refine WL_nil ?_
    refine W_seq ?_
    refine W_block ?_
    refine W_loopF [1, 7, 8, 16, 17, 18, 19, 20, 21, 22, 23, 24, 25, 26, 27, 28, 29, 30, 31, 32, 33, 34, 35, 36, 37, 38, 39] (fun m f w => ∃ (cur : Int) (xs : List Int) (A_46 : Option Addr) (cap_47 : Nat) (bs_48 : List Nat), m = cur.toNat ∧ Rch l cur b ∧ Trail l b a cur xs ∧ xs.length + cur ≤ a + 1 ∧ cur ≤ a ∧ Ext [] w0 w ∧ Ext ([b_32]) w_33 w ∧ Acc rInt M w (.slice A_46 xs.length cap_47) xs bs_48 ∧ (∀ b ∈ bs_48, w0.heap.size ≤ b) ∧ (∀ b ∈ bs_48, b ∈ [b_32] ∨ (w_33).heap.size ≤ b) ∧ Live f [(1, .int .i64 cur), (7, .slice A_46 xs.length cap_47)]) ?_ ?_
    · exact ⟨_, a, [a], _, _, _, rfl, hR0, trail_zero, by simp; omega, by omega, E_41, (Ext.refl _ _), ha_44, hb_45, rel_refl, rfl, rfl, trivial⟩
    ·
      rintro m g_56 w_52 ⟨cur, xs, A_46, cap_47, bs_48, rfl, q0, q1, q2, q3, E_53, e_54, ha_49, hb_50, rel_51, hl_55⟩
      refine W_liveM hl_55 rfl ?_
      have h_57 := h_42.ext e_54 (ninC n_39 nin0)
      have h_58 := h_43.ext e_54 (ninC n_40 nin0)
      refine W_seq ?_
      refine W_seq ?_
      refine W_region ?_
      refine S_move rfl ?_
      refine S_load1 Try.isAgg3 rfl (h_58.at rfl) rfl ?_
      refine S_neq rfl rfl rfl ?_
      refine WL_nil ?_
      refine W_cond rfl (fun h_60 => ?_) (fun h_60 => ?_)
      ·
        have p_61 := h_60
        try simp only [lrn] at p_61
        refine W_skip ?_
        refine W_block ?_
        refine W_seq ?_
        refine W_region ?_
        have hn : ¬ cur = b := ‹_›
        have tc := q0.there.1
        have ⟨c1, c2⟩ := tc
        refine S_load1 Try.isAgg22 rfl (h_57.at rfl) rfl ?_
        refine S_move rfl ?_
        refine S_sub rfl rfl (by omega) rfl ?_
        have h_62 := Rep.ext _ h E_53
        refine S_index Try.runUnderlying22 Try.sizeOf37 h_62 rfl (by omega) (by omega) rfl ?_
        intro b_63 o_64 cs_65 hi_66 hc_67 hb_68 hr_69
        have o_76 := rCommit_cells hc_67 hr_69
        obtain ⟨c_70, c_73, ⟨hc_71, hr_72⟩, ⟨hc_74, hr_75⟩⟩ := o_76
        refine S_fieldAddr Try.runUnderlying37 rfl Try.sizeOf26 rfl rfl ?_
        refine S_loadR Try.isAgg26 rfl hc_74 hr_75 rfl rfl ?_
        intro v_77 h_78
        have o_82 := rSlice_val h_78
        obtain ⟨A_80, cap_81, rfl⟩ := o_82
        have hl_79 := rSlice_len h_78
        refine S_makeFunc rfl ?_
        have hz_85 := index_ok h_62 (fun x hx => Nat.lt_of_lt_of_le (hM x hx) (E_53).size) hr b h_78 h_57 h_58
        refine S_call Try.call29 rfl hz_85 rfl ?_
        rintro _ w_83 ⟨i_86, rfl, hx_87, e_84⟩
        have E_88 := Ext.stepO E_53 e_84 mem0
        have c_89 := Ext.stepO e_54 e_84 mem0
        have h_90 := Acc.ext ha_49 e_84 mem0
        have h_91 := Rep.ext _ hr_69 e_84
        have h_92 := Cells.ext hc_67 e_84 nin0
        have h_93 := Rep.ext _ hr_75 e_84
        have h_94 := Cells.ext hc_74 e_84 nin0
        have h_95 := Rep.ext _ h_78 e_84
        have h_96 := h_57.ext e_84 nin0
        have h_97 := h_58.ext e_84 nin0
        have ⟨x0, x1, x2, x3, x4, x5⟩ := idx_nxt hr q0 hn hx_87
        refine S_assign rfl ?_
        refine WL_nil ?_
        refine W_seq ?_
        refine W_region ?_
        refine S_load1 Try.isAgg22 rfl (h_96.at rfl) rfl ?_
        refine S_move rfl ?_
        refine S_sub rfl rfl (by omega) rfl ?_
        have h_98 := Rep.ext _ h E_88
        refine S_index Try.runUnderlying22 Try.sizeOf37 h_98 rfl (by omega) (by omega) rfl ?_
        intro b_99 o_100 cs_101 hi_102 hc_103 hb_104 hr_105
        have o_112 := rCommit_cells hc_103 hr_105
        obtain ⟨c_106, c_109, ⟨hc_107, hr_108⟩, ⟨hc_110, hr_111⟩⟩ := o_112
        refine S_fieldAddr Try.runUnderlying37 rfl Try.sizeOf26 rfl rfl ?_
        refine S_loadR Try.isAgg26 rfl hc_110 hr_111 rfl rfl ?_
        intro v_113 h_114
        have o_118 := rSlice_val h_114
        obtain ⟨A_116, cap_117, rfl⟩ := o_118
        have hl_115 := rSlice_len h_114
        refine S_move rfl ?_
        refine S_index Try.runUnderlying26 Try.sizeOf3 h_114 rfl (by omega) (by omega) rfl ?_
        intro b_119 o_120 cs_121 hi_122 hc_123 hb_124 hr_125
        refine S_loadI Try.isAgg3 rfl hc_123 hr_125 rfl ?_
        rintro ⟨r_126, r_127⟩
        refine S_assign rfl ?_
        refine WL_nil ?_
        refine W_region ?_
        refine S_move rfl ?_
        refine S_move rfl ?_
        refine S_buildSlice Try.runUnderlying26 Try.sizeOf3 Try.zeroValue3 rfl rfl rfl rfl rfl rfl rfl ?_
        intro b_128 w_129 e_130 z_131 z_132 ho_133
        have hb_134 : w0.heap.size ≤ b_128 := by have := (E_88).size; omega
        have n_135 : (w_33).heap.size ≤ b_128 := by have := (c_89).size; omega
        have n_136 : b_1 ≠ b_128 := by have := h_96.lt; omega
        have n_137 : b_9 ≠ b_128 := by have := h_97.lt; omega
        have n_138 : b_128 ∉ bs_48 := fun h => by have := Acc.bs_lt h_90 _ h; omega
        have E_139 := Ext.stepO E_88 e_130 mem0
        have c_140 := Ext.stepO c_89 e_130 mem0
        have h_141 := Acc.ext (Acc.weak h_90 (cons_fresh z_131)) e_130 mem0
        have h_142 := Rep.mono (M' := b_128 :: M) _ h_91 e_130 mem0 (cons_fresh z_131)
        have hb_144 : b_63 ∉ b_128 :: M := ninC (by have := Cells.lt h_92; omega) hb_68
        have h_143 := Cells.ext h_92 e_130 nin0
        have h_145 := Rep.mono (M' := b_128 :: M) _ h_93 e_130 mem0 (cons_fresh z_131)
        have hb_147 : b_63 ∉ b_128 :: M := ninC (by have := Cells.lt h_94; omega) hb_68
        have h_146 := Cells.ext h_94 e_130 nin0
        have h_148 := Rep.mono (M' := b_128 :: M) _ h_95 e_130 mem0 (cons_fresh z_131)
        have h_149 := Rep.mono (M' := b_128 :: M) _ hr_105 e_130 mem0 (cons_fresh z_131)
        have hb_151 : b_99 ∉ b_128 :: M := ninC (by have := Cells.lt hc_103; omega) hb_104
        have h_150 := Cells.ext hc_103 e_130 nin0
        have h_152 := Rep.mono (M' := b_128 :: M) _ hr_111 e_130 mem0 (cons_fresh z_131)
        have hb_154 : b_99 ∉ b_128 :: M := ninC (by have := Cells.lt hc_110; omega) hb_104
        have h_153 := Cells.ext hc_110 e_130 nin0
        have h_155 := Rep.mono (M' := b_128 :: M) _ h_114 e_130 mem0 (cons_fresh z_131)
        have h_156 := Rep.mono (M' := b_128 :: M) _ hr_125 e_130 mem0 (cons_fresh z_131)
        have hb_158 : b_119 ∉ b_128 :: M := ninC (by have := Cells.lt hc_123; omega) hb_124
        have h_157 := Cells.ext hc_123 e_130 nin0
        have h_159 := h_96.ext e_130 nin0
        have h_160 := h_97.ext e_130 nin0
        have ho_133 : Own _ _ _ [_] := ho_133
        have h_161 := Acc.weak (M' := M) h_141 (fun x hx => .inl (List.mem_cons_of_mem _ hx))
        have hr_162 := rd_ints (xs := [_]) (M := bs_48 ++ M) ho_133 (ninA n_138 (notin_old hM hb_134)) (by simp only [List.mem_singleton, forall_eq]; unfold InI; omega) (by simp)
        refine S_append Try.runUnderlying26 Try.typeInfo3 Try.sizeOf3 Try.zeroValue3 rfl h_161 hr_162 (by show _ * 8 ≤ _; simp; omega) (by decide) (fun x hx => Nat.lt_of_lt_of_le (hM x hx) (E_139).size) rfl ?_
        intro v_163 w_164 bs_165 ha_166 e_167 hf_168
        have hb_169 := fresh_bs hf_168 hb_50 (E_139).size
        have rel_170 := rel_step hf_168 rel_51 (c_140).size
        have E_171 := Ext.stepO E_139 e_167 (fun x hx => .inr (hb_50 x hx))
        have c_172 := Ext.stepO c_140 e_167 (fun x hx => (rel_51 x hx).imp (fun h => by first | exact h | (cases h; done) | simp [h]) id)
        have o_175 := Acc.val ha_166
        obtain ⟨A_173, cap_174, rfl⟩ := o_175
        refine S_assign rfl ?_
        refine WL_nil ?_
        refine ⟨by repeat (first | refine agree_upd rfl ?_ | exact agree_mix rfl agree_refl | refine agree_mix rfl ?_), ?_⟩
        exact ⟨_, by omega, _, _, _, _, _, rfl, x3, trail_step q1 hn x2, by rw [List.length_append, List.length_singleton]; omega, by omega, E_171, c_172, ha_166, hb_169, rel_170, rfl, rfl, trivial⟩
      ·
        have p_176 := h_60
        try simp only [lrn] at p_176
        refine W_exit ?_
        refine W_seq ?_
        refine W_region ?_
        refine S_move rfl ?_
        refine S_assign rfl ?_
        refine WL_nil ?_
        refine W_ret ?_
        exact ⟨_, _, _, rfl, Acc.rd ha_49 (by omega), pathL_yes hr hR0 q1 ‹_›, E_53⟩
end Go.Proofs.Ytpgegnmaophapaa
