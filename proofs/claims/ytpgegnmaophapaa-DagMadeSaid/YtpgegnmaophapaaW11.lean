/- The walks of a history's functions, printed by program. -/
import Derived.Test.YtpgegnmaophapaaW10
namespace Go.Proofs.Ytpgegnmaophapaa
open Go.Wk Classical
theorem index_ok {M : List Nat} {w0 : World} {A : Option Addr} {cap : Nat} {l : List Commit} {b1 b2 : Nat} (h : (rSlice rCommit).rd M w0 [.slice A l.length cap] l) (hM : ∀ b ∈ M, b < w0.heap.size) (hr : Right l) (to : Int) {A' : Option Addr} {cap' : Nat} {xs : List Int} (hi : (rSlice rInt).rd M w0 [.slice A' xs.length cap'] xs) (h1 : Own w0 b1 22 [.slice A l.length cap]) (h2 : Own w0 b2 3 [.int .i64 to]) :
    CallR Try.prog 29 [.slice A' xs.length cap', .func (.func 30) #[] #[.pointer (some ⟨b1, 0, none⟩), .pointer (some ⟨b2, 0, none⟩)]] w0 (fun v w' => ∃ i : Int, v = .int .i64 i ∧ IdxP l to xs i ∧ Ext [] w0 w') := by
  have ll := rSlice_len h
  have li := rSlice_len hi
  refine Call1 Try.func29 rfl rfl rfl rfl ?_
  refine W_seq ?_
  refine W_region ?_
  refine S_assign rfl ?_
  refine WL_nil ?_
  refine W_seq ?_
  refine W_seq ?_
  refine W_region ?_
  refine S_move rfl ?_
  refine S_len Try.runUnderlying26 rfl rfl ?_
  refine S_move rfl ?_
  refine WL_nil ?_
  refine W_block ?_
  refine W_loopF [4, 5, 8, 9, 10, 11, 12, 13, 14, 15, 16, 17, 18] (fun m f w => ∃ i : Int, m = (xs.length - i).toNat ∧ 0 ≤ i ∧ i ≤ xs.length ∧ (∀ j (hj : j < xs.length), (j : Int) < i → ¬ Rch l xs[j] to) ∧ Ext [] w0 w ∧ Ext ([]) w0 w ∧ Live f [(8, .int .i64 i)]) ?_ ?_
  · exact ⟨_, 0, rfl, by omega, by omega, (fun j _ h => by omega), (Ext.refl [] w0), (Ext.refl _ _), rfl, trivial⟩
  ·
    rintro m g_5 w_1 ⟨i, rfl, q0, q1, q2, E_2, e_3, hl_4⟩
    refine W_liveM hl_4 rfl ?_
    have h_6 := h1.ext e_3 nin0
    have h_7 := h2.ext e_3 nin0
    refine W_seq ?_
    refine W_region ?_
    refine S_lss rfl rfl rfl ?_
    refine WL_nil ?_
    refine W_seq ?_
    refine W_cond rfl (fun h_9 => ?_) (fun h_9 => ?_)
    ·
      have p_10 := h_9
      try simp only [lrn] at p_10
      refine W_skip ?_
      refine W_seq ?_
      refine W_block ?_
      refine W_seq ?_
      refine W_region ?_
      refine S_move rfl ?_
      refine S_assign rfl ?_
      refine WL_nil ?_
      refine W_seq ?_
      refine W_region ?_
      refine S_move rfl ?_
      refine S_move rfl ?_
      refine S_move rfl ?_
      have h_11 := Rep.ext _ hi E_2
      refine S_index Try.runUnderlying26 Try.sizeOf3 h_11 rfl (by omega) (by omega) rfl ?_
      intro b_12 o_13 cs_14 hi_15 hc_16 hb_17 hr_18
      refine S_loadI Try.isAgg3 rfl hc_16 hr_18 rfl ?_
      rintro ⟨r_19, r_20⟩
      have h_21 := Rep.ext _ h E_2
      have hz_24 := path1_ok h_21 (fun x hx => Nat.lt_of_lt_of_le (hM x hx) (E_2).size) hr to xs[i.toNat] (by unfold InI; omega) h_6 h_7
      refine S_callV rfl Try.call30 rfl hz_24 rfl ?_
      rintro _ w_22 ⟨rfl, e_23⟩
      have E_25 := Ext.stepO E_2 e_23 mem0
      have c_26 := Ext.stepO e_3 e_23 mem0
      have h_27 := Rep.ext _ hr_18 e_23
      have h_28 := Cells.ext hc_16 e_23 nin0
      have h_29 := h_6.ext e_23 nin0
      have h_30 := h_7.ext e_23 nin0
      refine WL_nil ?_
      refine W_cond rfl (fun h_32 => ?_) (fun h_32 => ?_)
      ·
        have p_33 := h_32
        try simp only [lrn] at p_33
        refine W_seq ?_
        refine W_region ?_
        refine S_move rfl ?_
        refine S_assign rfl ?_
        refine WL_nil ?_
        refine W_ret ?_
        exact ⟨_, rfl, idx_yes q2 q0 (by omega) ‹_›, E_25⟩
      ·
        have p_34 := h_32
        try simp only [lrn] at p_34
        refine W_skip ?_
        refine W_region ?_
        refine S_add rfl rfl (by omega) rfl ?_
        refine S_move rfl ?_
        refine WL_nil ?_
        refine ⟨by repeat (first | refine agree_upd rfl ?_ | exact agree_mix rfl agree_refl | refine agree_mix rfl ?_), ?_⟩
        exact ⟨_, by omega, i + 1, rfl, by omega, by omega, idx_step q2 q0 (by omega) ‹_›, E_25, c_26, rfl, trivial⟩
    ·
      have p_35 := h_9
      try simp only [lrn] at p_35
      refine W_exit ?_
      refine W_seq ?_
      refine W_region ?_
      refine S_assign rfl ?_
      refine WL_nil ?_
      refine W_ret ?_
      exact ⟨_, rfl, idx_no q2 (by omega), E_2⟩
theorem path_ok {M : List Nat} {w0 : World} {A : Option Addr} {cap : Nat} {l : List Commit} (h : (rSlice rCommit).rd M w0 [.slice A l.length cap] l) (hM : ∀ b ∈ M, b < w0.heap.size) (hl : l.length ≤ 60) (a b : Int) (hia : InI a) (hib : InI b) :
    CallR Try.prog 16 [.slice A l.length cap, .int .i64 a, .int .i64 b] w0 (fun v w' => ∃ L A cap, v = .slice A L.length cap ∧ (rSlice rInt).rd M w' [.slice A L.length cap] L ∧ PathL l a b L ∧ Ext [] w0 w') := by
  have ll := rSlice_len h
  refine Call1 Try.func16 rfl rfl rfl rfl ?_
  refine W_seq ?_
  refine W_region ?_
  refine S_box rfl ?_
  intro b_1 w_2 e_3 z_4 z_5 ho_6
  have hb_7 : w0.heap.size ≤ b_1 := by have := ((Ext.refl [] w0)).size; omega
  have E_8 := Ext.stepO (Ext.refl [] w0) e_3 mem0
  have ho_6 : Own _ _ _ [_] := ho_6
  refine S_box rfl ?_
  intro b_9 w_10 e_11 z_12 z_13 ho_14
  have hb_15 : w0.heap.size ≤ b_9 := by have := (E_8).size; omega
  have n_16 : b_1 ≠ b_9 := by have := ho_6.lt; omega
  have E_17 := Ext.stepO E_8 e_11 mem0
  have h_18 := ho_6.ext e_11 nin0
  have ho_14 : Own _ _ _ [_] := ho_14
  refine S_assign rfl ?_
  refine WL_nil ?_
  refine W_seq ?_
  refine W_seq ?_
  refine W_region ?_
  refine S_load1 Try.isAgg22 rfl (h_18.at rfl) rfl ?_
  refine S_move rfl ?_
  refine S_load1 Try.isAgg3 rfl (ho_14.at rfl) rfl ?_
  have h_19 := Rep.ext _ h E_17
  refine S_call Try.call19 rfl (reaches_ok h_19 (fun x hx => Nat.lt_of_lt_of_le (hM x hx) (E_17).size) hl a b hia) rfl ?_
  rintro _ w_20 ⟨rfl, e_21⟩
  have E_22 := Ext.stepO E_17 e_21 mem0
  have h_23 := h_18.ext e_21 nin0
  have h_24 := ho_14.ext e_21 nin0
  refine S_not rfl rfl ?_
  refine WL_nil ?_
  refine W_cond rfl (fun h_26 => ?_) (fun h_26 => ?_)
  ·
    have h_27 := h_26
    simp only [lrnN] at h_27
    have p_28 := h_27
    try simp only [lrn] at p_28
    refine W_seq ?_
    refine W_region ?_
    refine S_assign rfl ?_
    refine WL_nil ?_
    refine W_ret ?_
    exact ⟨[], _, _, rfl, rd_nil, pathL_no ‹¬ _›, E_22⟩
  ·
    have h_29 := h_26
    simp only [lrnN] at h_29
    have p_30 := h_29
    try simp only [lrn] at p_30
    refine W_skip ?_
    refine W_seq ?_
    refine W_region ?_
    have hz : Right l ∧ Rch l a b := ‹_›
    have ⟨hr, hR0⟩ := hz
    have ⟨⟨a1, a2⟩, tb⟩ := hR0.there
    have ⟨b1, b2⟩ := tb
    refine S_move rfl ?_
    refine S_buildSlice Try.runUnderlying26 Try.sizeOf3 Try.zeroValue3 rfl rfl rfl rfl rfl rfl rfl ?_
    intro b_31 w_32 e_33 z_34 z_35 ho_36
    have hb_37 : w0.heap.size ≤ b_31 := by have := (E_22).size; omega
    have n_38 : b_1 ≠ b_31 := by have := h_23.lt; omega
    have n_39 : b_9 ≠ b_31 := by have := h_24.lt; omega
    have E_40 := Ext.stepO E_22 e_33 mem0
    have h_41 := h_23.ext e_33 nin0
    have h_42 := h_24.ext e_33 nin0
    have ho_36 : Own _ _ _ [_] := ho_36
    refine S_assign rfl ?_
    have ha_43 := acc_ints (xs := [a]) (M := M) ho_36 (notin_old hM hb_37) (by simp only [List.mem_singleton, forall_eq]; unfold InI; omega)
    have hb_44 : ∀ x ∈ [b_31], w0.heap.size ≤ x := memC hb_37 mem0
    refine WL_nil ?_
    refine W_seq ?_
    refine W_block ?_
    refine W_loopF [1, 7, 8, 16, 17, 18, 19, 20, 21, 22, 23, 24, 25, 26, 27, 28, 29, 30, 31, 32, 33, 34, 35, 36, 37, 38, 39] (fun m f w => ∃ (cur : Int) (xs : List Int) (A_45 : Option Addr) (cap_46 : Nat) (bs_47 : List Nat), m = cur.toNat ∧ Rch l cur b ∧ Trail l b a cur xs ∧ xs.length + cur ≤ a + 1 ∧ cur ≤ a ∧ Ext [] w0 w ∧ Ext ([b_31]) w_32 w ∧ Acc rInt M w (.slice A_45 xs.length cap_46) xs bs_47 ∧ (∀ b ∈ bs_47, w0.heap.size ≤ b) ∧ (∀ b ∈ bs_47, b ∈ [b_31] ∨ (w_32).heap.size ≤ b) ∧ Live f [(1, .int .i64 cur), (7, .slice A_45 xs.length cap_46)]) ?_ ?_
    · exact ⟨_, a, [a], _, _, _, rfl, hR0, trail_zero, by simp; omega, by omega, E_40, (Ext.refl _ _), ha_43, hb_44, rel_refl, rfl, rfl, trivial⟩
    ·
      rintro m g_55 w_51 ⟨cur, xs, A_45, cap_46, bs_47, rfl, q0, q1, q2, q3, E_52, e_53, ha_48, hb_49, rel_50, hl_54⟩
      refine W_liveM hl_54 rfl ?_
      have h_56 := h_41.ext e_53 (ninC n_38 nin0)
      have h_57 := h_42.ext e_53 (ninC n_39 nin0)
      refine W_seq ?_
      refine W_seq ?_
      refine W_region ?_
      refine S_move rfl ?_
      refine S_load1 Try.isAgg3 rfl (h_57.at rfl) rfl ?_
      refine S_neq rfl rfl rfl ?_
      refine WL_nil ?_
      refine W_cond rfl (fun h_59 => ?_) (fun h_59 => ?_)
      ·
        have p_60 := h_59
        try simp only [lrn] at p_60
        refine W_skip ?_
        refine W_block ?_
        refine W_seq ?_
        refine W_region ?_
        have hn : ¬ cur = b := ‹_›
        have tc := q0.there.1
        have ⟨c1, c2⟩ := tc
        refine S_load1 Try.isAgg22 rfl (h_56.at rfl) rfl ?_
        refine S_move rfl ?_
        refine S_sub rfl rfl (by omega) rfl ?_
        have h_61 := Rep.ext _ h E_52
        refine S_index Try.runUnderlying22 Try.sizeOf37 h_61 rfl (by omega) (by omega) rfl ?_
        intro b_62 o_63 cs_64 hi_65 hc_66 hb_67 hr_68
        have o_75 := rCommit_cells hc_66 hr_68
        obtain ⟨c_69, c_72, ⟨hc_70, hr_71⟩, ⟨hc_73, hr_74⟩⟩ := o_75
        refine S_fieldAddr Try.runUnderlying37 rfl Try.sizeOf26 rfl rfl ?_
        refine S_loadR Try.isAgg26 rfl hc_73 hr_74 rfl rfl ?_
        intro v_76 h_77
        have o_81 := rSlice_val h_77
        obtain ⟨A_79, cap_80, rfl⟩ := o_81
        have hl_78 := rSlice_len h_77
        refine S_makeFunc rfl ?_
        have hz_84 := index_ok h_61 (fun x hx => Nat.lt_of_lt_of_le (hM x hx) (E_52).size) hr b h_77 h_56 h_57
        refine S_call Try.call29 rfl hz_84 rfl ?_
        rintro _ w_82 ⟨i_85, rfl, hx_86, e_83⟩
        have E_87 := Ext.stepO E_52 e_83 mem0
        have c_88 := Ext.stepO e_53 e_83 mem0
        have h_89 := Acc.ext ha_48 e_83 mem0
        have h_90 := Rep.ext _ hr_68 e_83
        have h_91 := Cells.ext hc_66 e_83 nin0
        have h_92 := Rep.ext _ hr_74 e_83
        have h_93 := Cells.ext hc_73 e_83 nin0
        have h_94 := Rep.ext _ h_77 e_83
        have h_95 := h_56.ext e_83 nin0
        have h_96 := h_57.ext e_83 nin0
        have ⟨x0, x1, x2, x3, x4, x5⟩ := idx_nxt hr q0 hn hx_86
        refine S_assign rfl ?_
        refine WL_nil ?_
        refine W_seq ?_
        refine W_region ?_
        refine S_load1 Try.isAgg22 rfl (h_95.at rfl) rfl ?_
        refine S_move rfl ?_
        refine S_sub rfl rfl (by omega) rfl ?_
        have h_97 := Rep.ext _ h E_87
        refine S_index Try.runUnderlying22 Try.sizeOf37 h_97 rfl (by omega) (by omega) rfl ?_
        intro b_98 o_99 cs_100 hi_101 hc_102 hb_103 hr_104
        have o_111 := rCommit_cells hc_102 hr_104
        obtain ⟨c_105, c_108, ⟨hc_106, hr_107⟩, ⟨hc_109, hr_110⟩⟩ := o_111
        refine S_fieldAddr Try.runUnderlying37 rfl Try.sizeOf26 rfl rfl ?_
        refine S_loadR Try.isAgg26 rfl hc_109 hr_110 rfl rfl ?_
        intro v_112 h_113
        have o_117 := rSlice_val h_113
        obtain ⟨A_115, cap_116, rfl⟩ := o_117
        have hl_114 := rSlice_len h_113
        refine S_move rfl ?_
        refine S_index Try.runUnderlying26 Try.sizeOf3 h_113 rfl (by omega) (by omega) rfl ?_
        intro b_118 o_119 cs_120 hi_121 hc_122 hb_123 hr_124
        refine S_loadI Try.isAgg3 rfl hc_122 hr_124 rfl ?_
        rintro ⟨r_125, r_126⟩
        refine S_assign rfl ?_
        refine WL_nil ?_
        refine W_region ?_
        refine S_move rfl ?_
        refine S_move rfl ?_
        refine S_buildSlice Try.runUnderlying26 Try.sizeOf3 Try.zeroValue3 rfl rfl rfl rfl rfl rfl rfl ?_
        intro b_127 w_128 e_129 z_130 z_131 ho_132
        have hb_133 : w0.heap.size ≤ b_127 := by have := (E_87).size; omega
        have n_134 : (w_32).heap.size ≤ b_127 := by have := (c_88).size; omega
        have n_135 : b_1 ≠ b_127 := by have := h_95.lt; omega
        have n_136 : b_9 ≠ b_127 := by have := h_96.lt; omega
        have n_137 : b_127 ∉ bs_47 := fun h => by have := Acc.bs_lt h_89 _ h; omega
        have E_138 := Ext.stepO E_87 e_129 mem0
        have c_139 := Ext.stepO c_88 e_129 mem0
        have h_140 := Acc.ext (Acc.weak h_89 (cons_fresh z_130)) e_129 mem0
        have h_141 := Rep.mono (M' := b_127 :: M) _ h_90 e_129 mem0 (cons_fresh z_130)
        have hb_143 : b_62 ∉ b_127 :: M := ninC (by have := Cells.lt h_91; omega) hb_67
        have h_142 := Cells.ext h_91 e_129 nin0
        have h_144 := Rep.mono (M' := b_127 :: M) _ h_92 e_129 mem0 (cons_fresh z_130)
        have hb_146 : b_62 ∉ b_127 :: M := ninC (by have := Cells.lt h_93; omega) hb_67
        have h_145 := Cells.ext h_93 e_129 nin0
        have h_147 := Rep.mono (M' := b_127 :: M) _ h_94 e_129 mem0 (cons_fresh z_130)
        have h_148 := Rep.mono (M' := b_127 :: M) _ hr_104 e_129 mem0 (cons_fresh z_130)
        have hb_150 : b_98 ∉ b_127 :: M := ninC (by have := Cells.lt hc_102; omega) hb_103
        have h_149 := Cells.ext hc_102 e_129 nin0
        have h_151 := Rep.mono (M' := b_127 :: M) _ hr_110 e_129 mem0 (cons_fresh z_130)
        have hb_153 : b_98 ∉ b_127 :: M := ninC (by have := Cells.lt hc_109; omega) hb_103
        have h_152 := Cells.ext hc_109 e_129 nin0
        have h_154 := Rep.mono (M' := b_127 :: M) _ h_113 e_129 mem0 (cons_fresh z_130)
        have h_155 := Rep.mono (M' := b_127 :: M) _ hr_124 e_129 mem0 (cons_fresh z_130)
        have hb_157 : b_118 ∉ b_127 :: M := ninC (by have := Cells.lt hc_122; omega) hb_123
        have h_156 := Cells.ext hc_122 e_129 nin0
        have h_158 := h_95.ext e_129 nin0
        have h_159 := h_96.ext e_129 nin0
        have ho_132 : Own _ _ _ [_] := ho_132
        have h_160 := Acc.weak (M' := M) h_140 (fun x hx => .inl (List.mem_cons_of_mem _ hx))
        have hr_161 := rd_ints (xs := [_]) (M := bs_47 ++ M) ho_132 (ninA n_137 (notin_old hM hb_133)) (by simp only [List.mem_singleton, forall_eq]; unfold InI; omega) (by simp)
        refine S_append Try.runUnderlying26 Try.typeInfo3 Try.sizeOf3 Try.zeroValue3 rfl h_160 hr_161 (by show _ * 8 ≤ _; simp; omega) (by decide) (fun x hx => Nat.lt_of_lt_of_le (hM x hx) (E_138).size) rfl ?_
        intro v_162 w_163 bs_164 ha_165 e_166 hf_167
        have hb_168 := fresh_bs hf_167 hb_49 (E_138).size
        have rel_169 := rel_step hf_167 rel_50 (c_139).size
        have E_170 := Ext.stepO E_138 e_166 (fun x hx => .inr (hb_49 x hx))
        have c_171 := Ext.stepO c_139 e_166 (fun x hx => (rel_50 x hx).imp (fun h => by first | exact h | (cases h; done) | simp [h]) id)
        have o_174 := Acc.val ha_165
        obtain ⟨A_172, cap_173, rfl⟩ := o_174
        refine S_assign rfl ?_
        refine WL_nil ?_
        refine ⟨by repeat (first | refine agree_upd rfl ?_ | exact agree_mix rfl agree_refl | refine agree_mix rfl ?_), ?_⟩
        exact ⟨_, by omega, _, _, _, _, _, rfl, x3, trail_step q1 hn x2, by rw [List.length_append, List.length_singleton]; omega, by omega, E_170, c_171, ha_165, hb_168, rel_169, rfl, rfl, trivial⟩
      ·
        have p_175 := h_59
        try simp only [lrn] at p_175
        refine W_exit ?_
        refine W_seq ?_
        refine W_region ?_
        refine S_move rfl ?_
        refine S_assign rfl ?_
        refine WL_nil ?_
        refine W_ret ?_
        exact ⟨_, _, _, rfl, Acc.rd ha_48 (by omega), pathL_yes hr hR0 q1 ‹_›, E_52⟩
end Go.Proofs.Ytpgegnmaophapaa
