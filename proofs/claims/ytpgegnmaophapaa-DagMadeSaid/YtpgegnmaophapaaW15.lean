/- The walks of a history's functions, printed by program. -/
import Derived.Test.YtpgegnmaophapaaW14
namespace Go.Proofs.Ytpgegnmaophapaa
open Go.Wk Classical
set_option maxHeartbeats 2000000 in
theorem made_law_ok {M : List Nat} {w0 : World} (hM : ∀ b ∈ M, b < w0.heap.size) {A' : Option Addr} {cap' : Nat} {x : List Int} (hi : (rSlice rInt).rd M w0 [.slice A' x.length cap'] x) (a b : Int) (hia : InI a) (hib : InI b) :
    CallR Try.prog 6 [.slice A' x.length cap', .int .i64 a, .int .i64 b] w0 (fun v w' => v = .bool true ∧ Ext [] w0 w') := by
  have li := rSlice_len hi
  refine Call1 Try.func6 rfl rfl rfl rfl ?_
  refine W_seq ?_
  refine W_region ?_
  refine S_assign rfl ?_
  refine WL_nil ?_
  refine W_seq ?_
  refine W_seq ?_
  refine W_region ?_
  refine S_move rfl ?_
  refine S_len Try.runUnderlying26 rfl rfl ?_
  refine S_gtr rfl rfl rfl ?_
  refine S_move rfl ?_
  refine WL_split (dj := 11) rfl (fun h_2 => ?_) (fun h_2 => ?_)
  ·
    have p_3 := h_2
    try simp only [lrn] at p_3
    refine WL_off rfl rfl rfl (bT h_2) ?_
    refine WL_off rfl rfl rfl (bT h_2) ?_
    refine WL_off rfl rfl rfl (bT h_2) ?_
    refine S_pick_t (bT h_2) rfl ?_
    refine WL_nil ?_
    refine W_cond_true rfl ?_
    refine W_seq ?_
    refine W_region ?_
    refine S_call Try.call10 rfl (alive_ok (M := M) hM) rfl ?_
    rintro _ w_4 ⟨rfl, e_5⟩
    have E_6 := Ext.stepO (Ext.refl [] w0) e_5 mem0
    refine S_assign rfl ?_
    refine WL_nil ?_
    refine W_ret ?_
    exact ⟨rfl, E_6⟩
  ·
    have p_7 := h_2
    try simp only [lrn] at p_7
    refine WL_on rfl rfl (bF h_2) ?_
    refine S_move rfl ?_
    refine WL_on rfl rfl (bF h_2) ?_
    refine S_len Try.runUnderlying26 rfl rfl ?_
    refine WL_on rfl rfl (bF h_2) ?_
    refine S_eql rfl rfl rfl ?_
    refine S_pick_f (bF h_2) rfl ?_
    refine WL_nil ?_
    refine W_cond rfl (fun h_9 => ?_) (fun h_9 => ?_)
    ·
      have p_10 := h_9
      try simp only [lrn] at p_10
      refine W_seq ?_
      refine W_region ?_
      refine S_call Try.call10 rfl (alive_ok (M := M) hM) rfl ?_
      rintro _ w_11 ⟨rfl, e_12⟩
      have E_13 := Ext.stepO (Ext.refl [] w0) e_12 mem0
      refine S_assign rfl ?_
      refine WL_nil ?_
      refine W_ret ?_
      exact ⟨rfl, E_13⟩
    ·
      have p_14 := h_9
      try simp only [lrn] at p_14
      refine W_skip ?_
      refine W_seq ?_
      refine W_region ?_
      refine S_move rfl ?_
      have hz_22 := made_ok hM hi (by omega)
      refine S_call Try.call18 rfl hz_22 rfl ?_
      rintro _ w_15 ⟨L_17, A_18, cap_19, rfl, hr_20, hp_21, e_16⟩
      have E_23 := Ext.stepO (Ext.refl [] w0) e_16 mem0
      have hl_24 := rSlice_len hr_20
      refine S_assign rfl ?_
      refine WL_nil ?_
      refine W_seq ?_
      refine W_region_quiet rfl (by decide +kernel) ?_
      have ⟨hr, hlen⟩ := hp_21
      have hl : L_17.length ≤ 60 := by omega
      have hn : 0 < (L_17.length : Int) := by omega
      have ma := tm_norm (a := a) hn
      have ha : InI (1 + (a.tmod (L_17.length : Int) + (L_17.length : Int)).tmod (L_17.length : Int)) := by unfold InI; omega
      have ta : There L_17 (1 + (a.tmod (L_17.length : Int) + (L_17.length : Int)).tmod (L_17.length : Int)) := ⟨by omega, by omega⟩
      have mb := tm_norm (a := b) hn
      have hb : InI (1 + (b.tmod (L_17.length : Int) + (L_17.length : Int)).tmod (L_17.length : Int)) := by unfold InI; omega
      have tb : There L_17 (1 + (b.tmod (L_17.length : Int) + (L_17.length : Int)).tmod (L_17.length : Int)) := ⟨by omega, by omega⟩
      refine S_move rfl ?_
      refine S_move rfl ?_
      refine S_len Try.runUnderlying22 rfl rfl ?_
      refine S_rem rfl rfl (by omega) rfl ?_
      refine S_move rfl ?_
      refine S_len Try.runUnderlying22 rfl rfl ?_
      refine S_add rfl rfl (by omega) rfl ?_
      refine S_move rfl ?_
      refine S_len Try.runUnderlying22 rfl rfl ?_
      refine S_rem rfl rfl (by omega) rfl ?_
      refine S_add rfl rfl (by omega) rfl ?_
      refine S_move rfl ?_
      refine S_move rfl ?_
      refine S_len Try.runUnderlying22 rfl rfl ?_
      refine S_rem rfl rfl (by omega) rfl ?_
      refine S_move rfl ?_
      refine S_len Try.runUnderlying22 rfl rfl ?_
      refine S_add rfl rfl (by omega) rfl ?_
      refine S_move rfl ?_
      refine S_len Try.runUnderlying22 rfl rfl ?_
      refine S_rem rfl rfl (by omega) rfl ?_
      refine S_add rfl rfl (by omega) rfl ?_
      refine S_assign rfl ?_
      refine S_assign rfl ?_
      refine WL_nil ?_
      refine W_seq ?_
      refine W_region ?_
      refine WL_norm (L := [(1, .int .i64 (1 + (a.tmod (L_17.length : Int) + (L_17.length : Int)).tmod (L_17.length : Int))), (2, .int .i64 (1 + (b.tmod (L_17.length : Int) + (L_17.length : Int)).tmod (L_17.length : Int))), (7, .slice A_18 L_17.length cap_19)]) ⟨rfl, rfl, rfl, trivial⟩ ?_
      intro g_25
      refine S_move rfl ?_
      have hz_26 := (right_ok hr_20).mono (R' := fun v w' => v = .bool true ∧ Ext [] w_15 w') (fun _ _ h => ⟨h.1.trans (congrArg Value.bool (decide_eq_true hr)), h.2⟩)
      refine S_call Try.call20 rfl hz_26 rfl ?_
      rintro _ w_27 ⟨rfl, e_28⟩
      have E_29 := Ext.stepO E_23 e_28 mem0
      have h_30 := Rep.ext _ hr_20 e_28
      refine S_move rfl ?_
      refine WL_on rfl rfl rfl ?_
      refine S_move rfl ?_
      refine WL_on rfl rfl rfl ?_
      refine S_move rfl ?_
      refine WL_on rfl rfl rfl ?_
      refine S_move rfl ?_
      refine WL_on rfl rfl rfl ?_
      refine S_call Try.call19 rfl (reaches_ok h_30 (fun x hx => Nat.lt_of_lt_of_le (hM x hx) (E_29).size) hl (1 + (a.tmod (L_17.length : Int) + (L_17.length : Int)).tmod (L_17.length : Int)) (1 + (b.tmod (L_17.length : Int) + (L_17.length : Int)).tmod (L_17.length : Int)) ha) rfl ?_
      rintro _ w_31 ⟨rfl, e_32⟩
      have E_33 := Ext.stepO E_29 e_32 mem0
      have h_34 := Rep.ext _ h_30 e_32
      refine WL_on rfl rfl rfl ?_
      refine S_move rfl ?_
      refine WL_on rfl rfl rfl ?_
      refine S_move rfl ?_
      refine WL_on rfl rfl rfl ?_
      refine S_move rfl ?_
      refine WL_on rfl rfl rfl ?_
      refine S_call Try.call22 rfl (reaches_ref_ok h_34 (fun x hx => Nat.lt_of_lt_of_le (hM x hx) (E_33).size) hl (1 + (a.tmod (L_17.length : Int) + (L_17.length : Int)).tmod (L_17.length : Int)) (1 + (b.tmod (L_17.length : Int) + (L_17.length : Int)).tmod (L_17.length : Int)) ha) rfl ?_
      rintro _ w_36 ⟨rfl, e_37⟩
      have E_38 := Ext.stepO E_33 e_37 mem0
      have h_39 := Rep.ext _ h_34 e_37
      refine WL_on rfl rfl rfl ?_
      refine S_eqlBT Try.runUnderlying4 rfl rfl rfl rfl ?_
      refine S_pick_t rfl rfl ?_
      refine S_move rfl ?_
      refine WL_norm (L := [(1, .int .i64 (1 + (a.tmod (L_17.length : Int) + (L_17.length : Int)).tmod (L_17.length : Int))), (2, .int .i64 (1 + (b.tmod (L_17.length : Int) + (L_17.length : Int)).tmod (L_17.length : Int))), (7, .slice A_18 L_17.length cap_19), (54, .bool true)]) ⟨rfl, rfl, rfl, rfl, trivial⟩ ?_
      intro g_41
      refine WL_on rfl rfl rfl ?_
      refine S_move rfl ?_
      refine WL_on rfl rfl rfl ?_
      refine S_move rfl ?_
      refine WL_on rfl rfl rfl ?_
      refine S_move rfl ?_
      refine WL_on rfl rfl rfl ?_
      refine S_buildSlice Try.runUnderlying26 Try.sizeOf3 Try.zeroValue3 rfl rfl rfl rfl rfl rfl rfl ?_
      intro b_42 w_43 e_44 z_45 z_46 ho_47
      have hb_48 : w0.heap.size ≤ b_42 := by have := (E_38).size; omega
      have E_49 := Ext.stepO E_38 e_44 mem0
      have h_50 := Rep.mono (M' := b_42 :: M) _ h_39 e_44 mem0 (cons_fresh z_45)
      have ho_47 : Own _ _ _ [_, _] := ho_47
      refine WL_on rfl rfl rfl ?_
      have h_51 := Rep.mono (M' := M) _ h_50 (Ext.refl [] w_43) mem0 (fun x hx => .inl (by simp [hx]))
      have hr_52 := rd_ints (xs := [(1 + (a.tmod (L_17.length : Int) + (L_17.length : Int)).tmod (L_17.length : Int)), (1 + (b.tmod (L_17.length : Int) + (L_17.length : Int)).tmod (L_17.length : Int))]) (M := M) ho_47 (notin_old hM hb_48) (by simp only [List.mem_cons, List.not_mem_nil, or_false]; rintro _ (rfl | rfl) <;> assumption) (by simp)
      have hz_60 := anc_ok h_51 (fun x hx => Nat.lt_of_lt_of_le (hM x hx) (E_49).size) hl hr_52
      refine S_call Try.call23 rfl hz_60 rfl ?_
      rintro _ w_53 ⟨L_55, A_56, cap_57, rfl, hr_58, hp_59, e_54⟩
      have E_61 := Ext.stepO E_49 e_54 mem0
      have h_62 := Rep.ext _ h_50 e_54
      have h_63 := ho_47.ext e_54 nin0
      have hl_64 := rSlice_len hr_58
      refine WL_norm (L := [(1, .int .i64 (1 + (a.tmod (L_17.length : Int) + (L_17.length : Int)).tmod (L_17.length : Int))), (2, .int .i64 (1 + (b.tmod (L_17.length : Int) + (L_17.length : Int)).tmod (L_17.length : Int))), (7, .slice A_18 L_17.length cap_19), (54, .bool true), (59, .slice A_56 L_55.length cap_57)]) ⟨rfl, rfl, rfl, rfl, rfl, trivial⟩ ?_
      intro g_65
      refine WL_on rfl rfl rfl ?_
      refine S_move rfl ?_
      refine WL_on rfl rfl rfl ?_
      refine S_move rfl ?_
      refine WL_on rfl rfl rfl ?_
      refine S_move rfl ?_
      refine WL_on rfl rfl rfl ?_
      refine S_buildSlice Try.runUnderlying26 Try.sizeOf3 Try.zeroValue3 rfl rfl rfl rfl rfl rfl rfl ?_
      intro b_66 w_67 e_68 z_69 z_70 ho_71
      have hb_72 : w0.heap.size ≤ b_66 := by have := (E_61).size; omega
      have n_73 : b_42 ≠ b_66 := by have := h_63.lt; omega
      have E_74 := Ext.stepO E_61 e_68 mem0
      have h_75 := Rep.mono (M' := b_66 :: (b_42 :: M)) _ h_62 e_68 mem0 (cons_fresh z_69)
      have h_76 := Rep.mono (M' := b_66 :: M) _ hr_58 e_68 mem0 (cons_fresh z_69)
      have h_77 := h_63.ext e_68 nin0
      have ho_71 : Own _ _ _ [_, _] := ho_71
      refine WL_on rfl rfl rfl ?_
      have h_78 := Rep.mono (M' := M) _ h_75 (Ext.refl [] w_67) mem0 (fun x hx => .inl (by simp [hx]))
      have hr_79 := rd_ints (xs := [(1 + (a.tmod (L_17.length : Int) + (L_17.length : Int)).tmod (L_17.length : Int)), (1 + (b.tmod (L_17.length : Int) + (L_17.length : Int)).tmod (L_17.length : Int))]) (M := M) ho_71 (notin_old hM hb_72) (by simp only [List.mem_cons, List.not_mem_nil, or_false]; rintro _ (rfl | rfl) <;> assumption) (by simp)
      have hz_87 := anc_ref_ok h_78 (fun x hx => Nat.lt_of_lt_of_le (hM x hx) (E_74).size) hl hr_79
      refine S_call Try.call24 rfl hz_87 rfl ?_
      rintro _ w_80 ⟨L_82, A_83, cap_84, rfl, hr_85, hp_86, e_81⟩
      have E_88 := Ext.stepO E_74 e_81 mem0
      have h_89 := Rep.ext _ h_75 e_81
      have h_90 := Rep.ext _ h_76 e_81
      have h_91 := h_77.ext e_81 nin0
      have h_92 := ho_71.ext e_81 nin0
      have hl_93 := rSlice_len hr_85
      refine WL_on rfl rfl rfl ?_
      have h_94 := Rep.mono (M' := M) _ h_90 (Ext.refl [] w_80) mem0 (fun x hx => .inl (by simp [hx]))
      have he_95 : L_55 = L_82 := ancL_unique hp_59 hp_86
      have hz_96 := (ints_ok h_94 hr_85).mono (R' := fun v w' => v = .bool true ∧ w' = w_80) (fun _ _ h => ⟨h.1.trans (congrArg Value.bool (decide_eq_true he_95)), h.2⟩)
      refine S_call Try.call11 rfl hz_96 rfl ?_
      rintro _ _ ⟨rfl, hw_97⟩
      obtain rfl := hw_97.symm
      refine S_pick_t rfl rfl ?_
      refine S_move rfl ?_
      refine WL_norm (L := [(1, .int .i64 (1 + (a.tmod (L_17.length : Int) + (L_17.length : Int)).tmod (L_17.length : Int))), (2, .int .i64 (1 + (b.tmod (L_17.length : Int) + (L_17.length : Int)).tmod (L_17.length : Int))), (7, .slice A_18 L_17.length cap_19), (67, .bool true)]) ⟨rfl, rfl, rfl, rfl, trivial⟩ ?_
      intro g_98
      refine WL_on rfl rfl rfl ?_
      refine S_move rfl ?_
      refine WL_on rfl rfl rfl ?_
      refine S_move rfl ?_
      refine WL_on rfl rfl rfl ?_
      refine S_move rfl ?_
      refine WL_on rfl rfl rfl ?_
      have h_99 := Rep.mono (M' := M) _ h_89 (Ext.refl [] w_80) mem0 (fun x hx => .inl (by simp [hx]))
      have hz_107 := common_ok h_99 (fun x hx => Nat.lt_of_lt_of_le (hM x hx) (E_88).size) hl (1 + (a.tmod (L_17.length : Int) + (L_17.length : Int)).tmod (L_17.length : Int)) (1 + (b.tmod (L_17.length : Int) + (L_17.length : Int)).tmod (L_17.length : Int)) ha hb
      refine S_call Try.call12 rfl hz_107 rfl ?_
      rintro _ w_100 ⟨L_102, A_103, cap_104, rfl, hr_105, hp_106, e_101⟩
      have E_108 := Ext.stepO E_88 e_101 mem0
      have h_109 := Rep.ext _ h_89 e_101
      have h_110 := h_91.ext e_101 nin0
      have h_111 := h_92.ext e_101 nin0
      have hl_112 := rSlice_len hr_105
      refine WL_norm (L := [(1, .int .i64 (1 + (a.tmod (L_17.length : Int) + (L_17.length : Int)).tmod (L_17.length : Int))), (2, .int .i64 (1 + (b.tmod (L_17.length : Int) + (L_17.length : Int)).tmod (L_17.length : Int))), (7, .slice A_18 L_17.length cap_19), (67, .bool true), (71, .slice A_103 L_102.length cap_104)]) ⟨rfl, rfl, rfl, rfl, rfl, trivial⟩ ?_
      intro g_113
      refine WL_on rfl rfl rfl ?_
      refine S_move rfl ?_
      refine WL_on rfl rfl rfl ?_
      refine S_move rfl ?_
      refine WL_on rfl rfl rfl ?_
      refine S_move rfl ?_
      refine WL_on rfl rfl rfl ?_
      have h_114 := Rep.mono (M' := M) _ h_109 (Ext.refl [] w_100) mem0 (fun x hx => .inl (by simp [hx]))
      have hz_122 := common_ref_ok h_114 (fun x hx => Nat.lt_of_lt_of_le (hM x hx) (E_108).size) hl (1 + (a.tmod (L_17.length : Int) + (L_17.length : Int)).tmod (L_17.length : Int)) (1 + (b.tmod (L_17.length : Int) + (L_17.length : Int)).tmod (L_17.length : Int)) ha hb
      refine S_call Try.call13 rfl hz_122 rfl ?_
      rintro _ w_115 ⟨L_117, A_118, cap_119, rfl, hr_120, hp_121, e_116⟩
      have E_123 := Ext.stepO E_108 e_116 mem0
      have h_124 := Rep.ext _ h_109 e_116
      have h_125 := Rep.ext _ hr_105 e_116
      have h_126 := h_110.ext e_116 nin0
      have h_127 := h_111.ext e_116 nin0
      have hl_128 := rSlice_len hr_120
      refine WL_on rfl rfl rfl ?_
      have he_129 : L_102 = L_117 := nearL_unique hp_106 hp_121
      have hz_130 := (ints_ok h_125 hr_120).mono (R' := fun v w' => v = .bool true ∧ w' = w_115) (fun _ _ h => ⟨h.1.trans (congrArg Value.bool (decide_eq_true he_129)), h.2⟩)
      refine S_call Try.call11 rfl hz_130 rfl ?_
      rintro _ _ ⟨rfl, hw_131⟩
      obtain rfl := hw_131.symm
      refine S_pick_t rfl rfl ?_
      refine S_move rfl ?_
      refine WL_norm (L := [(1, .int .i64 (1 + (a.tmod (L_17.length : Int) + (L_17.length : Int)).tmod (L_17.length : Int))), (2, .int .i64 (1 + (b.tmod (L_17.length : Int) + (L_17.length : Int)).tmod (L_17.length : Int))), (7, .slice A_18 L_17.length cap_19), (78, .bool true)]) ⟨rfl, rfl, rfl, rfl, trivial⟩ ?_
      intro g_132
      refine WL_on rfl rfl rfl ?_
      refine S_move rfl ?_
      refine WL_on rfl rfl rfl ?_
      have h_133 := Rep.mono (M' := M) _ h_124 (Ext.refl [] w_115) mem0 (fun x hx => .inl (by simp [hx]))
      have hz_141 := heads_ok h_133 (fun x hx => Nat.lt_of_lt_of_le (hM x hx) (E_123).size) hl
      refine S_call Try.call14 rfl hz_141 rfl ?_
      rintro _ w_134 ⟨L_136, A_137, cap_138, rfl, hr_139, hp_140, e_135⟩
      have E_142 := Ext.stepO E_123 e_135 mem0
      have h_143 := Rep.ext _ h_124 e_135
      have h_144 := h_126.ext e_135 nin0
      have h_145 := h_127.ext e_135 nin0
      have hl_146 := rSlice_len hr_139
      refine WL_on rfl rfl rfl ?_
      refine S_move rfl ?_
      refine WL_on rfl rfl rfl ?_
      have h_147 := Rep.mono (M' := M) _ h_143 (Ext.refl [] w_134) mem0 (fun x hx => .inl (by simp [hx]))
      have hz_155 := heads_ref_ok h_147 (fun x hx => Nat.lt_of_lt_of_le (hM x hx) (E_142).size) hl
      refine S_call Try.call15 rfl hz_155 rfl ?_
      rintro _ w_148 ⟨L_150, A_151, cap_152, rfl, hr_153, hp_154, e_149⟩
      have E_156 := Ext.stepO E_142 e_149 mem0
      have h_157 := Rep.ext _ h_143 e_149
      have h_158 := Rep.ext _ hr_139 e_149
      have h_159 := h_144.ext e_149 nin0
      have h_160 := h_145.ext e_149 nin0
      have hl_161 := rSlice_len hr_153
      refine WL_on rfl rfl rfl ?_
      have he_162 : L_136 = L_150 := headL_unique hp_140 hp_154
      have hz_163 := (ints_ok h_158 hr_153).mono (R' := fun v w' => v = .bool true ∧ w' = w_148) (fun _ _ h => ⟨h.1.trans (congrArg Value.bool (decide_eq_true he_162)), h.2⟩)
      refine S_call Try.call11 rfl hz_163 rfl ?_
      rintro _ _ ⟨rfl, hw_164⟩
      obtain rfl := hw_164.symm
      refine S_pick_t rfl rfl ?_
      refine S_move rfl ?_
      refine WL_norm (L := [(1, .int .i64 (1 + (a.tmod (L_17.length : Int) + (L_17.length : Int)).tmod (L_17.length : Int))), (2, .int .i64 (1 + (b.tmod (L_17.length : Int) + (L_17.length : Int)).tmod (L_17.length : Int))), (7, .slice A_18 L_17.length cap_19), (85, .bool true)]) ⟨rfl, rfl, rfl, rfl, trivial⟩ ?_
      intro g_165
      refine WL_on rfl rfl rfl ?_
      refine S_move rfl ?_
      refine WL_on rfl rfl rfl ?_
      refine S_move rfl ?_
      refine WL_on rfl rfl rfl ?_
      refine S_move rfl ?_
      refine WL_on rfl rfl rfl ?_
      have h_166 := Rep.mono (M' := M) _ h_157 (Ext.refl [] w_148) mem0 (fun x hx => .inl (by simp [hx]))
      have hz_174 := path_ok h_166 (fun x hx => Nat.lt_of_lt_of_le (hM x hx) (E_156).size) hl (1 + (a.tmod (L_17.length : Int) + (L_17.length : Int)).tmod (L_17.length : Int)) (1 + (b.tmod (L_17.length : Int) + (L_17.length : Int)).tmod (L_17.length : Int)) ha hb
      refine S_call Try.call16 rfl hz_174 rfl ?_
      rintro _ w_167 ⟨L_169, A_170, cap_171, rfl, hr_172, hp_173, e_168⟩
      have E_175 := Ext.stepO E_156 e_168 mem0
      have h_176 := Rep.ext _ h_157 e_168
      have h_177 := h_159.ext e_168 nin0
      have h_178 := h_160.ext e_168 nin0
      have hl_179 := rSlice_len hr_172
      refine WL_norm (L := [(1, .int .i64 (1 + (a.tmod (L_17.length : Int) + (L_17.length : Int)).tmod (L_17.length : Int))), (2, .int .i64 (1 + (b.tmod (L_17.length : Int) + (L_17.length : Int)).tmod (L_17.length : Int))), (7, .slice A_18 L_17.length cap_19), (85, .bool true), (89, .slice A_170 L_169.length cap_171)]) ⟨rfl, rfl, rfl, rfl, rfl, trivial⟩ ?_
      intro g_180
      refine WL_on rfl rfl rfl ?_
      refine S_move rfl ?_
      refine WL_on rfl rfl rfl ?_
      refine S_move rfl ?_
      refine WL_on rfl rfl rfl ?_
      refine S_move rfl ?_
      refine WL_on rfl rfl rfl ?_
      have h_181 := Rep.mono (M' := M) _ h_176 (Ext.refl [] w_167) mem0 (fun x hx => .inl (by simp [hx]))
      have hz_189 := path_ref_ok h_181 (fun x hx => Nat.lt_of_lt_of_le (hM x hx) (E_175).size) hl (1 + (a.tmod (L_17.length : Int) + (L_17.length : Int)).tmod (L_17.length : Int)) (1 + (b.tmod (L_17.length : Int) + (L_17.length : Int)).tmod (L_17.length : Int)) ha hb
      refine S_call Try.call17 rfl hz_189 rfl ?_
      rintro _ w_182 ⟨L_184, A_185, cap_186, rfl, hr_187, hp_188, e_183⟩
      have E_190 := Ext.stepO E_175 e_183 mem0
      have h_191 := Rep.ext _ h_176 e_183
      have h_192 := Rep.ext _ hr_172 e_183
      have h_193 := h_177.ext e_183 nin0
      have h_194 := h_178.ext e_183 nin0
      have hl_195 := rSlice_len hr_187
      refine WL_on rfl rfl rfl ?_
      have he_196 : L_169 = L_184 := pathL_unique hp_173 hp_188
      have hz_197 := (ints_ok h_192 hr_187).mono (R' := fun v w' => v = .bool true ∧ w' = w_182) (fun _ _ h => ⟨h.1.trans (congrArg Value.bool (decide_eq_true he_196)), h.2⟩)
      refine S_call Try.call11 rfl hz_197 rfl ?_
      rintro _ _ ⟨rfl, hw_198⟩
      obtain rfl := hw_198.symm
      refine S_pick_t rfl rfl ?_
      refine S_move rfl ?_
      refine WL_on rfl rfl rfl ?_
      refine S_call Try.call10 rfl (alive_ok (M := M) (fun x hx => Nat.lt_of_lt_of_le (hM x hx) (E_190).size)) rfl ?_
      rintro _ w_199 ⟨rfl, e_200⟩
      have E_201 := Ext.stepO E_190 e_200 mem0
      have h_202 := Rep.ext _ h_191 e_200
      have h_203 := Rep.ext _ h_192 e_200
      have h_204 := Rep.ext _ hr_187 e_200
      have h_205 := h_193.ext e_200 nin0
      have h_206 := h_194.ext e_200 nin0
      refine S_pick_t rfl rfl ?_
      refine S_assign rfl ?_
      refine WL_nil ?_
      refine W_ret ?_
      exact ⟨rfl, E_201⟩
end Go.Proofs.Ytpgegnmaophapaa
