/- The walks of a history's functions, printed by program. -/
import Derived.Test.YtpgegnmaophapaaW14
namespace Go.Proofs.Ytpgegnmaophapaa
open Go.Wk Classical
set_option maxHeartbeats 2000000 in
theorem made_law_ok {M : List Nat} {w0 : World} (hM : ∀ b ∈ M, b < w0.heap.size) {A' : Option Addr} {cap' : Nat} {x : List Int} (hi : (rSlice rInt).rd M w0 [.slice A' x.length cap'] x) (a b : Int) (hia : InI a) (hib : InI b) :
    CallR Try.prog 6 [.slice A' x.length cap', .int .i64 a, .int .i64 b] w0 (fun v w' => v = .bool true ∧ Ext [] w0 w') := by
  have li := rSlice_len hi
  refine Call1 Try.func6 rfl rfl rfl rfl ?_
  refine W_seq ?_
  refine W_region ?_
  refine S_assign rfl ?_
  refine WL_nil ?_
  refine W_seq ?_
  refine W_seq ?_
  refine W_region ?_
  refine S_move rfl ?_
  refine S_len Try.runUnderlying26 rfl rfl ?_
  refine S_gtr rfl rfl rfl ?_
  refine S_move rfl ?_
  refine WL_split (dj := 11) rfl (fun h_2 => ?_) (fun h_2 => ?_)
  ·
    have p_3 := h_2
    try simp only [lrn] at p_3
    refine WL_off rfl rfl rfl (bT h_2) ?_
    refine WL_off rfl rfl rfl (bT h_2) ?_
    refine WL_off rfl rfl rfl (bT h_2) ?_
    refine S_pick_t (bT h_2) rfl ?_
    refine WL_nil ?_
    refine W_cond_true rfl ?_
    refine W_seq ?_
    refine W_region ?_
    refine S_callE Try.call10 rfl (alive_ok (M := M) hM) rfl ?_
    intro w_4 e_5
    have E_6 := Ext.stepO (Ext.refl [] w0) e_5 mem0
    refine S_assign rfl ?_
    refine WL_nil ?_
    refine W_ret ?_
    exact ⟨rfl, E_6⟩
  ·
    have p_7 := h_2
    try simp only [lrn] at p_7
    refine WL_on rfl rfl (bF h_2) ?_
    refine S_move rfl ?_
    refine WL_on rfl rfl (bF h_2) ?_
    refine S_len Try.runUnderlying26 rfl rfl ?_
    refine WL_on rfl rfl (bF h_2) ?_
    refine S_eql rfl rfl rfl ?_
    refine S_pick_f (bF h_2) rfl ?_
    refine WL_nil ?_
    refine W_cond rfl (fun h_9 => ?_) (fun h_9 => ?_)
    ·
      have p_10 := h_9
      try simp only [lrn] at p_10
      refine W_seq ?_
      refine W_region ?_
      refine S_callE Try.call10 rfl (alive_ok (M := M) hM) rfl ?_
      intro w_11 e_12
      have E_13 := Ext.stepO (Ext.refl [] w0) e_12 mem0
      refine S_assign rfl ?_
      refine WL_nil ?_
      refine W_ret ?_
      exact ⟨rfl, E_13⟩
    ·
      have p_14 := h_9
      try simp only [lrn] at p_14
      refine W_skip ?_
      refine W_seq ?_
      refine W_region ?_
      refine S_move rfl ?_
      have hz_22 := made_ok hM hi (by omega)
      refine S_call Try.call18 rfl hz_22 rfl ?_
      rintro _ w_15 ⟨L_17, A_18, cap_19, rfl, hr_20, hp_21, e_16⟩
      have E_23 := Ext.stepO (Ext.refl [] w0) e_16 mem0
      have hl_24 := rSlice_len hr_20
      refine S_assign rfl ?_
      refine WL_nil ?_
      refine W_seq ?_
      refine W_region_quiet rfl (by decide +kernel) ?_
      have ⟨hr, hlen⟩ := hp_21
      have hl : L_17.length ≤ 60 := by omega
      have hn : 0 < (L_17.length : Int) := by omega
      have ma := tm_norm (a := a) hn
      have ha : InI (1 + (a.tmod (L_17.length : Int) + (L_17.length : Int)).tmod (L_17.length : Int)) := by unfold InI; omega
      have ta : There L_17 (1 + (a.tmod (L_17.length : Int) + (L_17.length : Int)).tmod (L_17.length : Int)) := ⟨by omega, by omega⟩
      have mb := tm_norm (a := b) hn
      have hb : InI (1 + (b.tmod (L_17.length : Int) + (L_17.length : Int)).tmod (L_17.length : Int)) := by unfold InI; omega
      have tb : There L_17 (1 + (b.tmod (L_17.length : Int) + (L_17.length : Int)).tmod (L_17.length : Int)) := ⟨by omega, by omega⟩
      refine S_move rfl ?_
      refine S_move rfl ?_
      refine S_len Try.runUnderlying22 rfl rfl ?_
      refine S_rem rfl rfl (by omega) rfl ?_
      refine S_move rfl ?_
      refine S_len Try.runUnderlying22 rfl rfl ?_
      refine S_add rfl rfl (by omega) rfl ?_
      refine S_move rfl ?_
      refine S_len Try.runUnderlying22 rfl rfl ?_
      refine S_rem rfl rfl (by omega) rfl ?_
      refine S_add rfl rfl (by omega) rfl ?_
      refine S_move rfl ?_
      refine S_move rfl ?_
      refine S_len Try.runUnderlying22 rfl rfl ?_
      refine S_rem rfl rfl (by omega) rfl ?_
      refine S_move rfl ?_
      refine S_len Try.runUnderlying22 rfl rfl ?_
      refine S_add rfl rfl (by omega) rfl ?_
      refine S_move rfl ?_
      refine S_len Try.runUnderlying22 rfl rfl ?_
      refine S_rem rfl rfl (by omega) rfl ?_
      refine S_add rfl rfl (by omega) rfl ?_
      refine S_assign rfl ?_
      refine S_assign rfl ?_
      refine WL_nil ?_
      refine W_seq ?_
      refine W_region ?_
      refine WL_norm (L := [(1, .int .i64 (1 + (a.tmod (L_17.length : Int) + (L_17.length : Int)).tmod (L_17.length : Int))), (2, .int .i64 (1 + (b.tmod (L_17.length : Int) + (L_17.length : Int)).tmod (L_17.length : Int))), (7, .slice A_18 L_17.length cap_19)]) ⟨rfl, rfl, rfl, trivial⟩ ?_
      intro g_25
      refine S_move rfl ?_
      have hz_26 := (right_ok hr_20).mono (R' := fun v w' => v = .bool true ∧ Ext [] w_15 w') (fun _ _ h => ⟨h.1.trans (congrArg Value.bool (decide_eq_true hr)), h.2⟩)
      refine S_callE Try.call20 rfl hz_26 rfl ?_
      intro w_27 e_28
      have E_29 := Ext.stepO E_23 e_28 mem0
      have h_30 := Rep.ext _ hr_20 e_28
      refine S_move rfl ?_
      refine WL_on rfl rfl rfl ?_
      refine S_move rfl ?_
      refine WL_on rfl rfl rfl ?_
      refine S_move rfl ?_
      refine WL_on rfl rfl rfl ?_
      refine S_move rfl ?_
      refine WL_on rfl rfl rfl ?_
      have hz_33 := reaches_ok h_30 (fun x hx => Nat.lt_of_lt_of_le (hM x hx) (E_29).size) hl (1 + (a.tmod (L_17.length : Int) + (L_17.length : Int)).tmod (L_17.length : Int)) (1 + (b.tmod (L_17.length : Int) + (L_17.length : Int)).tmod (L_17.length : Int)) ha
      refine S_callE Try.call19 rfl hz_33 rfl ?_
      intro w_31 e_32
      have E_34 := Ext.stepO E_29 e_32 mem0
      have h_35 := Rep.ext _ h_30 e_32
      refine WL_on rfl rfl rfl ?_
      refine S_move rfl ?_
      refine WL_on rfl rfl rfl ?_
      refine S_move rfl ?_
      refine WL_on rfl rfl rfl ?_
      refine S_move rfl ?_
      refine WL_on rfl rfl rfl ?_
      have hz_39 := reaches_ref_ok h_35 (fun x hx => Nat.lt_of_lt_of_le (hM x hx) (E_34).size) hl (1 + (a.tmod (L_17.length : Int) + (L_17.length : Int)).tmod (L_17.length : Int)) (1 + (b.tmod (L_17.length : Int) + (L_17.length : Int)).tmod (L_17.length : Int)) ha
      refine S_callE Try.call22 rfl hz_39 rfl ?_
      intro w_37 e_38
      have E_40 := Ext.stepO E_34 e_38 mem0
      have h_41 := Rep.ext _ h_35 e_38
      refine WL_on rfl rfl rfl ?_
      refine S_eqlBT Try.runUnderlying4 rfl rfl rfl rfl ?_
      refine S_pick_t rfl rfl ?_
      refine S_move rfl ?_
      refine WL_norm (L := [(1, .int .i64 (1 + (a.tmod (L_17.length : Int) + (L_17.length : Int)).tmod (L_17.length : Int))), (2, .int .i64 (1 + (b.tmod (L_17.length : Int) + (L_17.length : Int)).tmod (L_17.length : Int))), (7, .slice A_18 L_17.length cap_19), (54, .bool true)]) ⟨rfl, rfl, rfl, rfl, trivial⟩ ?_
      intro g_43
      refine WL_on rfl rfl rfl ?_
      refine S_move rfl ?_
      refine WL_on rfl rfl rfl ?_
      refine S_move rfl ?_
      refine WL_on rfl rfl rfl ?_
      refine S_move rfl ?_
      refine WL_on rfl rfl rfl ?_
      refine S_buildSlice Try.runUnderlying26 Try.sizeOf3 Try.zeroValue3 rfl rfl rfl rfl rfl rfl rfl ?_
      intro b_44 w_45 e_46 z_47 z_48 ho_49
      have hb_50 : w0.heap.size ≤ b_44 := by have := (E_40).size; omega
      have E_51 := Ext.stepO E_40 e_46 mem0
      have h_52 := Rep.mono (M' := b_44 :: M) _ h_41 e_46 mem0 (cons_fresh z_47)
      have ho_49 : Own _ _ _ [_, _] := ho_49
      refine WL_on rfl rfl rfl ?_
      have h_53 := Rep.mono (M' := M) _ h_52 (Ext.refl [] w_45) mem0 (fun x hx => .inl (by simp [hx]))
      have hr_54 := rd_ints (xs := [(1 + (a.tmod (L_17.length : Int) + (L_17.length : Int)).tmod (L_17.length : Int)), (1 + (b.tmod (L_17.length : Int) + (L_17.length : Int)).tmod (L_17.length : Int))]) (M := M) ho_49 (notin_old hM hb_50) (by simp only [List.mem_cons, List.not_mem_nil, or_false]; rintro _ (rfl | rfl) <;> assumption) (by simp)
      have hz_62 := anc_ok h_53 (fun x hx => Nat.lt_of_lt_of_le (hM x hx) (E_51).size) hl hr_54
      refine S_call Try.call23 rfl hz_62 rfl ?_
      rintro _ w_55 ⟨L_57, A_58, cap_59, rfl, hr_60, hp_61, e_56⟩
      have E_63 := Ext.stepO E_51 e_56 mem0
      have h_64 := Rep.ext _ h_52 e_56
      have h_65 := ho_49.ext e_56 nin0
      have hl_66 := rSlice_len hr_60
      refine WL_norm (L := [(1, .int .i64 (1 + (a.tmod (L_17.length : Int) + (L_17.length : Int)).tmod (L_17.length : Int))), (2, .int .i64 (1 + (b.tmod (L_17.length : Int) + (L_17.length : Int)).tmod (L_17.length : Int))), (7, .slice A_18 L_17.length cap_19), (54, .bool true), (59, .slice A_58 L_57.length cap_59)]) ⟨rfl, rfl, rfl, rfl, rfl, trivial⟩ ?_
      intro g_67
      refine WL_on rfl rfl rfl ?_
      refine S_move rfl ?_
      refine WL_on rfl rfl rfl ?_
      refine S_move rfl ?_
      refine WL_on rfl rfl rfl ?_
      refine S_move rfl ?_
      refine WL_on rfl rfl rfl ?_
      refine S_buildSlice Try.runUnderlying26 Try.sizeOf3 Try.zeroValue3 rfl rfl rfl rfl rfl rfl rfl ?_
      intro b_68 w_69 e_70 z_71 z_72 ho_73
      have hb_74 : w0.heap.size ≤ b_68 := by have := (E_63).size; omega
      have n_75 : b_44 ≠ b_68 := by have := h_65.lt; omega
      have E_76 := Ext.stepO E_63 e_70 mem0
      have h_77 := Rep.mono (M' := b_68 :: (b_44 :: M)) _ h_64 e_70 mem0 (cons_fresh z_71)
      have h_78 := Rep.mono (M' := b_68 :: M) _ hr_60 e_70 mem0 (cons_fresh z_71)
      have h_79 := h_65.ext e_70 nin0
      have ho_73 : Own _ _ _ [_, _] := ho_73
      refine WL_on rfl rfl rfl ?_
      have h_80 := Rep.mono (M' := M) _ h_77 (Ext.refl [] w_69) mem0 (fun x hx => .inl (by simp [hx]))
      have hr_81 := rd_ints (xs := [(1 + (a.tmod (L_17.length : Int) + (L_17.length : Int)).tmod (L_17.length : Int)), (1 + (b.tmod (L_17.length : Int) + (L_17.length : Int)).tmod (L_17.length : Int))]) (M := M) ho_73 (notin_old hM hb_74) (by simp only [List.mem_cons, List.not_mem_nil, or_false]; rintro _ (rfl | rfl) <;> assumption) (by simp)
      have hz_89 := anc_ref_ok h_80 (fun x hx => Nat.lt_of_lt_of_le (hM x hx) (E_76).size) hl hr_81
      refine S_call Try.call24 rfl hz_89 rfl ?_
      rintro _ w_82 ⟨L_84, A_85, cap_86, rfl, hr_87, hp_88, e_83⟩
      have E_90 := Ext.stepO E_76 e_83 mem0
      have h_91 := Rep.ext _ h_77 e_83
      have h_92 := Rep.ext _ h_78 e_83
      have h_93 := h_79.ext e_83 nin0
      have h_94 := ho_73.ext e_83 nin0
      have hl_95 := rSlice_len hr_87
      refine WL_on rfl rfl rfl ?_
      have h_96 := Rep.mono (M' := M) _ h_92 (Ext.refl [] w_82) mem0 (fun x hx => .inl (by simp [hx]))
      have he_97 : L_57 = L_84 := ancL_unique hp_61 hp_88
      have hz_98 := (ints_ok h_96 hr_87).mono (R' := fun v w' => v = .bool true ∧ w' = w_82) (fun _ _ h => ⟨h.1.trans (congrArg Value.bool (decide_eq_true he_97)), h.2⟩)
      refine S_callQ Try.call11 rfl hz_98 rfl ?_
      refine S_pick_t rfl rfl ?_
      refine S_move rfl ?_
      refine WL_norm (L := [(1, .int .i64 (1 + (a.tmod (L_17.length : Int) + (L_17.length : Int)).tmod (L_17.length : Int))), (2, .int .i64 (1 + (b.tmod (L_17.length : Int) + (L_17.length : Int)).tmod (L_17.length : Int))), (7, .slice A_18 L_17.length cap_19), (67, .bool true)]) ⟨rfl, rfl, rfl, rfl, trivial⟩ ?_
      intro g_100
      refine WL_on rfl rfl rfl ?_
      refine S_move rfl ?_
      refine WL_on rfl rfl rfl ?_
      refine S_move rfl ?_
      refine WL_on rfl rfl rfl ?_
      refine S_move rfl ?_
      refine WL_on rfl rfl rfl ?_
      have h_101 := Rep.mono (M' := M) _ h_91 (Ext.refl [] w_82) mem0 (fun x hx => .inl (by simp [hx]))
      have hz_109 := common_ok h_101 (fun x hx => Nat.lt_of_lt_of_le (hM x hx) (E_90).size) hl (1 + (a.tmod (L_17.length : Int) + (L_17.length : Int)).tmod (L_17.length : Int)) (1 + (b.tmod (L_17.length : Int) + (L_17.length : Int)).tmod (L_17.length : Int)) ha hb
      refine S_call Try.call12 rfl hz_109 rfl ?_
      rintro _ w_102 ⟨L_104, A_105, cap_106, rfl, hr_107, hp_108, e_103⟩
      have E_110 := Ext.stepO E_90 e_103 mem0
      have h_111 := Rep.ext _ h_91 e_103
      have h_112 := h_93.ext e_103 nin0
      have h_113 := h_94.ext e_103 nin0
      have hl_114 := rSlice_len hr_107
      refine WL_norm (L := [(1, .int .i64 (1 + (a.tmod (L_17.length : Int) + (L_17.length : Int)).tmod (L_17.length : Int))), (2, .int .i64 (1 + (b.tmod (L_17.length : Int) + (L_17.length : Int)).tmod (L_17.length : Int))), (7, .slice A_18 L_17.length cap_19), (67, .bool true), (71, .slice A_105 L_104.length cap_106)]) ⟨rfl, rfl, rfl, rfl, rfl, trivial⟩ ?_
      intro g_115
      refine WL_on rfl rfl rfl ?_
      refine S_move rfl ?_
      refine WL_on rfl rfl rfl ?_
      refine S_move rfl ?_
      refine WL_on rfl rfl rfl ?_
      refine S_move rfl ?_
      refine WL_on rfl rfl rfl ?_
      have h_116 := Rep.mono (M' := M) _ h_111 (Ext.refl [] w_102) mem0 (fun x hx => .inl (by simp [hx]))
      have hz_124 := common_ref_ok h_116 (fun x hx => Nat.lt_of_lt_of_le (hM x hx) (E_110).size) hl (1 + (a.tmod (L_17.length : Int) + (L_17.length : Int)).tmod (L_17.length : Int)) (1 + (b.tmod (L_17.length : Int) + (L_17.length : Int)).tmod (L_17.length : Int)) ha hb
      refine S_call Try.call13 rfl hz_124 rfl ?_
      rintro _ w_117 ⟨L_119, A_120, cap_121, rfl, hr_122, hp_123, e_118⟩
      have E_125 := Ext.stepO E_110 e_118 mem0
      have h_126 := Rep.ext _ h_111 e_118
      have h_127 := Rep.ext _ hr_107 e_118
      have h_128 := h_112.ext e_118 nin0
      have h_129 := h_113.ext e_118 nin0
      have hl_130 := rSlice_len hr_122
      refine WL_on rfl rfl rfl ?_
      have he_131 : L_104 = L_119 := nearL_unique hp_108 hp_123
      have hz_132 := (ints_ok h_127 hr_122).mono (R' := fun v w' => v = .bool true ∧ w' = w_117) (fun _ _ h => ⟨h.1.trans (congrArg Value.bool (decide_eq_true he_131)), h.2⟩)
      refine S_callQ Try.call11 rfl hz_132 rfl ?_
      refine S_pick_t rfl rfl ?_
      refine S_move rfl ?_
      refine WL_norm (L := [(1, .int .i64 (1 + (a.tmod (L_17.length : Int) + (L_17.length : Int)).tmod (L_17.length : Int))), (2, .int .i64 (1 + (b.tmod (L_17.length : Int) + (L_17.length : Int)).tmod (L_17.length : Int))), (7, .slice A_18 L_17.length cap_19), (78, .bool true)]) ⟨rfl, rfl, rfl, rfl, trivial⟩ ?_
      intro g_134
      refine WL_on rfl rfl rfl ?_
      refine S_move rfl ?_
      refine WL_on rfl rfl rfl ?_
      have h_135 := Rep.mono (M' := M) _ h_126 (Ext.refl [] w_117) mem0 (fun x hx => .inl (by simp [hx]))
      have hz_143 := heads_ok h_135 (fun x hx => Nat.lt_of_lt_of_le (hM x hx) (E_125).size) hl
      refine S_call Try.call14 rfl hz_143 rfl ?_
      rintro _ w_136 ⟨L_138, A_139, cap_140, rfl, hr_141, hp_142, e_137⟩
      have E_144 := Ext.stepO E_125 e_137 mem0
      have h_145 := Rep.ext _ h_126 e_137
      have h_146 := h_128.ext e_137 nin0
      have h_147 := h_129.ext e_137 nin0
      have hl_148 := rSlice_len hr_141
      refine WL_on rfl rfl rfl ?_
      refine S_move rfl ?_
      refine WL_on rfl rfl rfl ?_
      have h_149 := Rep.mono (M' := M) _ h_145 (Ext.refl [] w_136) mem0 (fun x hx => .inl (by simp [hx]))
      have hz_157 := heads_ref_ok h_149 (fun x hx => Nat.lt_of_lt_of_le (hM x hx) (E_144).size) hl
      refine S_call Try.call15 rfl hz_157 rfl ?_
      rintro _ w_150 ⟨L_152, A_153, cap_154, rfl, hr_155, hp_156, e_151⟩
      have E_158 := Ext.stepO E_144 e_151 mem0
      have h_159 := Rep.ext _ h_145 e_151
      have h_160 := Rep.ext _ hr_141 e_151
      have h_161 := h_146.ext e_151 nin0
      have h_162 := h_147.ext e_151 nin0
      have hl_163 := rSlice_len hr_155
      refine WL_on rfl rfl rfl ?_
      have he_164 : L_138 = L_152 := headL_unique hp_142 hp_156
      have hz_165 := (ints_ok h_160 hr_155).mono (R' := fun v w' => v = .bool true ∧ w' = w_150) (fun _ _ h => ⟨h.1.trans (congrArg Value.bool (decide_eq_true he_164)), h.2⟩)
      refine S_callQ Try.call11 rfl hz_165 rfl ?_
      refine S_pick_t rfl rfl ?_
      refine S_move rfl ?_
      refine WL_norm (L := [(1, .int .i64 (1 + (a.tmod (L_17.length : Int) + (L_17.length : Int)).tmod (L_17.length : Int))), (2, .int .i64 (1 + (b.tmod (L_17.length : Int) + (L_17.length : Int)).tmod (L_17.length : Int))), (7, .slice A_18 L_17.length cap_19), (85, .bool true)]) ⟨rfl, rfl, rfl, rfl, trivial⟩ ?_
      intro g_167
      refine WL_on rfl rfl rfl ?_
      refine S_move rfl ?_
      refine WL_on rfl rfl rfl ?_
      refine S_move rfl ?_
      refine WL_on rfl rfl rfl ?_
      refine S_move rfl ?_
      refine WL_on rfl rfl rfl ?_
      have h_168 := Rep.mono (M' := M) _ h_159 (Ext.refl [] w_150) mem0 (fun x hx => .inl (by simp [hx]))
      have hz_176 := path_ok h_168 (fun x hx => Nat.lt_of_lt_of_le (hM x hx) (E_158).size) hl (1 + (a.tmod (L_17.length : Int) + (L_17.length : Int)).tmod (L_17.length : Int)) (1 + (b.tmod (L_17.length : Int) + (L_17.length : Int)).tmod (L_17.length : Int)) ha hb
      refine S_call Try.call16 rfl hz_176 rfl ?_
      rintro _ w_169 ⟨L_171, A_172, cap_173, rfl, hr_174, hp_175, e_170⟩
      have E_177 := Ext.stepO E_158 e_170 mem0
      have h_178 := Rep.ext _ h_159 e_170
      have h_179 := h_161.ext e_170 nin0
      have h_180 := h_162.ext e_170 nin0
      have hl_181 := rSlice_len hr_174
      refine WL_norm (L := [(1, .int .i64 (1 + (a.tmod (L_17.length : Int) + (L_17.length : Int)).tmod (L_17.length : Int))), (2, .int .i64 (1 + (b.tmod (L_17.length : Int) + (L_17.length : Int)).tmod (L_17.length : Int))), (7, .slice A_18 L_17.length cap_19), (85, .bool true), (89, .slice A_172 L_171.length cap_173)]) ⟨rfl, rfl, rfl, rfl, rfl, trivial⟩ ?_
      intro g_182
      refine WL_on rfl rfl rfl ?_
      refine S_move rfl ?_
      refine WL_on rfl rfl rfl ?_
      refine S_move rfl ?_
      refine WL_on rfl rfl rfl ?_
      refine S_move rfl ?_
      refine WL_on rfl rfl rfl ?_
      have h_183 := Rep.mono (M' := M) _ h_178 (Ext.refl [] w_169) mem0 (fun x hx => .inl (by simp [hx]))
      have hz_191 := path_ref_ok h_183 (fun x hx => Nat.lt_of_lt_of_le (hM x hx) (E_177).size) hl (1 + (a.tmod (L_17.length : Int) + (L_17.length : Int)).tmod (L_17.length : Int)) (1 + (b.tmod (L_17.length : Int) + (L_17.length : Int)).tmod (L_17.length : Int)) ha hb
      refine S_call Try.call17 rfl hz_191 rfl ?_
      rintro _ w_184 ⟨L_186, A_187, cap_188, rfl, hr_189, hp_190, e_185⟩
      have E_192 := Ext.stepO E_177 e_185 mem0
      have h_193 := Rep.ext _ h_178 e_185
      have h_194 := Rep.ext _ hr_174 e_185
      have h_195 := h_179.ext e_185 nin0
      have h_196 := h_180.ext e_185 nin0
      have hl_197 := rSlice_len hr_189
      refine WL_on rfl rfl rfl ?_
      have he_198 : L_171 = L_186 := pathL_unique hp_175 hp_190
      have hz_199 := (ints_ok h_194 hr_189).mono (R' := fun v w' => v = .bool true ∧ w' = w_184) (fun _ _ h => ⟨h.1.trans (congrArg Value.bool (decide_eq_true he_198)), h.2⟩)
      refine S_callQ Try.call11 rfl hz_199 rfl ?_
      refine S_pick_t rfl rfl ?_
      refine S_move rfl ?_
      refine WL_on rfl rfl rfl ?_
      refine S_callE Try.call10 rfl (alive_ok (M := M) (fun x hx => Nat.lt_of_lt_of_le (hM x hx) (E_192).size)) rfl ?_
      intro w_201 e_202
      have E_203 := Ext.stepO E_192 e_202 mem0
      have h_204 := Rep.ext _ h_193 e_202
      have h_205 := Rep.ext _ h_194 e_202
      have h_206 := Rep.ext _ hr_189 e_202
      have h_207 := h_195.ext e_202 nin0
      have h_208 := h_196.ext e_202 nin0
      refine S_pick_t rfl rfl ?_
      refine S_assign rfl ?_
      refine WL_nil ?_
      refine W_ret ?_
      exact ⟨rfl, E_203⟩
end Go.Proofs.Ytpgegnmaophapaa
