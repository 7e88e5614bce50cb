/- The walks of a history's functions, printed by program. -/
import Derived.Test.YtpgegnmaophapaaW5
namespace Go.Proofs.Ytpgegnmaophapaa
open Go.Wk Classical
theorem common_ok {M : List Nat} {w0 : World} {A : Option Addr} {cap : Nat} {l : List Commit} (h : (rSlice rCommit).rd M w0 [.slice A l.length cap] l) (hM : ∀ b ∈ M, b < w0.heap.size) (hl : l.length ≤ 60) (a b : Int) (hia : InI a) (hib : InI b) :
    CallR Try.prog 12 [.slice A l.length cap, .int .i64 a, .int .i64 b] w0 (fun v w' => ∃ L A cap, v = .slice A L.length cap ∧ (rSlice rInt).rd M w' [.slice A L.length cap] L ∧ NearL l a b L ∧ Ext [] w0 w') := by
  have ll := rSlice_len h
  refine Call1 Try.func12 rfl rfl rfl rfl ?_
  refine W_seq ?_
  refine W_region ?_
  refine S_assign rfl ?_
  refine WL_nil ?_
  refine W_seq ?_
  refine W_seq ?_
  refine W_region ?_
  refine S_move rfl ?_
  refine S_call Try.call20 rfl (right_ok h) rfl ?_
  rintro _ w_1 ⟨rfl, e_2⟩
  have E_3 := Ext.stepO (Ext.refl [] w0) e_2 mem0
  refine S_not rfl rfl ?_
  refine WL_nil ?_
  refine W_cond rfl (fun h_5 => ?_) (fun h_5 => ?_)
  ·
    have h_6 := h_5
    simp only [lrnN] at h_6
    have p_7 := h_6
    try simp only [lrn] at p_7
    refine W_seq ?_
    refine W_region ?_
    refine S_assign rfl ?_
    refine WL_nil ?_
    refine W_ret ?_
    exact ⟨[], _, _, rfl, rd_nil, nearL_no ‹¬ Right l›, E_3⟩
  ·
    have h_8 := h_5
    simp only [lrnN] at h_8
    have p_9 := h_8
    try simp only [lrn] at p_9
    refine W_skip ?_
    refine W_seq ?_
    refine W_region ?_
    refine S_move rfl ?_
    refine S_move rfl ?_
    refine S_buildSlice Try.runUnderlying26 Try.sizeOf3 Try.zeroValue3 rfl rfl rfl rfl rfl rfl rfl ?_
    intro b_10 w_11 e_12 z_13 z_14 ho_15
    have hb_16 : w0.heap.size ≤ b_10 := by have := (E_3).size; omega
    have E_17 := Ext.stepO E_3 e_12 mem0
    have ho_15 : Own _ _ _ [_] := ho_15
    have h_18 := Rep.ext _ h E_17
    have hr_19 := rd_ints (xs := [a]) (M := M) ho_15 (notin_old hM hb_16) (by simp; assumption) (by simp)
    have hz_27 := reached_ok h_18 hr_19 ‹Right _›
    refine S_call Try.call25 rfl hz_27 rfl ?_
    rintro _ w_22 ⟨bm_20, S_21, rfl, hm_23, hz_27, hS_25, e_26⟩
    have hb_28 : w0.heap.size ≤ bm_20 := by have := (E_17).size; omega
    have n_29 : b_10 ≠ bm_20 := by have := ho_15.lt; omega
    have E_30 := Ext.stepO E_17 e_26 mem0
    have h_31 := ho_15.ext e_26 nin0
    refine S_move rfl ?_
    refine S_move rfl ?_
    refine S_buildSlice Try.runUnderlying26 Try.sizeOf3 Try.zeroValue3 rfl rfl rfl rfl rfl rfl rfl ?_
    intro b_32 w_33 e_34 z_35 z_36 ho_37
    have hb_38 : w0.heap.size ≤ b_32 := by have := (E_30).size; omega
    have n_39 : b_10 ≠ b_32 := by have := h_31.lt; omega
    have n_40 : bm_20 ≠ b_32 := by have := hm_23.lt; omega
    have E_41 := Ext.stepO E_30 e_34 mem0
    have h_42 := h_31.ext e_34 nin0
    have h_43 := hm_23.ext e_34 nin0
    have ho_37 : Own _ _ _ [_] := ho_37
    have h_44 := Rep.ext _ h E_41
    have hr_45 := rd_ints (xs := [b]) (M := M) ho_37 (notin_old hM hb_38) (by simp; assumption) (by simp)
    have hz_53 := reached_ok h_44 hr_45 ‹Right _›
    refine S_call Try.call25 rfl hz_53 rfl ?_
    rintro _ w_48 ⟨bm_46, S_47, rfl, hm_49, hz_53, hS_51, e_52⟩
    have hb_54 : w0.heap.size ≤ bm_46 := by have := (E_41).size; omega
    have n_55 : b_10 ≠ bm_46 := by have := h_42.lt; omega
    have n_56 : bm_20 ≠ bm_46 := by have := h_43.lt; omega
    have n_57 : b_32 ≠ bm_46 := by have := ho_37.lt; omega
    have E_58 := Ext.stepO E_41 e_52 mem0
    have h_59 := h_42.ext e_52 nin0
    have h_60 := h_43.ext e_52 nin0
    have h_61 := ho_37.ext e_52 nin0
    refine S_assign rfl ?_
    refine S_assign rfl ?_
    refine WL_nil ?_
    refine W_seq ?_
    refine W_region ?_
    refine S_makeMap (ky := kInt) rfl ?_
    intro b_62 w_63 e_64 z_65 z_66 hm_67
    have hb_68 : w0.heap.size ≤ b_62 := by have := (E_58).size; omega
    have n_69 : b_10 ≠ b_62 := by have := h_59.lt; omega
    have n_70 : bm_20 ≠ b_62 := by have := h_60.lt; omega
    have n_71 : b_32 ≠ b_62 := by have := h_61.lt; omega
    have n_72 : bm_46 ≠ b_62 := by have := hm_49.lt; omega
    have E_73 := Ext.stepO E_58 e_64 mem0
    have h_74 := h_59.ext e_64 nin0
    have h_75 := h_60.ext e_64 nin0
    have h_76 := h_61.ext e_64 nin0
    have h_77 := hm_49.ext e_64 nin0
    refine S_assign rfl ?_
    refine WL_nil ?_
    refine W_seq ?_
    refine W_seq ?_
    refine W_region ?_
    refine S_move rfl ?_
    refine S_range Try.runUnderlying40 rfl h_75 rfl ?_
    intro it_78 w_79 e_80 z_81 z_82 hi_83
    have hb_84 : w0.heap.size ≤ it_78 := by have := (E_73).size; omega
    have n_85 : b_10 ≠ it_78 := by have := h_74.lt; omega
    have n_86 : bm_20 ≠ it_78 := by have := h_75.lt; omega
    have n_87 : b_32 ≠ it_78 := by have := h_76.lt; omega
    have n_88 : bm_46 ≠ it_78 := by have := h_77.lt; omega
    have n_89 : b_62 ≠ it_78 := by have := hm_67.lt; omega
    have E_90 := Ext.stepO E_73 e_80 mem0
    have h_91 := h_74.ext e_80 nin0
    have h_92 := h_75.ext e_80 nin0
    have h_93 := h_76.ext e_80 nin0
    have h_94 := h_77.ext e_80 nin0
    have h_95 := hm_67.ext e_80 nin0
    refine WL_nil ?_
    refine W_block ?_
    refine W_loopF [10, 28, 29, 30, 31, 32, 33, 34, 35, 36] (fun m f w => ∃ (D : List (Int × Value)) (S1 : List Int), m = S_21.length - D.length ∧ Told S_21 D ∧ (∀ x, x ∈ S1 ↔ x ∈ D.map (·.1) ∧ x ∈ S_47) ∧ Ext [] w0 w ∧ Ext ([it_78, b_62]) w_79 w ∧ Iter kInt w it_78 bm_20 (setL S_21) D ∧ MapAt kInt w b_62 (setL S1) ∧ Live f []) ?_ ?_
    · exact ⟨_, [], [], rfl, told_nil, (by simp), E_90, (Ext.refl _ _), hi_83, h_95, trivial⟩
    ·
      rintro m g_100 w_96 ⟨D, S1, rfl, q0, q1, E_97, e_98, hi1, hm1, hl_99⟩
      refine W_liveM hl_99 rfl ?_
      have h_101 := h_91.ext e_98 (ninC n_85 (ninC n_69 nin0))
      have h_102 := h_92.ext e_98 (ninC n_86 (ninC n_70 nin0))
      have h_103 := h_93.ext e_98 (ninC n_87 (ninC n_71 nin0))
      have h_104 := h_94.ext e_98 (ninC n_88 (ninC n_72 nin0))
      refine W_seq ?_
      refine W_region ?_
      refine S_next rfl hi1 rfl ?_ ?_
      ·
        intro k_105 v_106 w_107 hL_108 hD_109 hk_110 e_111 z_112 hi_113
        have E_115 := Ext.stepO E_97 e_111 (memC (.inr hb_84) mem0)
        have c_116 := Ext.stepO e_98 e_111 (memC (.inl (by simp)) mem0)
        have h_117 := h_101.ext e_111 (ninC n_85 nin0)
        have h_118 := h_102.ext e_111 (ninC n_86 nin0)
        have h_119 := h_103.ext e_111 (ninC n_87 nin0)
        have h_120 := h_104.ext e_111 (ninC n_88 nin0)
        have h_121 := hm1.ext e_111 (ninC n_89 nin0)
        refine S_extract rfl rfl rfl ?_
        refine WL_nil ?_
        refine W_seq ?_
        refine W_cond_true rfl ?_
        refine W_skip ?_
        refine W_block ?_
        refine W_seq ?_
        refine W_region ?_
        refine S_entry rfl hi_113 rfl ?_
        refine S_extract rfl rfl rfl ?_
        refine S_assign rfl ?_
        refine WL_nil ?_
        refine W_seq ?_
        refine W_region ?_
        refine S_move rfl ?_
        refine S_move rfl ?_
        refine S_lookup (ky := kInt) Try.runUnderlying40 Try.runUnderlying3 Try.zeroValue4 rfl rfl h_120 (get_setL _ _) rfl ?_
        refine WL_nil ?_
        refine W_cond rfl (fun h_123 => ?_) (fun h_123 => ?_)
        ·
          have p_124 := h_123
          try simp only [lrn] at p_124
          refine W_region ?_
          refine S_move rfl ?_
          refine S_move rfl ?_
          refine S_mapUpdate (ky := kInt) Try.runUnderlying40 Try.runUnderlying3 rfl rfl rfl h_121 ?_
          intro w_125 e_126 z_127 hm_128
          have E_129 := Ext.stepO E_115 e_126 (memC (.inr hb_68) mem0)
          have c_130 := Ext.stepO c_116 e_126 (memC (.inl (by simp)) mem0)
          have h_131 := h_117.ext e_126 (ninC n_69 nin0)
          have h_132 := h_118.ext e_126 (ninC n_70 nin0)
          have h_133 := h_119.ext e_126 (ninC n_71 nin0)
          have h_134 := h_120.ext e_126 (ninC n_72 nin0)
          have h_135 := Iter.ext hi_113 e_126 (ninC n_70 nin0) (ninC (Ne.symm n_89) nin0)
          have hm_136 := put_set hm_128
          refine WL_nil ?_
          refine ⟨by repeat (first | refine agree_upd rfl ?_ | exact agree_mix rfl agree_refl | refine agree_mix rfl ?_), ?_⟩
          exact ⟨_, by have := told_lt q0 ‹_› ‹_›; simp; omega, _, _, rfl, told_step q0 ‹_› ‹_›, by first | exact both_in q1 ‹_› | exact both_out q1 ‹_›, E_129, c_130, h_135, hm_136, trivial⟩
        ·
          have p_137 := h_123
          try simp only [lrn] at p_137
          refine W_skip ?_
          refine ⟨by repeat (first | refine agree_upd rfl ?_ | exact agree_mix rfl agree_refl | refine agree_mix rfl ?_), ?_⟩
          exact ⟨_, by have := told_lt q0 ‹_› ‹_›; simp; omega, _, _, rfl, told_step q0 ‹_› ‹_›, by first | exact both_in q1 ‹_› | exact both_out q1 ‹_›, E_115, c_116, hi_113, h_121, trivial⟩
      ·
        intro ho_114
        refine S_extract rfl rfl rfl ?_
        refine WL_nil ?_
        refine W_seq ?_
        refine W_cond_false rfl ?_
        refine W_exit ?_
        refine W_seq ?_
        refine W_region ?_
        refine S_move rfl ?_
        have hB := both_all q0 q1 ho_114 hS_25 hS_51
        have th_138 : ∀ x ∈ S1, There l x := (fun x hx => ((hB x).1 hx).1.there.2)
        refine S_call Try.call26 rfl (rising_ok (M := b_62 :: M) (memC (hm1.lt) (fun x hx => Nat.lt_of_lt_of_le (hM x hx) (E_97).size)) hm1 (fun x hx => there_in hl (th_138 x hx)) (set_small hl hm1 th_138)) rfl ?_
        rintro _ w_139 ⟨L_141, A_142, cap_143, rfl, hr_144, hp_145, e_140⟩
        have E_146 := Ext.stepO E_97 e_140 mem0
        have h_147 := h_101.ext e_140 nin0
        have h_148 := h_102.ext e_140 nin0
        have h_149 := h_103.ext e_140 nin0
        have h_150 := h_104.ext e_140 nin0
        have h_151 := hm1.ext e_140 nin0
        have h_152 := Iter.ext hi1 e_140 nin0 nin0
        have hl_153 := rSlice_len hr_144
        refine S_assign rfl ?_
        refine WL_nil ?_
        refine W_seq ?_
        refine W_seq ?_
        refine W_region ?_
        have hN := RiseOf.congr hp_145 hB
        refine S_move rfl ?_
        refine S_len Try.runUnderlying26 rfl rfl ?_
        refine S_sub rfl rfl (by omega) rfl ?_
        refine S_assign rfl ?_
        refine WL_nil ?_
        refine W_block ?_
        refine W_loopF [12, 13, 42, 43, 44, 45, 46, 47, 48, 49, 50, 51, 52, 53, 54, 55, 56, 57, 58, 59, 60, 61, 62, 63, 64, 65, 66, 67, 68, 69, 70] (fun m f w => ∃ (i : Int) (S2 : List Int), m = (i + 1).toNat ∧ -1 ≤ i ∧ i < L_141.length ∧ (∀ x, x ∈ S2 ↔ NearTo l a b L_141 i x) ∧ Ext [] w0 w ∧ Ext ([b_62]) w_139 w ∧ MapAt kInt w b_62 (setL S2) ∧ Live f [(12, .int .i64 i)]) ?_ ?_
        · exact ⟨_, _, _, rfl, by omega, by omega, (fun x => by rw [hB, nearTo_last hN (by omega)]), E_146, (Ext.refl _ _), h_151, rfl, trivial⟩
        ·
          rintro m g_158 w_154 ⟨i, S2, rfl, s0, s1, s2, E_155, e_156, hm2, hl_157⟩
          refine W_liveM hl_157 rfl ?_
          have h_159 := Rep.extB _ hr_144 e_156 (by intro x hx; simp at hx; first | (subst hx; assumption) | (rcases hx with rfl | rfl <;> simp; done) | simp [hx])
          have h_160 := h_147.ext e_156 (ninC n_69 nin0)
          have h_161 := h_148.ext e_156 (ninC n_70 nin0)
          have h_162 := h_149.ext e_156 (ninC n_71 nin0)
          have h_163 := h_150.ext e_156 (ninC n_72 nin0)
          have h_164 := Iter.ext h_152 e_156 (ninC n_70 nin0) (ninC (Ne.symm n_89) nin0)
          refine W_seq ?_
          refine W_seq ?_
          refine W_region ?_
          refine S_move rfl ?_
          refine S_geq rfl rfl rfl ?_
          refine WL_nil ?_
          refine W_cond rfl (fun h_166 => ?_) (fun h_166 => ?_)
          ·
            have p_167 := h_166
            try simp only [lrn] at p_167
            refine W_skip ?_
            refine W_seq ?_
            refine W_block ?_
            refine W_seq ?_
            refine W_seq ?_
            refine W_region ?_
            refine S_move rfl ?_
            refine S_move rfl ?_
            refine S_move rfl ?_
            refine S_index Try.runUnderlying26 Try.sizeOf3 h_159 rfl (by omega) (by omega) rfl ?_
            intro b_168 o_169 cs_170 hi_171 hc_172 hb_173 hr_174
            refine S_loadI Try.isAgg3 rfl hc_172 hr_174 rfl ?_
            rintro ⟨r_175, r_176⟩
            refine S_lookup (ky := kInt) Try.runUnderlying40 Try.runUnderlying3 Try.zeroValue4 rfl rfl hm2 (get_setL _ _) rfl ?_
            refine S_not rfl rfl ?_
            refine WL_nil ?_
            refine W_cond rfl (fun h_178 => ?_) (fun h_178 => ?_)
            ·
              have h_179 := h_178
              simp only [lrnN] at h_179
              have p_180 := h_179
              try simp only [lrn] at p_180
              refine W_exit ?_
              refine W_region ?_
              refine S_move rfl ?_
              refine S_sub rfl rfl (by omega) rfl ?_
              refine S_assign rfl ?_
              refine WL_nil ?_
              refine ⟨by repeat (first | refine agree_upd rfl ?_ | exact agree_mix rfl agree_refl | refine agree_mix rfl ?_), ?_⟩
              exact ⟨_, by omega, i - 1, _, rfl, by omega, by omega, (fun x => (s2 x).trans (near_skip ‹Right l› hN (by omega) (by omega) (fun h => absurd ((s2 _).2 h) ‹_›) x).symm), E_155, e_156, hm2, rfl, trivial⟩
            ·
              have h_181 := h_178
              simp only [lrnN] at h_181
              have p_182 := h_181
              try simp only [lrn] at p_182
              refine W_skip ?_
              refine W_seq ?_
              refine W_region ?_
              have tn : There l L_141[i.toNat] := ((hN.2 _).1 (List.getElem_mem (by omega))).1.there.2
              have ⟨n1, n2⟩ := tn
              refine S_move rfl ?_
              refine S_move rfl ?_
              refine S_move rfl ?_
              refine S_move rfl ?_
              refine S_index Try.runUnderlying26 Try.sizeOf3 h_159 rfl (by omega) (by omega) rfl ?_
              intro b_183 o_184 cs_185 hi_186 hc_187 hb_188 hr_189
              refine S_loadI Try.isAgg3 rfl hc_187 hr_189 rfl ?_
              rintro ⟨r_190, r_191⟩
              refine S_sub rfl rfl (by omega) rfl ?_
              have h_192 := Rep.ext _ h E_155
              refine S_index Try.runUnderlying22 Try.sizeOf37 h_192 rfl (by omega) (by omega) rfl ?_
              intro b_193 o_194 cs_195 hi_196 hc_197 hb_198 hr_199
              have o_206 := rCommit_cells hc_197 hr_199
              obtain ⟨c_200, c_203, ⟨hc_201, hr_202⟩, ⟨hc_204, hr_205⟩⟩ := o_206
              refine S_fieldAddr Try.runUnderlying37 rfl Try.sizeOf26 rfl rfl ?_
              refine S_loadR Try.isAgg26 rfl hc_204 hr_205 rfl rfl ?_
              intro v_207 h_208
              have o_212 := rSlice_val h_208
              obtain ⟨A_210, cap_211, rfl⟩ := o_212
              have hl_209 := rSlice_len h_208
              have hz_220 := reached_ok h_192 h_208 ‹Right _›
              refine S_call Try.call25 rfl hz_220 rfl ?_
              rintro _ w_215 ⟨bm_213, S_214, rfl, hm_216, hz_220, hS_218, e_219⟩
              have hb_221 : w0.heap.size ≤ bm_213 := by have := (E_155).size; omega
              have n_222 : (w_139).heap.size ≤ bm_213 := by have := (e_156).size; omega
              have n_223 : b_10 ≠ bm_213 := by have := h_160.lt; omega
              have n_224 : bm_20 ≠ bm_213 := by have := h_161.lt; omega
              have n_225 : b_32 ≠ bm_213 := by have := h_162.lt; omega
              have n_226 : bm_46 ≠ bm_213 := by have := h_163.lt; omega
              have n_227 : b_62 ≠ bm_213 := by have := hm2.lt; omega
              have n_228 : it_78 ≠ bm_213 := by have := Iter.lt h_164; omega
              have E_229 := Ext.stepO E_155 e_219 mem0
              have c_230 := Ext.stepO e_156 e_219 mem0
              have h_231 := Rep.ext _ h_159 e_219
              have h_232 := Rep.ext _ hr_174 e_219
              have h_233 := Cells.ext hc_172 e_219 nin0
              have h_234 := Rep.ext _ hr_189 e_219
              have h_235 := Cells.ext hc_187 e_219 nin0
              have h_236 := Rep.ext _ hr_199 e_219
              have h_237 := Cells.ext hc_197 e_219 nin0
              have h_238 := Rep.ext _ hr_205 e_219
              have h_239 := Cells.ext hc_204 e_219 nin0
              have h_240 := Rep.ext _ h_208 e_219
              have h_241 := h_160.ext e_219 nin0
              have h_242 := h_161.ext e_219 nin0
              have h_243 := h_162.ext e_219 nin0
              have h_244 := h_163.ext e_219 nin0
              have h_245 := hm2.ext e_219 nin0
              have h_246 := Iter.ext h_164 e_219 nin0 nin0
              have hT := hS_218
              rw [← pars_get tn] at hT
              refine S_range Try.runUnderlying40 rfl hm_216 rfl ?_
              intro it_247 w_248 e_249 z_250 z_251 hi_252
              have hb_253 : w0.heap.size ≤ it_247 := by have := (E_229).size; omega
              have n_254 : (w_139).heap.size ≤ it_247 := by have := (c_230).size; omega
              have n_255 : b_10 ≠ it_247 := by have := h_241.lt; omega
              have n_256 : bm_20 ≠ it_247 := by have := h_242.lt; omega
              have n_257 : b_32 ≠ it_247 := by have := h_243.lt; omega
              have n_258 : bm_46 ≠ it_247 := by have := h_244.lt; omega
              have n_259 : b_62 ≠ it_247 := by have := h_245.lt; omega
              have n_260 : it_78 ≠ it_247 := by have := Iter.lt h_246; omega
              have n_261 : bm_213 ≠ it_247 := by have := hm_216.lt; omega
              have E_262 := Ext.stepO E_229 e_249 mem0
              have c_263 := Ext.stepO c_230 e_249 mem0
              have h_264 := Rep.mono (M' := it_247 :: (b_62 :: M)) _ h_231 e_249 mem0 (cons_fresh z_250)
              have h_265 := Rep.mono (M' := it_247 :: (b_62 :: M)) _ h_232 e_249 mem0 (cons_fresh z_250)
              have hb_267 : b_168 ∉ it_247 :: (b_62 :: M) := ninC (by have := Cells.lt h_233; omega) hb_173
              have h_266 := Cells.ext h_233 e_249 nin0
              have h_268 := Rep.mono (M' := it_247 :: (b_62 :: M)) _ h_234 e_249 mem0 (cons_fresh z_250)
              have hb_270 : b_183 ∉ it_247 :: (b_62 :: M) := ninC (by have := Cells.lt h_235; omega) hb_188
              have h_269 := Cells.ext h_235 e_249 nin0
              have h_271 := Rep.mono (M' := it_247 :: M) _ h_236 e_249 mem0 (cons_fresh z_250)
              have hb_273 : b_193 ∉ it_247 :: M := ninC (by have := Cells.lt h_237; omega) hb_198
              have h_272 := Cells.ext h_237 e_249 nin0
              have h_274 := Rep.mono (M' := it_247 :: M) _ h_238 e_249 mem0 (cons_fresh z_250)
              have hb_276 : b_193 ∉ it_247 :: M := ninC (by have := Cells.lt h_239; omega) hb_198
              have h_275 := Cells.ext h_239 e_249 nin0
              have h_277 := Rep.mono (M' := it_247 :: M) _ h_240 e_249 mem0 (cons_fresh z_250)
              have h_278 := h_241.ext e_249 nin0
              have h_279 := h_242.ext e_249 nin0
              have h_280 := h_243.ext e_249 nin0
              have h_281 := h_244.ext e_249 nin0
              have h_282 := h_245.ext e_249 nin0
              have h_283 := Iter.ext h_246 e_249 nin0 nin0
              have h_284 := hm_216.ext e_249 nin0
              refine WL_nil ?_
              refine W_block ?_
              refine W_loopF [13, 65, 66, 67, 68, 69, 70] (fun m f w => ∃ (D2 : List (Int × Value)) (S3 : List Int), m = S_214.length - D2.length ∧ Told S_214 D2 ∧ (∀ x, x ∈ S3 ↔ x ∈ S2 ∧ x ∉ D2.map (·.1)) ∧ Ext [] w0 w ∧ Ext ([it_247, b_62]) w_248 w ∧ Iter kInt w it_247 bm_213 (setL S_214) D2 ∧ MapAt kInt w b_62 (setL S3) ∧ Live f []) ?_ ?_
              · exact ⟨_, [], _, rfl, told_nil, (fun x => by simp), E_262, (Ext.refl _ _), hi_252, h_282, trivial⟩
              ·
                rintro m g_289 w_285 ⟨D2, S3, rfl, u0, u1, E_286, e_287, hi2, hm3, hl_288⟩
                refine W_liveM hl_288 rfl ?_
                have c_290 := Ext.stepO c_263 e_287 (memC (.inr n_254) (memC (.inl (by simp)) mem0))
                have h_291 := Rep.extB _ h_264 e_287 (by intro x hx; simp at hx; first | (subst hx; assumption) | (rcases hx with rfl | rfl <;> simp; done) | simp [hx])
                have h_292 := Rep.extB _ h_265 e_287 (by intro x hx; simp at hx; first | (subst hx; assumption) | (rcases hx with rfl | rfl <;> simp; done) | simp [hx])
                have h_293 := Cells.ext h_266 e_287 (fun h => hb_267 (by simp at h; first | (subst h; assumption) | (rcases h with rfl | rfl <;> simp; done) | simp [h]))
                have h_294 := Rep.extB _ h_268 e_287 (by intro x hx; simp at hx; first | (subst hx; assumption) | (rcases hx with rfl | rfl <;> simp; done) | simp [hx])
                have h_295 := Cells.ext h_269 e_287 (fun h => hb_270 (by simp at h; first | (subst h; assumption) | (rcases h with rfl | rfl <;> simp; done) | simp [h]))
                have h_296 := h_278.ext e_287 (ninC n_255 (ninC n_69 nin0))
                have h_297 := h_279.ext e_287 (ninC n_256 (ninC n_70 nin0))
                have h_298 := h_280.ext e_287 (ninC n_257 (ninC n_71 nin0))
                have h_299 := h_281.ext e_287 (ninC n_258 (ninC n_72 nin0))
                have h_300 := Iter.ext h_283 e_287 (ninC n_256 (ninC n_70 nin0)) (ninC n_260 (ninC (Ne.symm n_89) nin0))
                have h_301 := h_284.ext e_287 (ninC n_261 (ninC (Ne.symm n_227) nin0))
                refine W_seq ?_
                refine W_region ?_
                refine S_next rfl hi2 rfl ?_ ?_
                ·
                  intro k_302 v_303 w_304 hL_305 hD_306 hk_307 e_308 z_309 hi_310
                  have E_312 := Ext.stepO E_286 e_308 (memC (.inr hb_253) mem0)
                  have c_313 := Ext.stepO c_290 e_308 (memC (.inr n_254) mem0)
                  have c_314 := Ext.stepO e_287 e_308 (memC (.inl (by simp)) mem0)
                  have h_315 := Rep.extB _ h_291 e_308 (by intro x hx; simp at hx; first | (subst hx; assumption) | (rcases hx with rfl | rfl <;> simp; done) | simp [hx])
                  have h_316 := Rep.extB _ h_292 e_308 (by intro x hx; simp at hx; first | (subst hx; assumption) | (rcases hx with rfl | rfl <;> simp; done) | simp [hx])
                  have h_317 := Cells.ext h_293 e_308 (fun h => hb_267 (by simp at h; first | (subst h; assumption) | (rcases h with rfl | rfl <;> simp; done) | simp [h]))
                  have h_318 := Rep.extB _ h_294 e_308 (by intro x hx; simp at hx; first | (subst hx; assumption) | (rcases hx with rfl | rfl <;> simp; done) | simp [hx])
                  have h_319 := Cells.ext h_295 e_308 (fun h => hb_270 (by simp at h; first | (subst h; assumption) | (rcases h with rfl | rfl <;> simp; done) | simp [h]))
                  have h_320 := h_296.ext e_308 (ninC n_255 nin0)
                  have h_321 := h_297.ext e_308 (ninC n_256 nin0)
                  have h_322 := h_298.ext e_308 (ninC n_257 nin0)
                  have h_323 := h_299.ext e_308 (ninC n_258 nin0)
                  have h_324 := hm3.ext e_308 (ninC n_259 nin0)
                  have h_325 := Iter.ext h_300 e_308 (ninC n_256 nin0) (ninC n_260 nin0)
                  have h_326 := h_301.ext e_308 (ninC n_261 nin0)
                  refine S_extract rfl rfl rfl ?_
                  refine WL_nil ?_
                  refine W_seq ?_
                  refine W_cond_true rfl ?_
                  refine W_skip ?_
                  refine W_block ?_
                  refine W_seq ?_
                  refine W_region ?_
                  refine S_entry rfl hi_310 rfl ?_
                  refine S_extract rfl rfl rfl ?_
                  refine S_assign rfl ?_
                  refine WL_nil ?_
                  refine W_region ?_
                  refine S_move rfl ?_
                  refine S_move rfl ?_
                  refine S_delete (ky := kInt) Try.runUnderlying40 Try.runUnderlying3 rfl rfl h_324 ?_
                  intro w_327 e_328 z_329 hm_330
                  have E_331 := Ext.stepO E_312 e_328 (memC (.inr hb_68) mem0)
                  have c_332 := Ext.stepO c_313 e_328 (memC (.inl (by simp)) mem0)
                  have c_333 := Ext.stepO c_314 e_328 (memC (.inl (by simp)) mem0)
                  have h_334 := Rep.extB _ h_315 e_328 (by intro x hx; simp at hx; first | (subst hx; assumption) | (rcases hx with rfl | rfl <;> simp; done) | simp [hx])
                  have h_335 := Rep.extB _ h_316 e_328 (by intro x hx; simp at hx; first | (subst hx; assumption) | (rcases hx with rfl | rfl <;> simp; done) | simp [hx])
                  have h_336 := Cells.ext h_317 e_328 (fun h => hb_267 (by simp at h; first | (subst h; assumption) | (rcases h with rfl | rfl <;> simp; done) | simp [h]))
                  have h_337 := Rep.extB _ h_318 e_328 (by intro x hx; simp at hx; first | (subst hx; assumption) | (rcases hx with rfl | rfl <;> simp; done) | simp [hx])
                  have h_338 := Cells.ext h_319 e_328 (fun h => hb_270 (by simp at h; first | (subst h; assumption) | (rcases h with rfl | rfl <;> simp; done) | simp [h]))
                  have h_339 := h_320.ext e_328 (ninC n_69 nin0)
                  have h_340 := h_321.ext e_328 (ninC n_70 nin0)
                  have h_341 := h_322.ext e_328 (ninC n_71 nin0)
                  have h_342 := h_323.ext e_328 (ninC n_72 nin0)
                  have h_343 := Iter.ext h_325 e_328 (ninC n_70 nin0) (ninC (Ne.symm n_89) nin0)
                  have h_344 := h_326.ext e_328 (ninC (Ne.symm n_227) nin0)
                  have h_345 := Iter.ext hi_310 e_328 (ninC (Ne.symm n_227) nin0) (ninC (Ne.symm n_259) nin0)
                  have hm_346 := del_set hm_330
                  refine WL_nil ?_
                  refine ⟨by repeat (first | refine agree_upd rfl ?_ | exact agree_mix rfl agree_refl | refine agree_mix rfl ?_), ?_⟩
                  exact ⟨_, by have := told_lt u0 ‹_› ‹_›; simp; omega, _, _, rfl, told_step u0 ‹_› ‹_›, del_step u1, E_331, c_333, h_345, hm_346, trivial⟩
                ·
                  intro ho_311
                  refine S_extract rfl rfl rfl ?_
                  refine WL_nil ?_
                  refine W_seq ?_
                  refine W_cond_false rfl ?_
                  refine W_exit ?_
                  refine W_region ?_
                  refine S_move rfl ?_
                  refine S_sub rfl rfl (by omega) rfl ?_
                  refine S_assign rfl ?_
                  refine WL_nil ?_
                  refine ⟨by repeat (first | refine agree_upd rfl ?_ | exact agree_mix rfl agree_refl | refine agree_mix rfl ?_), ?_⟩
                  exact ⟨_, by omega, i - 1, _, rfl, by omega, by omega, near_del ‹Right l› (by omega) (by omega) tn s2 u0 ho_311 u1 hT, E_286, c_290, hm3, rfl, trivial⟩
          ·
            have p_347 := h_166
            try simp only [lrn] at p_347
            refine W_exit ?_
            refine W_seq ?_
            refine W_region ?_
            refine S_move rfl ?_
            have hB2 : ∀ x, x ∈ S2 ↔ NearP l a b x := fun x => (s2 x).trans (nearTo_all hN (by omega) x)
            have th_348 : ∀ x ∈ S2, There l x := (fun x hx => ((hB2 x).1 hx).1.1.there.2)
            refine S_call Try.call26 rfl (rising_ok (M := b_62 :: M) (memC (hm2.lt) (fun x hx => Nat.lt_of_lt_of_le (hM x hx) (E_155).size)) hm2 (fun x hx => there_in hl (th_348 x hx)) (set_small hl hm2 th_348)) rfl ?_
            rintro _ w_349 ⟨L_351, A_352, cap_353, rfl, hr_354, hp_355, e_350⟩
            have E_356 := Ext.stepO E_155 e_350 mem0
            have h_357 := Rep.ext _ h_159 e_350
            have h_358 := h_160.ext e_350 nin0
            have h_359 := h_161.ext e_350 nin0
            have h_360 := h_162.ext e_350 nin0
            have h_361 := h_163.ext e_350 nin0
            have h_362 := hm2.ext e_350 nin0
            have h_363 := Iter.ext h_164 e_350 nin0 nin0
            have hl_364 := rSlice_len hr_354
            refine S_assign rfl ?_
            refine WL_nil ?_
            refine W_ret ?_
            exact ⟨_, _, _, rfl, Rep.mono (M' := M) _ hr_354 (Ext.refl [] _) mem0 (fun x hx => .inl (by simp [hx])), ⟨fun _ => RiseOf.congr hp_355 hB2, fun k => absurd ‹Right l› k⟩, E_356⟩
end Go.Proofs.Ytpgegnmaophapaa
