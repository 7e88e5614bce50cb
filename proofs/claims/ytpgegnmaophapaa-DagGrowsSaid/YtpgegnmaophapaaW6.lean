/- The walks of a history's functions, printed by program. -/
import Derived.Test.YtpgegnmaophapaaW5
namespace Go.Proofs.Ytpgegnmaophapaa
open Go.Wk Classical
theorem common_ok {M : List Nat} {w0 : World} {A : Option Addr} {cap : Nat} {l : List Commit} (h : (rSlice rCommit).rd M w0 [.slice A l.length cap] l) (hM : ∀ b ∈ M, b < w0.heap.size) (hl : l.length ≤ 60) (a b : Int) (hia : InI a) (hib : InI b) :
    CallR Try.prog 12 [.slice A l.length cap, .int .i64 a, .int .i64 b] w0 (fun v w' => ∃ L A cap, v = .slice A L.length cap ∧ (rSlice rInt).rd M w' [.slice A L.length cap] L ∧ NearL l a b L ∧ Ext [] w0 w') := by
  have ll := rSlice_len h
  refine Call1 Try.func12 rfl rfl rfl rfl ?_
  refine W_seq ?_
  refine W_region ?_
  refine S_assign rfl ?_
  refine WL_nil ?_
  refine W_seq ?_
  refine W_seq ?_
  refine W_region ?_
  refine S_move rfl ?_
  have hz_3 := right_ok h
  refine S_callE Try.call20 rfl hz_3 rfl ?_
  intro w_1 e_2
  have E_4 := Ext.stepO (Ext.refl [] w0) e_2 mem0
  refine S_not rfl rfl ?_
  refine WL_nil ?_
  refine W_cond rfl (fun h_6 => ?_) (fun h_6 => ?_)
  ·
    have h_7 := h_6
    simp only [lrnN] at h_7
    have p_8 := h_7
    try simp only [lrn] at p_8
    refine W_seq ?_
    refine W_region ?_
    refine S_assign rfl ?_
    refine WL_nil ?_
    refine W_ret ?_
    exact ⟨[], _, _, rfl, rd_nil, nearL_no ‹¬ Right l›, E_4⟩
  ·
    have h_9 := h_6
    simp only [lrnN] at h_9
    have p_10 := h_9
    try simp only [lrn] at p_10
    refine W_skip ?_
    refine W_seq ?_
    refine W_region ?_
    refine S_move rfl ?_
    refine S_move rfl ?_
    refine S_buildSlice Try.runUnderlying26 Try.sizeOf3 Try.zeroValue3 rfl rfl rfl rfl rfl rfl rfl ?_
    intro b_11 w_12 e_13 z_14 z_15 ho_16
    have hb_17 : w0.heap.size ≤ b_11 := by have := (E_4).size; omega
    have E_18 := Ext.stepO E_4 e_13 mem0
    have ho_16 : Own _ _ _ [_] := ho_16
    have h_19 := Rep.ext _ h E_18
    have hr_20 := rd_ints (xs := [a]) (M := M) ho_16 (notin_old hM hb_17) (by simp; assumption) (by simp)
    have hz_28 := reached_ok h_19 hr_20 ‹Right _›
    refine S_call Try.call25 rfl hz_28 rfl ?_
    rintro _ w_23 ⟨bm_21, S_22, rfl, hm_24, hz_28, hS_26, e_27⟩
    have hb_29 : w0.heap.size ≤ bm_21 := by have := (E_18).size; omega
    have n_30 : b_11 ≠ bm_21 := by have := ho_16.lt; omega
    have E_31 := Ext.stepO E_18 e_27 mem0
    have h_32 := ho_16.ext e_27 nin0
    refine S_move rfl ?_
    refine S_move rfl ?_
    refine S_buildSlice Try.runUnderlying26 Try.sizeOf3 Try.zeroValue3 rfl rfl rfl rfl rfl rfl rfl ?_
    intro b_33 w_34 e_35 z_36 z_37 ho_38
    have hb_39 : w0.heap.size ≤ b_33 := by have := (E_31).size; omega
    have n_40 : b_11 ≠ b_33 := by have := h_32.lt; omega
    have n_41 : bm_21 ≠ b_33 := by have := hm_24.lt; omega
    have E_42 := Ext.stepO E_31 e_35 mem0
    have h_43 := h_32.ext e_35 nin0
    have h_44 := hm_24.ext e_35 nin0
    have ho_38 : Own _ _ _ [_] := ho_38
    have h_45 := Rep.ext _ h E_42
    have hr_46 := rd_ints (xs := [b]) (M := M) ho_38 (notin_old hM hb_39) (by simp; assumption) (by simp)
    have hz_54 := reached_ok h_45 hr_46 ‹Right _›
    refine S_call Try.call25 rfl hz_54 rfl ?_
    rintro _ w_49 ⟨bm_47, S_48, rfl, hm_50, hz_54, hS_52, e_53⟩
    have hb_55 : w0.heap.size ≤ bm_47 := by have := (E_42).size; omega
    have n_56 : b_11 ≠ bm_47 := by have := h_43.lt; omega
    have n_57 : bm_21 ≠ bm_47 := by have := h_44.lt; omega
    have n_58 : b_33 ≠ bm_47 := by have := ho_38.lt; omega
    have E_59 := Ext.stepO E_42 e_53 mem0
    have h_60 := h_43.ext e_53 nin0
    have h_61 := h_44.ext e_53 nin0
    have h_62 := ho_38.ext e_53 nin0
    refine S_assign rfl ?_
    refine S_assign rfl ?_
    refine WL_nil ?_
    refine W_seq ?_
    refine W_region ?_
    refine S_makeMap (ky := kInt) rfl ?_
    intro b_63 w_64 e_65 z_66 z_67 hm_68
    have hb_69 : w0.heap.size ≤ b_63 := by have := (E_59).size; omega
    have n_70 : b_11 ≠ b_63 := by have := h_60.lt; omega
    have n_71 : bm_21 ≠ b_63 := by have := h_61.lt; omega
    have n_72 : b_33 ≠ b_63 := by have := h_62.lt; omega
    have n_73 : bm_47 ≠ b_63 := by have := hm_50.lt; omega
    have E_74 := Ext.stepO E_59 e_65 mem0
    have h_75 := h_60.ext e_65 nin0
    have h_76 := h_61.ext e_65 nin0
    have h_77 := h_62.ext e_65 nin0
    have h_78 := hm_50.ext e_65 nin0
    refine S_assign rfl ?_
    refine WL_nil ?_
    refine W_seq ?_
    refine W_seq ?_
    refine W_region ?_
    refine S_move rfl ?_
    refine S_range Try.runUnderlying40 rfl h_76 rfl ?_
    intro it_79 w_80 e_81 z_82 z_83 hi_84
    have hb_85 : w0.heap.size ≤ it_79 := by have := (E_74).size; omega
    have n_86 : b_11 ≠ it_79 := by have := h_75.lt; omega
    have n_87 : bm_21 ≠ it_79 := by have := h_76.lt; omega
    have n_88 : b_33 ≠ it_79 := by have := h_77.lt; omega
    have n_89 : bm_47 ≠ it_79 := by have := h_78.lt; omega
    have n_90 : b_63 ≠ it_79 := by have := hm_68.lt; omega
    have E_91 := Ext.stepO E_74 e_81 mem0
    have h_92 := h_75.ext e_81 nin0
    have h_93 := h_76.ext e_81 nin0
    have h_94 := h_77.ext e_81 nin0
    have h_95 := h_78.ext e_81 nin0
    have h_96 := hm_68.ext e_81 nin0
    refine WL_nil ?_
    refine W_block ?_
    refine W_loopF [10, 28, 29, 30, 31, 32, 33, 34, 35, 36] (fun m f w => ∃ (D : List (Int × Value)) (S1 : List Int), m = S_22.length - D.length ∧ Told S_22 D ∧ (∀ x, x ∈ S1 ↔ x ∈ D.map (·.1) ∧ x ∈ S_48) ∧ Ext [] w0 w ∧ Ext ([it_79, b_63]) w_80 w ∧ Iter kInt w it_79 bm_21 (setL S_22) D ∧ MapAt kInt w b_63 (setL S1) ∧ Live f []) ?_ ?_
    · exact ⟨_, [], [], rfl, told_nil, (by simp), E_91, (Ext.refl _ _), hi_84, h_96, trivial⟩
    ·
      rintro m g_101 w_97 ⟨D, S1, rfl, q0, q1, E_98, e_99, hi1, hm1, hl_100⟩
      refine W_liveM hl_100 rfl ?_
      have h_102 := h_92.ext e_99 (ninC n_86 (ninC n_70 nin0))
      have h_103 := h_93.ext e_99 (ninC n_87 (ninC n_71 nin0))
      have h_104 := h_94.ext e_99 (ninC n_88 (ninC n_72 nin0))
      have h_105 := h_95.ext e_99 (ninC n_89 (ninC n_73 nin0))
      refine W_seq ?_
      refine W_region ?_
      refine S_next rfl hi1 rfl ?_ ?_
      ·
        intro k_106 v_107 w_108 hL_109 hD_110 hk_111 e_112 z_113 hi_114
        have E_116 := Ext.stepO E_98 e_112 (memC (.inr hb_85) mem0)
        have c_117 := Ext.stepO e_99 e_112 (memC (.inl (by simp)) mem0)
        have h_118 := h_102.ext e_112 (ninC n_86 nin0)
        have h_119 := h_103.ext e_112 (ninC n_87 nin0)
        have h_120 := h_104.ext e_112 (ninC n_88 nin0)
        have h_121 := h_105.ext e_112 (ninC n_89 nin0)
        have h_122 := hm1.ext e_112 (ninC n_90 nin0)
        refine S_extract rfl rfl rfl ?_
        refine WL_nil ?_
        refine W_seq ?_
        refine W_cond_true rfl ?_
        refine W_skip ?_
        refine W_block ?_
        refine W_seq ?_
        refine W_region ?_
        refine S_entry rfl hi_114 rfl ?_
        refine S_extract rfl rfl rfl ?_
        refine S_assign rfl ?_
        refine WL_nil ?_
        refine W_seq ?_
        refine W_region ?_
        refine S_move rfl ?_
        refine S_move rfl ?_
        refine S_lookup (ky := kInt) Try.runUnderlying40 Try.runUnderlying3 Try.zeroValue4 rfl rfl h_121 (get_setL _ _) rfl ?_
        refine WL_nil ?_
        refine W_cond rfl (fun h_124 => ?_) (fun h_124 => ?_)
        ·
          have p_125 := h_124
          try simp only [lrn] at p_125
          refine W_region ?_
          refine S_move rfl ?_
          refine S_move rfl ?_
          refine S_mapUpdate (ky := kInt) Try.runUnderlying40 Try.runUnderlying3 rfl rfl rfl h_122 ?_
          intro w_126 e_127 z_128 hm_129
          have E_130 := Ext.stepO E_116 e_127 (memC (.inr hb_69) mem0)
          have c_131 := Ext.stepO c_117 e_127 (memC (.inl (by simp)) mem0)
          have h_132 := h_118.ext e_127 (ninC n_70 nin0)
          have h_133 := h_119.ext e_127 (ninC n_71 nin0)
          have h_134 := h_120.ext e_127 (ninC n_72 nin0)
          have h_135 := h_121.ext e_127 (ninC n_73 nin0)
          have h_136 := Iter.ext hi_114 e_127 (ninC n_71 nin0) (ninC (Ne.symm n_90) nin0)
          have hm_137 := put_set hm_129
          refine WL_nil ?_
          refine ⟨by repeat (first | refine agree_upd rfl ?_ | exact agree_mix rfl agree_refl | refine agree_mix rfl ?_), ?_⟩
          exact ⟨_, by have := told_lt q0 ‹_› ‹_›; simp; omega, _, _, rfl, told_step q0 ‹_› ‹_›, by first | exact both_in q1 ‹_› | exact both_out q1 ‹_›, E_130, c_131, h_136, hm_137, trivial⟩
        ·
          have p_138 := h_124
          try simp only [lrn] at p_138
          refine W_skip ?_
          refine ⟨by repeat (first | refine agree_upd rfl ?_ | exact agree_mix rfl agree_refl | refine agree_mix rfl ?_), ?_⟩
          exact ⟨_, by have := told_lt q0 ‹_› ‹_›; simp; omega, _, _, rfl, told_step q0 ‹_› ‹_›, by first | exact both_in q1 ‹_› | exact both_out q1 ‹_›, E_116, c_117, hi_114, h_122, trivial⟩
      ·
        intro ho_115
        refine S_extract rfl rfl rfl ?_
        refine WL_nil ?_
        refine W_seq ?_
        refine W_cond_false rfl ?_
        refine W_exit ?_
        refine W_seq ?_
        refine W_region ?_
        refine S_move rfl ?_
        have hB := both_all q0 q1 ho_115 hS_26 hS_52
        have th_139 : ∀ x ∈ S1, There l x := (fun x hx => ((hB x).1 hx).1.there.2)
        refine S_call Try.call26 rfl (rising_ok (M := b_63 :: M) (memC (hm1.lt) (fun x hx => Nat.lt_of_lt_of_le (hM x hx) (E_98).size)) hm1 (fun x hx => there_in hl (th_139 x hx)) (set_small hl hm1 th_139)) rfl ?_
        rintro _ w_140 ⟨L_142, A_143, cap_144, rfl, hr_145, hp_146, e_141⟩
        have E_147 := Ext.stepO E_98 e_141 mem0
        have h_148 := h_102.ext e_141 nin0
        have h_149 := h_103.ext e_141 nin0
        have h_150 := h_104.ext e_141 nin0
        have h_151 := h_105.ext e_141 nin0
        have h_152 := hm1.ext e_141 nin0
        have h_153 := Iter.ext hi1 e_141 nin0 nin0
        have hl_154 := rSlice_len hr_145
        refine S_assign rfl ?_
        refine WL_nil ?_
        refine W_seq ?_
        refine W_seq ?_
        refine W_region ?_
        have hN := RiseOf.congr hp_146 hB
        refine S_move rfl ?_
        refine S_len Try.runUnderlying26 rfl rfl ?_
        refine S_sub rfl rfl (by omega) rfl ?_
        refine S_assign rfl ?_
        refine WL_nil ?_
        refine W_block ?_
        refine W_loopF [12, 13, 42, 43, 44, 45, 46, 47, 48, 49, 50, 51, 52, 53, 54, 55, 56, 57, 58, 59, 60, 61, 62, 63, 64, 65, 66, 67, 68, 69, 70] (fun m f w => ∃ (i : Int) (S2 : List Int), m = (i + 1).toNat ∧ -1 ≤ i ∧ i < L_142.length ∧ (∀ x, x ∈ S2 ↔ NearTo l a b L_142 i x) ∧ Ext [] w0 w ∧ Ext ([b_63]) w_140 w ∧ MapAt kInt w b_63 (setL S2) ∧ Live f [(12, .int .i64 i)]) ?_ ?_
        · exact ⟨_, _, _, rfl, by omega, by omega, (fun x => by rw [hB, nearTo_last hN (by omega)]), E_147, (Ext.refl _ _), h_152, rfl, trivial⟩
        ·
          rintro m g_159 w_155 ⟨i, S2, rfl, s0, s1, s2, E_156, e_157, hm2, hl_158⟩
          refine W_liveM hl_158 rfl ?_
          have h_160 := Rep.extB _ hr_145 e_157 (by intro x hx; first | (simp [hx]; done) | (simp at hx; first | (subst hx; assumption) | (rcases hx with rfl | rfl <;> simp; done) | simp [hx]))
          have h_161 := h_148.ext e_157 (ninC n_70 nin0)
          have h_162 := h_149.ext e_157 (ninC n_71 nin0)
          have h_163 := h_150.ext e_157 (ninC n_72 nin0)
          have h_164 := h_151.ext e_157 (ninC n_73 nin0)
          have h_165 := Iter.ext h_153 e_157 (ninC n_71 nin0) (ninC (Ne.symm n_90) nin0)
          refine W_seq ?_
          refine W_seq ?_
          refine W_region ?_
          refine S_move rfl ?_
          refine S_geq rfl rfl rfl ?_
          refine WL_nil ?_
          refine W_cond rfl (fun h_167 => ?_) (fun h_167 => ?_)
          ·
            have p_168 := h_167
            try simp only [lrn] at p_168
            refine W_skip ?_
            refine W_seq ?_
            refine W_block ?_
            refine W_seq ?_
            refine W_seq ?_
            refine W_region ?_
            refine S_move rfl ?_
            refine S_move rfl ?_
            refine S_move rfl ?_
            refine S_index Try.runUnderlying26 Try.sizeOf3 h_160 rfl (by omega) (by omega) rfl ?_
            intro b_169 o_170 cs_171 hi_172 hc_173 hb_174 hr_175
            refine S_loadI Try.isAgg3 rfl hc_173 hr_175 rfl ?_
            rintro ⟨r_176, r_177⟩
            refine S_lookup (ky := kInt) Try.runUnderlying40 Try.runUnderlying3 Try.zeroValue4 rfl rfl hm2 (get_setL _ _) rfl ?_
            refine S_not rfl rfl ?_
            refine WL_nil ?_
            refine W_cond rfl (fun h_179 => ?_) (fun h_179 => ?_)
            ·
              have h_180 := h_179
              simp only [lrnN] at h_180
              have p_181 := h_180
              try simp only [lrn] at p_181
              refine W_exit ?_
              refine W_region ?_
              refine S_move rfl ?_
              refine S_sub rfl rfl (by omega) rfl ?_
              refine S_assign rfl ?_
              refine WL_nil ?_
              refine ⟨by repeat (first | refine agree_upd rfl ?_ | exact agree_mix rfl agree_refl | refine agree_mix rfl ?_), ?_⟩
              exact ⟨_, by omega, i - 1, _, rfl, by omega, by omega, (fun x => (s2 x).trans (near_skip ‹Right l› hN (by omega) (by omega) (fun h => absurd ((s2 _).2 h) ‹_›) x).symm), E_156, e_157, hm2, rfl, trivial⟩
            ·
              have h_182 := h_179
              simp only [lrnN] at h_182
              have p_183 := h_182
              try simp only [lrn] at p_183
              refine W_skip ?_
              refine W_seq ?_
              refine W_region ?_
              have tn : There l L_142[i.toNat] := ((hN.2 _).1 (List.getElem_mem (by omega))).1.there.2
              have ⟨n1, n2⟩ := tn
              refine S_move rfl ?_
              refine S_move rfl ?_
              refine S_move rfl ?_
              refine S_move rfl ?_
              refine S_index Try.runUnderlying26 Try.sizeOf3 h_160 rfl (by omega) (by omega) rfl ?_
              intro b_184 o_185 cs_186 hi_187 hc_188 hb_189 hr_190
              refine S_loadI Try.isAgg3 rfl hc_188 hr_190 rfl ?_
              rintro ⟨r_191, r_192⟩
              refine S_sub rfl rfl (by omega) rfl ?_
              have h_193 := Rep.ext _ h E_156
              refine S_index Try.runUnderlying22 Try.sizeOf37 h_193 rfl (by omega) (by omega) rfl ?_
              intro b_194 o_195 cs_196 hi_197 hc_198 hb_199 hr_200
              have o_207 := rCommit_cells hc_198 hr_200
              obtain ⟨c_201, c_204, ⟨hc_202, hr_203⟩, ⟨hc_205, hr_206⟩⟩ := o_207
              refine S_fieldAddr Try.runUnderlying37 rfl Try.sizeOf26 rfl rfl ?_
              refine S_loadR Try.isAgg26 rfl hc_205 hr_206 rfl rfl ?_
              intro v_208 h_209
              have o_213 := rSlice_val h_209
              obtain ⟨A_211, cap_212, rfl⟩ := o_213
              have hl_210 := rSlice_len h_209
              have hz_221 := reached_ok h_193 h_209 ‹Right _›
              refine S_call Try.call25 rfl hz_221 rfl ?_
              rintro _ w_216 ⟨bm_214, S_215, rfl, hm_217, hz_221, hS_219, e_220⟩
              have hb_222 : w0.heap.size ≤ bm_214 := by have := (E_156).size; omega
              have n_223 : (w_140).heap.size ≤ bm_214 := by have := (e_157).size; omega
              have n_224 : b_11 ≠ bm_214 := by have := h_161.lt; omega
              have n_225 : bm_21 ≠ bm_214 := by have := h_162.lt; omega
              have n_226 : b_33 ≠ bm_214 := by have := h_163.lt; omega
              have n_227 : bm_47 ≠ bm_214 := by have := h_164.lt; omega
              have n_228 : b_63 ≠ bm_214 := by have := hm2.lt; omega
              have n_229 : it_79 ≠ bm_214 := by have := Iter.lt h_165; omega
              have E_230 := Ext.stepO E_156 e_220 mem0
              have c_231 := Ext.stepO e_157 e_220 mem0
              have h_232 := Rep.ext _ h_160 e_220
              have h_233 := Rep.ext _ hr_175 e_220
              have h_234 := Cells.ext hc_173 e_220 nin0
              have h_235 := Rep.ext _ hr_190 e_220
              have h_236 := Cells.ext hc_188 e_220 nin0
              have h_237 := Rep.ext _ hr_200 e_220
              have h_238 := Cells.ext hc_198 e_220 nin0
              have h_239 := Rep.ext _ hr_206 e_220
              have h_240 := Cells.ext hc_205 e_220 nin0
              have h_241 := Rep.ext _ h_209 e_220
              have h_242 := h_161.ext e_220 nin0
              have h_243 := h_162.ext e_220 nin0
              have h_244 := h_163.ext e_220 nin0
              have h_245 := h_164.ext e_220 nin0
              have h_246 := hm2.ext e_220 nin0
              have h_247 := Iter.ext h_165 e_220 nin0 nin0
              have hT := hS_219
              rw [← pars_get tn] at hT
              refine S_range Try.runUnderlying40 rfl hm_217 rfl ?_
              intro it_248 w_249 e_250 z_251 z_252 hi_253
              have hb_254 : w0.heap.size ≤ it_248 := by have := (E_230).size; omega
              have n_255 : (w_140).heap.size ≤ it_248 := by have := (c_231).size; omega
              have n_256 : b_11 ≠ it_248 := by have := h_242.lt; omega
              have n_257 : bm_21 ≠ it_248 := by have := h_243.lt; omega
              have n_258 : b_33 ≠ it_248 := by have := h_244.lt; omega
              have n_259 : bm_47 ≠ it_248 := by have := h_245.lt; omega
              have n_260 : b_63 ≠ it_248 := by have := h_246.lt; omega
              have n_261 : it_79 ≠ it_248 := by have := Iter.lt h_247; omega
              have n_262 : bm_214 ≠ it_248 := by have := hm_217.lt; omega
              have E_263 := Ext.stepO E_230 e_250 mem0
              have c_264 := Ext.stepO c_231 e_250 mem0
              have h_265 := Rep.mono (M' := it_248 :: (b_63 :: M)) _ h_232 e_250 mem0 (cons_fresh z_251)
              have h_266 := Rep.mono (M' := it_248 :: (b_63 :: M)) _ h_233 e_250 mem0 (cons_fresh z_251)
              have hb_268 : b_169 ∉ it_248 :: (b_63 :: M) := ninC (by have := Cells.lt h_234; omega) hb_174
              have h_267 := Cells.ext h_234 e_250 nin0
              have h_269 := Rep.mono (M' := it_248 :: (b_63 :: M)) _ h_235 e_250 mem0 (cons_fresh z_251)
              have hb_271 : b_184 ∉ it_248 :: (b_63 :: M) := ninC (by have := Cells.lt h_236; omega) hb_189
              have h_270 := Cells.ext h_236 e_250 nin0
              have h_272 := Rep.mono (M' := it_248 :: M) _ h_237 e_250 mem0 (cons_fresh z_251)
              have hb_274 : b_194 ∉ it_248 :: M := ninC (by have := Cells.lt h_238; omega) hb_199
              have h_273 := Cells.ext h_238 e_250 nin0
              have h_275 := Rep.mono (M' := it_248 :: M) _ h_239 e_250 mem0 (cons_fresh z_251)
              have hb_277 : b_194 ∉ it_248 :: M := ninC (by have := Cells.lt h_240; omega) hb_199
              have h_276 := Cells.ext h_240 e_250 nin0
              have h_278 := Rep.mono (M' := it_248 :: M) _ h_241 e_250 mem0 (cons_fresh z_251)
              have h_279 := h_242.ext e_250 nin0
              have h_280 := h_243.ext e_250 nin0
              have h_281 := h_244.ext e_250 nin0
              have h_282 := h_245.ext e_250 nin0
              have h_283 := h_246.ext e_250 nin0
              have h_284 := Iter.ext h_247 e_250 nin0 nin0
              have h_285 := hm_217.ext e_250 nin0
              refine WL_nil ?_
              refine W_block ?_
              refine W_loopF [13, 65, 66, 67, 68, 69, 70] (fun m f w => ∃ (D2 : List (Int × Value)) (S3 : List Int), m = S_215.length - D2.length ∧ Told S_215 D2 ∧ (∀ x, x ∈ S3 ↔ x ∈ S2 ∧ x ∉ D2.map (·.1)) ∧ Ext [] w0 w ∧ Ext ([it_248, b_63]) w_249 w ∧ Iter kInt w it_248 bm_214 (setL S_215) D2 ∧ MapAt kInt w b_63 (setL S3) ∧ Live f []) ?_ ?_
              · exact ⟨_, [], _, rfl, told_nil, (fun x => by simp), E_263, (Ext.refl _ _), hi_253, h_283, trivial⟩
              ·
                rintro m g_290 w_286 ⟨D2, S3, rfl, u0, u1, E_287, e_288, hi2, hm3, hl_289⟩
                refine W_liveM hl_289 rfl ?_
                have c_291 := Ext.stepO c_264 e_288 (memC (.inr n_255) (memC (.inl (by simp)) mem0))
                have h_292 := Rep.extB _ h_265 e_288 (by intro x hx; first | (simp [hx]; done) | (simp at hx; first | (subst hx; assumption) | (rcases hx with rfl | rfl <;> simp; done) | simp [hx]))
                have h_293 := Rep.extB _ h_266 e_288 (by intro x hx; first | (simp [hx]; done) | (simp at hx; first | (subst hx; assumption) | (rcases hx with rfl | rfl <;> simp; done) | simp [hx]))
                have h_294 := Cells.ext h_267 e_288 (fun h => hb_268 (by simp at h; first | (subst h; assumption) | (rcases h with rfl | rfl <;> simp; done) | simp [h]))
                have h_295 := Rep.extB _ h_269 e_288 (by intro x hx; first | (simp [hx]; done) | (simp at hx; first | (subst hx; assumption) | (rcases hx with rfl | rfl <;> simp; done) | simp [hx]))
                have h_296 := Cells.ext h_270 e_288 (fun h => hb_271 (by simp at h; first | (subst h; assumption) | (rcases h with rfl | rfl <;> simp; done) | simp [h]))
                have h_297 := h_279.ext e_288 (ninC n_256 (ninC n_70 nin0))
                have h_298 := h_280.ext e_288 (ninC n_257 (ninC n_71 nin0))
                have h_299 := h_281.ext e_288 (ninC n_258 (ninC n_72 nin0))
                have h_300 := h_282.ext e_288 (ninC n_259 (ninC n_73 nin0))
                have h_301 := Iter.ext h_284 e_288 (ninC n_257 (ninC n_71 nin0)) (ninC n_261 (ninC (Ne.symm n_90) nin0))
                have h_302 := h_285.ext e_288 (ninC n_262 (ninC (Ne.symm n_228) nin0))
                refine W_seq ?_
                refine W_region ?_
                refine S_next rfl hi2 rfl ?_ ?_
                ·
                  intro k_303 v_304 w_305 hL_306 hD_307 hk_308 e_309 z_310 hi_311
                  have E_313 := Ext.stepO E_287 e_309 (memC (.inr hb_254) mem0)
                  have c_314 := Ext.stepO c_291 e_309 (memC (.inr n_255) mem0)
                  have c_315 := Ext.stepO e_288 e_309 (memC (.inl (by simp)) mem0)
                  have h_316 := Rep.extB _ h_292 e_309 (by intro x hx; first | (simp [hx]; done) | (simp at hx; first | (subst hx; assumption) | (rcases hx with rfl | rfl <;> simp; done) | simp [hx]))
                  have h_317 := Rep.extB _ h_293 e_309 (by intro x hx; first | (simp [hx]; done) | (simp at hx; first | (subst hx; assumption) | (rcases hx with rfl | rfl <;> simp; done) | simp [hx]))
                  have h_318 := Cells.ext h_294 e_309 (fun h => hb_268 (by simp at h; first | (subst h; assumption) | (rcases h with rfl | rfl <;> simp; done) | simp [h]))
                  have h_319 := Rep.extB _ h_295 e_309 (by intro x hx; first | (simp [hx]; done) | (simp at hx; first | (subst hx; assumption) | (rcases hx with rfl | rfl <;> simp; done) | simp [hx]))
                  have h_320 := Cells.ext h_296 e_309 (fun h => hb_271 (by simp at h; first | (subst h; assumption) | (rcases h with rfl | rfl <;> simp; done) | simp [h]))
                  have h_321 := h_297.ext e_309 (ninC n_256 nin0)
                  have h_322 := h_298.ext e_309 (ninC n_257 nin0)
                  have h_323 := h_299.ext e_309 (ninC n_258 nin0)
                  have h_324 := h_300.ext e_309 (ninC n_259 nin0)
                  have h_325 := hm3.ext e_309 (ninC n_260 nin0)
                  have h_326 := Iter.ext h_301 e_309 (ninC n_257 nin0) (ninC n_261 nin0)
                  have h_327 := h_302.ext e_309 (ninC n_262 nin0)
                  refine S_extract rfl rfl rfl ?_
                  refine WL_nil ?_
                  refine W_seq ?_
                  refine W_cond_true rfl ?_
                  refine W_skip ?_
                  refine W_block ?_
                  refine W_seq ?_
                  refine W_region ?_
                  refine S_entry rfl hi_311 rfl ?_
                  refine S_extract rfl rfl rfl ?_
                  refine S_assign rfl ?_
                  refine WL_nil ?_
                  refine W_region ?_
                  refine S_move rfl ?_
                  refine S_move rfl ?_
                  refine S_delete (ky := kInt) Try.runUnderlying40 Try.runUnderlying3 rfl rfl h_325 ?_
                  intro w_328 e_329 z_330 hm_331
                  have E_332 := Ext.stepO E_313 e_329 (memC (.inr hb_69) mem0)
                  have c_333 := Ext.stepO c_314 e_329 (memC (.inl (by simp)) mem0)
                  have c_334 := Ext.stepO c_315 e_329 (memC (.inl (by simp)) mem0)
                  have h_335 := Rep.extB _ h_316 e_329 (by intro x hx; first | (simp [hx]; done) | (simp at hx; first | (subst hx; assumption) | (rcases hx with rfl | rfl <;> simp; done) | simp [hx]))
                  have h_336 := Rep.extB _ h_317 e_329 (by intro x hx; first | (simp [hx]; done) | (simp at hx; first | (subst hx; assumption) | (rcases hx with rfl | rfl <;> simp; done) | simp [hx]))
                  have h_337 := Cells.ext h_318 e_329 (fun h => hb_268 (by simp at h; first | (subst h; assumption) | (rcases h with rfl | rfl <;> simp; done) | simp [h]))
                  have h_338 := Rep.extB _ h_319 e_329 (by intro x hx; first | (simp [hx]; done) | (simp at hx; first | (subst hx; assumption) | (rcases hx with rfl | rfl <;> simp; done) | simp [hx]))
                  have h_339 := Cells.ext h_320 e_329 (fun h => hb_271 (by simp at h; first | (subst h; assumption) | (rcases h with rfl | rfl <;> simp; done) | simp [h]))
                  have h_340 := h_321.ext e_329 (ninC n_70 nin0)
                  have h_341 := h_322.ext e_329 (ninC n_71 nin0)
                  have h_342 := h_323.ext e_329 (ninC n_72 nin0)
                  have h_343 := h_324.ext e_329 (ninC n_73 nin0)
                  have h_344 := Iter.ext h_326 e_329 (ninC n_71 nin0) (ninC (Ne.symm n_90) nin0)
                  have h_345 := h_327.ext e_329 (ninC (Ne.symm n_228) nin0)
                  have h_346 := Iter.ext hi_311 e_329 (ninC (Ne.symm n_228) nin0) (ninC (Ne.symm n_260) nin0)
                  have hm_347 := del_set hm_331
                  refine WL_nil ?_
                  refine ⟨by repeat (first | refine agree_upd rfl ?_ | exact agree_mix rfl agree_refl | refine agree_mix rfl ?_), ?_⟩
                  exact ⟨_, by have := told_lt u0 ‹_› ‹_›; simp; omega, _, _, rfl, told_step u0 ‹_› ‹_›, del_step u1, E_332, c_334, h_346, hm_347, trivial⟩
                ·
                  intro ho_312
                  refine S_extract rfl rfl rfl ?_
                  refine WL_nil ?_
                  refine W_seq ?_
                  refine W_cond_false rfl ?_
                  refine W_exit ?_
                  refine W_region ?_
                  refine S_move rfl ?_
                  refine S_sub rfl rfl (by omega) rfl ?_
                  refine S_assign rfl ?_
                  refine WL_nil ?_
                  refine ⟨by repeat (first | refine agree_upd rfl ?_ | exact agree_mix rfl agree_refl | refine agree_mix rfl ?_), ?_⟩
                  exact ⟨_, by omega, i - 1, _, rfl, by omega, by omega, near_del ‹Right l› (by omega) (by omega) tn s2 u0 ho_312 u1 hT, E_287, c_291, hm3, rfl, trivial⟩
          ·
            have p_348 := h_167
            try simp only [lrn] at p_348
            refine W_exit ?_
            refine W_seq ?_
            refine W_region ?_
            refine S_move rfl ?_
            have hB2 : ∀ x, x ∈ S2 ↔ NearP l a b x := fun x => (s2 x).trans (nearTo_all hN (by omega) x)
            have th_349 : ∀ x ∈ S2, There l x := (fun x hx => ((hB2 x).1 hx).1.1.there.2)
            refine S_call Try.call26 rfl (rising_ok (M := b_63 :: M) (memC (hm2.lt) (fun x hx => Nat.lt_of_lt_of_le (hM x hx) (E_156).size)) hm2 (fun x hx => there_in hl (th_349 x hx)) (set_small hl hm2 th_349)) rfl ?_
            rintro _ w_350 ⟨L_352, A_353, cap_354, rfl, hr_355, hp_356, e_351⟩
            have E_357 := Ext.stepO E_156 e_351 mem0
            have h_358 := Rep.ext _ h_160 e_351
            have h_359 := h_161.ext e_351 nin0
            have h_360 := h_162.ext e_351 nin0
            have h_361 := h_163.ext e_351 nin0
            have h_362 := h_164.ext e_351 nin0
            have h_363 := hm2.ext e_351 nin0
            have h_364 := Iter.ext h_165 e_351 nin0 nin0
            have hl_365 := rSlice_len hr_355
            refine S_assign rfl ?_
            refine WL_nil ?_
            refine W_ret ?_
            exact ⟨_, _, _, rfl, Rep.mono (M' := M) _ hr_355 (Ext.refl [] _) mem0 (fun x hx => .inl (by simp [hx])), ⟨fun _ => RiseOf.congr hp_356 hB2, fun k => absurd ‹Right l› k⟩, E_357⟩
end Go.Proofs.Ytpgegnmaophapaa
