/- The walks of a history's functions, printed by program. -/
import Derived.Test.YtpgegnmaophapaaW5
namespace Go.Proofs.Ytpgegnmaophapaa
open Go.Wk Classical
theorem common_ok {M : List Nat} {w0 : World} {A : Option Addr} {cap : Nat} {l : List Commit} (h : (rSlice rCommit).rd M w0 [.slice A l.length cap] l) (hM : ∀ b ∈ M, b < w0.heap.size) (hl : l.length ≤ 60) (a b : Int) (hia : InI a) (hib : InI b) :
    CallR Try.prog 12 [.slice A l.length cap, .int .i64 a, .int .i64 b] w0 (fun v w' => ∃ L A cap, v = .slice A L.length cap ∧ (rSlice rInt).rd M w' [.slice A L.length cap] L ∧ NearL l a b L ∧ Ext [] w0 w') := by
  have ll := rSlice_len h
  refine Call1 Try.func12 rfl rfl rfl rfl ?_
  refine W_seq ?_
  refine W_region ?_
  refine S_assign rfl ?_
  refine WL_nil ?_
  refine W_seq ?_
  refine W_seq ?_
  refine W_region ?_
  refine S_move rfl ?_
  refine S_call Try.call20 rfl (right_ok h) rfl ?_
  rintro _ w_1 ⟨rfl, e_2⟩
  have E_3 := Ext.stepO (Ext.refl [] w0) e_2 mem0
  refine S_not rfl rfl ?_
  refine WL_nil ?_
  refine W_cond rfl (fun h_5 => ?_) (fun h_5 => ?_)
  ·
    have h_6 := h_5
    simp only [lrnN] at h_6
    have p_7 := h_6
    try simp only [lrn] at p_7
    refine W_seq ?_
    refine W_region ?_
    refine S_assign rfl ?_
    refine WL_nil ?_
    refine W_ret ?_
    exact ⟨[], _, _, rfl, rd_nil, nearL_no ‹¬ Right l›, E_3⟩
  ·
    have h_8 := h_5
    simp only [lrnN] at h_8
    have p_9 := h_8
    try simp only [lrn] at p_9
    refine W_skip ?_
    refine W_seq ?_
    refine W_region ?_
    refine S_move rfl ?_
    refine S_move rfl ?_
    refine S_buildSlice Try.runUnderlying26 Try.sizeOf3 Try.zeroValue3 rfl rfl rfl rfl rfl rfl rfl ?_
    intro b_10 w_11 e_12 z_13 z_14 ho_15
    have hb_16 : w0.heap.size ≤ b_10 := by have := (E_3).size; omega
    have E_17 := Ext.stepO E_3 e_12 mem0
    have ho_15 : Own _ _ _ [_] := ho_15
    have h_18 := Rep.ext _ h E_17
    have hr_19 := rd_ints (xs := [a]) (M := M) ho_15 (notin_old hM hb_16) (by simp; assumption) (by simp)
    have hz_27 := reached_ok h_18 hr_19 ‹Right _›
    refine S_call Try.call25 rfl hz_27 rfl ?_
    rintro _ w_22 ⟨bm_20, S_21, rfl, hm_23, hz_27, hS_25, e_26⟩
    have hb_28 : w0.heap.size ≤ bm_20 := by have := (E_17).size; omega
    have n_29 : b_10 ≠ bm_20 := by have := ho_15.lt; omega
    have E_30 := Ext.stepO E_17 e_26 mem0
    have h_31 := ho_15.ext e_26 nin0
    refine S_move rfl ?_
    refine S_move rfl ?_
    refine S_buildSlice Try.runUnderlying26 Try.sizeOf3 Try.zeroValue3 rfl rfl rfl rfl rfl rfl rfl ?_
    intro b_32 w_33 e_34 z_35 z_36 ho_37
    have hb_38 : w0.heap.size ≤ b_32 := by have := (E_30).size; omega
    have n_39 : b_10 ≠ b_32 := by have := h_31.lt; omega
    have n_40 : bm_20 ≠ b_32 := by have := hm_23.lt; omega
    have E_41 := Ext.stepO E_30 e_34 mem0
    have h_42 := h_31.ext e_34 nin0
    have h_43 := hm_23.ext e_34 nin0
    have ho_37 : Own _ _ _ [_] := ho_37
    have h_44 := Rep.ext _ h E_41
    have hr_45 := rd_ints (xs := [b]) (M := M) ho_37 (notin_old hM hb_38) (by simp; assumption) (by simp)
    have hz_53 := reached_ok h_44 hr_45 ‹Right _›
    refine S_call Try.call25 rfl hz_53 rfl ?_
    rintro _ w_48 ⟨bm_46, S_47, rfl, hm_49, hz_53, hS_51, e_52⟩
    have hb_54 : w0.heap.size ≤ bm_46 := by have := (E_41).size; omega
    have n_55 : b_10 ≠ bm_46 := by have := h_42.lt; omega
    have n_56 : bm_20 ≠ bm_46 := by have := h_43.lt; omega
    have n_57 : b_32 ≠ bm_46 := by have := ho_37.lt; omega
    have E_58 := Ext.stepO E_41 e_52 mem0
    have h_59 := h_42.ext e_52 nin0
    have h_60 := h_43.ext e_52 nin0
    have h_61 := ho_37.ext e_52 nin0
    refine S_assign rfl ?_
    refine S_assign rfl ?_
    refine WL_nil ?_
    refine W_seq ?_
    refine W_region ?_
    refine S_makeMap (ky := kInt) rfl ?_
    intro b_62 w_63 e_64 z_65 z_66 hm_67
    have hb_68 : w0.heap.size ≤ b_62 := by have := (E_58).size; omega
    have n_69 : b_10 ≠ b_62 := by have := h_59.lt; omega
    have n_70 : bm_20 ≠ b_62 := by have := h_60.lt; omega
    have n_71 : b_32 ≠ b_62 := by have := h_61.lt; omega
    have n_72 : bm_46 ≠ b_62 := by have := hm_49.lt; omega
    have E_73 := Ext.stepO E_58 e_64 mem0
    have h_74 := h_59.ext e_64 nin0
    have h_75 := h_60.ext e_64 nin0
    have h_76 := h_61.ext e_64 nin0
    have h_77 := hm_49.ext e_64 nin0
    refine S_assign rfl ?_
    refine WL_nil ?_
    refine W_seq ?_
    refine W_seq ?_
    refine W_region ?_
    refine S_move rfl ?_
    refine S_range Try.runUnderlying40 rfl h_75 rfl ?_
    intro it_78 w_79 e_80 z_81 z_82 hi_83
    have hb_84 : w0.heap.size ≤ it_78 := by have := (E_73).size; omega
    have n_85 : b_10 ≠ it_78 := by have := h_74.lt; omega
    have n_86 : bm_20 ≠ it_78 := by have := h_75.lt; omega
    have n_87 : b_32 ≠ it_78 := by have := h_76.lt; omega
    have n_88 : bm_46 ≠ it_78 := by have := h_77.lt; omega
    have n_89 : b_62 ≠ it_78 := by have := hm_67.lt; omega
    have E_90 := Ext.stepO E_73 e_80 mem0
    have h_91 := h_74.ext e_80 nin0
    have h_92 := h_75.ext e_80 nin0
    have h_93 := h_76.ext e_80 nin0
    have h_94 := h_77.ext e_80 nin0
    have h_95 := hm_67.ext e_80 nin0
    refine WL_nil ?_
    refine W_block ?_
    refine W_loopF [10, 28, 29, 30, 31, 32, 33, 34, 35, 36] (fun m f w => ∃ (D : List (Int × Value)) (S1 : List Int), m = S_21.length - D.length ∧ Told S_21 D ∧ (∀ x, x ∈ S1 ↔ x ∈ D.map (·.1) ∧ x ∈ S_47) ∧ Ext [] w0 w ∧ Ext ([it_78, b_62]) w_79 w ∧ Iter kInt w it_78 bm_20 (setL S_21) D ∧ MapAt kInt w b_62 (setL S1) ∧ Live f []) ?_ ?_
    · exact ⟨_, [], [], rfl, told_nil, (by simp), E_90, (Ext.refl _ _), hi_83, h_95, trivial⟩
    ·
      rintro m g_100 w_96 ⟨D, S1, rfl, q0, q1, E_97, e_98, hi1, hm1, hl_99⟩
      refine W_liveM hl_99 rfl ?_
      have h_101 := h_91.ext e_98 (ninC n_85 (ninC n_69 nin0))
      have h_102 := h_92.ext e_98 (ninC n_86 (ninC n_70 nin0))
      have h_103 := h_93.ext e_98 (ninC n_87 (ninC n_71 nin0))
      have h_104 := h_94.ext e_98 (ninC n_88 (ninC n_72 nin0))
      refine W_seq ?_
      refine W_region ?_
      refine S_next rfl hi1 rfl ?_ ?_
      ·
        intro k_105 v_106 w_107 hL_108 hD_109 hk_110 e_111 z_112 hi_113
        have E_115 := Ext.stepO E_97 e_111 (memC (.inr hb_84) mem0)
        have c_116 := Ext.stepO e_98 e_111 (memC (.inl (by simp)) mem0)
        have h_117 := h_101.ext e_111 (ninC n_85 nin0)
        have h_118 := h_102.ext e_111 (ninC n_86 nin0)
        have h_119 := h_103.ext e_111 (ninC n_87 nin0)
        have h_120 := h_104.ext e_111 (ninC n_88 nin0)
        have h_121 := hm1.ext e_111 (ninC n_89 nin0)
        refine S_extract rfl rfl rfl ?_
        refine WL_nil ?_
        refine W_seq ?_
        refine W_cond_true rfl ?_
        refine W_skip ?_
        refine W_block ?_
        refine W_seq ?_
        refine W_region ?_
        refine S_entry rfl hi_113 rfl ?_
        refine S_extract rfl rfl rfl ?_
        refine S_assign rfl ?_
        refine WL_nil ?_
        refine W_seq ?_
        refine W_region ?_
        refine S_move rfl ?_
        refine S_move rfl ?_
        refine S_lookup (ky := kInt) Try.runUnderlying40 Try.runUnderlying3 Try.zeroValue4 rfl rfl h_120 (get_setL _ _) rfl ?_
        refine WL_nil ?_
        refine W_cond rfl (fun h_123 => ?_) (fun h_123 => ?_)
        ·
          have p_124 := h_123
          try simp only [lrn] at p_124
          refine W_region ?_
          refine S_move rfl ?_
          refine S_move rfl ?_
          refine S_mapUpdate (ky := kInt) Try.runUnderlying40 Try.runUnderlying3 rfl rfl rfl h_121 ?_
          intro w_125 e_126 z_127 hm_128
          have E_129 := Ext.stepO E_115 e_126 (memC (.inr hb_68) mem0)
          have c_130 := Ext.stepO c_116 e_126 (memC (.inl (by simp)) mem0)
          have h_131 := h_117.ext e_126 (ninC n_69 nin0)
          have h_132 := h_118.ext e_126 (ninC n_70 nin0)
          have h_133 := h_119.ext e_126 (ninC n_71 nin0)
          have h_134 := h_120.ext e_126 (ninC n_72 nin0)
          have h_135 := Iter.ext hi_113 e_126 (ninC n_70 nin0) (ninC (Ne.symm n_89) nin0)
          have hm_136 := put_set hm_128
          refine WL_nil ?_
          refine ⟨by repeat (first | refine agree_upd rfl ?_ | exact agree_mix rfl agree_refl | refine agree_mix rfl ?_), ?_⟩
          exact ⟨_, by have := told_lt q0 ‹_› ‹_›; simp; omega, _, _, rfl, told_step q0 ‹_› ‹_›, by first | exact both_in q1 ‹_› | exact both_out q1 ‹_›, E_129, c_130, h_135, hm_136, trivial⟩
        ·
          have p_137 := h_123
          try simp only [lrn] at p_137
          refine W_skip ?_
          refine ⟨by repeat (first | refine agree_upd rfl ?_ | exact agree_mix rfl agree_refl | refine agree_mix rfl ?_), ?_⟩
          exact ⟨_, by have := told_lt q0 ‹_› ‹_›; simp; omega, _, _, rfl, told_step q0 ‹_› ‹_›, by first | exact both_in q1 ‹_› | exact both_out q1 ‹_›, E_115, c_116, hi_113, h_121, trivial⟩
      ·
        intro ho_114
        refine S_extract rfl rfl rfl ?_
        refine WL_nil ?_
        refine W_seq ?_
        refine W_cond_false rfl ?_
        refine W_exit ?_
        refine W_seq ?_
        refine W_region ?_
        refine S_move rfl ?_
        have hB := both_all q0 q1 ho_114 hS_25 hS_51
        have th_138 : ∀ x ∈ S1, There l x := (fun x hx => ((hB x).1 hx).1.there.2)
        refine S_call Try.call26 rfl (rising_ok (M := b_62 :: M) (memC (hm1.lt) (fun x hx => Nat.lt_of_lt_of_le (hM x hx) (E_97).size)) hm1 (fun x hx => there_in hl (th_138 x hx)) (set_small hl hm1 th_138)) rfl ?_
        rintro _ w_139 ⟨L_141, A_142, cap_143, rfl, hr_144, hp_145, e_140⟩
        have E_146 := Ext.stepO E_97 e_140 mem0
        have c_147 := Ext.stepO e_98 e_140 mem0
        have h_148 := h_101.ext e_140 nin0
        have h_149 := h_102.ext e_140 nin0
        have h_150 := h_103.ext e_140 nin0
        have h_151 := h_104.ext e_140 nin0
        have h_152 := hm1.ext e_140 nin0
        have h_153 := Iter.ext hi1 e_140 nin0 nin0
        have hl_154 := rSlice_len hr_144
        refine S_assign rfl ?_
        refine WL_nil ?_
        refine W_seq ?_
        refine W_seq ?_
        refine W_region ?_
        have hN := RiseOf.congr hp_145 hB
        refine S_move rfl ?_
        refine S_len Try.runUnderlying26 rfl rfl ?_
        refine S_sub rfl rfl (by omega) rfl ?_
        refine S_assign rfl ?_
        refine WL_nil ?_
        refine W_block ?_
        refine W_loopF [12, 13, 42, 43, 44, 45, 46, 47, 48, 49, 50, 51, 52, 53, 54, 55, 56, 57, 58, 59, 60, 61, 62, 63, 64, 65, 66, 67, 68, 69, 70] (fun m f w => ∃ (i : Int) (S2 : List Int), m = (i + 1).toNat ∧ -1 ≤ i ∧ i < L_141.length ∧ (∀ x, x ∈ S2 ↔ NearTo l a b L_141 i x) ∧ Ext [] w0 w ∧ Ext ([b_62]) w_139 w ∧ MapAt kInt w b_62 (setL S2) ∧ Live f [(12, .int .i64 i)]) ?_ ?_
        · exact ⟨_, _, _, rfl, by omega, by omega, (fun x => by rw [hB, nearTo_last hN (by omega)]), E_146, (Ext.refl _ _), h_152, rfl, trivial⟩
        ·
          rintro m g_159 w_155 ⟨i, S2, rfl, s0, s1, s2, E_156, e_157, hm2, hl_158⟩
          refine W_liveM hl_158 rfl ?_
          have c_160 := Ext.stepO c_147 e_157 (memC (.inl (by simp)) mem0)
          have h_161 := Rep.extB _ hr_144 e_157 (by intro x hx; simp at hx; first | (subst hx; assumption) | (rcases hx with rfl | rfl <;> simp; done) | simp [hx])
          have h_162 := h_148.ext e_157 (ninC n_69 nin0)
          have h_163 := h_149.ext e_157 (ninC n_70 nin0)
          have h_164 := h_150.ext e_157 (ninC n_71 nin0)
          have h_165 := h_151.ext e_157 (ninC n_72 nin0)
          have h_166 := Iter.ext h_153 e_157 (ninC n_70 nin0) (ninC (Ne.symm n_89) nin0)
          refine W_seq ?_
          refine W_seq ?_
          refine W_region ?_
          refine S_move rfl ?_
          refine S_geq rfl rfl rfl ?_
          refine WL_nil ?_
          refine W_cond rfl (fun h_168 => ?_) (fun h_168 => ?_)
          ·
            have p_169 := h_168
            try simp only [lrn] at p_169
            refine W_skip ?_
            refine W_seq ?_
            refine W_block ?_
            refine W_seq ?_
            refine W_seq ?_
            refine W_region ?_
            refine S_move rfl ?_
            refine S_move rfl ?_
            refine S_move rfl ?_
            refine S_index Try.runUnderlying26 Try.sizeOf3 h_161 rfl (by omega) (by omega) rfl ?_
            intro b_170 o_171 cs_172 hi_173 hc_174 hb_175 hr_176
            refine S_loadI Try.isAgg3 rfl hc_174 hr_176 rfl ?_
            rintro ⟨r_177, r_178⟩
            refine S_lookup (ky := kInt) Try.runUnderlying40 Try.runUnderlying3 Try.zeroValue4 rfl rfl hm2 (get_setL _ _) rfl ?_
            refine S_not rfl rfl ?_
            refine WL_nil ?_
            refine W_cond rfl (fun h_180 => ?_) (fun h_180 => ?_)
            ·
              have h_181 := h_180
              simp only [lrnN] at h_181
              have p_182 := h_181
              try simp only [lrn] at p_182
              refine W_exit ?_
              refine W_region ?_
              refine S_move rfl ?_
              refine S_sub rfl rfl (by omega) rfl ?_
              refine S_assign rfl ?_
              refine WL_nil ?_
              refine ⟨by repeat (first | refine agree_upd rfl ?_ | exact agree_mix rfl agree_refl | refine agree_mix rfl ?_), ?_⟩
              exact ⟨_, by omega, i - 1, _, rfl, by omega, by omega, (fun x => (s2 x).trans (near_skip ‹Right l› hN (by omega) (by omega) (fun h => absurd ((s2 _).2 h) ‹_›) x).symm), E_156, e_157, hm2, rfl, trivial⟩
            ·
              have h_183 := h_180
              simp only [lrnN] at h_183
              have p_184 := h_183
              try simp only [lrn] at p_184
              refine W_skip ?_
              refine W_seq ?_
              refine W_region ?_
              have tn : There l L_141[i.toNat] := ((hN.2 _).1 (List.getElem_mem (by omega))).1.there.2
              have ⟨n1, n2⟩ := tn
              refine S_move rfl ?_
              refine S_move rfl ?_
              refine S_move rfl ?_
              refine S_move rfl ?_
              refine S_index Try.runUnderlying26 Try.sizeOf3 h_161 rfl (by omega) (by omega) rfl ?_
              intro b_185 o_186 cs_187 hi_188 hc_189 hb_190 hr_191
              refine S_loadI Try.isAgg3 rfl hc_189 hr_191 rfl ?_
              rintro ⟨r_192, r_193⟩
              refine S_sub rfl rfl (by omega) rfl ?_
              have h_194 := Rep.ext _ h E_156
              refine S_index Try.runUnderlying22 Try.sizeOf37 h_194 rfl (by omega) (by omega) rfl ?_
              intro b_195 o_196 cs_197 hi_198 hc_199 hb_200 hr_201
              have o_208 := rCommit_cells hc_199 hr_201
              obtain ⟨c_202, c_205, ⟨hc_203, hr_204⟩, ⟨hc_206, hr_207⟩⟩ := o_208
              refine S_fieldAddr Try.runUnderlying37 rfl Try.sizeOf26 rfl rfl ?_
              refine S_loadR Try.isAgg26 rfl hc_206 hr_207 rfl rfl ?_
              intro v_209 h_210
              have o_214 := rSlice_val h_210
              obtain ⟨A_212, cap_213, rfl⟩ := o_214
              have hl_211 := rSlice_len h_210
              have hz_222 := reached_ok h_194 h_210 ‹Right _›
              refine S_call Try.call25 rfl hz_222 rfl ?_
              rintro _ w_217 ⟨bm_215, S_216, rfl, hm_218, hz_222, hS_220, e_221⟩
              have hb_223 : w0.heap.size ≤ bm_215 := by have := (E_156).size; omega
              have n_224 : (w_79).heap.size ≤ bm_215 := by have := (c_160).size; omega
              have n_225 : (w_139).heap.size ≤ bm_215 := by have := (e_157).size; omega
              have n_226 : b_10 ≠ bm_215 := by have := h_162.lt; omega
              have n_227 : bm_20 ≠ bm_215 := by have := h_163.lt; omega
              have n_228 : b_32 ≠ bm_215 := by have := h_164.lt; omega
              have n_229 : bm_46 ≠ bm_215 := by have := h_165.lt; omega
              have n_230 : b_62 ≠ bm_215 := by have := hm2.lt; omega
              have n_231 : it_78 ≠ bm_215 := by have := Iter.lt h_166; omega
              have E_232 := Ext.stepO E_156 e_221 mem0
              have c_233 := Ext.stepO c_160 e_221 mem0
              have c_234 := Ext.stepO e_157 e_221 mem0
              have h_235 := Rep.ext _ h_161 e_221
              have h_236 := Rep.ext _ hr_176 e_221
              have h_237 := Cells.ext hc_174 e_221 nin0
              have h_238 := Rep.ext _ hr_191 e_221
              have h_239 := Cells.ext hc_189 e_221 nin0
              have h_240 := Rep.ext _ hr_201 e_221
              have h_241 := Cells.ext hc_199 e_221 nin0
              have h_242 := Rep.ext _ hr_207 e_221
              have h_243 := Cells.ext hc_206 e_221 nin0
              have h_244 := Rep.ext _ h_210 e_221
              have h_245 := h_162.ext e_221 nin0
              have h_246 := h_163.ext e_221 nin0
              have h_247 := h_164.ext e_221 nin0
              have h_248 := h_165.ext e_221 nin0
              have h_249 := hm2.ext e_221 nin0
              have h_250 := Iter.ext h_166 e_221 nin0 nin0
              have hT := hS_220
              rw [← pars_get tn] at hT
              refine S_range Try.runUnderlying40 rfl hm_218 rfl ?_
              intro it_251 w_252 e_253 z_254 z_255 hi_256
              have hb_257 : w0.heap.size ≤ it_251 := by have := (E_232).size; omega
              have n_258 : (w_79).heap.size ≤ it_251 := by have := (c_233).size; omega
              have n_259 : (w_139).heap.size ≤ it_251 := by have := (c_234).size; omega
              have n_260 : b_10 ≠ it_251 := by have := h_245.lt; omega
              have n_261 : bm_20 ≠ it_251 := by have := h_246.lt; omega
              have n_262 : b_32 ≠ it_251 := by have := h_247.lt; omega
              have n_263 : bm_46 ≠ it_251 := by have := h_248.lt; omega
              have n_264 : b_62 ≠ it_251 := by have := h_249.lt; omega
              have n_265 : it_78 ≠ it_251 := by have := Iter.lt h_250; omega
              have n_266 : bm_215 ≠ it_251 := by have := hm_218.lt; omega
              have E_267 := Ext.stepO E_232 e_253 mem0
              have c_268 := Ext.stepO c_233 e_253 mem0
              have c_269 := Ext.stepO c_234 e_253 mem0
              have h_270 := Rep.mono (M' := it_251 :: (b_62 :: M)) _ h_235 e_253 mem0 (cons_fresh z_254)
              have h_271 := Rep.mono (M' := it_251 :: (b_62 :: M)) _ h_236 e_253 mem0 (cons_fresh z_254)
              have hb_273 : b_170 ∉ it_251 :: (b_62 :: M) := ninC (by have := Cells.lt h_237; omega) hb_175
              have h_272 := Cells.ext h_237 e_253 nin0
              have h_274 := Rep.mono (M' := it_251 :: (b_62 :: M)) _ h_238 e_253 mem0 (cons_fresh z_254)
              have hb_276 : b_185 ∉ it_251 :: (b_62 :: M) := ninC (by have := Cells.lt h_239; omega) hb_190
              have h_275 := Cells.ext h_239 e_253 nin0
              have h_277 := Rep.mono (M' := it_251 :: M) _ h_240 e_253 mem0 (cons_fresh z_254)
              have hb_279 : b_195 ∉ it_251 :: M := ninC (by have := Cells.lt h_241; omega) hb_200
              have h_278 := Cells.ext h_241 e_253 nin0
              have h_280 := Rep.mono (M' := it_251 :: M) _ h_242 e_253 mem0 (cons_fresh z_254)
              have hb_282 : b_195 ∉ it_251 :: M := ninC (by have := Cells.lt h_243; omega) hb_200
              have h_281 := Cells.ext h_243 e_253 nin0
              have h_283 := Rep.mono (M' := it_251 :: M) _ h_244 e_253 mem0 (cons_fresh z_254)
              have h_284 := h_245.ext e_253 nin0
              have h_285 := h_246.ext e_253 nin0
              have h_286 := h_247.ext e_253 nin0
              have h_287 := h_248.ext e_253 nin0
              have h_288 := h_249.ext e_253 nin0
              have h_289 := Iter.ext h_250 e_253 nin0 nin0
              have h_290 := hm_218.ext e_253 nin0
              refine WL_nil ?_
              refine W_block ?_
              refine W_loopF [13, 65, 66, 67, 68, 69, 70] (fun m f w => ∃ (D2 : List (Int × Value)) (S3 : List Int), m = S_216.length - D2.length ∧ Told S_216 D2 ∧ (∀ x, x ∈ S3 ↔ x ∈ S2 ∧ x ∉ D2.map (·.1)) ∧ Ext [] w0 w ∧ Ext ([it_251, b_62]) w_252 w ∧ Iter kInt w it_251 bm_215 (setL S_216) D2 ∧ MapAt kInt w b_62 (setL S3) ∧ Live f []) ?_ ?_
              · exact ⟨_, [], _, rfl, told_nil, (fun x => by simp), E_267, (Ext.refl _ _), hi_256, h_288, trivial⟩
              ·
                rintro m g_295 w_291 ⟨D2, S3, rfl, u0, u1, E_292, e_293, hi2, hm3, hl_294⟩
                refine W_liveM hl_294 rfl ?_
                have c_296 := Ext.stepO c_268 e_293 (memC (.inr n_258) (memC (.inl (by simp)) mem0))
                have c_297 := Ext.stepO c_269 e_293 (memC (.inr n_259) (memC (.inl (by simp)) mem0))
                have h_298 := Rep.extB _ h_270 e_293 (by intro x hx; simp at hx; first | (subst hx; assumption) | (rcases hx with rfl | rfl <;> simp; done) | simp [hx])
                have h_299 := Rep.extB _ h_271 e_293 (by intro x hx; simp at hx; first | (subst hx; assumption) | (rcases hx with rfl | rfl <;> simp; done) | simp [hx])
                have h_300 := Cells.ext h_272 e_293 (fun h => hb_273 (by simp at h; first | (subst h; assumption) | (rcases h with rfl | rfl <;> simp; done) | simp [h]))
                have h_301 := Rep.extB _ h_274 e_293 (by intro x hx; simp at hx; first | (subst hx; assumption) | (rcases hx with rfl | rfl <;> simp; done) | simp [hx])
                have h_302 := Cells.ext h_275 e_293 (fun h => hb_276 (by simp at h; first | (subst h; assumption) | (rcases h with rfl | rfl <;> simp; done) | simp [h]))
                have h_303 := h_284.ext e_293 (ninC n_260 (ninC n_69 nin0))
                have h_304 := h_285.ext e_293 (ninC n_261 (ninC n_70 nin0))
                have h_305 := h_286.ext e_293 (ninC n_262 (ninC n_71 nin0))
                have h_306 := h_287.ext e_293 (ninC n_263 (ninC n_72 nin0))
                have h_307 := Iter.ext h_289 e_293 (ninC n_261 (ninC n_70 nin0)) (ninC n_265 (ninC (Ne.symm n_89) nin0))
                have h_308 := h_290.ext e_293 (ninC n_266 (ninC (Ne.symm n_230) nin0))
                refine W_seq ?_
                refine W_region ?_
                refine S_next rfl hi2 rfl ?_ ?_
                ·
                  intro k_309 v_310 w_311 hL_312 hD_313 hk_314 e_315 z_316 hi_317
                  have E_319 := Ext.stepO E_292 e_315 (memC (.inr hb_257) mem0)
                  have c_320 := Ext.stepO c_296 e_315 (memC (.inr n_258) mem0)
                  have c_321 := Ext.stepO c_297 e_315 (memC (.inr n_259) mem0)
                  have c_322 := Ext.stepO e_293 e_315 (memC (.inl (by simp)) mem0)
                  have h_323 := Rep.extB _ h_298 e_315 (by intro x hx; simp at hx; first | (subst hx; assumption) | (rcases hx with rfl | rfl <;> simp; done) | simp [hx])
                  have h_324 := Rep.extB _ h_299 e_315 (by intro x hx; simp at hx; first | (subst hx; assumption) | (rcases hx with rfl | rfl <;> simp; done) | simp [hx])
                  have h_325 := Cells.ext h_300 e_315 (fun h => hb_273 (by simp at h; first | (subst h; assumption) | (rcases h with rfl | rfl <;> simp; done) | simp [h]))
                  have h_326 := Rep.extB _ h_301 e_315 (by intro x hx; simp at hx; first | (subst hx; assumption) | (rcases hx with rfl | rfl <;> simp; done) | simp [hx])
                  have h_327 := Cells.ext h_302 e_315 (fun h => hb_276 (by simp at h; first | (subst h; assumption) | (rcases h with rfl | rfl <;> simp; done) | simp [h]))
                  have h_328 := h_303.ext e_315 (ninC n_260 nin0)
                  have h_329 := h_304.ext e_315 (ninC n_261 nin0)
                  have h_330 := h_305.ext e_315 (ninC n_262 nin0)
                  have h_331 := h_306.ext e_315 (ninC n_263 nin0)
                  have h_332 := hm3.ext e_315 (ninC n_264 nin0)
                  have h_333 := Iter.ext h_307 e_315 (ninC n_261 nin0) (ninC n_265 nin0)
                  have h_334 := h_308.ext e_315 (ninC n_266 nin0)
                  refine S_extract rfl rfl rfl ?_
                  refine WL_nil ?_
                  refine W_seq ?_
                  refine W_cond_true rfl ?_
                  refine W_skip ?_
                  refine W_block ?_
                  refine W_seq ?_
                  refine W_region ?_
                  refine S_entry rfl hi_317 rfl ?_
                  refine S_extract rfl rfl rfl ?_
                  refine S_assign rfl ?_
                  refine WL_nil ?_
                  refine W_region ?_
                  refine S_move rfl ?_
                  refine S_move rfl ?_
                  refine S_delete (ky := kInt) Try.runUnderlying40 Try.runUnderlying3 rfl rfl h_332 ?_
                  intro w_335 e_336 z_337 hm_338
                  have E_339 := Ext.stepO E_319 e_336 (memC (.inr hb_68) mem0)
                  have c_340 := Ext.stepO c_320 e_336 (memC (.inl (by simp)) mem0)
                  have c_341 := Ext.stepO c_321 e_336 (memC (.inl (by simp)) mem0)
                  have c_342 := Ext.stepO c_322 e_336 (memC (.inl (by simp)) mem0)
                  have h_343 := Rep.extB _ h_323 e_336 (by intro x hx; simp at hx; first | (subst hx; assumption) | (rcases hx with rfl | rfl <;> simp; done) | simp [hx])
                  have h_344 := Rep.extB _ h_324 e_336 (by intro x hx; simp at hx; first | (subst hx; assumption) | (rcases hx with rfl | rfl <;> simp; done) | simp [hx])
                  have h_345 := Cells.ext h_325 e_336 (fun h => hb_273 (by simp at h; first | (subst h; assumption) | (rcases h with rfl | rfl <;> simp; done) | simp [h]))
                  have h_346 := Rep.extB _ h_326 e_336 (by intro x hx; simp at hx; first | (subst hx; assumption) | (rcases hx with rfl | rfl <;> simp; done) | simp [hx])
                  have h_347 := Cells.ext h_327 e_336 (fun h => hb_276 (by simp at h; first | (subst h; assumption) | (rcases h with rfl | rfl <;> simp; done) | simp [h]))
                  have h_348 := h_328.ext e_336 (ninC n_69 nin0)
                  have h_349 := h_329.ext e_336 (ninC n_70 nin0)
                  have h_350 := h_330.ext e_336 (ninC n_71 nin0)
                  have h_351 := h_331.ext e_336 (ninC n_72 nin0)
                  have h_352 := Iter.ext h_333 e_336 (ninC n_70 nin0) (ninC (Ne.symm n_89) nin0)
                  have h_353 := h_334.ext e_336 (ninC (Ne.symm n_230) nin0)
                  have h_354 := Iter.ext hi_317 e_336 (ninC (Ne.symm n_230) nin0) (ninC (Ne.symm n_264) nin0)
                  have hm_355 := del_set hm_338
                  refine WL_nil ?_
                  refine ⟨by repeat (first | refine agree_upd rfl ?_ | exact agree_mix rfl agree_refl | refine agree_mix rfl ?_), ?_⟩
                  exact ⟨_, by have := told_lt u0 ‹_› ‹_›; simp; omega, _, _, rfl, told_step u0 ‹_› ‹_›, del_step u1, E_339, c_342, h_354, hm_355, trivial⟩
                ·
                  intro ho_318
                  refine S_extract rfl rfl rfl ?_
                  refine WL_nil ?_
                  refine W_seq ?_
                  refine W_cond_false rfl ?_
                  refine W_exit ?_
                  refine W_region ?_
                  refine S_move rfl ?_
                  refine S_sub rfl rfl (by omega) rfl ?_
                  refine S_assign rfl ?_
                  refine WL_nil ?_
                  refine ⟨by repeat (first | refine agree_upd rfl ?_ | exact agree_mix rfl agree_refl | refine agree_mix rfl ?_), ?_⟩
                  exact ⟨_, by omega, i - 1, _, rfl, by omega, by omega, near_del ‹Right l› (by omega) (by omega) tn s2 u0 ho_318 u1 hT, E_292, c_297, hm3, rfl, trivial⟩
          ·
            have p_356 := h_168
            try simp only [lrn] at p_356
            refine W_exit ?_
            refine W_seq ?_
            refine W_region ?_
            refine S_move rfl ?_
            have hB2 : ∀ x, x ∈ S2 ↔ NearP l a b x := fun x => (s2 x).trans (nearTo_all hN (by omega) x)
            have th_357 : ∀ x ∈ S2, There l x := (fun x hx => ((hB2 x).1 hx).1.1.there.2)
            refine S_call Try.call26 rfl (rising_ok (M := b_62 :: M) (memC (hm2.lt) (fun x hx => Nat.lt_of_lt_of_le (hM x hx) (E_156).size)) hm2 (fun x hx => there_in hl (th_357 x hx)) (set_small hl hm2 th_357)) rfl ?_
            rintro _ w_358 ⟨L_360, A_361, cap_362, rfl, hr_363, hp_364, e_359⟩
            have E_365 := Ext.stepO E_156 e_359 mem0
            have c_366 := Ext.stepO c_160 e_359 mem0
            have c_367 := Ext.stepO e_157 e_359 mem0
            have h_368 := Rep.ext _ h_161 e_359
            have h_369 := h_162.ext e_359 nin0
            have h_370 := h_163.ext e_359 nin0
            have h_371 := h_164.ext e_359 nin0
            have h_372 := h_165.ext e_359 nin0
            have h_373 := hm2.ext e_359 nin0
            have h_374 := Iter.ext h_166 e_359 nin0 nin0
            have hl_375 := rSlice_len hr_363
            refine S_assign rfl ?_
            refine WL_nil ?_
            refine W_ret ?_
            exact ⟨_, _, _, rfl, Rep.mono (M' := M) _ hr_363 (Ext.refl [] _) mem0 (fun x hx => .inl (by simp [hx])), ⟨fun _ => RiseOf.congr hp_364 hB2, fun k => absurd ‹Right l› k⟩, E_365⟩
end Go.Proofs.Ytpgegnmaophapaa
