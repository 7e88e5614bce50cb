/- The walks of a history's functions, printed by program. -/
import Derived.Test.YtpgegnmaophapaaW11
namespace Go.Proofs.Ytpgegnmaophapaa
open Go.Wk Classical
set_option maxHeartbeats 1600000 in
theorem alive_ok {M : List Nat} {w0 : World} (hM : ∀ b ∈ M, b < w0.heap.size) :
    CallR Try.prog 10 [] w0 (fun v w' => v = .bool true ∧ Ext [] w0 w') := by
  refine Call1 Try.func10 rfl rfl rfl rfl ?_
  refine W_seq ?_
  refine W_region ?_
  refine S_assign rfl ?_
  refine WL_nil ?_
  refine W_seq ?_
  refine W_region ?_
  refine S_build (pl := #[(0, 1), (1, 1)]) Try.runUnderlying37 Try.zeroValue37 (fun w => by simp [Try.sizeOf26, Try.sizeOf3]) rfl rfl rfl ?_
  refine S_buildSlice Try.runUnderlying26 Try.sizeOf3 Try.zeroValue3 rfl rfl rfl rfl rfl rfl rfl ?_
  intro b_1 w_2 e_3 z_4 z_5 ho_6
  have hb_7 : w0.heap.size ≤ b_1 := by have := ((Ext.refl [] w0)).size; omega
  have E_8 := Ext.stepO (Ext.refl [] w0) e_3 mem0
  have ho_6 : Own _ _ _ [_] := ho_6
  refine S_build (pl := #[(0, 1), (1, 1)]) Try.runUnderlying37 Try.zeroValue37 (fun w => by simp [Try.sizeOf26, Try.sizeOf3]) rfl rfl rfl ?_
  refine S_buildSlice Try.runUnderlying26 Try.sizeOf3 Try.zeroValue3 rfl rfl rfl rfl rfl rfl rfl ?_
  intro b_9 w_10 e_11 z_12 z_13 ho_14
  have hb_15 : w0.heap.size ≤ b_9 := by have := (E_8).size; omega
  have n_16 : b_1 ≠ b_9 := by have := ho_6.lt; omega
  have E_17 := Ext.stepO E_8 e_11 mem0
  have h_18 := ho_6.ext e_11 nin0
  have ho_14 : Own _ _ _ [_] := ho_14
  refine S_build (pl := #[(0, 1), (1, 1)]) Try.runUnderlying37 Try.zeroValue37 (fun w => by simp [Try.sizeOf26, Try.sizeOf3]) rfl rfl rfl ?_
  refine S_buildSlice Try.runUnderlying26 Try.sizeOf3 Try.zeroValue3 rfl rfl rfl rfl rfl rfl rfl ?_
  intro b_19 w_20 e_21 z_22 z_23 ho_24
  have hb_25 : w0.heap.size ≤ b_19 := by have := (E_17).size; omega
  have n_26 : b_1 ≠ b_19 := by have := h_18.lt; omega
  have n_27 : b_9 ≠ b_19 := by have := ho_14.lt; omega
  have E_28 := Ext.stepO E_17 e_21 mem0
  have h_29 := h_18.ext e_21 nin0
  have h_30 := ho_14.ext e_21 nin0
  have ho_24 : Own _ _ _ [_, _] := ho_24
  refine S_build (pl := #[(0, 1), (1, 1)]) Try.runUnderlying37 Try.zeroValue37 (fun w => by simp [Try.sizeOf26, Try.sizeOf3]) rfl rfl rfl ?_
  refine S_buildSlice Try.runUnderlying26 Try.sizeOf3 Try.zeroValue3 rfl rfl rfl rfl rfl rfl rfl ?_
  intro b_31 w_32 e_33 z_34 z_35 ho_36
  have hb_37 : w0.heap.size ≤ b_31 := by have := (E_28).size; omega
  have n_38 : b_1 ≠ b_31 := by have := h_29.lt; omega
  have n_39 : b_9 ≠ b_31 := by have := h_30.lt; omega
  have n_40 : b_19 ≠ b_31 := by have := ho_24.lt; omega
  have E_41 := Ext.stepO E_28 e_33 mem0
  have h_42 := h_29.ext e_33 nin0
  have h_43 := h_30.ext e_33 nin0
  have h_44 := ho_24.ext e_33 nin0
  have ho_36 : Own _ _ _ [_, _] := ho_36
  refine S_build (pl := #[(0, 1), (1, 1)]) Try.runUnderlying37 Try.zeroValue37 (fun w => by simp [Try.sizeOf26, Try.sizeOf3]) rfl rfl rfl ?_
  refine S_buildSlice Try.runUnderlying22 Try.sizeOf37 Try.zeroValue37 rfl rfl rfl rfl rfl rfl rfl ?_
  intro b_45 w_46 e_47 z_48 z_49 ho_50
  have hb_51 : w0.heap.size ≤ b_45 := by have := (E_41).size; omega
  have n_52 : b_1 ≠ b_45 := by have := h_42.lt; omega
  have n_53 : b_9 ≠ b_45 := by have := h_43.lt; omega
  have n_54 : b_19 ≠ b_45 := by have := h_44.lt; omega
  have n_55 : b_31 ≠ b_45 := by have := ho_36.lt; omega
  have E_56 := Ext.stepO E_41 e_47 mem0
  have h_57 := h_42.ext e_47 nin0
  have h_58 := h_43.ext e_47 nin0
  have h_59 := h_44.ext e_47 nin0
  have h_60 := ho_36.ext e_47 nin0
  have ho_50 : Own _ _ _ [_, _, _, _, _, _, _, _, _, _] := ho_50
  refine S_assign rfl ?_
  refine WL_nil ?_
  refine W_seq ?_
  refine W_region ?_
  have hL_61 : (rSlice rCommit).rd M w_46 [.slice (some ⟨b_45, 0, none⟩) H0.length 5] H0 := Acc.rd (Acc.lit (l := H0) ho_50 rfl (notin_old hM hb_51) (fun i hi => match i, hi with | 0, _ => rCommit_mk (x := ⟨1, []⟩) (by simp [InI]) rSlice_nil | 1, _ => rCommit_mk (x := ⟨2, [1]⟩) (by simp [InI]) (rd_ints (xs := [1]) (M := b_45 :: M) h_57 (ninC n_52 (notin_old hM hb_7)) (by simp [InI]) (by simp)) | 2, _ => rCommit_mk (x := ⟨3, [1]⟩) (by simp [InI]) (rd_ints (xs := [1]) (M := b_45 :: M) h_58 (ninC n_53 (notin_old hM hb_15)) (by simp [InI]) (by simp)) | 3, _ => rCommit_mk (x := ⟨4, [2, 3]⟩) (by simp [InI]) (rd_ints (xs := [2, 3]) (M := b_45 :: M) h_59 (ninC n_54 (notin_old hM hb_25)) (by simp [InI]) (by simp)) | 4, _ => rCommit_mk (x := ⟨5, [2, 3]⟩) (by simp [InI]) (rd_ints (xs := [2, 3]) (M := b_45 :: M) h_60 (ninC n_55 (notin_old hM hb_37)) (by simp [InI]) (by simp)))) (by simp [H0])
  refine S_move rfl ?_
  have hz_69 := common_ok hL_61 (fun x hx => Nat.lt_of_lt_of_le (hM x hx) (E_56).size) (by simp [H0]) 4 5 (by simp [InI]) (by simp [InI])
  refine S_call Try.call12 rfl hz_69 rfl ?_
  rintro _ w_62 ⟨L_64, A_65, cap_66, rfl, hr_67, hp_68, e_63⟩
  have E_70 := Ext.stepO E_56 e_63 mem0
  have h_71 := Rep.ext _ hL_61 e_63
  have h_72 := h_57.ext e_63 nin0
  have h_73 := h_58.ext e_63 nin0
  have h_74 := h_59.ext e_63 nin0
  have h_75 := h_60.ext e_63 nin0
  have h_76 := ho_50.ext e_63 nin0
  have hl_77 := rSlice_len hr_67
  refine S_buildSlice Try.runUnderlying26 Try.sizeOf3 Try.zeroValue3 rfl rfl rfl rfl rfl rfl rfl ?_
  intro b_78 w_79 e_80 z_81 z_82 ho_83
  have hb_84 : w0.heap.size ≤ b_78 := by have := (E_70).size; omega
  have n_85 : b_1 ≠ b_78 := by have := h_72.lt; omega
  have n_86 : b_9 ≠ b_78 := by have := h_73.lt; omega
  have n_87 : b_19 ≠ b_78 := by have := h_74.lt; omega
  have n_88 : b_31 ≠ b_78 := by have := h_75.lt; omega
  have n_89 : b_45 ≠ b_78 := by have := h_76.lt; omega
  have E_90 := Ext.stepO E_70 e_80 mem0
  have h_91 := Rep.mono (M' := b_78 :: M) _ h_71 e_80 mem0 (cons_fresh z_81)
  have h_92 := Rep.mono (M' := b_78 :: M) _ hr_67 e_80 mem0 (cons_fresh z_81)
  have h_93 := h_72.ext e_80 nin0
  have h_94 := h_73.ext e_80 nin0
  have h_95 := h_74.ext e_80 nin0
  have h_96 := h_75.ext e_80 nin0
  have h_97 := h_76.ext e_80 nin0
  have ho_83 : Own _ _ _ [_, _] := ho_83
  have h_98 := Rep.mono (M' := M) _ h_92 (Ext.refl [] w_79) mem0 (fun x hx => .inl (by simp [hx]))
  have hr_99 := rd_ints (xs := [2, 3]) (M := M) ho_83 (notin_old hM hb_84) (by simp [InI]) (by simp)
  have he_100 : L_64 = [2, 3] := (fun h => nearL_unique h near0) hp_68
  have hz_101 := (ints_ok h_98 hr_99).mono (R' := fun v w' => v = .bool true ∧ w' = w_79) (fun _ _ h => ⟨h.1.trans (congrArg Value.bool (decide_eq_true he_100)), h.2⟩)
  refine S_callQ Try.call11 rfl hz_101 rfl ?_
  refine S_move rfl ?_
  refine WL_on rfl rfl rfl ?_
  refine S_move rfl ?_
  refine WL_on rfl rfl rfl ?_
  have h_103 := Rep.mono (M' := M) _ h_91 (Ext.refl [] w_79) mem0 (fun x hx => .inl (by simp [hx]))
  have hz_111 := heads_ok h_103 (fun x hx => Nat.lt_of_lt_of_le (hM x hx) (E_90).size) (by simp [H0])
  refine S_call Try.call14 rfl hz_111 rfl ?_
  rintro _ w_104 ⟨L_106, A_107, cap_108, rfl, hr_109, hp_110, e_105⟩
  have E_112 := Ext.stepO E_90 e_105 mem0
  have h_113 := Rep.ext _ h_91 e_105
  have h_114 := Rep.ext _ h_92 e_105
  have h_115 := h_93.ext e_105 nin0
  have h_116 := h_94.ext e_105 nin0
  have h_117 := h_95.ext e_105 nin0
  have h_118 := h_96.ext e_105 nin0
  have h_119 := h_97.ext e_105 nin0
  have h_120 := ho_83.ext e_105 nin0
  have hl_121 := rSlice_len hr_109
  refine WL_on rfl rfl rfl ?_
  refine S_buildSlice Try.runUnderlying26 Try.sizeOf3 Try.zeroValue3 rfl rfl rfl rfl rfl rfl rfl ?_
  intro b_122 w_123 e_124 z_125 z_126 ho_127
  have hb_128 : w0.heap.size ≤ b_122 := by have := (E_112).size; omega
  have n_129 : b_1 ≠ b_122 := by have := h_115.lt; omega
  have n_130 : b_9 ≠ b_122 := by have := h_116.lt; omega
  have n_131 : b_19 ≠ b_122 := by have := h_117.lt; omega
  have n_132 : b_31 ≠ b_122 := by have := h_118.lt; omega
  have n_133 : b_45 ≠ b_122 := by have := h_119.lt; omega
  have n_134 : b_78 ≠ b_122 := by have := h_120.lt; omega
  have E_135 := Ext.stepO E_112 e_124 mem0
  have h_136 := Rep.mono (M' := b_122 :: (b_78 :: M)) _ h_113 e_124 mem0 (cons_fresh z_125)
  have h_137 := Rep.mono (M' := b_122 :: (b_78 :: M)) _ h_114 e_124 mem0 (cons_fresh z_125)
  have h_138 := Rep.mono (M' := b_122 :: M) _ hr_109 e_124 mem0 (cons_fresh z_125)
  have h_139 := h_115.ext e_124 nin0
  have h_140 := h_116.ext e_124 nin0
  have h_141 := h_117.ext e_124 nin0
  have h_142 := h_118.ext e_124 nin0
  have h_143 := h_119.ext e_124 nin0
  have h_144 := h_120.ext e_124 nin0
  have ho_127 : Own _ _ _ [_, _] := ho_127
  refine WL_on rfl rfl rfl ?_
  have h_145 := Rep.mono (M' := M) _ h_138 (Ext.refl [] w_123) mem0 (fun x hx => .inl (by simp [hx]))
  have hr_146 := rd_ints (xs := [4, 5]) (M := M) ho_127 (notin_old hM hb_128) (by simp [InI]) (by simp)
  have he_147 : L_106 = [4, 5] := (fun h => headL_unique h head0) hp_110
  have hz_148 := (ints_ok h_145 hr_146).mono (R' := fun v w' => v = .bool true ∧ w' = w_123) (fun _ _ h => ⟨h.1.trans (congrArg Value.bool (decide_eq_true he_147)), h.2⟩)
  refine S_callQ Try.call11 rfl hz_148 rfl ?_
  refine S_pick_t rfl rfl ?_
  refine S_move rfl ?_
  refine WL_on rfl rfl rfl ?_
  refine S_move rfl ?_
  refine WL_on rfl rfl rfl ?_
  have h_150 := Rep.mono (M' := M) _ h_136 (Ext.refl [] w_123) mem0 (fun x hx => .inl (by simp [hx]))
  have hz_158 := path_ok h_150 (fun x hx => Nat.lt_of_lt_of_le (hM x hx) (E_135).size) (by simp [H0]) 4 1 (by simp [InI]) (by simp [InI])
  refine S_call Try.call16 rfl hz_158 rfl ?_
  rintro _ w_151 ⟨L_153, A_154, cap_155, rfl, hr_156, hp_157, e_152⟩
  have E_159 := Ext.stepO E_135 e_152 mem0
  have h_160 := Rep.ext _ h_136 e_152
  have h_161 := Rep.ext _ h_137 e_152
  have h_162 := Rep.ext _ h_138 e_152
  have h_163 := h_139.ext e_152 nin0
  have h_164 := h_140.ext e_152 nin0
  have h_165 := h_141.ext e_152 nin0
  have h_166 := h_142.ext e_152 nin0
  have h_167 := h_143.ext e_152 nin0
  have h_168 := h_144.ext e_152 nin0
  have h_169 := ho_127.ext e_152 nin0
  have hl_170 := rSlice_len hr_156
  refine WL_on rfl rfl rfl ?_
  refine S_buildSlice Try.runUnderlying26 Try.sizeOf3 Try.zeroValue3 rfl rfl rfl rfl rfl rfl rfl ?_
  intro b_171 w_172 e_173 z_174 z_175 ho_176
  have hb_177 : w0.heap.size ≤ b_171 := by have := (E_159).size; omega
  have n_178 : b_1 ≠ b_171 := by have := h_163.lt; omega
  have n_179 : b_9 ≠ b_171 := by have := h_164.lt; omega
  have n_180 : b_19 ≠ b_171 := by have := h_165.lt; omega
  have n_181 : b_31 ≠ b_171 := by have := h_166.lt; omega
  have n_182 : b_45 ≠ b_171 := by have := h_167.lt; omega
  have n_183 : b_78 ≠ b_171 := by have := h_168.lt; omega
  have n_184 : b_122 ≠ b_171 := by have := h_169.lt; omega
  have E_185 := Ext.stepO E_159 e_173 mem0
  have h_186 := Rep.mono (M' := b_171 :: (b_122 :: (b_78 :: M))) _ h_160 e_173 mem0 (cons_fresh z_174)
  have h_187 := Rep.mono (M' := b_171 :: (b_122 :: (b_78 :: M))) _ h_161 e_173 mem0 (cons_fresh z_174)
  have h_188 := Rep.mono (M' := b_171 :: (b_122 :: M)) _ h_162 e_173 mem0 (cons_fresh z_174)
  have h_189 := Rep.mono (M' := b_171 :: M) _ hr_156 e_173 mem0 (cons_fresh z_174)
  have h_190 := h_163.ext e_173 nin0
  have h_191 := h_164.ext e_173 nin0
  have h_192 := h_165.ext e_173 nin0
  have h_193 := h_166.ext e_173 nin0
  have h_194 := h_167.ext e_173 nin0
  have h_195 := h_168.ext e_173 nin0
  have h_196 := h_169.ext e_173 nin0
  have ho_176 : Own _ _ _ [_, _, _] := ho_176
  refine WL_on rfl rfl rfl ?_
  have h_197 := Rep.mono (M' := M) _ h_189 (Ext.refl [] w_172) mem0 (fun x hx => .inl (by simp [hx]))
  have hr_198 := rd_ints (xs := [4, 2, 1]) (M := M) ho_176 (notin_old hM hb_177) (by simp [InI]) (by simp)
  have he_199 : L_153 = [4, 2, 1] := (fun h => pathL_unique h path0) hp_157
  have hz_200 := (ints_ok h_197 hr_198).mono (R' := fun v w' => v = .bool true ∧ w' = w_172) (fun _ _ h => ⟨h.1.trans (congrArg Value.bool (decide_eq_true he_199)), h.2⟩)
  refine S_callQ Try.call11 rfl hz_200 rfl ?_
  refine S_pick_t rfl rfl ?_
  refine S_move rfl ?_
  refine WL_on rfl rfl rfl ?_
  refine S_move rfl ?_
  refine WL_on rfl rfl rfl ?_
  have h_202 := Rep.mono (M' := M) _ h_186 (Ext.refl [] w_172) mem0 (fun x hx => .inl (by simp [hx]))
  have hz_203 := (reaches_ok h_202 (fun x hx => Nat.lt_of_lt_of_le (hM x hx) (E_185).size) (by simp [H0]) 5 1 (by simp [InI])).mono (R' := fun v w' => v = .bool true ∧ Ext [] w_172 w') (fun _ _ h => ⟨h.1.trans (congrArg Value.bool (decide_eq_true ⟨right0, (rch05 1).2 (by omega)⟩)), h.2⟩)
  refine S_callE Try.call19 rfl hz_203 rfl ?_
  intro w_204 e_205
  have E_206 := Ext.stepO E_185 e_205 mem0
  have h_207 := Rep.ext _ h_186 e_205
  have h_208 := Rep.ext _ h_187 e_205
  have h_209 := Rep.ext _ h_188 e_205
  have h_210 := Rep.ext _ h_189 e_205
  have h_211 := h_190.ext e_205 nin0
  have h_212 := h_191.ext e_205 nin0
  have h_213 := h_192.ext e_205 nin0
  have h_214 := h_193.ext e_205 nin0
  have h_215 := h_194.ext e_205 nin0
  have h_216 := h_195.ext e_205 nin0
  have h_217 := h_196.ext e_205 nin0
  have h_218 := ho_176.ext e_205 nin0
  refine S_pick_t rfl rfl ?_
  refine S_move rfl ?_
  refine WL_on rfl rfl rfl ?_
  refine S_move rfl ?_
  refine WL_on rfl rfl rfl ?_
  have h_219 := Rep.mono (M' := M) _ h_207 (Ext.refl [] w_204) mem0 (fun x hx => .inl (by simp [hx]))
  have hz_220 := (reaches_ok h_219 (fun x hx => Nat.lt_of_lt_of_le (hM x hx) (E_206).size) (by simp [H0]) 4 5 (by simp [InI])).mono (R' := fun v w' => v = .bool false ∧ Ext [] w_204 w') (fun _ _ h => ⟨h.1.trans (congrArg Value.bool (decide_eq_false (fun h => by have := (rch04 5).1 h.2; omega))), h.2⟩)
  refine S_callE Try.call19 rfl hz_220 rfl ?_
  intro w_221 e_222
  have E_223 := Ext.stepO E_206 e_222 mem0
  have h_224 := Rep.ext _ h_207 e_222
  have h_225 := Rep.ext _ h_208 e_222
  have h_226 := Rep.ext _ h_209 e_222
  have h_227 := Rep.ext _ h_210 e_222
  have h_228 := h_211.ext e_222 nin0
  have h_229 := h_212.ext e_222 nin0
  have h_230 := h_213.ext e_222 nin0
  have h_231 := h_214.ext e_222 nin0
  have h_232 := h_215.ext e_222 nin0
  have h_233 := h_216.ext e_222 nin0
  have h_234 := h_217.ext e_222 nin0
  have h_235 := h_218.ext e_222 nin0
  refine WL_on rfl rfl rfl ?_
  refine S_not rfl rfl ?_
  refine S_pick_t rfl rfl ?_
  refine S_move rfl ?_
  refine WL_on rfl rfl rfl ?_
  refine S_move rfl ?_
  refine WL_on rfl rfl rfl ?_
  have h_236 := Rep.mono (M' := M) _ h_224 (Ext.refl [] w_221) mem0 (fun x hx => .inl (by simp [hx]))
  have hz_237 := (right_ok h_236).mono (R' := fun v w' => v = .bool true ∧ Ext [] w_221 w') (fun _ _ h => ⟨h.1.trans (congrArg Value.bool (decide_eq_true right0)), h.2⟩)
  refine S_callE Try.call20 rfl hz_237 rfl ?_
  intro w_238 e_239
  have E_240 := Ext.stepO E_223 e_239 mem0
  have h_241 := Rep.ext _ h_224 e_239
  have h_242 := Rep.ext _ h_225 e_239
  have h_243 := Rep.ext _ h_226 e_239
  have h_244 := Rep.ext _ h_227 e_239
  have h_245 := h_228.ext e_239 nin0
  have h_246 := h_229.ext e_239 nin0
  have h_247 := h_230.ext e_239 nin0
  have h_248 := h_231.ext e_239 nin0
  have h_249 := h_232.ext e_239 nin0
  have h_250 := h_233.ext e_239 nin0
  have h_251 := h_234.ext e_239 nin0
  have h_252 := h_235.ext e_239 nin0
  refine S_pick_t rfl rfl ?_
  refine S_assign rfl ?_
  refine WL_nil ?_
  refine W_ret ?_
  exact ⟨rfl, E_240⟩
end Go.Proofs.Ytpgegnmaophapaa
