/- The walks of a history's functions, printed by program. -/
import Derived.Test.YtpgegnmaophapaaW15
import Derived.Test.YtpgegnmaophapaaT3
namespace Go.Proofs.Ytpgegnmaophapaa
open Go.Wk Classical
set_option maxHeartbeats 2000000 in
theorem chain_law_ok {M : List Nat} {w0 : World} (hM : ∀ b ∈ M, b < w0.heap.size) (n a b : Int) (hin : InI n) (hia : InI a) (hib : InI b) :
    CallR Try.prog 8 [.int .i64 n, .int .i64 a, .int .i64 b] w0 (fun v w' => v = .bool true ∧ Ext [] w0 w') := by
  refine Call1 Try.func8 rfl rfl rfl rfl ?_
  refine W_seq ?_
  refine W_region ?_
  refine S_assign rfl ?_
  refine WL_nil ?_
  refine W_seq ?_
  refine W_region ?_
  have mn := tm_norm (a := n) (n := 60) (by omega)
  refine S_move rfl ?_
  refine S_rem rfl rfl (by omega) rfl ?_
  refine S_add rfl rfl (by omega) rfl ?_
  refine S_rem rfl rfl (by omega) rfl ?_
  refine S_add rfl rfl (by omega) rfl ?_
  refine S_assign rfl ?_
  refine WL_nil ?_
  refine W_seq ?_
  refine W_region_quiet rfl (by decide +kernel) ?_
  have hnn : 0 < (1 + (n.tmod 60 + 60).tmod 60) := by omega
  have ma := tm_norm (a := a) hnn
  have ha : InI (1 + (a.tmod (1 + (n.tmod 60 + 60).tmod 60) + (1 + (n.tmod 60 + 60).tmod 60)).tmod (1 + (n.tmod 60 + 60).tmod 60)) := by unfold InI; omega
  have mb := tm_norm (a := b) hnn
  have hb : InI (1 + (b.tmod (1 + (n.tmod 60 + 60).tmod 60) + (1 + (n.tmod 60 + 60).tmod 60)).tmod (1 + (n.tmod 60 + 60).tmod 60)) := by unfold InI; omega
  refine S_move rfl ?_
  refine S_move rfl ?_
  refine S_rem rfl rfl (by omega) rfl ?_
  refine S_move rfl ?_
  refine S_add rfl rfl (by omega) rfl ?_
  refine S_move rfl ?_
  refine S_rem rfl rfl (by omega) rfl ?_
  refine S_add rfl rfl (by omega) rfl ?_
  refine S_move rfl ?_
  refine S_move rfl ?_
  refine S_rem rfl rfl (by omega) rfl ?_
  refine S_move rfl ?_
  refine S_add rfl rfl (by omega) rfl ?_
  refine S_move rfl ?_
  refine S_rem rfl rfl (by omega) rfl ?_
  refine S_add rfl rfl (by omega) rfl ?_
  refine S_assign rfl ?_
  refine S_assign rfl ?_
  refine WL_nil ?_
  refine W_seq ?_
  refine W_region ?_
  refine S_assign rfl ?_
  have ha_1 : Acc rCommit M w0 (.slice none 0 0) [] [] := Acc.nil
  refine WL_nil ?_
  refine W_seq ?_
  refine W_seq ?_
  refine W_region ?_
  refine S_assign rfl ?_
  refine WL_nil ?_
  refine W_block ?_
  refine W_loopF [7, 8, 9, 35, 36, 37, 38, 39, 40, 41, 42, 43, 44, 45, 46, 47, 48, 49, 50, 51] (fun m f w => ∃ (i : Int) (ls : List Commit) (A_2 : Option Addr) (cap_3 : Nat) (bs_4 : List Nat), m = ((1 + (n.tmod 60 + 60).tmod 60) + 1 - i).toNat ∧ 1 ≤ i ∧ i ≤ (1 + (n.tmod 60 + 60).tmod 60) + 1 ∧ ls = chainL (i - 1).toNat ∧ (ls.length : Int) = i - 1 ∧ Ext [] w0 w ∧ Ext ([]) w0 w ∧ Acc rCommit M w (.slice A_2 ls.length cap_3) ls bs_4 ∧ (∀ b ∈ bs_4, w0.heap.size ≤ b) ∧ (∀ b ∈ bs_4, b ∈ [] ∨ (w0).heap.size ≤ b) ∧ Live f [(8, .int .i64 i), (7, .slice A_2 ls.length cap_3)]) ?_ ?_
  · exact ⟨_, 1, [], _, _, _, rfl, by omega, by omega, rfl, by simp, (Ext.refl [] w0), (Ext.refl _ _), ha_1, mem0, rel_refl, rfl, rfl, trivial⟩
  ·
    rintro m g_12 w_8 ⟨i, ls, A_2, cap_3, bs_4, rfl, q0, q1, q2, q3, E_9, e_10, ha_5, hb_6, rel_7, hl_11⟩
    refine W_liveM hl_11 rfl ?_
    refine W_seq ?_
    refine W_seq ?_
    refine W_region ?_
    refine S_move rfl ?_
    refine S_move rfl ?_
    refine S_leq rfl rfl rfl ?_
    refine WL_nil ?_
    refine W_cond rfl (fun h_14 => ?_) (fun h_14 => ?_)
    ·
      have p_15 := h_14
      try simp only [lrn] at p_15
      refine W_skip ?_
      refine W_seq ?_
      refine W_block ?_
      refine W_seq ?_
      refine W_region ?_
      refine S_move rfl ?_
      refine S_build (pl := #[(0, 1), (1, 1)]) Try.runUnderlying37 Try.zeroValue37 (fun w => by simp [Try.sizeOf26, Try.sizeOf3]) rfl rfl rfl ?_
      refine S_alloc Try.zeroValue37 rfl ?_
      intro b_16 w_17 e_18 z_19 z_20 ho_21
      have hb_22 : w0.heap.size ≤ b_16 := by have := (E_9).size; omega
      have n_23 : (w0).heap.size ≤ b_16 := by have := (e_10).size; omega
      have n_24 : b_16 ∉ bs_4 := fun h => by have := Acc.bs_lt ha_5 _ h; omega
      have E_25 := Ext.stepO E_9 e_18 mem0
      have c_26 := Ext.stepO e_10 e_18 mem0
      have h_27 := Acc.ext (Acc.weak ha_5 (cons_fresh z_19)) e_18 mem0
      have ho_21 : Own _ _ _ [_, _] := ho_21
      refine S_store Try.sizeOf37 rfl rfl rfl ho_21 (Nat.le_of_ble_eq_true rfl) rfl ?_
      intro w_28 e_29 z_30 ho_31
      have ho_31 : Own _ _ _ [_, _] := ho_31
      have E_32 := Ext.stepO E_25 e_29 (memC (.inr hb_22) mem0)
      have c_33 := Ext.stepO c_26 e_29 (memC (.inr n_23) mem0)
      have h_34 := Acc.ext h_27 e_29 (by first | (simp; done) | (intro x hx; left; simp [hx]))
      refine WL_nil ?_
      refine W_seq ?_
      refine W_seq ?_
      refine W_region ?_
      refine S_move rfl ?_
      refine S_gtr rfl rfl rfl ?_
      refine WL_nil ?_
      refine W_cond rfl (fun h_36 => ?_) (fun h_36 => ?_)
      ·
        have p_37 := h_36
        try simp only [lrn] at p_37
        refine W_region ?_
        refine S_move rfl ?_
        refine S_sub rfl rfl (by omega) rfl ?_
        refine S_buildSlice Try.runUnderlying26 Try.sizeOf3 Try.zeroValue3 rfl rfl rfl rfl rfl rfl rfl ?_
        intro b_38 w_39 e_40 z_41 z_42 ho_43
        have hb_44 : w0.heap.size ≤ b_38 := by have := (E_32).size; omega
        have n_45 : (w0).heap.size ≤ b_38 := by have := (c_33).size; omega
        have n_46 : b_16 ≠ b_38 := by have := ho_31.lt; omega
        have n_47 : b_38 ∉ bs_4 := fun h => by have := Acc.bs_lt h_34 _ h; omega
        have E_48 := Ext.stepO E_32 e_40 mem0
        have c_49 := Ext.stepO c_33 e_40 mem0
        have h_50 := Acc.ext (Acc.weak h_34 (cons_fresh z_41)) e_40 mem0
        have h_51 := ho_31.ext e_40 nin0
        have ho_43 : Own _ _ _ [_] := ho_43
        refine S_fieldAddr Try.runUnderlying37 rfl Try.sizeOf26 rfl rfl ?_
        refine S_store Try.sizeOf26 rfl rfl rfl h_51 (Nat.le_of_ble_eq_true rfl) rfl ?_
        intro w_52 e_53 z_54 ho_55
        have ho_55 : Own _ _ _ [_, _] := ho_55
        have E_56 := Ext.stepO E_48 e_53 (memC (.inr hb_22) mem0)
        have c_57 := Ext.stepO c_49 e_53 (memC (.inr n_23) mem0)
        have h_58 := Acc.ext h_50 e_53 (by first | (simp; done) | (intro x hx; left; simp [hx]))
        have h_59 := ho_43.ext e_53 (ninC (Ne.symm n_46) nin0)
        refine WL_nil ?_
        refine W_region ?_
        refine S_move rfl ?_
        refine S_loadAgg Try.isAgg37 Try.sizeOf37 rfl rfl ho_55.all rfl ?_
        refine S_buildSlice Try.runUnderlying22 Try.sizeOf37 Try.zeroValue37 rfl rfl rfl rfl rfl rfl rfl ?_
        intro b_60 w_61 e_62 z_63 z_64 ho_65
        have hb_66 : w0.heap.size ≤ b_60 := by have := (E_56).size; omega
        have n_67 : (w0).heap.size ≤ b_60 := by have := (c_57).size; omega
        have n_68 : b_16 ≠ b_60 := by have := ho_55.lt; omega
        have n_69 : b_38 ≠ b_60 := by have := h_59.lt; omega
        have n_70 : b_60 ∉ bs_4 := fun h => by have := Acc.bs_lt h_58 _ h; omega
        have E_71 := Ext.stepO E_56 e_62 mem0
        have c_72 := Ext.stepO c_57 e_62 mem0
        have h_73 := Acc.ext (Acc.weak h_58 (cons_fresh z_63)) e_62 mem0
        have h_74 := ho_55.ext e_62 nin0
        have h_75 := h_59.ext e_62 nin0
        have ho_65 : Own _ _ _ [_, _] := ho_65
        have h_76 := (Acc.weak (M' := M) h_73 (fun x hx => .inl (by simp [hx])))
        have hr_77 : (rSlice rCommit).rd (bs_4 ++ M) w_61 [.slice (some ⟨b_60, 0, none⟩) 1 1] ([⟨i, [i - 1]⟩] : List Commit) := Acc.rd (Acc.lit (l := ([⟨i, [i - 1]⟩] : List Commit)) ho_65 rfl (ninA n_70 (notin_old hM hb_66)) (fun k hk => match k, hk with | 0, _ => rCommit_mk (x := ⟨i, [i - 1]⟩) (by unfold InI; show _ ≤ i ∧ i ≤ _; omega) (rd_ints (xs := [i - 1]) (M := b_60 :: (bs_4 ++ M)) h_75 (ninC n_69 (ninA n_47 (notin_old hM hb_44))) (by simp only [List.mem_singleton]; rintro _ rfl; unfold InI; omega) (by simp)))) (by simp)
        refine S_append Try.runUnderlying22 Try.typeInfo37 Try.sizeOf37 Try.zeroValue37 rfl h_76 hr_77 (by show _ * 32 ≤ _; simp; omega) (by decide) (fun x hx => Nat.lt_of_lt_of_le (hM x hx) (E_71).size) rfl ?_
        intro v_78 w_79 bs_80 ha_81 e_82 hf_83
        have hb_84 := fresh_bs hf_83 hb_6 (E_71).size
        have rel_85 := rel_step hf_83 rel_7 (c_72).size
        have E_86 := Ext.stepO E_71 e_82 (fun x hx => .inr (hb_6 x hx))
        have c_87 := Ext.stepO c_72 e_82 (fun x hx => (rel_7 x hx).imp (fun h => by first | exact h | (cases h; done) | simp [h]) id)
        have h_88 := h_74.ext e_82 n_24
        have h_89 := h_75.ext e_82 n_47
        have o_92 := Acc.val ha_81
        obtain ⟨A_90, cap_91, rfl⟩ := o_92
        refine S_assign rfl ?_
        refine WL_nil ?_
        refine W_region ?_
        refine S_move rfl ?_
        refine S_add rfl rfl (by omega) rfl ?_
        refine S_assign rfl ?_
        refine WL_nil ?_
        refine ⟨by repeat (first | refine agree_upd rfl ?_ | exact agree_mix rfl agree_refl | refine agree_mix rfl ?_), ?_⟩
        exact ⟨_, by omega, i + 1, _, _, _, _, rfl, by omega, by omega, by first | exact chain_step1 q2 q0 (by omega) | exact chain_step2 q2 (by omega), by rw [List.length_append, List.length_singleton]; omega, E_86, c_87, ha_81, hb_84, rel_85, rfl, rfl, trivial⟩
      ·
        have p_93 := h_36
        try simp only [lrn] at p_93
        refine W_skip ?_
        refine W_region ?_
        refine S_move rfl ?_
        refine S_loadAgg Try.isAgg37 Try.sizeOf37 rfl rfl ho_31.all rfl ?_
        refine S_buildSlice Try.runUnderlying22 Try.sizeOf37 Try.zeroValue37 rfl rfl rfl rfl rfl rfl rfl ?_
        intro b_94 w_95 e_96 z_97 z_98 ho_99
        have hb_100 : w0.heap.size ≤ b_94 := by have := (E_32).size; omega
        have n_101 : (w0).heap.size ≤ b_94 := by have := (c_33).size; omega
        have n_102 : b_16 ≠ b_94 := by have := ho_31.lt; omega
        have n_103 : b_94 ∉ bs_4 := fun h => by have := Acc.bs_lt h_34 _ h; omega
        have E_104 := Ext.stepO E_32 e_96 mem0
        have c_105 := Ext.stepO c_33 e_96 mem0
        have h_106 := Acc.ext (Acc.weak h_34 (cons_fresh z_97)) e_96 mem0
        have h_107 := ho_31.ext e_96 nin0
        have ho_99 : Own _ _ _ [_, _] := ho_99
        have h_108 := (Acc.weak (M' := M) h_106 (fun x hx => .inl (by simp [hx])))
        have hr_109 : (rSlice rCommit).rd (bs_4 ++ M) w_95 [.slice (some ⟨b_94, 0, none⟩) 1 1] ([⟨i, []⟩] : List Commit) := Acc.rd (Acc.lit (l := ([⟨i, []⟩] : List Commit)) ho_99 rfl (ninA n_103 (notin_old hM hb_100)) (fun k hk => match k, hk with | 0, _ => rCommit_mk (x := ⟨i, []⟩) (by unfold InI; show _ ≤ i ∧ i ≤ _; omega) rSlice_nil)) (by simp)
        refine S_append Try.runUnderlying22 Try.typeInfo37 Try.sizeOf37 Try.zeroValue37 rfl h_108 hr_109 (by show _ * 32 ≤ _; simp; omega) (by decide) (fun x hx => Nat.lt_of_lt_of_le (hM x hx) (E_104).size) rfl ?_
        intro v_110 w_111 bs_112 ha_113 e_114 hf_115
        have hb_116 := fresh_bs hf_115 hb_6 (E_104).size
        have rel_117 := rel_step hf_115 rel_7 (c_105).size
        have E_118 := Ext.stepO E_104 e_114 (fun x hx => .inr (hb_6 x hx))
        have c_119 := Ext.stepO c_105 e_114 (fun x hx => (rel_7 x hx).imp (fun h => by first | exact h | (cases h; done) | simp [h]) id)
        have h_120 := h_107.ext e_114 n_24
        have o_123 := Acc.val ha_113
        obtain ⟨A_121, cap_122, rfl⟩ := o_123
        refine S_assign rfl ?_
        refine WL_nil ?_
        refine W_region ?_
        refine S_move rfl ?_
        refine S_add rfl rfl (by omega) rfl ?_
        refine S_assign rfl ?_
        refine WL_nil ?_
        refine ⟨by repeat (first | refine agree_upd rfl ?_ | exact agree_mix rfl agree_refl | refine agree_mix rfl ?_), ?_⟩
        exact ⟨_, by omega, i + 1, _, _, _, _, rfl, by omega, by omega, by first | exact chain_step1 q2 q0 (by omega) | exact chain_step2 q2 (by omega), by rw [List.length_append, List.length_singleton]; omega, E_118, c_119, ha_113, hb_116, rel_117, rfl, rfl, trivial⟩
    ·
      have p_124 := h_14
      try simp only [lrn] at p_124
      refine W_exit ?_
      refine W_seq ?_
      refine W_region ?_
      have hX := Acc.rd ha_5 (by omega)
      have hc : ls = chainL (1 + (n.tmod 60 + 60).tmod 60).toNat := by rw [q2]; congr 2; omega
      have hlen := chn_len hc (by omega)
      have hl : ls.length ≤ 60 := by omega
      have hr := chn_right hc
      have ta : There ls (1 + (a.tmod (1 + (n.tmod 60 + 60).tmod 60) + (1 + (n.tmod 60 + 60).tmod 60)).tmod (1 + (n.tmod 60 + 60).tmod 60)) := ⟨by omega, by omega⟩
      have tb : There ls (1 + (b.tmod (1 + (n.tmod 60 + 60).tmod 60) + (1 + (n.tmod 60 + 60).tmod 60)).tmod (1 + (n.tmod 60 + 60).tmod 60)) := ⟨by omega, by omega⟩
      have hmx : InI (max (1 + (a.tmod (1 + (n.tmod 60 + 60).tmod 60) + (1 + (n.tmod 60 + 60).tmod 60)).tmod (1 + (n.tmod 60 + 60).tmod 60)) (1 + (b.tmod (1 + (n.tmod 60 + 60).tmod 60) + (1 + (n.tmod 60 + 60).tmod 60)).tmod (1 + (n.tmod 60 + 60).tmod 60))) := by unfold InI; omega
      have hmn : InI (min (1 + (a.tmod (1 + (n.tmod 60 + 60).tmod 60) + (1 + (n.tmod 60 + 60).tmod 60)).tmod (1 + (n.tmod 60 + 60).tmod 60)) (1 + (b.tmod (1 + (n.tmod 60 + 60).tmod 60) + (1 + (n.tmod 60 + 60).tmod 60)).tmod (1 + (n.tmod 60 + 60).tmod 60))) := by unfold InI; omega
      have hnI : InI (1 + (n.tmod 60 + 60).tmod 60) := by unfold InI; omega
      refine S_assign rfl ?_
      have ha_125 : Acc rInt M w_8 (.slice none 0 0) [] [] := Acc.nil
      refine S_assign rfl ?_
      have ha_126 : Acc rInt M w_8 (.slice none 0 0) [] [] := Acc.nil
      refine WL_nil ?_
      refine W_seq ?_
      refine W_seq ?_
      refine W_region ?_
      refine S_move rfl ?_
      refine S_move rfl ?_
      refine S_max rfl rfl rfl ?_
      refine S_assign rfl ?_
      refine WL_nil ?_
      refine W_block ?_
      refine W_loopF [10, 12, 55, 56, 57, 58, 59, 60, 61, 62, 63, 64, 65] (fun m f w => ∃ (i : Int) (ws : List Int) (A_127 : Option Addr) (cap_128 : Nat) (bs_129 : List Nat), m = (i + 1).toNat ∧ (min (1 + (a.tmod (1 + (n.tmod 60 + 60).tmod 60) + (1 + (n.tmod 60 + 60).tmod 60)).tmod (1 + (n.tmod 60 + 60).tmod 60)) (1 + (b.tmod (1 + (n.tmod 60 + 60).tmod 60) + (1 + (n.tmod 60 + 60).tmod 60)).tmod (1 + (n.tmod 60 + 60).tmod 60))) - 1 ≤ i ∧ i ≤ (max (1 + (a.tmod (1 + (n.tmod 60 + 60).tmod 60) + (1 + (n.tmod 60 + 60).tmod 60)).tmod (1 + (n.tmod 60 + 60).tmod 60)) (1 + (b.tmod (1 + (n.tmod 60 + 60).tmod 60) + (1 + (n.tmod 60 + 60).tmod 60)).tmod (1 + (n.tmod 60 + 60).tmod 60))) ∧ Down (max (1 + (a.tmod (1 + (n.tmod 60 + 60).tmod 60) + (1 + (n.tmod 60 + 60).tmod 60)).tmod (1 + (n.tmod 60 + 60).tmod 60)) (1 + (b.tmod (1 + (n.tmod 60 + 60).tmod 60) + (1 + (n.tmod 60 + 60).tmod 60)).tmod (1 + (n.tmod 60 + 60).tmod 60))) i ws ∧ (ws.length : Int) = (max (1 + (a.tmod (1 + (n.tmod 60 + 60).tmod 60) + (1 + (n.tmod 60 + 60).tmod 60)).tmod (1 + (n.tmod 60 + 60).tmod 60)) (1 + (b.tmod (1 + (n.tmod 60 + 60).tmod 60) + (1 + (n.tmod 60 + 60).tmod 60)).tmod (1 + (n.tmod 60 + 60).tmod 60))) - i ∧ Ext [] w0 w ∧ Ext ([]) w_8 w ∧ Acc rInt M w (.slice A_127 ws.length cap_128) ws bs_129 ∧ (∀ b ∈ bs_129, w0.heap.size ≤ b) ∧ (∀ b ∈ bs_129, b ∈ [] ∨ (w_8).heap.size ≤ b) ∧ Live f [(12, .int .i64 i), (10, .slice A_127 ws.length cap_128)]) ?_ ?_
      · exact ⟨_, _, [], _, _, _, rfl, by omega, by omega, down_zero, by simp, E_9, (Ext.refl _ _), ha_125, mem0, rel_refl, rfl, rfl, trivial⟩
      ·
        rintro m g_137 w_133 ⟨i, ws, A_127, cap_128, bs_129, rfl, u0, u1, u2, u3, E_134, e_135, ha_130, hb_131, rel_132, hl_136⟩
        refine W_liveM hl_136 rfl ?_
        have h_138 := Rep.ext _ hX e_135
        refine W_seq ?_
        refine W_seq ?_
        refine W_region ?_
        refine S_move rfl ?_
        refine S_move rfl ?_
        refine S_move rfl ?_
        refine S_min rfl rfl rfl ?_
        refine S_geq rfl rfl rfl ?_
        refine WL_nil ?_
        refine W_cond rfl (fun h_140 => ?_) (fun h_140 => ?_)
        ·
          have p_141 := h_140
          try simp only [lrn] at p_141
          refine W_skip ?_
          refine W_seq ?_
          refine W_block ?_
          refine W_region ?_
          refine S_move rfl ?_
          refine S_move rfl ?_
          refine S_buildSlice Try.runUnderlying26 Try.sizeOf3 Try.zeroValue3 rfl rfl rfl rfl rfl rfl rfl ?_
          intro b_142 w_143 e_144 z_145 z_146 ho_147
          have hb_148 : w0.heap.size ≤ b_142 := by have := (E_134).size; omega
          have n_149 : (w_8).heap.size ≤ b_142 := by have := (e_135).size; omega
          have n_150 : b_142 ∉ bs_129 := fun h => by have := Acc.bs_lt ha_130 _ h; omega
          have E_151 := Ext.stepO E_134 e_144 mem0
          have c_152 := Ext.stepO e_135 e_144 mem0
          have h_153 := Rep.mono (M' := b_142 :: M) _ h_138 e_144 mem0 (cons_fresh z_145)
          have h_154 := Acc.ext (Acc.weak ha_130 (cons_fresh z_145)) e_144 mem0
          have ho_147 : Own _ _ _ [_] := ho_147
          have h_155 := Acc.weak (M' := M) h_154 (fun x hx => .inl (List.mem_cons_of_mem _ hx))
          have hr_156 := rd_ints (xs := [_]) (M := bs_129 ++ M) ho_147 (ninA n_150 (notin_old hM hb_148)) (by simp only [List.mem_singleton]; rintro _ rfl; first | assumption | (unfold InI; omega)) (by simp)
          refine S_append Try.runUnderlying26 Try.typeInfo3 Try.sizeOf3 Try.zeroValue3 rfl h_155 hr_156 (by show _ * 8 ≤ _; simp; omega) (by decide) (fun x hx => Nat.lt_of_lt_of_le (hM x hx) (E_151).size) rfl ?_
          intro v_157 w_158 bs_159 ha_160 e_161 hf_162
          have hb_163 := fresh_bs hf_162 hb_131 (E_151).size
          have rel_164 := rel_step hf_162 rel_132 (c_152).size
          have E_165 := Ext.stepO E_151 e_161 (fun x hx => .inr (hb_131 x hx))
          have c_166 := Ext.stepO c_152 e_161 (fun x hx => (rel_132 x hx).imp (fun h => by first | exact h | (cases h; done) | simp [h]) id)
          have o_169 := Acc.val ha_160
          obtain ⟨A_167, cap_168, rfl⟩ := o_169
          skip
          refine S_assign rfl ?_
          refine WL_nil ?_
          refine W_region ?_
          refine S_move rfl ?_
          refine S_sub rfl rfl (by omega) rfl ?_
          refine S_assign rfl ?_
          refine WL_nil ?_
          refine ⟨by repeat (first | refine agree_upd rfl ?_ | exact agree_mix rfl agree_refl | refine agree_mix rfl ?_), ?_⟩
          exact ⟨_, by omega, i - 1, _, _, _, _, rfl, by omega, by omega, down_step u2 u1, by rw [List.length_append, List.length_singleton]; omega, E_165, c_166, ha_160, hb_163, rel_164, rfl, rfl, trivial⟩
        ·
          have p_170 := h_140
          try simp only [lrn] at p_170
          refine W_exit ?_
          refine W_seq ?_
          refine W_seq ?_
          refine W_region ?_
          refine S_assign rfl ?_
          refine WL_nil ?_
          refine W_block ?_
          refine W_loopF [11, 13, 66, 67, 68, 69, 70, 71, 72, 73, 74] (fun m f w => ∃ (i : Int) (zs : List Int) (A_171 : Option Addr) (cap_172 : Nat) (bs_173 : List Nat), m = ((1 + (a.tmod (1 + (n.tmod 60 + 60).tmod 60) + (1 + (n.tmod 60 + 60).tmod 60)).tmod (1 + (n.tmod 60 + 60).tmod 60)) + 1 - i).toNat ∧ 1 ≤ i ∧ i ≤ (1 + (a.tmod (1 + (n.tmod 60 + 60).tmod 60) + (1 + (n.tmod 60 + 60).tmod 60)).tmod (1 + (n.tmod 60 + 60).tmod 60)) + 1 ∧ (RiseOf zs fun x => 1 ≤ x ∧ x < i) ∧ (zs.length : Int) = i - 1 ∧ Ext [] w0 w ∧ Ext ([]) w_133 w ∧ Acc rInt M w (.slice A_171 zs.length cap_172) zs bs_173 ∧ (∀ b ∈ bs_173, w0.heap.size ≤ b) ∧ (∀ b ∈ bs_173, b ∈ [] ∨ (w_133).heap.size ≤ b) ∧ Live f [(13, .int .i64 i), (11, .slice A_171 zs.length cap_172)]) ?_ ?_
          · exact ⟨_, 1, [], _, _, _, rfl, by omega, by omega, all_zero, by simp, E_134, (Ext.refl _ _), Acc.nil, mem0, rel_refl, rfl, rfl, trivial⟩
          ·
            rintro m g_181 w_177 ⟨i2, zs, A_171, cap_172, bs_173, rfl, x0, x1, x2, x3, E_178, e_179, ha_174, hb_175, rel_176, hl_180⟩
            refine W_liveM hl_180 rfl ?_
            have h_182 := Rep.ext _ h_138 e_179
            have h_183 := Acc.ext ha_130 e_179 mem0
            refine W_seq ?_
            refine W_seq ?_
            refine W_region ?_
            refine S_move rfl ?_
            refine S_move rfl ?_
            refine S_leq rfl rfl rfl ?_
            refine WL_nil ?_
            refine W_cond rfl (fun h_185 => ?_) (fun h_185 => ?_)
            ·
              have p_186 := h_185
              try simp only [lrn] at p_186
              refine W_skip ?_
              refine W_seq ?_
              refine W_block ?_
              refine W_region ?_
              refine S_move rfl ?_
              refine S_move rfl ?_
              refine S_buildSlice Try.runUnderlying26 Try.sizeOf3 Try.zeroValue3 rfl rfl rfl rfl rfl rfl rfl ?_
              intro b_187 w_188 e_189 z_190 z_191 ho_192
              have hb_193 : w0.heap.size ≤ b_187 := by have := (E_178).size; omega
              have n_194 : (w_133).heap.size ≤ b_187 := by have := (e_179).size; omega
              have n_195 : b_187 ∉ bs_129 := fun h => by have := Acc.bs_lt h_183 _ h; omega
              have n_196 : b_187 ∉ bs_173 := fun h => by have := Acc.bs_lt ha_174 _ h; omega
              have E_197 := Ext.stepO E_178 e_189 mem0
              have c_198 := Ext.stepO e_179 e_189 mem0
              have h_199 := Rep.mono (M' := b_187 :: M) _ h_182 e_189 mem0 (cons_fresh z_190)
              have h_200 := Acc.ext (Acc.weak h_183 (cons_fresh z_190)) e_189 mem0
              have h_201 := Acc.ext (Acc.weak ha_174 (cons_fresh z_190)) e_189 mem0
              have ho_192 : Own _ _ _ [_] := ho_192
              have h_202 := Acc.weak (M' := M) h_201 (fun x hx => .inl (List.mem_cons_of_mem _ hx))
              have hr_203 := rd_ints (xs := [_]) (M := bs_173 ++ M) ho_192 (ninA n_196 (notin_old hM hb_193)) (by simp only [List.mem_singleton]; rintro _ rfl; first | assumption | (unfold InI; omega)) (by simp)
              refine S_append Try.runUnderlying26 Try.typeInfo3 Try.sizeOf3 Try.zeroValue3 rfl h_202 hr_203 (by show _ * 8 ≤ _; simp; omega) (by decide) (fun x hx => Nat.lt_of_lt_of_le (hM x hx) (E_197).size) rfl ?_
              intro v_204 w_205 bs_206 ha_207 e_208 hf_209
              have hb_210 := fresh_bs hf_209 hb_175 (E_197).size
              have rel_211 := rel_step hf_209 rel_176 (c_198).size
              have E_212 := Ext.stepO E_197 e_208 (fun x hx => .inr (hb_175 x hx))
              have c_213 := Ext.stepO c_198 e_208 (fun x hx => (rel_176 x hx).imp (fun h => by first | exact h | (cases h; done) | simp [h]) id)
              have o_216 := Acc.val ha_207
              obtain ⟨A_214, cap_215, rfl⟩ := o_216
              refine S_assign rfl ?_
              refine WL_nil ?_
              refine W_region ?_
              refine S_move rfl ?_
              refine S_add rfl rfl (by omega) rfl ?_
              refine S_assign rfl ?_
              refine WL_nil ?_
              refine ⟨by repeat (first | refine agree_upd rfl ?_ | exact agree_mix rfl agree_refl | refine agree_mix rfl ?_), ?_⟩
              exact ⟨_, by omega, i2 + 1, _, _, _, _, rfl, by omega, by omega, all_step x2 x0, by rw [List.length_append, List.length_singleton]; omega, E_212, c_213, ha_207, hb_210, rel_211, rfl, rfl, trivial⟩
            ·
              have p_217 := h_185
              try simp only [lrn] at p_217
              refine W_exit ?_
              refine W_seq ?_
              refine W_region ?_
              refine WL_norm (L := [(0, .int .i64 (1 + (n.tmod 60 + 60).tmod 60)), (1, .int .i64 (1 + (a.tmod (1 + (n.tmod 60 + 60).tmod 60) + (1 + (n.tmod 60 + 60).tmod 60)).tmod (1 + (n.tmod 60 + 60).tmod 60))), (2, .int .i64 (1 + (b.tmod (1 + (n.tmod 60 + 60).tmod 60) + (1 + (n.tmod 60 + 60).tmod 60)).tmod (1 + (n.tmod 60 + 60).tmod 60))), (7, .slice A_2 ls.length cap_3), (10, .slice A_127 ws.length cap_128), (11, .slice A_171 zs.length cap_172)]) ⟨rfl, rfl, rfl, rfl, rfl, rfl, trivial⟩ ?_
              intro g_218
              refine S_move rfl ?_
              refine S_move rfl ?_
              refine S_move rfl ?_
              have hz_226 := common_ok h_182 (fun x hx => Nat.lt_of_lt_of_le (hM x hx) (E_178).size) hl (1 + (a.tmod (1 + (n.tmod 60 + 60).tmod 60) + (1 + (n.tmod 60 + 60).tmod 60)).tmod (1 + (n.tmod 60 + 60).tmod 60)) (1 + (b.tmod (1 + (n.tmod 60 + 60).tmod 60) + (1 + (n.tmod 60 + 60).tmod 60)).tmod (1 + (n.tmod 60 + 60).tmod 60)) ha hb
              refine S_call Try.call12 rfl hz_226 rfl ?_
              rintro _ w_219 ⟨L_221, A_222, cap_223, rfl, hr_224, hp_225, e_220⟩
              have E_227 := Ext.stepO E_178 e_220 mem0
              have h_228 := Rep.ext _ h_182 e_220
              have h_229 := Acc.ext h_183 e_220 mem0
              have h_230 := Acc.ext ha_174 e_220 mem0
              have hl_231 := rSlice_len hr_224
              refine S_move rfl ?_
              refine S_move rfl ?_
              refine S_min rfl rfl rfl ?_
              refine S_buildSlice Try.runUnderlying26 Try.sizeOf3 Try.zeroValue3 rfl rfl rfl rfl rfl rfl rfl ?_
              intro b_232 w_233 e_234 z_235 z_236 ho_237
              have hb_238 : w0.heap.size ≤ b_232 := by have := (E_227).size; omega
              have n_239 : b_232 ∉ bs_129 := fun h => by have := Acc.bs_lt h_229 _ h; omega
              have n_240 : b_232 ∉ bs_173 := fun h => by have := Acc.bs_lt h_230 _ h; omega
              have E_241 := Ext.stepO E_227 e_234 mem0
              have h_242 := Rep.mono (M' := b_232 :: M) _ h_228 e_234 mem0 (cons_fresh z_235)
              have h_243 := Acc.ext (Acc.weak h_229 (cons_fresh z_235)) e_234 mem0
              have h_244 := Acc.ext (Acc.weak h_230 (cons_fresh z_235)) e_234 mem0
              have h_245 := Rep.mono (M' := b_232 :: M) _ hr_224 e_234 mem0 (cons_fresh z_235)
              have ho_237 : Own _ _ _ [_] := ho_237
              have h_246 := Rep.mono (M' := M) _ h_245 (Ext.refl [] w_233) mem0 (fun x hx => .inl (by simp [hx]))
              have hr_247 := rd_ints (xs := [min (1 + (a.tmod (1 + (n.tmod 60 + 60).tmod 60) + (1 + (n.tmod 60 + 60).tmod 60)).tmod (1 + (n.tmod 60 + 60).tmod 60)) (1 + (b.tmod (1 + (n.tmod 60 + 60).tmod 60) + (1 + (n.tmod 60 + 60).tmod 60)).tmod (1 + (n.tmod 60 + 60).tmod 60))]) (M := M) ho_237 (notin_old hM hb_238) (by simp only [List.mem_singleton]; rintro _ rfl; first | assumption | (unfold InI; omega)) (by simp)
              have he_248 : L_221 = [min (1 + (a.tmod (1 + (n.tmod 60 + 60).tmod 60) + (1 + (n.tmod 60 + 60).tmod 60)).tmod (1 + (n.tmod 60 + 60).tmod 60)) (1 + (b.tmod (1 + (n.tmod 60 + 60).tmod 60) + (1 + (n.tmod 60 + 60).tmod 60)).tmod (1 + (n.tmod 60 + 60).tmod 60))] := (fun h => nearL_unique h (chn_near hc ta tb)) hp_225
              have hz_249 := (ints_ok h_246 hr_247).mono (R' := fun v w' => v = .bool true ∧ w' = w_233) (fun _ _ h => ⟨h.1.trans (congrArg Value.bool (decide_eq_true he_248)), h.2⟩)
              refine S_callQ Try.call11 rfl hz_249 rfl ?_
              refine S_move rfl ?_
              refine WL_norm (L := [(0, .int .i64 (1 + (n.tmod 60 + 60).tmod 60)), (1, .int .i64 (1 + (a.tmod (1 + (n.tmod 60 + 60).tmod 60) + (1 + (n.tmod 60 + 60).tmod 60)).tmod (1 + (n.tmod 60 + 60).tmod 60))), (2, .int .i64 (1 + (b.tmod (1 + (n.tmod 60 + 60).tmod 60) + (1 + (n.tmod 60 + 60).tmod 60)).tmod (1 + (n.tmod 60 + 60).tmod 60))), (7, .slice A_2 ls.length cap_3), (10, .slice A_127 ws.length cap_128), (11, .slice A_171 zs.length cap_172), (84, .bool true)]) ⟨rfl, rfl, rfl, rfl, rfl, rfl, rfl, trivial⟩ ?_
              intro g_251
              refine WL_on rfl rfl rfl ?_
              refine S_move rfl ?_
              refine WL_on rfl rfl rfl ?_
              refine S_move rfl ?_
              refine WL_on rfl rfl rfl ?_
              refine S_move rfl ?_
              refine WL_on rfl rfl rfl ?_
              refine S_max rfl rfl rfl ?_
              refine WL_on rfl rfl rfl ?_
              refine S_move rfl ?_
              refine WL_on rfl rfl rfl ?_
              refine S_move rfl ?_
              refine WL_on rfl rfl rfl ?_
              refine S_min rfl rfl rfl ?_
              refine WL_on rfl rfl rfl ?_
              have h_252 := Rep.mono (M' := M) _ h_242 (Ext.refl [] w_233) mem0 (fun x hx => .inl (by simp [hx]))
              have hz_260 := path_ok h_252 (fun x hx => Nat.lt_of_lt_of_le (hM x hx) (E_241).size) hl (max (1 + (a.tmod (1 + (n.tmod 60 + 60).tmod 60) + (1 + (n.tmod 60 + 60).tmod 60)).tmod (1 + (n.tmod 60 + 60).tmod 60)) (1 + (b.tmod (1 + (n.tmod 60 + 60).tmod 60) + (1 + (n.tmod 60 + 60).tmod 60)).tmod (1 + (n.tmod 60 + 60).tmod 60))) (min (1 + (a.tmod (1 + (n.tmod 60 + 60).tmod 60) + (1 + (n.tmod 60 + 60).tmod 60)).tmod (1 + (n.tmod 60 + 60).tmod 60)) (1 + (b.tmod (1 + (n.tmod 60 + 60).tmod 60) + (1 + (n.tmod 60 + 60).tmod 60)).tmod (1 + (n.tmod 60 + 60).tmod 60))) hmx hmn
              refine S_call Try.call16 rfl hz_260 rfl ?_
              rintro _ w_253 ⟨L_255, A_256, cap_257, rfl, hr_258, hp_259, e_254⟩
              have E_261 := Ext.stepO E_241 e_254 mem0
              have h_262 := Rep.ext _ h_242 e_254
              have h_263 := Acc.ext h_243 e_254 mem0
              have h_264 := Acc.ext h_244 e_254 mem0
              have h_265 := ho_237.ext e_254 nin0
              have hl_266 := rSlice_len hr_258
              refine WL_on rfl rfl rfl ?_
              refine S_move rfl ?_
              refine WL_on rfl rfl rfl ?_
              have h_267 := Acc.rd h_263 (by omega)
              have he_268 : L_255 = ws := (fun h => pathL_unique h (chn_way hc ⟨by omega, by omega⟩ (by omega) (by omega) u2 (by omega))) hp_259
              have hz_269 := (ints_ok hr_258 h_267).mono (R' := fun v w' => v = .bool true ∧ w' = w_253) (fun _ _ h => ⟨h.1.trans (congrArg Value.bool (decide_eq_true he_268)), h.2⟩)
              refine S_callQ Try.call11 rfl hz_269 rfl ?_
              refine S_pick_t rfl rfl ?_
              refine S_move rfl ?_
              refine WL_norm (L := [(0, .int .i64 (1 + (n.tmod 60 + 60).tmod 60)), (1, .int .i64 (1 + (a.tmod (1 + (n.tmod 60 + 60).tmod 60) + (1 + (n.tmod 60 + 60).tmod 60)).tmod (1 + (n.tmod 60 + 60).tmod 60))), (2, .int .i64 (1 + (b.tmod (1 + (n.tmod 60 + 60).tmod 60) + (1 + (n.tmod 60 + 60).tmod 60)).tmod (1 + (n.tmod 60 + 60).tmod 60))), (7, .slice A_2 ls.length cap_3), (11, .slice A_171 zs.length cap_172), (96, .bool true)]) ⟨rfl, rfl, rfl, rfl, rfl, rfl, trivial⟩ ?_
              intro g_271
              refine WL_on rfl rfl rfl ?_
              refine S_move rfl ?_
              refine WL_on rfl rfl rfl ?_
              have h_272 := Rep.mono (M' := M) _ h_262 (Ext.refl [] w_253) mem0 (fun x hx => .inl (by simp [hx]))
              have hz_280 := heads_ok h_272 (fun x hx => Nat.lt_of_lt_of_le (hM x hx) (E_261).size) hl
              refine S_call Try.call14 rfl hz_280 rfl ?_
              rintro _ w_273 ⟨L_275, A_276, cap_277, rfl, hr_278, hp_279, e_274⟩
              have E_281 := Ext.stepO E_261 e_274 mem0
              have h_282 := Rep.ext _ h_262 e_274
              have h_283 := Acc.ext h_264 e_274 mem0
              have h_284 := h_265.ext e_274 nin0
              have hl_285 := rSlice_len hr_278
              refine WL_on rfl rfl rfl ?_
              refine S_move rfl ?_
              refine WL_on rfl rfl rfl ?_
              refine S_buildSlice Try.runUnderlying26 Try.sizeOf3 Try.zeroValue3 rfl rfl rfl rfl rfl rfl rfl ?_
              intro b_286 w_287 e_288 z_289 z_290 ho_291
              have hb_292 : w0.heap.size ≤ b_286 := by have := (E_281).size; omega
              have n_293 : b_232 ≠ b_286 := by have := h_284.lt; omega
              have n_294 : b_286 ∉ bs_173 := fun h => by have := Acc.bs_lt h_283 _ h; omega
              have E_295 := Ext.stepO E_281 e_288 mem0
              have h_296 := Rep.mono (M' := b_286 :: (b_232 :: M)) _ h_282 e_288 mem0 (cons_fresh z_289)
              have h_297 := Acc.ext (Acc.weak h_283 (cons_fresh z_289)) e_288 mem0
              have h_298 := Rep.mono (M' := b_286 :: M) _ hr_278 e_288 mem0 (cons_fresh z_289)
              have h_299 := h_284.ext e_288 nin0
              have ho_291 : Own _ _ _ [_] := ho_291
              refine WL_on rfl rfl rfl ?_
              have h_300 := Rep.mono (M' := M) _ h_298 (Ext.refl [] w_287) mem0 (fun x hx => .inl (by simp [hx]))
              have hr_301 := rd_ints (xs := [(1 + (n.tmod 60 + 60).tmod 60)]) (M := M) ho_291 (notin_old hM hb_292) (by simp only [List.mem_singleton]; rintro _ rfl; first | assumption | (unfold InI; omega)) (by simp)
              have he_302 : L_275 = [(1 + (n.tmod 60 + 60).tmod 60)] := (fun h => headL_unique h (chn_head hc (by omega))) hp_279
              have hz_303 := (ints_ok h_300 hr_301).mono (R' := fun v w' => v = .bool true ∧ w' = w_287) (fun _ _ h => ⟨h.1.trans (congrArg Value.bool (decide_eq_true he_302)), h.2⟩)
              refine S_callQ Try.call11 rfl hz_303 rfl ?_
              refine S_pick_t rfl rfl ?_
              refine S_move rfl ?_
              refine WL_norm (L := [(1, .int .i64 (1 + (a.tmod (1 + (n.tmod 60 + 60).tmod 60) + (1 + (n.tmod 60 + 60).tmod 60)).tmod (1 + (n.tmod 60 + 60).tmod 60))), (2, .int .i64 (1 + (b.tmod (1 + (n.tmod 60 + 60).tmod 60) + (1 + (n.tmod 60 + 60).tmod 60)).tmod (1 + (n.tmod 60 + 60).tmod 60))), (7, .slice A_2 ls.length cap_3), (11, .slice A_171 zs.length cap_172), (103, .bool true)]) ⟨rfl, rfl, rfl, rfl, rfl, trivial⟩ ?_
              intro g_305
              refine WL_on rfl rfl rfl ?_
              refine S_move rfl ?_
              refine WL_on rfl rfl rfl ?_
              refine S_move rfl ?_
              refine WL_on rfl rfl rfl ?_
              refine S_buildSlice Try.runUnderlying26 Try.sizeOf3 Try.zeroValue3 rfl rfl rfl rfl rfl rfl rfl ?_
              intro b_306 w_307 e_308 z_309 z_310 ho_311
              have hb_312 : w0.heap.size ≤ b_306 := by have := (E_295).size; omega
              have n_313 : b_232 ≠ b_306 := by have := h_299.lt; omega
              have n_314 : b_286 ≠ b_306 := by have := ho_291.lt; omega
              have n_315 : b_306 ∉ bs_173 := fun h => by have := Acc.bs_lt h_297 _ h; omega
              have E_316 := Ext.stepO E_295 e_308 mem0
              have h_317 := Rep.mono (M' := b_306 :: (b_286 :: (b_232 :: M))) _ h_296 e_308 mem0 (cons_fresh z_309)
              have h_318 := Acc.ext (Acc.weak h_297 (cons_fresh z_309)) e_308 mem0
              have h_319 := h_299.ext e_308 nin0
              have h_320 := ho_291.ext e_308 nin0
              have ho_311 : Own _ _ _ [_] := ho_311
              refine WL_on rfl rfl rfl ?_
              have h_321 := Rep.mono (M' := M) _ h_317 (Ext.refl [] w_307) mem0 (fun x hx => .inl (by simp [hx]))
              have hr_322 := rd_ints (xs := [(1 + (a.tmod (1 + (n.tmod 60 + 60).tmod 60) + (1 + (n.tmod 60 + 60).tmod 60)).tmod (1 + (n.tmod 60 + 60).tmod 60))]) (M := M) ho_311 (notin_old hM hb_312) (by simp only [List.mem_singleton]; rintro _ rfl; first | assumption | (unfold InI; omega)) (by simp)
              have hz_330 := anc_ok h_321 (fun x hx => Nat.lt_of_lt_of_le (hM x hx) (E_316).size) hl hr_322
              refine S_call Try.call23 rfl hz_330 rfl ?_
              rintro _ w_323 ⟨L_325, A_326, cap_327, rfl, hr_328, hp_329, e_324⟩
              have E_331 := Ext.stepO E_316 e_324 mem0
              have h_332 := Rep.ext _ h_317 e_324
              have h_333 := Acc.ext h_318 e_324 mem0
              have h_334 := h_319.ext e_324 nin0
              have h_335 := h_320.ext e_324 nin0
              have h_336 := ho_311.ext e_324 nin0
              have hl_337 := rSlice_len hr_328
              refine WL_on rfl rfl rfl ?_
              refine S_move rfl ?_
              refine WL_on rfl rfl rfl ?_
              have h_338 := Acc.rd h_333 (by omega)
              have he_339 : L_325 = zs := (fun h => ancL_unique h (chn_anc hc ta x2 (by omega))) hp_329
              have hz_340 := (ints_ok hr_328 h_338).mono (R' := fun v w' => v = .bool true ∧ w' = w_323) (fun _ _ h => ⟨h.1.trans (congrArg Value.bool (decide_eq_true he_339)), h.2⟩)
              refine S_callQ Try.call11 rfl hz_340 rfl ?_
              refine S_pick_t rfl rfl ?_
              refine S_move rfl ?_
              refine WL_norm (L := [(1, .int .i64 (1 + (a.tmod (1 + (n.tmod 60 + 60).tmod 60) + (1 + (n.tmod 60 + 60).tmod 60)).tmod (1 + (n.tmod 60 + 60).tmod 60))), (2, .int .i64 (1 + (b.tmod (1 + (n.tmod 60 + 60).tmod 60) + (1 + (n.tmod 60 + 60).tmod 60)).tmod (1 + (n.tmod 60 + 60).tmod 60))), (7, .slice A_2 ls.length cap_3), (111, .bool true)]) ⟨rfl, rfl, rfl, rfl, trivial⟩ ?_
              intro g_342
              refine WL_on rfl rfl rfl ?_
              refine S_move rfl ?_
              refine WL_on rfl rfl rfl ?_
              refine S_move rfl ?_
              refine WL_on rfl rfl rfl ?_
              refine S_move rfl ?_
              refine WL_on rfl rfl rfl ?_
              have h_343 := Rep.mono (M' := M) _ h_332 (Ext.refl [] w_323) mem0 (fun x hx => .inl (by simp [hx]))
              have hz_346 := reaches_ok h_343 (fun x hx => Nat.lt_of_lt_of_le (hM x hx) (E_331).size) hl (1 + (a.tmod (1 + (n.tmod 60 + 60).tmod 60) + (1 + (n.tmod 60 + 60).tmod 60)).tmod (1 + (n.tmod 60 + 60).tmod 60)) (1 + (b.tmod (1 + (n.tmod 60 + 60).tmod 60) + (1 + (n.tmod 60 + 60).tmod 60)).tmod (1 + (n.tmod 60 + 60).tmod 60)) ha
              refine S_callE Try.call19 rfl hz_346 rfl ?_
              intro w_344 e_345
              have E_347 := Ext.stepO E_331 e_345 mem0
              have h_348 := Rep.ext _ h_332 e_345
              have h_349 := h_334.ext e_345 nin0
              have h_350 := h_335.ext e_345 nin0
              have h_351 := h_336.ext e_345 nin0
              refine WL_on rfl rfl rfl ?_
              refine S_move rfl ?_
              refine WL_on rfl rfl rfl ?_
              refine S_move rfl ?_
              refine WL_on rfl rfl rfl ?_
              refine S_leq rfl rfl rfl ?_
              refine WL_on rfl rfl rfl ?_
              refine S_eqlBT Try.runUnderlying4 rfl rfl (chn_reaches hc ta tb) rfl ?_
              refine S_pick_t rfl rfl ?_
              refine S_move rfl ?_
              refine WL_on rfl rfl rfl ?_
              refine S_callE Try.call10 rfl (alive_ok (M := M) (fun x hx => Nat.lt_of_lt_of_le (hM x hx) (E_347).size)) rfl ?_
              intro w_354 e_355
              have E_356 := Ext.stepO E_347 e_355 mem0
              have h_357 := Rep.ext _ h_348 e_355
              have h_358 := h_349.ext e_355 nin0
              have h_359 := h_350.ext e_355 nin0
              have h_360 := h_351.ext e_355 nin0
              refine S_pick_t rfl rfl ?_
              refine S_assign rfl ?_
              refine WL_nil ?_
              refine W_ret ?_
              exact ⟨rfl, E_356⟩
end Go.Proofs.Ytpgegnmaophapaa
