/- The walks of a history's functions, printed by program. -/
import Derived.Test.YtpgegnmaophapaaW7
namespace Go.Proofs.Ytpgegnmaophapaa
open Go.Wk Classical
theorem common_ref_ok {M : List Nat} {w0 : World} {A : Option Addr} {cap : Nat} {l : List Commit} (h : (rSlice rCommit).rd M w0 [.slice A l.length cap] l) (hM : ∀ b ∈ M, b < w0.heap.size) (hl : l.length ≤ 60) (a b : Int) (hia : InI a) (hib : InI b) :
    CallR Try.prog 13 [.slice A l.length cap, .int .i64 a, .int .i64 b] w0 (fun v w' => ∃ L A cap, v = .slice A L.length cap ∧ (rSlice rInt).rd M w' [.slice A L.length cap] L ∧ NearL l a b L ∧ Ext [] w0 w') := by
  have ll := rSlice_len h
  refine Call1 Try.func13 rfl rfl rfl rfl ?_
  refine W_seq ?_
  refine W_region ?_
  refine S_assign rfl ?_
  refine WL_nil ?_
  refine W_seq ?_
  refine W_seq ?_
  refine W_region ?_
  refine S_move rfl ?_
  refine S_callQ Try.call21 rfl (right_ref_ok h) rfl ?_
  refine S_not rfl rfl ?_
  refine S_move rfl ?_
  refine WL_split (dj := 18) rfl (fun h_2 => ?_) (fun h_2 => ?_)
  ·
    have h_3 := h_2
    simp only [lrnN] at h_3
    have p_4 := h_3
    try simp only [lrn] at p_4
    refine WL_off rfl rfl rfl (nF h_3) ?_
    refine WL_off rfl rfl rfl (nF h_3) ?_
    refine WL_off rfl rfl rfl (nF h_3) ?_
    refine WL_off rfl rfl rfl (nF h_3) ?_
    refine S_pick_t (nF h_3) rfl ?_
    refine S_move rfl ?_
    refine WL_off rfl rfl rfl rfl ?_
    refine WL_off rfl rfl rfl rfl ?_
    refine WL_off rfl rfl rfl rfl ?_
    refine WL_off rfl rfl rfl rfl ?_
    refine S_pick_t rfl rfl ?_
    refine WL_nil ?_
    refine W_cond_true rfl ?_
    refine W_seq ?_
    refine W_region ?_
    refine S_assign rfl ?_
    refine WL_nil ?_
    refine W_ret ?_
    exact ⟨[], _, _, rfl, rd_nil, by first | exact nearL_no ‹¬ Right l› | exact nearL_a (by assumption) | exact nearL_b (by assumption), (Ext.refl [] w0)⟩
  ·
    have h_5 := h_2
    simp only [lrnN] at h_5
    have p_6 := h_5
    try simp only [lrn] at p_6
    refine WL_on rfl rfl (nT h_5) ?_
    refine S_move rfl ?_
    refine WL_on rfl rfl (nT h_5) ?_
    refine S_move rfl ?_
    refine WL_on rfl rfl (nT h_5) ?_
    refine S_callQ Try.call27 rfl (there_ref_ok h _) rfl ?_
    refine WL_on rfl rfl (nT h_5) ?_
    refine S_not rfl rfl ?_
    refine S_pick_f (nT h_5) rfl ?_
    refine S_move rfl ?_
    refine WL_split (dj := 24) rfl (fun h_8 => ?_) (fun h_8 => ?_)
    ·
      have h_9 := h_8
      simp only [lrnN] at h_9
      have p_10 := h_9
      try simp only [lrn] at p_10
      refine WL_off rfl rfl rfl (nF h_9) ?_
      refine WL_off rfl rfl rfl (nF h_9) ?_
      refine WL_off rfl rfl rfl (nF h_9) ?_
      refine WL_off rfl rfl rfl (nF h_9) ?_
      refine S_pick_t (nF h_9) rfl ?_
      refine WL_nil ?_
      refine W_cond_true rfl ?_
      refine W_seq ?_
      refine W_region ?_
      refine S_assign rfl ?_
      refine WL_nil ?_
      refine W_ret ?_
      exact ⟨[], _, _, rfl, rd_nil, by first | exact nearL_no ‹¬ Right l› | exact nearL_a (by assumption) | exact nearL_b (by assumption), (Ext.refl [] w0)⟩
    ·
      have h_11 := h_8
      simp only [lrnN] at h_11
      have p_12 := h_11
      try simp only [lrn] at p_12
      refine WL_on rfl rfl (nT h_11) ?_
      refine S_move rfl ?_
      refine WL_on rfl rfl (nT h_11) ?_
      refine S_move rfl ?_
      refine WL_on rfl rfl (nT h_11) ?_
      refine S_callQ Try.call27 rfl (there_ref_ok h _) rfl ?_
      refine WL_on rfl rfl (nT h_11) ?_
      refine S_not rfl rfl ?_
      refine S_pick_f (nT h_11) rfl ?_
      refine WL_nil ?_
      refine W_cond rfl (fun h_14 => ?_) (fun h_14 => ?_)
      ·
        have h_15 := h_14
        simp only [lrnN] at h_15
        have p_16 := h_15
        try simp only [lrn] at p_16
        refine W_seq ?_
        refine W_region ?_
        refine S_assign rfl ?_
        refine WL_nil ?_
        refine W_ret ?_
        exact ⟨[], _, _, rfl, rd_nil, by first | exact nearL_no ‹¬ Right l› | exact nearL_a (by assumption) | exact nearL_b (by assumption), (Ext.refl [] w0)⟩
      ·
        have h_17 := h_14
        simp only [lrnN] at h_17
        have p_18 := h_17
        try simp only [lrn] at p_18
        refine W_skip ?_
        refine W_seq ?_
        refine W_region ?_
        refine S_move rfl ?_
        have hz_26 := table_ok h hM ‹Right _› hl
        refine S_call Try.call28 rfl hz_26 rfl ?_
        rintro _ w_19 ⟨L_21, A_22, cap_23, rfl, hr_24, hp_25, e_20⟩
        have E_27 := Ext.stepO (Ext.refl [] w0) e_20 mem0
        have hl_28 := rSlice_len hr_24
        refine S_assign rfl ?_
        refine WL_nil ?_
        refine W_seq ?_
        refine W_region ?_
        refine S_move rfl ?_
        refine S_len Try.runUnderlying22 rfl rfl ?_
        refine S_assign rfl ?_
        refine WL_nil ?_
        refine W_seq ?_
        refine W_region ?_
        refine S_assign rfl ?_
        have ha_29 : Acc rInt M w_19 (.slice none 0 0) [] [] := Acc.nil
        refine WL_nil ?_
        refine W_seq ?_
        refine W_seq ?_
        refine W_region ?_
        refine S_assign rfl ?_
        refine WL_nil ?_
        refine W_block ?_
        refine W_loopF [9, 10, 34, 35, 36, 37, 38, 39, 40, 41, 42, 43, 44, 45, 46, 47, 48, 49, 50, 51, 52, 53, 54, 55, 56, 57, 58, 59, 60, 61, 62, 63, 64] (fun m f w => ∃ (n : Int) (xs : List Int) (A_30 : Option Addr) (cap_31 : Nat) (bs_32 : List Nat), m = (l.length + 1 - n).toNat ∧ 1 ≤ n ∧ n ≤ l.length + 1 ∧ (xs.length : Int) < n ∧ BothTo l a b n xs ∧ Ext [] w0 w ∧ Ext ([]) w_19 w ∧ Acc rInt M w (.slice A_30 xs.length cap_31) xs bs_32 ∧ (∀ b ∈ bs_32, w0.heap.size ≤ b) ∧ (∀ b ∈ bs_32, b ∈ [] ∨ (w_19).heap.size ≤ b) ∧ Live f [(10, .int .i64 n), (9, .slice A_30 xs.length cap_31)]) ?_ ?_
        · exact ⟨_, 1, [], _, _, _, rfl, by omega, by omega, by simp, bothTo_zero, E_27, (Ext.refl _ _), ha_29, mem0, rel_refl, rfl, rfl, trivial⟩
        ·
          rintro m g_40 w_36 ⟨n, xs, A_30, cap_31, bs_32, rfl, q0, q1, q2, q3, E_37, e_38, ha_33, hb_34, rel_35, hl_39⟩
          refine W_liveM hl_39 rfl ?_
          have h_41 := Rep.ext _ hr_24 e_38
          refine W_seq ?_
          refine W_seq ?_
          refine W_region ?_
          refine S_move rfl ?_
          refine S_move rfl ?_
          refine S_leq rfl rfl rfl ?_
          refine WL_nil ?_
          refine W_cond rfl (fun h_43 => ?_) (fun h_43 => ?_)
          ·
            have p_44 := h_43
            try simp only [lrn] at p_44
            refine W_skip ?_
            refine W_seq ?_
            refine W_block ?_
            refine W_seq ?_
            refine W_region ?_
            have ta : There l a := ‹_›
            have tb : There l b := ‹_›
            have tn : There l n := ⟨by omega, by omega⟩
            have ⟨a1, a2⟩ := ta
            have ⟨b1, b2⟩ := tb
            have m1 := mulq (a := a - 1) (n := l.length) (by omega) (by omega) (by omega) (by omega)
            have m2 := mulq (a := b - 1) (n := l.length) (by omega) (by omega) (by omega) (by omega)
            refine S_move rfl ?_
            refine S_move rfl ?_
            refine S_sub rfl rfl (by omega) rfl ?_
            refine S_move rfl ?_
            refine S_mul rfl rfl (by omega) rfl ?_
            refine S_move rfl ?_
            refine S_add rfl rfl (by omega) rfl ?_
            refine S_sub rfl rfl (by omega) rfl ?_
            refine S_index Try.runUnderlying44 Try.sizeOf4 h_41 rfl (tabq hp_25 ta tn).1 (tabq hp_25 ta tn).2.1 rfl ?_
            intro b_45 o_46 cs_47 hi_48 hc_49 hb_50 hr_51
            refine S_loadB Try.isAgg4 rfl hc_49 hr_51 rfl ?_
            refine S_move rfl ?_
            refine WL_split (dj := 49) rfl (fun h_53 => ?_) (fun h_53 => ?_)
            ·
              have p_54 := h_53
              try simp only [lrn] at p_54
              refine WL_on rfl rfl (bT h_53) ?_
              refine S_move rfl ?_
              refine WL_on rfl rfl (bT h_53) ?_
              refine S_move rfl ?_
              refine WL_on rfl rfl (bT h_53) ?_
              refine S_sub rfl rfl (by omega) rfl ?_
              refine WL_on rfl rfl (bT h_53) ?_
              refine S_move rfl ?_
              refine WL_on rfl rfl (bT h_53) ?_
              refine S_mul rfl rfl (by omega) rfl ?_
              refine WL_on rfl rfl (bT h_53) ?_
              refine S_move rfl ?_
              refine WL_on rfl rfl (bT h_53) ?_
              refine S_add rfl rfl (by omega) rfl ?_
              refine WL_on rfl rfl (bT h_53) ?_
              refine S_sub rfl rfl (by omega) rfl ?_
              refine WL_on rfl rfl (bT h_53) ?_
              refine S_index Try.runUnderlying44 Try.sizeOf4 h_41 rfl (tabq hp_25 tb tn).1 (tabq hp_25 tb tn).2.1 rfl ?_
              intro b_55 o_56 cs_57 hi_58 hc_59 hb_60 hr_61
              refine WL_on rfl rfl (bT h_53) ?_
              refine S_loadB Try.isAgg4 rfl hc_59 hr_61 rfl ?_
              refine S_pick_t (bT h_53) rfl ?_
              refine WL_nil ?_
              refine W_cond rfl (fun h_63 => ?_) (fun h_63 => ?_)
              ·
                have p_64 := h_63
                try simp only [lrn] at p_64
                refine W_region ?_
                refine S_move rfl ?_
                refine S_move rfl ?_
                refine S_buildSlice Try.runUnderlying26 Try.sizeOf3 Try.zeroValue3 rfl rfl rfl rfl rfl rfl rfl ?_
                intro b_65 w_66 e_67 z_68 z_69 ho_70
                have hb_71 : w0.heap.size ≤ b_65 := by have := (E_37).size; omega
                have n_72 : (w_19).heap.size ≤ b_65 := by have := (e_38).size; omega
                have n_73 : b_65 ∉ bs_32 := fun h => by have := Acc.bs_lt ha_33 _ h; omega
                have E_74 := Ext.stepO E_37 e_67 mem0
                have c_75 := Ext.stepO e_38 e_67 mem0
                have h_76 := Rep.mono (M' := b_65 :: M) _ h_41 e_67 mem0 (cons_fresh z_68)
                have h_77 := Acc.ext (Acc.weak ha_33 (cons_fresh z_68)) e_67 mem0
                have h_78 := Rep.mono (M' := b_65 :: M) _ hr_51 e_67 mem0 (cons_fresh z_68)
                have hb_80 : b_45 ∉ b_65 :: M := ninC (by have := Cells.lt hc_49; omega) hb_50
                have h_79 := Cells.ext hc_49 e_67 nin0
                have h_81 := Rep.mono (M' := b_65 :: M) _ hr_61 e_67 mem0 (cons_fresh z_68)
                have hb_83 : b_55 ∉ b_65 :: M := ninC (by have := Cells.lt hc_59; omega) hb_60
                have h_82 := Cells.ext hc_59 e_67 nin0
                have ho_70 : Own _ _ _ [_] := ho_70
                have h_84 := Acc.weak (M' := M) h_77 (fun x hx => .inl (List.mem_cons_of_mem _ hx))
                have hr_85 := rd_ints (xs := [_]) (M := bs_32 ++ M) ho_70 (ninA n_73 (notin_old hM hb_71)) (by simp [InI]; omega) (by simp)
                refine S_append Try.runUnderlying26 Try.typeInfo3 Try.sizeOf3 Try.zeroValue3 rfl h_84 hr_85 (by show _ * 8 ≤ _; simp; omega) (by decide) (fun x hx => Nat.lt_of_lt_of_le (hM x hx) (E_74).size) rfl ?_
                intro v_86 w_87 bs_88 ha_89 e_90 hf_91
                have hb_92 := fresh_bs hf_91 hb_34 (E_74).size
                have rel_93 := rel_step hf_91 rel_35 (c_75).size
                have E_94 := Ext.stepO E_74 e_90 (fun x hx => .inr (hb_34 x hx))
                have c_95 := Ext.stepO c_75 e_90 (fun x hx => (rel_35 x hx).imp (fun h => by first | exact h | (cases h; done) | simp [h]) id)
                have o_98 := Acc.val ha_89
                obtain ⟨A_96, cap_97, rfl⟩ := o_98
                refine S_assign rfl ?_
                refine WL_nil ?_
                refine W_region ?_
                refine S_move rfl ?_
                refine S_add rfl rfl (by omega) rfl ?_
                refine S_assign rfl ?_
                refine WL_nil ?_
                refine ⟨by repeat (first | refine agree_upd rfl ?_ | exact agree_mix rfl agree_refl | refine agree_mix rfl ?_), ?_⟩
                exact ⟨_, by omega, n + 1, _, _, _, _, rfl, by omega, by omega, by first | omega | (simp; omega), by first | exact bothTo_add q3 (tabT hp_25 ta tn (by assumption)) (tabT hp_25 tb tn (by assumption)) | exact bothTo_skip q3 (fun k => absurd k.1 (tabF hp_25 ta tn (by assumption))) | exact bothTo_skip q3 (fun k => absurd k.2 (tabF hp_25 tb tn (by assumption))), E_94, c_95, ha_89, hb_92, rel_93, rfl, rfl, trivial⟩
              ·
                have p_99 := h_63
                try simp only [lrn] at p_99
                refine W_skip ?_
                refine W_region ?_
                refine S_move rfl ?_
                refine S_add rfl rfl (by omega) rfl ?_
                refine S_assign rfl ?_
                refine WL_nil ?_
                refine ⟨by repeat (first | refine agree_upd rfl ?_ | exact agree_mix rfl agree_refl | refine agree_mix rfl ?_), ?_⟩
                exact ⟨_, by omega, n + 1, _, _, _, _, rfl, by omega, by omega, by first | omega | (simp; omega), by first | exact bothTo_add q3 (tabT hp_25 ta tn (by assumption)) (tabT hp_25 tb tn (by assumption)) | exact bothTo_skip q3 (fun k => absurd k.1 (tabF hp_25 ta tn (by assumption))) | exact bothTo_skip q3 (fun k => absurd k.2 (tabF hp_25 tb tn (by assumption))), E_37, e_38, ha_33, hb_34, rel_35, rfl, rfl, trivial⟩
            ·
              have p_100 := h_53
              try simp only [lrn] at p_100
              refine WL_off rfl rfl rfl (bF h_53) ?_
              refine WL_off rfl rfl rfl (bF h_53) ?_
              refine WL_off rfl rfl rfl (bF h_53) ?_
              refine WL_off rfl rfl rfl (bF h_53) ?_
              refine WL_off rfl rfl rfl (bF h_53) ?_
              refine WL_off rfl rfl rfl (bF h_53) ?_
              refine WL_off rfl rfl rfl (bF h_53) ?_
              refine WL_off rfl rfl rfl (bF h_53) ?_
              refine WL_off rfl rfl rfl (bF h_53) ?_
              refine WL_off rfl rfl rfl (bF h_53) ?_
              refine S_pick_f (bF h_53) rfl ?_
              refine WL_nil ?_
              refine W_cond_false rfl ?_
              refine W_skip ?_
              refine W_region ?_
              refine S_move rfl ?_
              refine S_add rfl rfl (by omega) rfl ?_
              refine S_assign rfl ?_
              refine WL_nil ?_
              refine ⟨by repeat (first | refine agree_upd rfl ?_ | exact agree_mix rfl agree_refl | refine agree_mix rfl ?_), ?_⟩
              exact ⟨_, by omega, n + 1, _, _, _, _, rfl, by omega, by omega, by first | omega | (simp; omega), by first | exact bothTo_add q3 (tabT hp_25 ta tn (by assumption)) (tabT hp_25 tb tn (by assumption)) | exact bothTo_skip q3 (fun k => absurd k.1 (tabF hp_25 ta tn (by assumption))) | exact bothTo_skip q3 (fun k => absurd k.2 (tabF hp_25 tb tn (by assumption))), E_37, e_38, ha_33, hb_34, rel_35, rfl, rfl, trivial⟩
          ·
            have p_101 := h_43
            try simp only [lrn] at p_101
            refine W_exit ?_
            refine W_seq ?_
            refine W_region ?_
            have hX := Acc.rd ha_33 (by omega)
            have hB := bothTo_all q3 (by omega)
            refine S_assign rfl ?_
            have ha_102 : Acc rInt M w_36 (.slice none 0 0) [] [] := Acc.nil
            refine WL_nil ?_
            refine W_seq ?_
            refine W_seq ?_
            refine W_region ?_
            refine S_assign rfl ?_
            refine WL_nil ?_
            refine W_block ?_
            refine W_loopF [11, 12, 13, 14, 65, 66, 67, 68, 69, 70, 71, 72, 73, 74, 75, 76, 77, 78, 79, 80, 81, 82, 83, 84, 85, 86, 87, 88, 89, 90, 91, 92, 93, 94, 95, 96, 97, 98, 99, 100, 101, 102, 103, 104, 105, 106, 107, 108, 109, 110, 111] (fun m f w => ∃ (i : Int) (ys : List Int) (A_103 : Option Addr) (cap_104 : Nat) (bs_105 : List Nat), m = (xs.length - i).toNat ∧ 0 ≤ i ∧ i ≤ xs.length ∧ (ys.length : Int) ≤ i ∧ OutTo l a b xs i ys ∧ Ext [] w0 w ∧ Ext ([]) w_36 w ∧ Acc rInt M w (.slice A_103 ys.length cap_104) ys bs_105 ∧ (∀ b ∈ bs_105, w0.heap.size ≤ b) ∧ (∀ b ∈ bs_105, b ∈ [] ∨ (w_36).heap.size ≤ b) ∧ Live f [(12, .int .i64 i), (11, .slice A_103 ys.length cap_104)]) ?_ ?_
            · exact ⟨_, 0, [], _, _, _, rfl, by omega, by omega, by simp, outTo_zero, E_37, (Ext.refl _ _), ha_102, mem0, rel_refl, rfl, rfl, trivial⟩
            ·
              rintro m g_113 w_109 ⟨i, ys, A_103, cap_104, bs_105, rfl, v0, v1, v2, v3, E_110, e_111, ha_106, hb_107, rel_108, hl_112⟩
              refine W_liveM hl_112 rfl ?_
              have h_114 := Rep.ext _ h_41 e_111
              have h_115 := Rep.ext _ hX e_111
              refine W_seq ?_
              refine W_seq ?_
              refine W_region ?_
              refine S_move rfl ?_
              refine S_move rfl ?_
              refine S_len Try.runUnderlying26 rfl rfl ?_
              refine S_lss rfl rfl rfl ?_
              refine WL_nil ?_
              refine W_cond rfl (fun h_117 => ?_) (fun h_117 => ?_)
              ·
                have p_118 := h_117
                try simp only [lrn] at p_118
                refine W_skip ?_
                refine W_seq ?_
                refine W_block ?_
                refine W_seq ?_
                refine W_region ?_
                refine S_assign rfl ?_
                refine WL_nil ?_
                refine W_seq ?_
                refine W_seq ?_
                refine W_region ?_
                refine S_assign rfl ?_
                refine WL_nil ?_
                refine W_block ?_
                refine W_loopF [13, 14, 71, 72, 73, 74, 75, 76, 77, 78, 79, 80, 81, 82, 83, 84, 85, 86, 87, 88, 89, 90, 91, 92, 93, 94, 95, 96, 97, 98, 99, 100, 101, 102, 103] (fun m f w => ∃ (k : Int) (p : Bool), m = (xs.length - k).toNat ∧ 0 ≤ k ∧ p = decide (NrTo l xs xs[i.toNat] k) ∧ w_109 = w ∧ Live f [(14, .int .i64 k), (13, .bool p)]) ?_ ?_
                · exact ⟨_, 0, _, rfl, by omega, nr0, rfl, rfl, rfl, trivial⟩
                ·
                  rintro m g_122 _ ⟨k, p, rfl, s0, s1, rfl, hl_121⟩
                  refine W_liveM hl_121 rfl ?_
                  refine W_seq ?_
                  refine W_seq ?_
                  refine W_region ?_
                  refine S_move rfl ?_
                  refine S_move rfl ?_
                  refine S_len Try.runUnderlying26 rfl rfl ?_
                  refine S_lss rfl rfl rfl ?_
                  refine WL_nil ?_
                  refine W_cond rfl (fun h_125 => ?_) (fun h_125 => ?_)
                  ·
                    have p_126 := h_125
                    try simp only [lrn] at p_126
                    refine W_skip ?_
                    refine W_seq ?_
                    refine W_block ?_
                    refine W_seq ?_
                    refine W_region_quiet rfl (by decide +kernel) ?_
                    refine S_move rfl ?_
                    refine S_move rfl ?_
                    refine S_index Try.runUnderlying26 Try.sizeOf3 h_115 rfl (by omega) (by omega) rfl ?_
                    intro b_127 o_128 cs_129 hi_130 hc_131 hb_132 hr_133
                    refine S_loadI Try.isAgg3 rfl hc_131 hr_133 rfl ?_
                    rintro ⟨r_134, r_135⟩
                    refine S_move rfl ?_
                    refine S_move rfl ?_
                    refine S_index Try.runUnderlying26 Try.sizeOf3 h_115 rfl (by omega) (by omega) rfl ?_
                    intro b_136 o_137 cs_138 hi_139 hc_140 hb_141 hr_142
                    refine S_loadI Try.isAgg3 rfl hc_140 hr_142 rfl ?_
                    rintro ⟨r_143, r_144⟩
                    refine S_neq rfl rfl rfl ?_
                    refine S_move rfl ?_
                    refine WL_split (dj := 86) rfl (fun h_146 => ?_) (fun h_146 => ?_)
                    ·
                      have p_147 := h_146
                      try simp only [lrn] at p_147
                      refine WL_on rfl rfl (bT h_146) ?_
                      refine S_move rfl ?_
                      refine WL_on rfl rfl (bT h_146) ?_
                      refine S_move rfl ?_
                      refine WL_on rfl rfl (bT h_146) ?_
                      refine S_move rfl ?_
                      refine WL_on rfl rfl (bT h_146) ?_
                      refine S_index Try.runUnderlying26 Try.sizeOf3 h_115 rfl (by omega) (by omega) rfl ?_
                      intro b_148 o_149 cs_150 hi_151 hc_152 hb_153 hr_154
                      refine WL_on rfl rfl (bT h_146) ?_
                      refine S_loadI Try.isAgg3 rfl hc_152 hr_154 rfl ?_
                      rintro ⟨r_155, r_156⟩
                      refine WL_on rfl rfl (bT h_146) ?_
                      have tk : There l xs[k.toNat] := ((hB.2 _).1 (List.getElem_mem (by omega))).1.there.2
                      have ti : There l xs[i.toNat] := ((hB.2 _).1 (List.getElem_mem (by omega))).1.there.2
                      have ⟨k1, k2⟩ := tk
                      have ⟨i1, i2⟩ := ti
                      have m3 := mulq (a := xs[k.toNat] - 1) (n := l.length) (by omega) (by omega) (by omega) (by omega)
                      refine S_sub rfl rfl (by omega) rfl ?_
                      refine WL_on rfl rfl (bT h_146) ?_
                      refine S_move rfl ?_
                      refine WL_on rfl rfl (bT h_146) ?_
                      refine S_mul rfl rfl (by omega) rfl ?_
                      refine WL_on rfl rfl (bT h_146) ?_
                      refine S_move rfl ?_
                      refine WL_on rfl rfl (bT h_146) ?_
                      refine S_move rfl ?_
                      refine WL_on rfl rfl (bT h_146) ?_
                      refine S_index Try.runUnderlying26 Try.sizeOf3 h_115 rfl (by omega) (by omega) rfl ?_
                      intro b_157 o_158 cs_159 hi_160 hc_161 hb_162 hr_163
                      refine WL_on rfl rfl (bT h_146) ?_
                      refine S_loadI Try.isAgg3 rfl hc_161 hr_163 rfl ?_
                      rintro ⟨r_164, r_165⟩
                      refine WL_on rfl rfl (bT h_146) ?_
                      refine S_add rfl rfl (by omega) rfl ?_
                      refine WL_on rfl rfl (bT h_146) ?_
                      refine S_sub rfl rfl (by omega) rfl ?_
                      refine WL_on rfl rfl (bT h_146) ?_
                      refine S_index Try.runUnderlying44 Try.sizeOf4 h_114 rfl (tabq hp_25 tk ti).1 (tabq hp_25 tk ti).2.1 rfl ?_
                      intro b_166 o_167 cs_168 hi_169 hc_170 hb_171 hr_172
                      refine WL_on rfl rfl (bT h_146) ?_
                      refine S_loadB Try.isAgg4 rfl hc_170 hr_172 rfl ?_
                      refine S_pick_t (bT h_146) rfl ?_
                      refine WL_nil ?_
                      refine W_cond rfl (fun h_174 => ?_) (fun h_174 => ?_)
                      ·
                        have p_175 := h_174
                        try simp only [lrn] at p_175
                        refine W_region ?_
                        refine S_assign rfl ?_
                        refine WL_nil ?_
                        refine W_region ?_
                        refine S_move rfl ?_
                        refine S_add rfl rfl (by omega) rfl ?_
                        refine S_assign rfl ?_
                        refine WL_nil ?_
                        refine ⟨by repeat (first | refine agree_upd rfl ?_ | exact agree_mix rfl agree_refl | refine agree_mix rfl ?_), ?_⟩
                        exact ⟨_, by omega, k + 1, _, rfl, by omega, by first | exact nr_off s0 (by omega) (by assumption) (tabT hp_25 tk ti (by assumption)) | exact nr_keep s1 s0 (by omega) (fun hx => absurd hx (tabF hp_25 tk ti (by assumption))) | exact nr_keep s1 s0 (by omega) (fun _ => by assumption), rfl, rfl, rfl, trivial⟩
                      ·
                        have p_176 := h_174
                        try simp only [lrn] at p_176
                        refine W_skip ?_
                        refine W_region ?_
                        refine S_move rfl ?_
                        refine S_add rfl rfl (by omega) rfl ?_
                        refine S_assign rfl ?_
                        refine WL_nil ?_
                        refine ⟨by repeat (first | refine agree_upd rfl ?_ | exact agree_mix rfl agree_refl | refine agree_mix rfl ?_), ?_⟩
                        exact ⟨_, by omega, k + 1, _, rfl, by omega, by first | exact nr_off s0 (by omega) (by assumption) (tabT hp_25 tk ti (by assumption)) | exact nr_keep s1 s0 (by omega) (fun hx => absurd hx (tabF hp_25 tk ti (by assumption))) | exact nr_keep s1 s0 (by omega) (fun _ => by assumption), rfl, rfl, rfl, trivial⟩
                    ·
                      have p_177 := h_146
                      try simp only [lrn] at p_177
                      refine WL_off rfl rfl rfl (bF h_146) ?_
                      refine WL_off rfl rfl rfl (bF h_146) ?_
                      refine WL_off rfl rfl rfl (bF h_146) ?_
                      refine WL_off rfl rfl rfl (bF h_146) ?_
                      refine WL_off rfl rfl rfl (bF h_146) ?_
                      refine WL_off rfl rfl rfl (bF h_146) ?_
                      refine WL_off rfl rfl rfl (bF h_146) ?_
                      refine WL_off rfl rfl rfl (bF h_146) ?_
                      refine WL_off rfl rfl rfl (bF h_146) ?_
                      refine WL_off rfl rfl rfl (bF h_146) ?_
                      refine WL_off rfl rfl rfl (bF h_146) ?_
                      refine WL_off rfl rfl rfl (bF h_146) ?_
                      refine WL_off rfl rfl rfl (bF h_146) ?_
                      refine WL_off rfl rfl rfl (bF h_146) ?_
                      refine WL_off rfl rfl rfl (bF h_146) ?_
                      refine WL_off rfl rfl rfl (bF h_146) ?_
                      refine S_pick_f (bF h_146) rfl ?_
                      refine WL_nil ?_
                      refine W_cond_false rfl ?_
                      refine W_skip ?_
                      refine W_region ?_
                      refine S_move rfl ?_
                      refine S_add rfl rfl (by omega) rfl ?_
                      refine S_assign rfl ?_
                      refine WL_nil ?_
                      refine ⟨by repeat (first | refine agree_upd rfl ?_ | exact agree_mix rfl agree_refl | refine agree_mix rfl ?_), ?_⟩
                      exact ⟨_, by omega, k + 1, _, rfl, by omega, by first | exact nr_off s0 (by omega) (by assumption) (tabT hp_25 tk ti (by assumption)) | exact nr_keep s1 s0 (by omega) (fun hx => absurd hx (tabF hp_25 tk ti (by assumption))) | exact nr_keep s1 s0 (by omega) (fun _ => by assumption), rfl, rfl, rfl, trivial⟩
                  ·
                    have p_178 := h_125
                    try simp only [lrn] at p_178
                    refine W_exit ?_
                    refine W_seq ?_
                    refine W_region ?_
                    refine S_move rfl ?_
                    refine WL_nil ?_
                    refine W_cond rfl (fun h_179 => ?_) (fun h_179 => ?_)
                    ·
                      have p_180 := h_179
                      try simp only [lrn] at p_180
                      refine W_region ?_
                      refine S_move rfl ?_
                      refine S_move rfl ?_
                      refine S_move rfl ?_
                      refine S_index Try.runUnderlying26 Try.sizeOf3 h_115 rfl (by omega) (by omega) rfl ?_
                      intro b_181 o_182 cs_183 hi_184 hc_185 hb_186 hr_187
                      refine S_loadI Try.isAgg3 rfl hc_185 hr_187 rfl ?_
                      rintro ⟨r_188, r_189⟩
                      refine S_buildSlice Try.runUnderlying26 Try.sizeOf3 Try.zeroValue3 rfl rfl rfl rfl rfl rfl rfl ?_
                      intro b_190 w_191 e_192 z_193 z_194 ho_195
                      have hb_196 : w0.heap.size ≤ b_190 := by have := (E_110).size; omega
                      have n_197 : (w_36).heap.size ≤ b_190 := by have := (e_111).size; omega
                      have n_198 : b_190 ∉ bs_105 := fun h => by have := Acc.bs_lt ha_106 _ h; omega
                      have E_199 := Ext.stepO E_110 e_192 mem0
                      have c_200 := Ext.stepO e_111 e_192 mem0
                      have h_201 := Rep.mono (M' := b_190 :: M) _ h_114 e_192 mem0 (cons_fresh z_193)
                      have h_202 := Rep.mono (M' := b_190 :: M) _ h_115 e_192 mem0 (cons_fresh z_193)
                      have h_203 := Acc.ext (Acc.weak ha_106 (cons_fresh z_193)) e_192 mem0
                      have h_204 := Rep.mono (M' := b_190 :: M) _ hr_187 e_192 mem0 (cons_fresh z_193)
                      have hb_206 : b_181 ∉ b_190 :: M := ninC (by have := Cells.lt hc_185; omega) hb_186
                      have h_205 := Cells.ext hc_185 e_192 nin0
                      have ho_195 : Own _ _ _ [_] := ho_195
                      have h_207 := Acc.weak (M' := M) h_203 (fun x hx => .inl (List.mem_cons_of_mem _ hx))
                      have hr_208 := rd_ints (xs := [_]) (M := bs_105 ++ M) ho_195 (ninA n_198 (notin_old hM hb_196)) (by simp [InI]; omega) (by simp)
                      refine S_append Try.runUnderlying26 Try.typeInfo3 Try.sizeOf3 Try.zeroValue3 rfl h_207 hr_208 (by show _ * 8 ≤ _; simp; omega) (by decide) (fun x hx => Nat.lt_of_lt_of_le (hM x hx) (E_199).size) rfl ?_
                      intro v_209 w_210 bs_211 ha_212 e_213 hf_214
                      have hb_215 := fresh_bs hf_214 hb_107 (E_199).size
                      have rel_216 := rel_step hf_214 rel_108 (c_200).size
                      have E_217 := Ext.stepO E_199 e_213 (fun x hx => .inr (hb_107 x hx))
                      have c_218 := Ext.stepO c_200 e_213 (fun x hx => (rel_108 x hx).imp (fun h => by first | exact h | (cases h; done) | simp [h]) id)
                      have o_221 := Acc.val ha_212
                      obtain ⟨A_219, cap_220, rfl⟩ := o_221
                      skip
                      refine S_assign rfl ?_
                      refine WL_nil ?_
                      refine W_region ?_
                      refine S_move rfl ?_
                      refine S_add rfl rfl (by omega) rfl ?_
                      refine S_assign rfl ?_
                      refine WL_nil ?_
                      refine ⟨by repeat (first | refine agree_upd rfl ?_ | exact agree_mix rfl agree_refl | refine agree_mix rfl ?_), ?_⟩
                      exact ⟨_, by omega, i + 1, _, _, _, _, rfl, by omega, by omega, by first | omega | (simp; omega), by first | exact out_add hB v3 v0 (by omega) ((nr_near hB (by omega) s1 (by omega)).1 (by assumption)) | exact out_skip v3 v0 (by omega) (fun k => by have := (nr_near hB (by omega) s1 (by omega)).2 k; simp_all), E_217, c_218, ha_212, hb_215, rel_216, rfl, rfl, trivial⟩
                    ·
                      have p_222 := h_179
                      try simp only [lrn] at p_222
                      refine W_skip ?_
                      refine W_region ?_
                      refine S_move rfl ?_
                      refine S_add rfl rfl (by omega) rfl ?_
                      refine S_assign rfl ?_
                      refine WL_nil ?_
                      refine ⟨by repeat (first | refine agree_upd rfl ?_ | exact agree_mix rfl agree_refl | refine agree_mix rfl ?_), ?_⟩
                      exact ⟨_, by omega, i + 1, _, _, _, _, rfl, by omega, by omega, by first | omega | (simp; omega), by first | exact out_add hB v3 v0 (by omega) ((nr_near hB (by omega) s1 (by omega)).1 (by assumption)) | exact out_skip v3 v0 (by omega) (fun k => by have := (nr_near hB (by omega) s1 (by omega)).2 k; simp_all), E_110, e_111, ha_106, hb_107, rel_108, rfl, rfl, trivial⟩
              ·
                have p_223 := h_117
                try simp only [lrn] at p_223
                refine W_exit ?_
                refine W_seq ?_
                refine W_region ?_
                refine S_move rfl ?_
                refine S_assign rfl ?_
                refine WL_nil ?_
                refine W_ret ?_
                exact ⟨_, _, _, rfl, Acc.rd ha_106 (by omega), out_all ‹Right l› hB v3 (by omega), E_110⟩
end Go.Proofs.Ytpgegnmaophapaa
