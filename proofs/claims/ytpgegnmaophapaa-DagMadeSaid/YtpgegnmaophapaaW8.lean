/- The walks of a history's functions, printed by program. -/
import Derived.Test.YtpgegnmaophapaaW7
namespace Go.Proofs.Ytpgegnmaophapaa
open Go.Wk Classical
theorem common_ref_ok {M : List Nat} {w0 : World} {A : Option Addr} {cap : Nat} {l : List Commit} (h : (rSlice rCommit).rd M w0 [.slice A l.length cap] l) (hM : ∀ b ∈ M, b < w0.heap.size) (hl : l.length ≤ 60) (a b : Int) (hia : InI a) (hib : InI b) :
    CallR Try.prog 13 [.slice A l.length cap, .int .i64 a, .int .i64 b] w0 (fun v w' => ∃ L A cap, v = .slice A L.length cap ∧ (rSlice rInt).rd M w' [.slice A L.length cap] L ∧ NearL l a b L ∧ Ext [] w0 w') := by
  have ll := rSlice_len h
  refine Call1 Try.func13 rfl rfl rfl rfl ?_
  refine W_seq ?_
  refine W_region ?_
  refine S_assign rfl ?_
  refine WL_nil ?_
  refine W_seq ?_
  refine W_seq ?_
  refine W_region ?_
  refine S_move rfl ?_
  refine S_call Try.call21 rfl (right_ref_ok h) rfl ?_
  rintro _ _ ⟨rfl, hw_1⟩
  obtain rfl := hw_1.symm
  refine S_not rfl rfl ?_
  refine S_move rfl ?_
  refine WL_split (dj := 18) rfl (fun h_3 => ?_) (fun h_3 => ?_)
  ·
    have h_4 := h_3
    simp only [lrnN] at h_4
    have p_5 := h_4
    try simp only [lrn] at p_5
    refine WL_off rfl rfl rfl (nF h_4) ?_
    refine WL_off rfl rfl rfl (nF h_4) ?_
    refine WL_off rfl rfl rfl (nF h_4) ?_
    refine WL_off rfl rfl rfl (nF h_4) ?_
    refine S_pick_t (nF h_4) rfl ?_
    refine S_move rfl ?_
    refine WL_off rfl rfl rfl rfl ?_
    refine WL_off rfl rfl rfl rfl ?_
    refine WL_off rfl rfl rfl rfl ?_
    refine WL_off rfl rfl rfl rfl ?_
    refine S_pick_t rfl rfl ?_
    refine WL_nil ?_
    refine W_cond_true rfl ?_
    refine W_seq ?_
    refine W_region ?_
    refine S_assign rfl ?_
    refine WL_nil ?_
    refine W_ret ?_
    exact ⟨[], _, _, rfl, rd_nil, by first | exact nearL_no ‹¬ Right l› | exact nearL_a (by assumption) | exact nearL_b (by assumption), (Ext.refl [] w0)⟩
  ·
    have h_6 := h_3
    simp only [lrnN] at h_6
    have p_7 := h_6
    try simp only [lrn] at p_7
    refine WL_on rfl rfl (nT h_6) ?_
    refine S_move rfl ?_
    refine WL_on rfl rfl (nT h_6) ?_
    refine S_move rfl ?_
    refine WL_on rfl rfl (nT h_6) ?_
    refine S_call Try.call27 rfl (there_ref_ok h _) rfl ?_
    rintro _ _ ⟨rfl, hw_8⟩
    obtain rfl := hw_8.symm
    refine WL_on rfl rfl (nT h_6) ?_
    refine S_not rfl rfl ?_
    refine S_pick_f (nT h_6) rfl ?_
    refine S_move rfl ?_
    refine WL_split (dj := 24) rfl (fun h_10 => ?_) (fun h_10 => ?_)
    ·
      have h_11 := h_10
      simp only [lrnN] at h_11
      have p_12 := h_11
      try simp only [lrn] at p_12
      refine WL_off rfl rfl rfl (nF h_11) ?_
      refine WL_off rfl rfl rfl (nF h_11) ?_
      refine WL_off rfl rfl rfl (nF h_11) ?_
      refine WL_off rfl rfl rfl (nF h_11) ?_
      refine S_pick_t (nF h_11) rfl ?_
      refine WL_nil ?_
      refine W_cond_true rfl ?_
      refine W_seq ?_
      refine W_region ?_
      refine S_assign rfl ?_
      refine WL_nil ?_
      refine W_ret ?_
      exact ⟨[], _, _, rfl, rd_nil, by first | exact nearL_no ‹¬ Right l› | exact nearL_a (by assumption) | exact nearL_b (by assumption), (Ext.refl [] w0)⟩
    ·
      have h_13 := h_10
      simp only [lrnN] at h_13
      have p_14 := h_13
      try simp only [lrn] at p_14
      refine WL_on rfl rfl (nT h_13) ?_
      refine S_move rfl ?_
      refine WL_on rfl rfl (nT h_13) ?_
      refine S_move rfl ?_
      refine WL_on rfl rfl (nT h_13) ?_
      refine S_call Try.call27 rfl (there_ref_ok h _) rfl ?_
      rintro _ _ ⟨rfl, hw_15⟩
      obtain rfl := hw_15.symm
      refine WL_on rfl rfl (nT h_13) ?_
      refine S_not rfl rfl ?_
      refine S_pick_f (nT h_13) rfl ?_
      refine WL_nil ?_
      refine W_cond rfl (fun h_17 => ?_) (fun h_17 => ?_)
      ·
        have h_18 := h_17
        simp only [lrnN] at h_18
        have p_19 := h_18
        try simp only [lrn] at p_19
        refine W_seq ?_
        refine W_region ?_
        refine S_assign rfl ?_
        refine WL_nil ?_
        refine W_ret ?_
        exact ⟨[], _, _, rfl, rd_nil, by first | exact nearL_no ‹¬ Right l› | exact nearL_a (by assumption) | exact nearL_b (by assumption), (Ext.refl [] w0)⟩
      ·
        have h_20 := h_17
        simp only [lrnN] at h_20
        have p_21 := h_20
        try simp only [lrn] at p_21
        refine W_skip ?_
        refine W_seq ?_
        refine W_region ?_
        refine S_move rfl ?_
        have hz_29 := table_ok h hM ‹Right _› hl
        refine S_call Try.call28 rfl hz_29 rfl ?_
        rintro _ w_22 ⟨L_24, A_25, cap_26, rfl, hr_27, hp_28, e_23⟩
        have E_30 := Ext.stepO (Ext.refl [] w0) e_23 mem0
        have hl_31 := rSlice_len hr_27
        refine S_assign rfl ?_
        refine WL_nil ?_
        refine W_seq ?_
        refine W_region ?_
        refine S_move rfl ?_
        refine S_len Try.runUnderlying22 rfl rfl ?_
        refine S_assign rfl ?_
        refine WL_nil ?_
        refine W_seq ?_
        refine W_region ?_
        refine S_assign rfl ?_
        have ha_32 : Acc rInt M w_22 (.slice none 0 0) [] [] := Acc.nil
        refine WL_nil ?_
        refine W_seq ?_
        refine W_seq ?_
        refine W_region ?_
        refine S_assign rfl ?_
        refine WL_nil ?_
        refine W_block ?_
        refine W_loopF [9, 10, 34, 35, 36, 37, 38, 39, 40, 41, 42, 43, 44, 45, 46, 47, 48, 49, 50, 51, 52, 53, 54, 55, 56, 57, 58, 59, 60, 61, 62, 63, 64] (fun m f w => ∃ (n : Int) (xs : List Int) (A_33 : Option Addr) (cap_34 : Nat) (bs_35 : List Nat), m = (l.length + 1 - n).toNat ∧ 1 ≤ n ∧ n ≤ l.length + 1 ∧ (xs.length : Int) < n ∧ BothTo l a b n xs ∧ Ext [] w0 w ∧ Ext ([]) w_22 w ∧ Acc rInt M w (.slice A_33 xs.length cap_34) xs bs_35 ∧ (∀ b ∈ bs_35, w0.heap.size ≤ b) ∧ (∀ b ∈ bs_35, b ∈ [] ∨ (w_22).heap.size ≤ b) ∧ Live f [(10, .int .i64 n), (9, .slice A_33 xs.length cap_34)]) ?_ ?_
        · exact ⟨_, 1, [], _, _, _, rfl, by omega, by omega, by simp, bothTo_zero, E_30, (Ext.refl _ _), ha_32, mem0, rel_refl, rfl, rfl, trivial⟩
        ·
          rintro m g_43 w_39 ⟨n, xs, A_33, cap_34, bs_35, rfl, q0, q1, q2, q3, E_40, e_41, ha_36, hb_37, rel_38, hl_42⟩
          refine W_liveM hl_42 rfl ?_
          have h_44 := Rep.ext _ hr_27 e_41
          refine W_seq ?_
          refine W_seq ?_
          refine W_region ?_
          refine S_move rfl ?_
          refine S_move rfl ?_
          refine S_leq rfl rfl rfl ?_
          refine WL_nil ?_
          refine W_cond rfl (fun h_46 => ?_) (fun h_46 => ?_)
          ·
            have p_47 := h_46
            try simp only [lrn] at p_47
            refine W_skip ?_
            refine W_seq ?_
            refine W_block ?_
            refine W_seq ?_
            refine W_region ?_
            have ta : There l a := ‹_›
            have tb : There l b := ‹_›
            have tn : There l n := ⟨by omega, by omega⟩
            have ⟨a1, a2⟩ := ta
            have ⟨b1, b2⟩ := tb
            have m1 := mulq (a := a - 1) (n := l.length) (by omega) (by omega) (by omega) (by omega)
            have m2 := mulq (a := b - 1) (n := l.length) (by omega) (by omega) (by omega) (by omega)
            refine S_move rfl ?_
            refine S_move rfl ?_
            refine S_sub rfl rfl (by omega) rfl ?_
            refine S_move rfl ?_
            refine S_mul rfl rfl (by omega) rfl ?_
            refine S_move rfl ?_
            refine S_add rfl rfl (by omega) rfl ?_
            refine S_sub rfl rfl (by omega) rfl ?_
            refine S_index Try.runUnderlying44 Try.sizeOf4 h_44 rfl (tabq hp_28 ta tn).1 (tabq hp_28 ta tn).2.1 rfl ?_
            intro b_48 o_49 cs_50 hi_51 hc_52 hb_53 hr_54
            refine S_loadB Try.isAgg4 rfl hc_52 hr_54 rfl ?_
            refine S_move rfl ?_
            refine WL_split (dj := 49) rfl (fun h_56 => ?_) (fun h_56 => ?_)
            ·
              have p_57 := h_56
              try simp only [lrn] at p_57
              refine WL_on rfl rfl (bT h_56) ?_
              refine S_move rfl ?_
              refine WL_on rfl rfl (bT h_56) ?_
              refine S_move rfl ?_
              refine WL_on rfl rfl (bT h_56) ?_
              refine S_sub rfl rfl (by omega) rfl ?_
              refine WL_on rfl rfl (bT h_56) ?_
              refine S_move rfl ?_
              refine WL_on rfl rfl (bT h_56) ?_
              refine S_mul rfl rfl (by omega) rfl ?_
              refine WL_on rfl rfl (bT h_56) ?_
              refine S_move rfl ?_
              refine WL_on rfl rfl (bT h_56) ?_
              refine S_add rfl rfl (by omega) rfl ?_
              refine WL_on rfl rfl (bT h_56) ?_
              refine S_sub rfl rfl (by omega) rfl ?_
              refine WL_on rfl rfl (bT h_56) ?_
              refine S_index Try.runUnderlying44 Try.sizeOf4 h_44 rfl (tabq hp_28 tb tn).1 (tabq hp_28 tb tn).2.1 rfl ?_
              intro b_58 o_59 cs_60 hi_61 hc_62 hb_63 hr_64
              refine WL_on rfl rfl (bT h_56) ?_
              refine S_loadB Try.isAgg4 rfl hc_62 hr_64 rfl ?_
              refine S_pick_t (bT h_56) rfl ?_
              refine WL_nil ?_
              refine W_cond rfl (fun h_66 => ?_) (fun h_66 => ?_)
              ·
                have p_67 := h_66
                try simp only [lrn] at p_67
                refine W_region ?_
                refine S_move rfl ?_
                refine S_move rfl ?_
                refine S_buildSlice Try.runUnderlying26 Try.sizeOf3 Try.zeroValue3 rfl rfl rfl rfl rfl rfl rfl ?_
                intro b_68 w_69 e_70 z_71 z_72 ho_73
                have hb_74 : w0.heap.size ≤ b_68 := by have := (E_40).size; omega
                have n_75 : (w_22).heap.size ≤ b_68 := by have := (e_41).size; omega
                have n_76 : b_68 ∉ bs_35 := fun h => by have := Acc.bs_lt ha_36 _ h; omega
                have E_77 := Ext.stepO E_40 e_70 mem0
                have c_78 := Ext.stepO e_41 e_70 mem0
                have h_79 := Rep.mono (M' := b_68 :: M) _ h_44 e_70 mem0 (cons_fresh z_71)
                have h_80 := Acc.ext (Acc.weak ha_36 (cons_fresh z_71)) e_70 mem0
                have h_81 := Rep.mono (M' := b_68 :: M) _ hr_54 e_70 mem0 (cons_fresh z_71)
                have hb_83 : b_48 ∉ b_68 :: M := ninC (by have := Cells.lt hc_52; omega) hb_53
                have h_82 := Cells.ext hc_52 e_70 nin0
                have h_84 := Rep.mono (M' := b_68 :: M) _ hr_64 e_70 mem0 (cons_fresh z_71)
                have hb_86 : b_58 ∉ b_68 :: M := ninC (by have := Cells.lt hc_62; omega) hb_63
                have h_85 := Cells.ext hc_62 e_70 nin0
                have ho_73 : Own _ _ _ [_] := ho_73
                have h_87 := Acc.weak (M' := M) h_80 (fun x hx => .inl (List.mem_cons_of_mem _ hx))
                have hr_88 := rd_ints (xs := [_]) (M := bs_35 ++ M) ho_73 (ninA n_76 (notin_old hM hb_74)) (by simp [InI]; omega) (by simp)
                refine S_append Try.runUnderlying26 Try.typeInfo3 Try.sizeOf3 Try.zeroValue3 rfl h_87 hr_88 (by show _ * 8 ≤ _; simp; omega) (by decide) (fun x hx => Nat.lt_of_lt_of_le (hM x hx) (E_77).size) rfl ?_
                intro v_89 w_90 bs_91 ha_92 e_93 hf_94
                have hb_95 := fresh_bs hf_94 hb_37 (E_77).size
                have rel_96 := rel_step hf_94 rel_38 (c_78).size
                have E_97 := Ext.stepO E_77 e_93 (fun x hx => .inr (hb_37 x hx))
                have c_98 := Ext.stepO c_78 e_93 (fun x hx => (rel_38 x hx).imp (fun h => by first | exact h | (cases h; done) | simp [h]) id)
                have o_101 := Acc.val ha_92
                obtain ⟨A_99, cap_100, rfl⟩ := o_101
                refine S_assign rfl ?_
                refine WL_nil ?_
                refine W_region ?_
                refine S_move rfl ?_
                refine S_add rfl rfl (by omega) rfl ?_
                refine S_assign rfl ?_
                refine WL_nil ?_
                refine ⟨by repeat (first | refine agree_upd rfl ?_ | exact agree_mix rfl agree_refl | refine agree_mix rfl ?_), ?_⟩
                exact ⟨_, by omega, n + 1, _, _, _, _, rfl, by omega, by omega, by first | omega | (simp; omega), by first | exact bothTo_add q3 (tabT hp_28 ta tn (by assumption)) (tabT hp_28 tb tn (by assumption)) | exact bothTo_skip q3 (fun k => absurd k.1 (tabF hp_28 ta tn (by assumption))) | exact bothTo_skip q3 (fun k => absurd k.2 (tabF hp_28 tb tn (by assumption))), E_97, c_98, ha_92, hb_95, rel_96, rfl, rfl, trivial⟩
              ·
                have p_102 := h_66
                try simp only [lrn] at p_102
                refine W_skip ?_
                refine W_region ?_
                refine S_move rfl ?_
                refine S_add rfl rfl (by omega) rfl ?_
                refine S_assign rfl ?_
                refine WL_nil ?_
                refine ⟨by repeat (first | refine agree_upd rfl ?_ | exact agree_mix rfl agree_refl | refine agree_mix rfl ?_), ?_⟩
                exact ⟨_, by omega, n + 1, _, _, _, _, rfl, by omega, by omega, by first | omega | (simp; omega), by first | exact bothTo_add q3 (tabT hp_28 ta tn (by assumption)) (tabT hp_28 tb tn (by assumption)) | exact bothTo_skip q3 (fun k => absurd k.1 (tabF hp_28 ta tn (by assumption))) | exact bothTo_skip q3 (fun k => absurd k.2 (tabF hp_28 tb tn (by assumption))), E_40, e_41, ha_36, hb_37, rel_38, rfl, rfl, trivial⟩
            ·
              have p_103 := h_56
              try simp only [lrn] at p_103
              refine WL_off rfl rfl rfl (bF h_56) ?_
              refine WL_off rfl rfl rfl (bF h_56) ?_
              refine WL_off rfl rfl rfl (bF h_56) ?_
              refine WL_off rfl rfl rfl (bF h_56) ?_
              refine WL_off rfl rfl rfl (bF h_56) ?_
              refine WL_off rfl rfl rfl (bF h_56) ?_
              refine WL_off rfl rfl rfl (bF h_56) ?_
              refine WL_off rfl rfl rfl (bF h_56) ?_
              refine WL_off rfl rfl rfl (bF h_56) ?_
              refine WL_off rfl rfl rfl (bF h_56) ?_
              refine S_pick_f (bF h_56) rfl ?_
              refine WL_nil ?_
              refine W_cond_false rfl ?_
              refine W_skip ?_
              refine W_region ?_
              refine S_move rfl ?_
              refine S_add rfl rfl (by omega) rfl ?_
              refine S_assign rfl ?_
              refine WL_nil ?_
              refine ⟨by repeat (first | refine agree_upd rfl ?_ | exact agree_mix rfl agree_refl | refine agree_mix rfl ?_), ?_⟩
              exact ⟨_, by omega, n + 1, _, _, _, _, rfl, by omega, by omega, by first | omega | (simp; omega), by first | exact bothTo_add q3 (tabT hp_28 ta tn (by assumption)) (tabT hp_28 tb tn (by assumption)) | exact bothTo_skip q3 (fun k => absurd k.1 (tabF hp_28 ta tn (by assumption))) | exact bothTo_skip q3 (fun k => absurd k.2 (tabF hp_28 tb tn (by assumption))), E_40, e_41, ha_36, hb_37, rel_38, rfl, rfl, trivial⟩
          ·
            have p_104 := h_46
            try simp only [lrn] at p_104
            refine W_exit ?_
            refine W_seq ?_
            refine W_region ?_
            have hX := Acc.rd ha_36 (by omega)
            have hB := bothTo_all q3 (by omega)
            refine S_assign rfl ?_
            have ha_105 : Acc rInt M w_39 (.slice none 0 0) [] [] := Acc.nil
            refine WL_nil ?_
            refine W_seq ?_
            refine W_seq ?_
            refine W_region ?_
            refine S_assign rfl ?_
            refine WL_nil ?_
            refine W_block ?_
            refine W_loopF [11, 12, 13, 14, 65, 66, 67, 68, 69, 70, 71, 72, 73, 74, 75, 76, 77, 78, 79, 80, 81, 82, 83, 84, 85, 86, 87, 88, 89, 90, 91, 92, 93, 94, 95, 96, 97, 98, 99, 100, 101, 102, 103, 104, 105, 106, 107, 108, 109, 110, 111] (fun m f w => ∃ (i : Int) (ys : List Int) (A_106 : Option Addr) (cap_107 : Nat) (bs_108 : List Nat), m = (xs.length - i).toNat ∧ 0 ≤ i ∧ i ≤ xs.length ∧ (ys.length : Int) ≤ i ∧ OutTo l a b xs i ys ∧ Ext [] w0 w ∧ Ext ([]) w_39 w ∧ Acc rInt M w (.slice A_106 ys.length cap_107) ys bs_108 ∧ (∀ b ∈ bs_108, w0.heap.size ≤ b) ∧ (∀ b ∈ bs_108, b ∈ [] ∨ (w_39).heap.size ≤ b) ∧ Live f [(12, .int .i64 i), (11, .slice A_106 ys.length cap_107)]) ?_ ?_
            · exact ⟨_, 0, [], _, _, _, rfl, by omega, by omega, by simp, outTo_zero, E_40, (Ext.refl _ _), ha_105, mem0, rel_refl, rfl, rfl, trivial⟩
            ·
              rintro m g_116 w_112 ⟨i, ys, A_106, cap_107, bs_108, rfl, v0, v1, v2, v3, E_113, e_114, ha_109, hb_110, rel_111, hl_115⟩
              refine W_liveM hl_115 rfl ?_
              have h_117 := Rep.ext _ h_44 e_114
              have h_118 := Rep.ext _ hX e_114
              refine W_seq ?_
              refine W_seq ?_
              refine W_region ?_
              refine S_move rfl ?_
              refine S_move rfl ?_
              refine S_len Try.runUnderlying26 rfl rfl ?_
              refine S_lss rfl rfl rfl ?_
              refine WL_nil ?_
              refine W_cond rfl (fun h_120 => ?_) (fun h_120 => ?_)
              ·
                have p_121 := h_120
                try simp only [lrn] at p_121
                refine W_skip ?_
                refine W_seq ?_
                refine W_block ?_
                refine W_seq ?_
                refine W_region ?_
                refine S_assign rfl ?_
                refine WL_nil ?_
                refine W_seq ?_
                refine W_seq ?_
                refine W_region ?_
                refine S_assign rfl ?_
                refine WL_nil ?_
                refine W_block ?_
                refine W_loopF [13, 14, 71, 72, 73, 74, 75, 76, 77, 78, 79, 80, 81, 82, 83, 84, 85, 86, 87, 88, 89, 90, 91, 92, 93, 94, 95, 96, 97, 98, 99, 100, 101, 102, 103] (fun m f w => ∃ (k : Int) (p : Bool), m = (xs.length - k).toNat ∧ 0 ≤ k ∧ p = decide (NrTo l xs xs[i.toNat] k) ∧ w_112 = w ∧ Live f [(14, .int .i64 k), (13, .bool p)]) ?_ ?_
                · exact ⟨_, 0, _, rfl, by omega, nr0, rfl, rfl, rfl, trivial⟩
                ·
                  rintro m g_125 _ ⟨k, p, rfl, s0, s1, rfl, hl_124⟩
                  refine W_liveM hl_124 rfl ?_
                  refine W_seq ?_
                  refine W_seq ?_
                  refine W_region ?_
                  refine S_move rfl ?_
                  refine S_move rfl ?_
                  refine S_len Try.runUnderlying26 rfl rfl ?_
                  refine S_lss rfl rfl rfl ?_
                  refine WL_nil ?_
                  refine W_cond rfl (fun h_128 => ?_) (fun h_128 => ?_)
                  ·
                    have p_129 := h_128
                    try simp only [lrn] at p_129
                    refine W_skip ?_
                    refine W_seq ?_
                    refine W_block ?_
                    refine W_seq ?_
                    refine W_region_quiet rfl (by decide +kernel) ?_
                    refine S_move rfl ?_
                    refine S_move rfl ?_
                    refine S_index Try.runUnderlying26 Try.sizeOf3 h_118 rfl (by omega) (by omega) rfl ?_
                    intro b_130 o_131 cs_132 hi_133 hc_134 hb_135 hr_136
                    refine S_loadI Try.isAgg3 rfl hc_134 hr_136 rfl ?_
                    rintro ⟨r_137, r_138⟩
                    refine S_move rfl ?_
                    refine S_move rfl ?_
                    refine S_index Try.runUnderlying26 Try.sizeOf3 h_118 rfl (by omega) (by omega) rfl ?_
                    intro b_139 o_140 cs_141 hi_142 hc_143 hb_144 hr_145
                    refine S_loadI Try.isAgg3 rfl hc_143 hr_145 rfl ?_
                    rintro ⟨r_146, r_147⟩
                    refine S_neq rfl rfl rfl ?_
                    refine S_move rfl ?_
                    refine WL_split (dj := 86) rfl (fun h_149 => ?_) (fun h_149 => ?_)
                    ·
                      have p_150 := h_149
                      try simp only [lrn] at p_150
                      refine WL_on rfl rfl (bT h_149) ?_
                      refine S_move rfl ?_
                      refine WL_on rfl rfl (bT h_149) ?_
                      refine S_move rfl ?_
                      refine WL_on rfl rfl (bT h_149) ?_
                      refine S_move rfl ?_
                      refine WL_on rfl rfl (bT h_149) ?_
                      refine S_index Try.runUnderlying26 Try.sizeOf3 h_118 rfl (by omega) (by omega) rfl ?_
                      intro b_151 o_152 cs_153 hi_154 hc_155 hb_156 hr_157
                      refine WL_on rfl rfl (bT h_149) ?_
                      refine S_loadI Try.isAgg3 rfl hc_155 hr_157 rfl ?_
                      rintro ⟨r_158, r_159⟩
                      refine WL_on rfl rfl (bT h_149) ?_
                      have tk : There l xs[k.toNat] := ((hB.2 _).1 (List.getElem_mem (by omega))).1.there.2
                      have ti : There l xs[i.toNat] := ((hB.2 _).1 (List.getElem_mem (by omega))).1.there.2
                      have ⟨k1, k2⟩ := tk
                      have ⟨i1, i2⟩ := ti
                      have m3 := mulq (a := xs[k.toNat] - 1) (n := l.length) (by omega) (by omega) (by omega) (by omega)
                      refine S_sub rfl rfl (by omega) rfl ?_
                      refine WL_on rfl rfl (bT h_149) ?_
                      refine S_move rfl ?_
                      refine WL_on rfl rfl (bT h_149) ?_
                      refine S_mul rfl rfl (by omega) rfl ?_
                      refine WL_on rfl rfl (bT h_149) ?_
                      refine S_move rfl ?_
                      refine WL_on rfl rfl (bT h_149) ?_
                      refine S_move rfl ?_
                      refine WL_on rfl rfl (bT h_149) ?_
                      refine S_index Try.runUnderlying26 Try.sizeOf3 h_118 rfl (by omega) (by omega) rfl ?_
                      intro b_160 o_161 cs_162 hi_163 hc_164 hb_165 hr_166
                      refine WL_on rfl rfl (bT h_149) ?_
                      refine S_loadI Try.isAgg3 rfl hc_164 hr_166 rfl ?_
                      rintro ⟨r_167, r_168⟩
                      refine WL_on rfl rfl (bT h_149) ?_
                      refine S_add rfl rfl (by omega) rfl ?_
                      refine WL_on rfl rfl (bT h_149) ?_
                      refine S_sub rfl rfl (by omega) rfl ?_
                      refine WL_on rfl rfl (bT h_149) ?_
                      refine S_index Try.runUnderlying44 Try.sizeOf4 h_117 rfl (tabq hp_28 tk ti).1 (tabq hp_28 tk ti).2.1 rfl ?_
                      intro b_169 o_170 cs_171 hi_172 hc_173 hb_174 hr_175
                      refine WL_on rfl rfl (bT h_149) ?_
                      refine S_loadB Try.isAgg4 rfl hc_173 hr_175 rfl ?_
                      refine S_pick_t (bT h_149) rfl ?_
                      refine WL_nil ?_
                      refine W_cond rfl (fun h_177 => ?_) (fun h_177 => ?_)
                      ·
                        have p_178 := h_177
                        try simp only [lrn] at p_178
                        refine W_region ?_
                        refine S_assign rfl ?_
                        refine WL_nil ?_
                        refine W_region ?_
                        refine S_move rfl ?_
                        refine S_add rfl rfl (by omega) rfl ?_
                        refine S_assign rfl ?_
                        refine WL_nil ?_
                        refine ⟨by repeat (first | refine agree_upd rfl ?_ | exact agree_mix rfl agree_refl | refine agree_mix rfl ?_), ?_⟩
                        exact ⟨_, by omega, k + 1, _, rfl, by omega, by first | exact nr_off s0 (by omega) (by assumption) (tabT hp_28 tk ti (by assumption)) | exact nr_keep s1 s0 (by omega) (fun hx => absurd hx (tabF hp_28 tk ti (by assumption))) | exact nr_keep s1 s0 (by omega) (fun _ => by assumption), rfl, rfl, rfl, trivial⟩
                      ·
                        have p_179 := h_177
                        try simp only [lrn] at p_179
                        refine W_skip ?_
                        refine W_region ?_
                        refine S_move rfl ?_
                        refine S_add rfl rfl (by omega) rfl ?_
                        refine S_assign rfl ?_
                        refine WL_nil ?_
                        refine ⟨by repeat (first | refine agree_upd rfl ?_ | exact agree_mix rfl agree_refl | refine agree_mix rfl ?_), ?_⟩
                        exact ⟨_, by omega, k + 1, _, rfl, by omega, by first | exact nr_off s0 (by omega) (by assumption) (tabT hp_28 tk ti (by assumption)) | exact nr_keep s1 s0 (by omega) (fun hx => absurd hx (tabF hp_28 tk ti (by assumption))) | exact nr_keep s1 s0 (by omega) (fun _ => by assumption), rfl, rfl, rfl, trivial⟩
                    ·
                      have p_180 := h_149
                      try simp only [lrn] at p_180
                      refine WL_off rfl rfl rfl (bF h_149) ?_
                      refine WL_off rfl rfl rfl (bF h_149) ?_
                      refine WL_off rfl rfl rfl (bF h_149) ?_
                      refine WL_off rfl rfl rfl (bF h_149) ?_
                      refine WL_off rfl rfl rfl (bF h_149) ?_
                      refine WL_off rfl rfl rfl (bF h_149) ?_
                      refine WL_off rfl rfl rfl (bF h_149) ?_
                      refine WL_off rfl rfl rfl (bF h_149) ?_
                      refine WL_off rfl rfl rfl (bF h_149) ?_
                      refine WL_off rfl rfl rfl (bF h_149) ?_
                      refine WL_off rfl rfl rfl (bF h_149) ?_
                      refine WL_off rfl rfl rfl (bF h_149) ?_
                      refine WL_off rfl rfl rfl (bF h_149) ?_
                      refine WL_off rfl rfl rfl (bF h_149) ?_
                      refine WL_off rfl rfl rfl (bF h_149) ?_
                      refine WL_off rfl rfl rfl (bF h_149) ?_
                      refine S_pick_f (bF h_149) rfl ?_
                      refine WL_nil ?_
                      refine W_cond_false rfl ?_
                      refine W_skip ?_
                      refine W_region ?_
                      refine S_move rfl ?_
                      refine S_add rfl rfl (by omega) rfl ?_
                      refine S_assign rfl ?_
                      refine WL_nil ?_
                      refine ⟨by repeat (first | refine agree_upd rfl ?_ | exact agree_mix rfl agree_refl | refine agree_mix rfl ?_), ?_⟩
                      exact ⟨_, by omega, k + 1, _, rfl, by omega, by first | exact nr_off s0 (by omega) (by assumption) (tabT hp_28 tk ti (by assumption)) | exact nr_keep s1 s0 (by omega) (fun hx => absurd hx (tabF hp_28 tk ti (by assumption))) | exact nr_keep s1 s0 (by omega) (fun _ => by assumption), rfl, rfl, rfl, trivial⟩
                  ·
                    have p_181 := h_128
                    try simp only [lrn] at p_181
                    refine W_exit ?_
                    refine W_seq ?_
                    refine W_region ?_
                    refine S_move rfl ?_
                    refine WL_nil ?_
                    refine W_cond rfl (fun h_182 => ?_) (fun h_182 => ?_)
                    ·
                      have p_183 := h_182
                      try simp only [lrn] at p_183
                      refine W_region ?_
                      refine S_move rfl ?_
                      refine S_move rfl ?_
                      refine S_move rfl ?_
                      refine S_index Try.runUnderlying26 Try.sizeOf3 h_118 rfl (by omega) (by omega) rfl ?_
                      intro b_184 o_185 cs_186 hi_187 hc_188 hb_189 hr_190
                      refine S_loadI Try.isAgg3 rfl hc_188 hr_190 rfl ?_
                      rintro ⟨r_191, r_192⟩
                      refine S_buildSlice Try.runUnderlying26 Try.sizeOf3 Try.zeroValue3 rfl rfl rfl rfl rfl rfl rfl ?_
                      intro b_193 w_194 e_195 z_196 z_197 ho_198
                      have hb_199 : w0.heap.size ≤ b_193 := by have := (E_113).size; omega
                      have n_200 : (w_39).heap.size ≤ b_193 := by have := (e_114).size; omega
                      have n_201 : b_193 ∉ bs_108 := fun h => by have := Acc.bs_lt ha_109 _ h; omega
                      have E_202 := Ext.stepO E_113 e_195 mem0
                      have c_203 := Ext.stepO e_114 e_195 mem0
                      have h_204 := Rep.mono (M' := b_193 :: M) _ h_117 e_195 mem0 (cons_fresh z_196)
                      have h_205 := Rep.mono (M' := b_193 :: M) _ h_118 e_195 mem0 (cons_fresh z_196)
                      have h_206 := Acc.ext (Acc.weak ha_109 (cons_fresh z_196)) e_195 mem0
                      have h_207 := Rep.mono (M' := b_193 :: M) _ hr_190 e_195 mem0 (cons_fresh z_196)
                      have hb_209 : b_184 ∉ b_193 :: M := ninC (by have := Cells.lt hc_188; omega) hb_189
                      have h_208 := Cells.ext hc_188 e_195 nin0
                      have ho_198 : Own _ _ _ [_] := ho_198
                      have h_210 := Acc.weak (M' := M) h_206 (fun x hx => .inl (List.mem_cons_of_mem _ hx))
                      have hr_211 := rd_ints (xs := [_]) (M := bs_108 ++ M) ho_198 (ninA n_201 (notin_old hM hb_199)) (by simp [InI]; omega) (by simp)
                      refine S_append Try.runUnderlying26 Try.typeInfo3 Try.sizeOf3 Try.zeroValue3 rfl h_210 hr_211 (by show _ * 8 ≤ _; simp; omega) (by decide) (fun x hx => Nat.lt_of_lt_of_le (hM x hx) (E_202).size) rfl ?_
                      intro v_212 w_213 bs_214 ha_215 e_216 hf_217
                      have hb_218 := fresh_bs hf_217 hb_110 (E_202).size
                      have rel_219 := rel_step hf_217 rel_111 (c_203).size
                      have E_220 := Ext.stepO E_202 e_216 (fun x hx => .inr (hb_110 x hx))
                      have c_221 := Ext.stepO c_203 e_216 (fun x hx => (rel_111 x hx).imp (fun h => by first | exact h | (cases h; done) | simp [h]) id)
                      have o_224 := Acc.val ha_215
                      obtain ⟨A_222, cap_223, rfl⟩ := o_224
                      skip
                      refine S_assign rfl ?_
                      refine WL_nil ?_
                      refine W_region ?_
                      refine S_move rfl ?_
                      refine S_add rfl rfl (by omega) rfl ?_
                      refine S_assign rfl ?_
                      refine WL_nil ?_
                      refine ⟨by repeat (first | refine agree_upd rfl ?_ | exact agree_mix rfl agree_refl | refine agree_mix rfl ?_), ?_⟩
                      exact ⟨_, by omega, i + 1, _, _, _, _, rfl, by omega, by omega, by first | omega | (simp; omega), by first | exact out_add hB v3 v0 (by omega) ((nr_near hB (by omega) s1 (by omega)).1 (by assumption)) | exact out_skip v3 v0 (by omega) (fun k => by have := (nr_near hB (by omega) s1 (by omega)).2 k; simp_all), E_220, c_221, ha_215, hb_218, rel_219, rfl, rfl, trivial⟩
                    ·
                      have p_225 := h_182
                      try simp only [lrn] at p_225
                      refine W_skip ?_
                      refine W_region ?_
                      refine S_move rfl ?_
                      refine S_add rfl rfl (by omega) rfl ?_
                      refine S_assign rfl ?_
                      refine WL_nil ?_
                      refine ⟨by repeat (first | refine agree_upd rfl ?_ | exact agree_mix rfl agree_refl | refine agree_mix rfl ?_), ?_⟩
                      exact ⟨_, by omega, i + 1, _, _, _, _, rfl, by omega, by omega, by first | omega | (simp; omega), by first | exact out_add hB v3 v0 (by omega) ((nr_near hB (by omega) s1 (by omega)).1 (by assumption)) | exact out_skip v3 v0 (by omega) (fun k => by have := (nr_near hB (by omega) s1 (by omega)).2 k; simp_all), E_113, e_114, ha_109, hb_110, rel_111, rfl, rfl, trivial⟩
              ·
                have p_226 := h_120
                try simp only [lrn] at p_226
                refine W_exit ?_
                refine W_seq ?_
                refine W_region ?_
                refine S_move rfl ?_
                refine S_assign rfl ?_
                refine WL_nil ?_
                refine W_ret ?_
                exact ⟨_, _, _, rfl, Acc.rd ha_109 (by omega), out_all ‹Right l› hB v3 (by omega), E_113⟩
end Go.Proofs.Ytpgegnmaophapaa
