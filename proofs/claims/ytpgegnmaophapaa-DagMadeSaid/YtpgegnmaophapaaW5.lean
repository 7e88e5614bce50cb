/- The walks of a history's functions, printed by program. -/
import Derived.Test.YtpgegnmaophapaaW4
namespace Go.Proofs.Ytpgegnmaophapaa
open Go.Wk Classical
theorem anc_ok {M : List Nat} {w0 : World} {A : Option Addr} {cap : Nat} {l : List Commit} (h : (rSlice rCommit).rd M w0 [.slice A l.length cap] l) (hM : ∀ b ∈ M, b < w0.heap.size) (hl : l.length ≤ 60) {A' : Option Addr} {cap' : Nat} {ids : List Int} (hi : (rSlice rInt).rd M w0 [.slice A' ids.length cap'] ids) :
    CallR Try.prog 23 [.slice A l.length cap, .slice A' ids.length cap'] w0 (fun v w' => ∃ L A cap, v = .slice A L.length cap ∧ (rSlice rInt).rd M w' [.slice A L.length cap] L ∧ AncL l ids L ∧ Ext [] w0 w') := by
  have ll := rSlice_len h
  refine Call1 Try.func23 rfl rfl rfl rfl ?_
  refine W_seq ?_
  refine W_region ?_
  refine S_assign rfl ?_
  refine WL_nil ?_
  refine W_seq ?_
  refine W_seq ?_
  refine W_region ?_
  refine S_move rfl ?_
  refine S_call Try.call20 rfl (right_ok h) rfl ?_
  rintro _ w_1 ⟨rfl, e_2⟩
  have E_3 := Ext.stepO (Ext.refl [] w0) e_2 mem0
  refine S_not rfl rfl ?_
  refine WL_nil ?_
  refine W_cond rfl (fun h_5 => ?_) (fun h_5 => ?_)
  ·
    have h_6 := h_5
    simp only [lrnN] at h_6
    have p_7 := h_6
    try simp only [lrn] at p_7
    refine W_seq ?_
    refine W_region ?_
    refine S_assign rfl ?_
    refine WL_nil ?_
    refine W_ret ?_
    exact ⟨[], _, _, rfl, rd_nil, ancL_no ‹¬ Right l›, E_3⟩
  ·
    have h_8 := h_5
    simp only [lrnN] at h_8
    have p_9 := h_8
    try simp only [lrn] at p_9
    refine W_skip ?_
    refine W_seq ?_
    refine W_region ?_
    refine S_move rfl ?_
    refine S_move rfl ?_
    have h_10 := Rep.ext _ h E_3
    have h_11 := Rep.ext _ hi E_3
    have hz_19 := reached_ok h_10 h_11 ‹Right _›
    refine S_call Try.call25 rfl hz_19 rfl ?_
    rintro _ w_14 ⟨bm_12, S_13, rfl, hm_15, hz_19, hS_17, e_18⟩
    have hb_20 : w0.heap.size ≤ bm_12 := by have := (E_3).size; omega
    have E_21 := Ext.stepO E_3 e_18 mem0
    have th_22 : ∀ x ∈ S_13, There l x := ids_there hS_17
    refine S_call Try.call26 rfl (rising_ok (M := bm_12 :: M) (memC (hm_15.lt) (fun x hx => Nat.lt_of_lt_of_le (hM x hx) (E_21).size)) hm_15 (fun x hx => there_in hl (th_22 x hx)) (set_small hl hm_15 th_22)) rfl ?_
    rintro _ w_23 ⟨L_25, A_26, cap_27, rfl, hr_28, hp_29, e_24⟩
    have E_30 := Ext.stepO E_21 e_24 mem0
    have h_31 := hm_15.ext e_24 nin0
    have hl_32 := rSlice_len hr_28
    refine S_assign rfl ?_
    refine WL_nil ?_
    refine W_ret ?_
    exact ⟨_, _, _, rfl, Rep.mono (M' := M) _ hr_28 (Ext.refl [] _) mem0 (fun x hx => .inl (by simp [hx])), ancL_yes ‹Right l› hp_29 hS_17, E_30⟩
theorem anc_ref_ok {M : List Nat} {w0 : World} {A : Option Addr} {cap : Nat} {l : List Commit} (h : (rSlice rCommit).rd M w0 [.slice A l.length cap] l) (hM : ∀ b ∈ M, b < w0.heap.size) (hl : l.length ≤ 60) {A' : Option Addr} {cap' : Nat} {ids : List Int} (hi : (rSlice rInt).rd M w0 [.slice A' ids.length cap'] ids) :
    CallR Try.prog 24 [.slice A l.length cap, .slice A' ids.length cap'] w0 (fun v w' => ∃ L A cap, v = .slice A L.length cap ∧ (rSlice rInt).rd M w' [.slice A L.length cap] L ∧ AncL l ids L ∧ Ext [] w0 w') := by
  have ll := rSlice_len h
  have li := rSlice_len hi
  refine Call1 Try.func24 rfl rfl rfl rfl ?_
  refine W_seq ?_
  refine W_region ?_
  refine S_assign rfl ?_
  refine WL_nil ?_
  refine W_seq ?_
  refine W_region ?_
  refine S_assign rfl ?_
  have ha_1 : Acc rInt M w0 (.slice none 0 0) [] [] := Acc.nil
  refine WL_nil ?_
  refine W_seq ?_
  refine W_seq ?_
  refine W_region ?_
  refine S_move rfl ?_
  refine S_call Try.call21 rfl (right_ref_ok h) rfl ?_
  rintro _ _ ⟨rfl, hw_2⟩
  obtain rfl := hw_2.symm
  refine S_not rfl rfl ?_
  refine WL_nil ?_
  refine W_cond rfl (fun h_4 => ?_) (fun h_4 => ?_)
  ·
    have h_5 := h_4
    simp only [lrnN] at h_5
    have p_6 := h_5
    try simp only [lrn] at p_6
    refine W_seq ?_
    refine W_region ?_
    refine S_assign rfl ?_
    refine WL_nil ?_
    refine W_ret ?_
    exact ⟨[], _, _, rfl, rd_nil, ancL_no ‹¬ Right l›, (Ext.refl [] w0)⟩
  ·
    have h_7 := h_4
    simp only [lrnN] at h_7
    have p_8 := h_7
    try simp only [lrn] at p_8
    refine W_skip ?_
    refine W_seq ?_
    refine W_region ?_
    refine S_move rfl ?_
    have hz_16 := table_ok h hM ‹Right _› hl
    refine S_call Try.call28 rfl hz_16 rfl ?_
    rintro _ w_9 ⟨L_11, A_12, cap_13, rfl, hr_14, hp_15, e_10⟩
    have E_17 := Ext.stepO (Ext.refl [] w0) e_10 mem0
    have hl_18 := rSlice_len hr_14
    refine S_assign rfl ?_
    refine WL_nil ?_
    refine W_seq ?_
    refine W_seq ?_
    refine W_region ?_
    refine S_assign rfl ?_
    refine WL_nil ?_
    refine W_block ?_
    refine W_loopF [5, 7, 8, 9, 15, 16, 17, 18, 19, 20, 21, 22, 23, 24, 25, 26, 27, 28, 29, 30, 31, 32, 33, 34, 35, 36, 37, 38, 39, 40, 41, 42, 43, 44, 45, 46, 47, 48, 49, 50, 51, 52, 53, 54, 55, 56] (fun m f w => ∃ (n : Int) (xs : List Int) (A_19 : Option Addr) (cap_20 : Nat) (bs_21 : List Nat), m = (l.length + 1 - n).toNat ∧ 1 ≤ n ∧ n ≤ l.length + 1 ∧ (xs.length : Int) < n ∧ AncTo l ids n xs ∧ Ext [] w0 w ∧ Ext ([]) w_9 w ∧ Acc rInt M w (.slice A_19 xs.length cap_20) xs bs_21 ∧ (∀ b ∈ bs_21, w0.heap.size ≤ b) ∧ (∀ b ∈ bs_21, b ∈ [] ∨ (w_9).heap.size ≤ b) ∧ Live f [(7, .int .i64 n), (5, .slice A_19 xs.length cap_20)]) ?_ ?_
    · exact ⟨_, 1, [], _, _, _, rfl, by omega, by omega, by simp, ancTo_zero, E_17, (Ext.refl _ _), Acc.nil, mem0, rel_refl, rfl, rfl, trivial⟩
    ·
      rintro m g_29 w_25 ⟨n, xs, A_19, cap_20, bs_21, rfl, q0, q1, q2, q3, E_26, e_27, ha_22, hb_23, rel_24, hl_28⟩
      refine W_liveM hl_28 rfl ?_
      have h_30 := Rep.ext _ hr_14 e_27
      refine W_seq ?_
      refine W_seq ?_
      refine W_region ?_
      refine S_move rfl ?_
      refine S_move rfl ?_
      refine S_len Try.runUnderlying22 rfl rfl ?_
      refine S_leq rfl rfl rfl ?_
      refine WL_nil ?_
      refine W_cond rfl (fun h_32 => ?_) (fun h_32 => ?_)
      ·
        have p_33 := h_32
        try simp only [lrn] at p_33
        refine W_skip ?_
        refine W_seq ?_
        refine W_block ?_
        refine W_seq ?_
        refine W_region ?_
        refine S_assign rfl ?_
        refine WL_nil ?_
        refine W_seq ?_
        refine W_seq ?_
        refine W_region ?_
        refine S_assign rfl ?_
        refine WL_nil ?_
        refine W_block ?_
        refine W_loopF [8, 9, 21, 22, 23, 24, 25, 26, 27, 28, 29, 30, 31, 32, 33, 34, 35, 36, 37, 38, 39, 40, 41, 42, 43, 44, 45, 46, 47, 48, 49, 50, 51] (fun m f w => ∃ (i : Int) (p : Bool), m = (ids.length - i).toNat ∧ 0 ≤ i ∧ p = decide (Some1 l ids i n) ∧ w_25 = w ∧ Live f [(9, .int .i64 i), (8, .bool p)]) ?_ ?_
        · exact ⟨_, 0, _, rfl, by omega, by exact anc0, rfl, rfl, rfl, trivial⟩
        ·
          rintro m g_37 _ ⟨i, p, rfl, s0, s1, rfl, hl_36⟩
          refine W_liveM hl_36 rfl ?_
          refine W_seq ?_
          refine W_seq ?_
          refine W_region ?_
          refine S_move rfl ?_
          refine S_move rfl ?_
          refine S_len Try.runUnderlying26 rfl rfl ?_
          refine S_lss rfl rfl rfl ?_
          refine WL_nil ?_
          refine W_cond rfl (fun h_40 => ?_) (fun h_40 => ?_)
          ·
            have p_41 := h_40
            try simp only [lrn] at p_41
            refine W_skip ?_
            refine W_seq ?_
            refine W_block ?_
            refine W_region ?_
            refine S_move rfl ?_
            refine S_move rfl ?_
            refine WL_split (dj := 28) rfl (fun h_42 => ?_) (fun h_42 => ?_)
            ·
              have p_43 := h_42
              try simp only [lrn] at p_43
              refine WL_off rfl rfl rfl (bT h_42) ?_
              refine WL_off rfl rfl rfl (bT h_42) ?_
              refine WL_off rfl rfl rfl (bT h_42) ?_
              refine WL_off rfl rfl rfl (bT h_42) ?_
              refine WL_off rfl rfl rfl (bT h_42) ?_
              refine WL_off rfl rfl rfl (bT h_42) ?_
              refine WL_off rfl rfl rfl (bT h_42) ?_
              refine WL_off0 rfl rfl rfl rfl ?_
              refine WL_off0 rfl rfl rfl rfl ?_
              refine WL_off0 rfl rfl rfl rfl ?_
              refine WL_off0 rfl rfl rfl rfl ?_
              refine WL_off0 rfl rfl rfl rfl ?_
              refine WL_off0 rfl rfl rfl rfl ?_
              refine WL_off0 rfl rfl rfl rfl ?_
              refine WL_off0 rfl rfl rfl rfl ?_
              refine WL_off0 rfl rfl rfl rfl ?_
              refine WL_off0 rfl rfl rfl rfl ?_
              refine WL_off0 rfl rfl rfl rfl ?_
              refine WL_off0 rfl rfl rfl rfl ?_
              refine WL_off0 rfl rfl rfl rfl ?_
              refine WL_off0 rfl rfl rfl rfl ?_
              refine WL_off rfl rfl rfl (bT h_42) ?_
              refine S_pick_t (bT h_42) rfl ?_
              refine S_assign rfl ?_
              refine WL_nil ?_
              refine W_region ?_
              refine S_move rfl ?_
              refine S_add rfl rfl (by omega) rfl ?_
              refine S_assign rfl ?_
              refine WL_nil ?_
              refine ⟨by repeat (first | refine agree_upd rfl ?_ | exact agree_mix rfl agree_refl | refine agree_mix rfl ?_), ?_⟩
              exact ⟨_, by omega, i + 1, _, rfl, by omega, by first | exact anc1 s1 ‹_› s0 (by omega) | exact anc3 s1 ‹_› s0 (by omega) ‹_› | exact anc2 s1 ‹_› s0 (by omega) ((tabq hp_15 ‹There l ids[i.toNat]› tn).2.2 _), rfl, rfl, rfl, trivial⟩
            ·
              have p_44 := h_42
              try simp only [lrn] at p_44
              refine WL_on rfl rfl (bF h_42) ?_
              refine S_move rfl ?_
              refine WL_on rfl rfl (bF h_42) ?_
              refine S_move rfl ?_
              refine WL_on rfl rfl (bF h_42) ?_
              refine S_move rfl ?_
              refine WL_on rfl rfl (bF h_42) ?_
              have h_45 := Rep.ext _ hi E_26
              refine S_index Try.runUnderlying26 Try.sizeOf3 h_45 rfl (by omega) (by omega) rfl ?_
              intro b_46 o_47 cs_48 hi_49 hc_50 hb_51 hr_52
              refine WL_on rfl rfl (bF h_42) ?_
              refine S_loadI Try.isAgg3 rfl hc_50 hr_52 rfl ?_
              rintro ⟨r_53, r_54⟩
              refine WL_on rfl rfl (bF h_42) ?_
              have h_55 := Rep.ext _ h E_26
              refine S_call Try.call27 rfl (there_ref_ok h_55 _) rfl ?_
              rintro _ _ ⟨rfl, hw_56⟩
              obtain rfl := hw_56.symm
              refine WL_on rfl rfl (bF h_42) ?_
              refine S_move rfl ?_
              refine WL_split (dj := 35) rfl (fun h_58 => ?_) (fun h_58 => ?_)
              ·
                have p_59 := h_58
                try simp only [lrn] at p_59
                refine WL_on rfl rfl (bT h_58) ?_
                refine S_move rfl ?_
                refine WL_on rfl rfl (bT h_58) ?_
                refine S_move rfl ?_
                refine WL_on rfl rfl (bT h_58) ?_
                refine S_move rfl ?_
                refine WL_on rfl rfl (bT h_58) ?_
                refine S_index Try.runUnderlying26 Try.sizeOf3 h_45 rfl (by omega) (by omega) rfl ?_
                intro b_60 o_61 cs_62 hi_63 hc_64 hb_65 hr_66
                refine WL_on rfl rfl (bT h_58) ?_
                refine S_loadI Try.isAgg3 rfl hc_64 hr_66 rfl ?_
                rintro ⟨r_67, r_68⟩
                refine WL_on rfl rfl (bT h_58) ?_
                have ta : There l ids[i.toNat] := ‹_›
                have tn : There l n := ⟨by omega, by omega⟩
                have ⟨a1, a2⟩ := ta
                have m1 := mulq (a := ids[i.toNat] - 1) (n := l.length) (by omega) (by omega) (by omega) (by omega)
                refine S_sub rfl rfl (by omega) rfl ?_
                refine WL_on rfl rfl (bT h_58) ?_
                refine S_move rfl ?_
                refine WL_on rfl rfl (bT h_58) ?_
                refine S_len Try.runUnderlying22 rfl rfl ?_
                refine WL_on rfl rfl (bT h_58) ?_
                refine S_mul rfl rfl (by omega) rfl ?_
                refine WL_on rfl rfl (bT h_58) ?_
                refine S_move rfl ?_
                refine WL_on rfl rfl (bT h_58) ?_
                refine S_add rfl rfl (by omega) rfl ?_
                refine WL_on rfl rfl (bT h_58) ?_
                refine S_sub rfl rfl (by omega) rfl ?_
                refine WL_on rfl rfl (bT h_58) ?_
                refine S_index Try.runUnderlying44 Try.sizeOf4 h_30 rfl (tabq hp_15 ta tn).1 (tabq hp_15 ta tn).2.1 rfl ?_
                intro b_69 o_70 cs_71 hi_72 hc_73 hb_74 hr_75
                refine WL_on rfl rfl (bT h_58) ?_
                refine S_loadB Try.isAgg4 rfl hc_73 hr_75 rfl ?_
                refine WL_on rfl rfl (bF h_42) ?_
                refine S_pick_t (bT h_58) rfl ?_
                refine S_pick_f (bF h_42) rfl ?_
                refine S_assign rfl ?_
                refine WL_nil ?_
                refine W_region ?_
                refine S_move rfl ?_
                refine S_add rfl rfl (by omega) rfl ?_
                refine S_assign rfl ?_
                refine WL_nil ?_
                refine ⟨by repeat (first | refine agree_upd rfl ?_ | exact agree_mix rfl agree_refl | refine agree_mix rfl ?_), ?_⟩
                exact ⟨_, by omega, i + 1, _, rfl, by omega, by first | exact anc1 s1 ‹_› s0 (by omega) | exact anc3 s1 ‹_› s0 (by omega) ‹_› | exact anc2 s1 ‹_› s0 (by omega) ((tabq hp_15 ‹There l ids[i.toNat]› tn).2.2 _), rfl, rfl, rfl, trivial⟩
              ·
                have p_77 := h_58
                try simp only [lrn] at p_77
                refine WL_off rfl rfl rfl (bF h_58) ?_
                refine WL_off rfl rfl rfl (bF h_58) ?_
                refine WL_off rfl rfl rfl (bF h_58) ?_
                refine WL_off rfl rfl rfl (bF h_58) ?_
                refine WL_off rfl rfl rfl (bF h_58) ?_
                refine WL_off rfl rfl rfl (bF h_58) ?_
                refine WL_off rfl rfl rfl (bF h_58) ?_
                refine WL_off rfl rfl rfl (bF h_58) ?_
                refine WL_off rfl rfl rfl (bF h_58) ?_
                refine WL_off rfl rfl rfl (bF h_58) ?_
                refine WL_off rfl rfl rfl (bF h_58) ?_
                refine WL_off rfl rfl rfl (bF h_58) ?_
                refine WL_off rfl rfl rfl (bF h_58) ?_
                refine WL_off rfl rfl rfl (bF h_58) ?_
                refine WL_on rfl rfl (bF h_42) ?_
                refine S_pick_f (bF h_58) rfl ?_
                refine S_pick_f (bF h_42) rfl ?_
                refine S_assign rfl ?_
                refine WL_nil ?_
                refine W_region ?_
                refine S_move rfl ?_
                refine S_add rfl rfl (by omega) rfl ?_
                refine S_assign rfl ?_
                refine WL_nil ?_
                refine ⟨by repeat (first | refine agree_upd rfl ?_ | exact agree_mix rfl agree_refl | refine agree_mix rfl ?_), ?_⟩
                exact ⟨_, by omega, i + 1, _, rfl, by omega, by first | exact anc1 s1 ‹_› s0 (by omega) | exact anc3 s1 ‹_› s0 (by omega) ‹_› | exact anc2 s1 ‹_› s0 (by omega) ((tabq hp_15 ‹There l ids[i.toNat]› tn).2.2 _), rfl, rfl, rfl, trivial⟩
          ·
            have p_78 := h_40
            try simp only [lrn] at p_78
            refine W_exit ?_
            refine W_seq ?_
            refine W_region ?_
            refine S_move rfl ?_
            refine WL_nil ?_
            refine W_cond rfl (fun h_79 => ?_) (fun h_79 => ?_)
            ·
              have p_80 := h_79
              try simp only [lrn] at p_80
              refine W_region ?_
              refine S_move rfl ?_
              refine S_move rfl ?_
              refine S_buildSlice Try.runUnderlying26 Try.sizeOf3 Try.zeroValue3 rfl rfl rfl rfl rfl rfl rfl ?_
              intro b_81 w_82 e_83 z_84 z_85 ho_86
              have hb_87 : w0.heap.size ≤ b_81 := by have := (E_26).size; omega
              have n_88 : (w_9).heap.size ≤ b_81 := by have := (e_27).size; omega
              have n_89 : b_81 ∉ bs_21 := fun h => by have := Acc.bs_lt ha_22 _ h; omega
              have E_90 := Ext.stepO E_26 e_83 mem0
              have c_91 := Ext.stepO e_27 e_83 mem0
              have h_92 := Acc.ext (Acc.weak ha_22 (cons_fresh z_84)) e_83 mem0
              have h_93 := Rep.mono (M' := b_81 :: M) _ h_30 e_83 mem0 (cons_fresh z_84)
              have ho_86 : Own _ _ _ [_] := ho_86
              have h_94 := Acc.weak (M' := M) h_92 (fun x hx => .inl (List.mem_cons_of_mem _ hx))
              have hr_95 := rd_ints (xs := [_]) (M := bs_21 ++ M) ho_86 (ninA n_89 (notin_old hM hb_87)) (by simp [InI]; omega) (by simp)
              refine S_append Try.runUnderlying26 Try.typeInfo3 Try.sizeOf3 Try.zeroValue3 rfl h_94 hr_95 (by show _ * 8 ≤ _; simp; omega) (by decide) (fun x hx => Nat.lt_of_lt_of_le (hM x hx) (E_90).size) rfl ?_
              intro v_96 w_97 bs_98 ha_99 e_100 hf_101
              have hb_102 := fresh_bs hf_101 hb_23 (E_90).size
              have rel_103 := rel_step hf_101 rel_24 (c_91).size
              have E_104 := Ext.stepO E_90 e_100 (fun x hx => .inr (hb_23 x hx))
              have c_105 := Ext.stepO c_91 e_100 (fun x hx => (rel_24 x hx).imp (fun h => by first | exact h | (cases h; done) | simp [h]) id)
              have o_108 := Acc.val ha_99
              obtain ⟨A_106, cap_107, rfl⟩ := o_108
              refine S_assign rfl ?_
              refine WL_nil ?_
              refine W_region ?_
              refine S_move rfl ?_
              refine S_add rfl rfl (by omega) rfl ?_
              refine S_assign rfl ?_
              refine WL_nil ?_
              refine ⟨by repeat (first | refine agree_upd rfl ?_ | exact agree_mix rfl agree_refl | refine agree_mix rfl ?_), ?_⟩
              exact ⟨_, by omega, n + 1, _, _, _, _, rfl, by omega, by omega, by first | omega | (simp; omega), by first | exact anc_add q3 q0 s1 (by omega) ‹_› | exact anc_skip q3 q0 s1 (by omega) ‹_›, E_104, c_105, ha_99, hb_102, rel_103, rfl, rfl, trivial⟩
            ·
              have p_109 := h_79
              try simp only [lrn] at p_109
              refine W_skip ?_
              refine W_region ?_
              refine S_move rfl ?_
              refine S_add rfl rfl (by omega) rfl ?_
              refine S_assign rfl ?_
              refine WL_nil ?_
              refine ⟨by repeat (first | refine agree_upd rfl ?_ | exact agree_mix rfl agree_refl | refine agree_mix rfl ?_), ?_⟩
              exact ⟨_, by omega, n + 1, _, _, _, _, rfl, by omega, by omega, by first | omega | (simp; omega), by first | exact anc_add q3 q0 s1 (by omega) ‹_› | exact anc_skip q3 q0 s1 (by omega) ‹_›, E_26, e_27, ha_22, hb_23, rel_24, rfl, rfl, trivial⟩
      ·
        have p_110 := h_32
        try simp only [lrn] at p_110
        refine W_exit ?_
        refine W_seq ?_
        refine W_region ?_
        refine S_move rfl ?_
        refine S_assign rfl ?_
        refine WL_nil ?_
        refine W_ret ?_
        exact ⟨_, _, _, rfl, Acc.rd ha_22 (by omega), ancTo_all ‹Right l› q3 (by omega), E_26⟩
theorem ints_step {x y : List Int} {i : Int} (h0 : 0 ≤ i) (h : ∀ j : Nat, j < i.toNat → x[j]? = y[j]?) (hx : i.toNat < x.length) (hy : i.toNat < y.length) (e : x[i.toNat] = y[i.toNat]) : ∀ j : Nat, j < (i + 1).toNat → x[j]? = y[j]? := by
  intro j hj
  by_cases hji : j = i.toNat
  · subst hji; simp [hx, hy, e]
  · exact h j (by omega)
theorem ints_all {x y : List Int} {i : Int} (e : x.length = y.length) (h0 : 0 ≤ i) (h : ∀ j : Nat, j < i.toNat → x[j]? = y[j]?) (hi : (x.length : Int) ≤ i) : x = y := by
  apply List.ext_getElem?
  intro j
  by_cases hj : j < x.length
  · exact h j (by omega)
  · rw [List.getElem?_eq_none (by omega), List.getElem?_eq_none (by omega)]
theorem ints_ok {M M' : List Nat} {w0 : World} {A B : Option Addr} {cap cap' : Nat} {x y : List Int} (hx : (rSlice rInt).rd M w0 [.slice A x.length cap] x) (hy : (rSlice rInt).rd M' w0 [.slice B y.length cap'] y) :
    CallR Try.prog 11 [.slice A x.length cap, .slice B y.length cap'] w0 (fun v w' => v = .bool (decide (x = y)) ∧ w' = w0) := by
  have lx := rSlice_len hx
  have ly := rSlice_len hy
  refine Call1 Try.func11 rfl rfl rfl rfl ?_
  refine W_seq ?_
  refine W_region ?_
  refine S_assign rfl ?_
  refine WL_nil ?_
  refine W_seq ?_
  refine W_seq ?_
  refine W_region ?_
  refine S_move rfl ?_
  refine S_len Try.runUnderlying26 rfl rfl ?_
  refine S_move rfl ?_
  refine S_len Try.runUnderlying26 rfl rfl ?_
  refine S_neq rfl rfl rfl ?_
  refine WL_nil ?_
  refine W_cond rfl (fun h_2 => ?_) (fun h_2 => ?_)
  ·
    have p_3 := h_2
    try simp only [lrn] at p_3
    refine W_seq ?_
    refine W_region ?_
    refine S_assign rfl ?_
    refine WL_nil ?_
    refine W_ret ?_
    exact ⟨by show Value.bool _ = _; congr 1; symm; simp; intro e; subst e; omega, rfl⟩
  ·
    have p_4 := h_2
    try simp only [lrn] at p_4
    refine W_skip ?_
    refine W_seq ?_
    refine W_seq ?_
    refine W_region ?_
    refine S_assign rfl ?_
    refine WL_nil ?_
    refine W_block ?_
    refine W_loopF [4, 5, 11, 12, 13, 14, 15, 16, 17, 18, 19, 20, 21, 22, 23, 24, 25] (fun m f w => ∃ i : Int, m = (x.length - i).toNat ∧ 0 ≤ i ∧ i ≤ x.length ∧ x.length = y.length ∧ (∀ j : Nat, j < i.toNat → x[j]? = y[j]?) ∧ w0 = w ∧ Live f [(5, .int .i64 i)]) ?_ ?_
    · exact ⟨_, 0, rfl, by omega, by omega, by omega, by omega, rfl, rfl, trivial⟩
    ·
      rintro m g_7 _ ⟨i, rfl, q0, q1, q2, q3, rfl, hl_6⟩
      refine W_liveM hl_6 rfl ?_
      refine W_seq ?_
      refine W_seq ?_
      refine W_region ?_
      refine S_move rfl ?_
      refine S_move rfl ?_
      refine S_len Try.runUnderlying26 rfl rfl ?_
      refine S_lss rfl rfl rfl ?_
      refine WL_nil ?_
      refine W_cond rfl (fun h_10 => ?_) (fun h_10 => ?_)
      ·
        have p_11 := h_10
        try simp only [lrn] at p_11
        refine W_skip ?_
        refine W_seq ?_
        refine W_block ?_
        refine W_seq ?_
        refine W_region_quiet rfl (by decide +kernel) ?_
        refine S_move rfl ?_
        refine S_move rfl ?_
        refine S_index Try.runUnderlying26 Try.sizeOf3 hx rfl (by omega) (by omega) rfl ?_
        intro b_12 o_13 cs_14 hi_15 hc_16 hb_17 hr_18
        refine S_loadI Try.isAgg3 rfl hc_16 hr_18 rfl ?_
        rintro ⟨r_19, r_20⟩
        refine S_move rfl ?_
        refine S_move rfl ?_
        refine S_index Try.runUnderlying26 Try.sizeOf3 hy rfl (by omega) (by omega) rfl ?_
        intro b_21 o_22 cs_23 hi_24 hc_25 hb_26 hr_27
        refine S_loadI Try.isAgg3 rfl hc_25 hr_27 rfl ?_
        rintro ⟨r_28, r_29⟩
        refine S_neq rfl rfl rfl ?_
        refine WL_nil ?_
        refine W_cond rfl (fun h_31 => ?_) (fun h_31 => ?_)
        ·
          have p_32 := h_31
          try simp only [lrn] at p_32
          refine W_seq ?_
          refine W_region ?_
          refine S_assign rfl ?_
          refine WL_nil ?_
          refine W_ret ?_
          exact ⟨by show Value.bool _ = _; congr 1; symm; simp; intro e; subst e; exact ‹¬ _› rfl, rfl⟩
        ·
          have p_33 := h_31
          try simp only [lrn] at p_33
          refine W_skip ?_
          refine W_region ?_
          refine S_move rfl ?_
          refine S_add rfl rfl (by omega) rfl ?_
          refine S_assign rfl ?_
          refine WL_nil ?_
          refine ⟨by repeat (first | refine agree_upd rfl ?_ | exact agree_mix rfl agree_refl | refine agree_mix rfl ?_), ?_⟩
          exact ⟨_, by omega, i + 1, rfl, by omega, by omega, by omega, ints_step q0 q3 (by omega) (by omega) ‹_›, rfl, rfl, trivial⟩
      ·
        have p_34 := h_10
        try simp only [lrn] at p_34
        refine W_exit ?_
        refine W_seq ?_
        refine W_region ?_
        refine S_assign rfl ?_
        refine WL_nil ?_
        refine W_ret ?_
        exact ⟨by show Value.bool _ = _; congr 1; symm; simp; exact ints_all (by omega) q0 q3 (by omega), rfl⟩
end Go.Proofs.Ytpgegnmaophapaa
