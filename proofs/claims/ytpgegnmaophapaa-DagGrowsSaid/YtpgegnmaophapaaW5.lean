/- The walks of a history's functions, printed by program. -/
import Derived.Test.YtpgegnmaophapaaW4
namespace Go.Proofs.Ytpgegnmaophapaa
open Go.Wk Classical
theorem anc_ok {M : List Nat} {w0 : World} {A : Option Addr} {cap : Nat} {l : List Commit} (h : (rSlice rCommit).rd M w0 [.slice A l.length cap] l) (hM : ∀ b ∈ M, b < w0.heap.size) (hl : l.length ≤ 60) {A' : Option Addr} {cap' : Nat} {ids : List Int} (hi : (rSlice rInt).rd M w0 [.slice A' ids.length cap'] ids) :
    CallR Try.prog 23 [.slice A l.length cap, .slice A' ids.length cap'] w0 (fun v w' => ∃ L A cap, v = .slice A L.length cap ∧ (rSlice rInt).rd M w' [.slice A L.length cap] L ∧ AncL l ids L ∧ Ext [] w0 w') := by
  have ll := rSlice_len h
  refine Call1 Try.func23 rfl rfl rfl rfl ?_
  refine W_seq ?_
  refine W_region ?_
  refine S_assign rfl ?_
  refine WL_nil ?_
  refine W_seq ?_
  refine W_seq ?_
  refine W_region ?_
  refine S_move rfl ?_
  have hz_3 := right_ok h
  refine S_callE Try.call20 rfl hz_3 rfl ?_
  intro w_1 e_2
  have E_4 := Ext.stepO (Ext.refl [] w0) e_2 mem0
  refine S_not rfl rfl ?_
  refine WL_nil ?_
  refine W_cond rfl (fun h_6 => ?_) (fun h_6 => ?_)
  ·
    have h_7 := h_6
    simp only [lrnN] at h_7
    have p_8 := h_7
    try simp only [lrn] at p_8
    refine W_seq ?_
    refine W_region ?_
    refine S_assign rfl ?_
    refine WL_nil ?_
    refine W_ret ?_
    exact ⟨[], _, _, rfl, rd_nil, ancL_no ‹¬ Right l›, E_4⟩
  ·
    have h_9 := h_6
    simp only [lrnN] at h_9
    have p_10 := h_9
    try simp only [lrn] at p_10
    refine W_skip ?_
    refine W_seq ?_
    refine W_region ?_
    refine S_move rfl ?_
    refine S_move rfl ?_
    have h_11 := Rep.ext _ h E_4
    have h_12 := Rep.ext _ hi E_4
    have hz_20 := reached_ok h_11 h_12 ‹Right _›
    refine S_call Try.call25 rfl hz_20 rfl ?_
    rintro _ w_15 ⟨bm_13, S_14, rfl, hm_16, hz_20, hS_18, e_19⟩
    have hb_21 : w0.heap.size ≤ bm_13 := by have := (E_4).size; omega
    have E_22 := Ext.stepO E_4 e_19 mem0
    have th_23 : ∀ x ∈ S_14, There l x := ids_there hS_18
    refine S_call Try.call26 rfl (rising_ok (M := bm_13 :: M) (memC (hm_16.lt) (fun x hx => Nat.lt_of_lt_of_le (hM x hx) (E_22).size)) hm_16 (fun x hx => there_in hl (th_23 x hx)) (set_small hl hm_16 th_23)) rfl ?_
    rintro _ w_24 ⟨L_26, A_27, cap_28, rfl, hr_29, hp_30, e_25⟩
    have E_31 := Ext.stepO E_22 e_25 mem0
    have h_32 := hm_16.ext e_25 nin0
    have hl_33 := rSlice_len hr_29
    refine S_assign rfl ?_
    refine WL_nil ?_
    refine W_ret ?_
    exact ⟨_, _, _, rfl, Rep.mono (M' := M) _ hr_29 (Ext.refl [] _) mem0 (fun x hx => .inl (by simp [hx])), ancL_yes ‹Right l› hp_30 hS_18, E_31⟩
theorem anc_ref_ok {M : List Nat} {w0 : World} {A : Option Addr} {cap : Nat} {l : List Commit} (h : (rSlice rCommit).rd M w0 [.slice A l.length cap] l) (hM : ∀ b ∈ M, b < w0.heap.size) (hl : l.length ≤ 60) {A' : Option Addr} {cap' : Nat} {ids : List Int} (hi : (rSlice rInt).rd M w0 [.slice A' ids.length cap'] ids) :
    CallR Try.prog 24 [.slice A l.length cap, .slice A' ids.length cap'] w0 (fun v w' => ∃ L A cap, v = .slice A L.length cap ∧ (rSlice rInt).rd M w' [.slice A L.length cap] L ∧ AncL l ids L ∧ Ext [] w0 w') := by
  have ll := rSlice_len h
  have li := rSlice_len hi
  refine Call1 Try.func24 rfl rfl rfl rfl ?_
  refine W_seq ?_
  refine W_region ?_
  refine S_assign rfl ?_
  refine WL_nil ?_
  refine W_seq ?_
  refine W_region ?_
  refine S_assign rfl ?_
  have ha_1 : Acc rInt M w0 (.slice none 0 0) [] [] := Acc.nil
  refine WL_nil ?_
  refine W_seq ?_
  refine W_seq ?_
  refine W_region ?_
  refine S_move rfl ?_
  refine S_callQ Try.call21 rfl (right_ref_ok h) rfl ?_
  refine S_not rfl rfl ?_
  refine WL_nil ?_
  refine W_cond rfl (fun h_3 => ?_) (fun h_3 => ?_)
  ·
    have h_4 := h_3
    simp only [lrnN] at h_4
    have p_5 := h_4
    try simp only [lrn] at p_5
    refine W_seq ?_
    refine W_region ?_
    refine S_assign rfl ?_
    refine WL_nil ?_
    refine W_ret ?_
    exact ⟨[], _, _, rfl, rd_nil, ancL_no ‹¬ Right l›, (Ext.refl [] w0)⟩
  ·
    have h_6 := h_3
    simp only [lrnN] at h_6
    have p_7 := h_6
    try simp only [lrn] at p_7
    refine W_skip ?_
    refine W_seq ?_
    refine W_region ?_
    refine S_move rfl ?_
    have hz_15 := table_ok h hM ‹Right _› hl
    refine S_call Try.call28 rfl hz_15 rfl ?_
    rintro _ w_8 ⟨L_10, A_11, cap_12, rfl, hr_13, hp_14, e_9⟩
    have E_16 := Ext.stepO (Ext.refl [] w0) e_9 mem0
    have hl_17 := rSlice_len hr_13
    refine S_assign rfl ?_
    refine WL_nil ?_
    refine W_seq ?_
    refine W_seq ?_
    refine W_region ?_
    refine S_assign rfl ?_
    refine WL_nil ?_
    refine W_block ?_
    refine W_loopF [5, 7, 8, 9, 15, 16, 17, 18, 19, 20, 21, 22, 23, 24, 25, 26, 27, 28, 29, 30, 31, 32, 33, 34, 35, 36, 37, 38, 39, 40, 41, 42, 43, 44, 45, 46, 47, 48, 49, 50, 51, 52, 53, 54, 55, 56] (fun m f w => ∃ (n : Int) (xs : List Int) (A_18 : Option Addr) (cap_19 : Nat) (bs_20 : List Nat), m = (l.length + 1 - n).toNat ∧ 1 ≤ n ∧ n ≤ l.length + 1 ∧ (xs.length : Int) < n ∧ AncTo l ids n xs ∧ Ext [] w0 w ∧ Ext ([]) w_8 w ∧ Acc rInt M w (.slice A_18 xs.length cap_19) xs bs_20 ∧ (∀ b ∈ bs_20, w0.heap.size ≤ b) ∧ (∀ b ∈ bs_20, b ∈ [] ∨ (w_8).heap.size ≤ b) ∧ Live f [(7, .int .i64 n), (5, .slice A_18 xs.length cap_19)]) ?_ ?_
    · exact ⟨_, 1, [], _, _, _, rfl, by omega, by omega, by simp, ancTo_zero, E_16, (Ext.refl _ _), Acc.nil, mem0, rel_refl, rfl, rfl, trivial⟩
    ·
      rintro m g_28 w_24 ⟨n, xs, A_18, cap_19, bs_20, rfl, q0, q1, q2, q3, E_25, e_26, ha_21, hb_22, rel_23, hl_27⟩
      refine W_liveM hl_27 rfl ?_
      have h_29 := Rep.ext _ hr_13 e_26
      refine W_seq ?_
      refine W_seq ?_
      refine W_region ?_
      refine S_move rfl ?_
      refine S_move rfl ?_
      refine S_len Try.runUnderlying22 rfl rfl ?_
      refine S_leq rfl rfl rfl ?_
      refine WL_nil ?_
      refine W_cond rfl (fun h_31 => ?_) (fun h_31 => ?_)
      ·
        have p_32 := h_31
        try simp only [lrn] at p_32
        refine W_skip ?_
        refine W_seq ?_
        refine W_block ?_
        refine W_seq ?_
        refine W_region ?_
        refine S_assign rfl ?_
        refine WL_nil ?_
        refine W_seq ?_
        refine W_seq ?_
        refine W_region ?_
        refine S_assign rfl ?_
        refine WL_nil ?_
        refine W_block ?_
        refine W_loopF [8, 9, 21, 22, 23, 24, 25, 26, 27, 28, 29, 30, 31, 32, 33, 34, 35, 36, 37, 38, 39, 40, 41, 42, 43, 44, 45, 46, 47, 48, 49, 50, 51] (fun m f w => ∃ (i : Int) (p : Bool), m = (ids.length - i).toNat ∧ 0 ≤ i ∧ p = decide (Some1 l ids i n) ∧ w_24 = w ∧ Live f [(9, .int .i64 i), (8, .bool p)]) ?_ ?_
        · exact ⟨_, 0, _, rfl, by omega, by exact anc0, rfl, rfl, rfl, trivial⟩
        ·
          rintro m g_36 _ ⟨i, p, rfl, s0, s1, rfl, hl_35⟩
          refine W_liveM hl_35 rfl ?_
          refine W_seq ?_
          refine W_seq ?_
          refine W_region ?_
          refine S_move rfl ?_
          refine S_move rfl ?_
          refine S_len Try.runUnderlying26 rfl rfl ?_
          refine S_lss rfl rfl rfl ?_
          refine WL_nil ?_
          refine W_cond rfl (fun h_39 => ?_) (fun h_39 => ?_)
          ·
            have p_40 := h_39
            try simp only [lrn] at p_40
            refine W_skip ?_
            refine W_seq ?_
            refine W_block ?_
            refine W_region ?_
            refine S_move rfl ?_
            refine S_move rfl ?_
            refine WL_split (dj := 28) rfl (fun h_41 => ?_) (fun h_41 => ?_)
            ·
              have p_42 := h_41
              try simp only [lrn] at p_42
              refine WL_off rfl rfl rfl (bT h_41) ?_
              refine WL_off rfl rfl rfl (bT h_41) ?_
              refine WL_off rfl rfl rfl (bT h_41) ?_
              refine WL_off rfl rfl rfl (bT h_41) ?_
              refine WL_off rfl rfl rfl (bT h_41) ?_
              refine WL_off rfl rfl rfl (bT h_41) ?_
              refine WL_off rfl rfl rfl (bT h_41) ?_
              refine WL_off0 rfl rfl rfl rfl ?_
              refine WL_off0 rfl rfl rfl rfl ?_
              refine WL_off0 rfl rfl rfl rfl ?_
              refine WL_off0 rfl rfl rfl rfl ?_
              refine WL_off0 rfl rfl rfl rfl ?_
              refine WL_off0 rfl rfl rfl rfl ?_
              refine WL_off0 rfl rfl rfl rfl ?_
              refine WL_off0 rfl rfl rfl rfl ?_
              refine WL_off0 rfl rfl rfl rfl ?_
              refine WL_off0 rfl rfl rfl rfl ?_
              refine WL_off0 rfl rfl rfl rfl ?_
              refine WL_off0 rfl rfl rfl rfl ?_
              refine WL_off0 rfl rfl rfl rfl ?_
              refine WL_off0 rfl rfl rfl rfl ?_
              refine WL_off rfl rfl rfl (bT h_41) ?_
              refine S_pick_t (bT h_41) rfl ?_
              refine S_assign rfl ?_
              refine WL_nil ?_
              refine W_region ?_
              refine S_move rfl ?_
              refine S_add rfl rfl (by omega) rfl ?_
              refine S_assign rfl ?_
              refine WL_nil ?_
              refine ⟨by repeat (first | refine agree_upd rfl ?_ | exact agree_mix rfl agree_refl | refine agree_mix rfl ?_), ?_⟩
              exact ⟨_, by omega, i + 1, _, rfl, by omega, by first | exact anc1 s1 ‹_› s0 (by omega) | exact anc3 s1 ‹_› s0 (by omega) ‹_› | exact anc2 s1 ‹_› s0 (by omega) ((tabq hp_14 ‹There l ids[i.toNat]› tn).2.2 _), rfl, rfl, rfl, trivial⟩
            ·
              have p_43 := h_41
              try simp only [lrn] at p_43
              refine WL_on rfl rfl (bF h_41) ?_
              refine S_move rfl ?_
              refine WL_on rfl rfl (bF h_41) ?_
              refine S_move rfl ?_
              refine WL_on rfl rfl (bF h_41) ?_
              refine S_move rfl ?_
              refine WL_on rfl rfl (bF h_41) ?_
              have h_44 := Rep.ext _ hi E_25
              refine S_index Try.runUnderlying26 Try.sizeOf3 h_44 rfl (by omega) (by omega) rfl ?_
              intro b_45 o_46 cs_47 hi_48 hc_49 hb_50 hr_51
              refine WL_on rfl rfl (bF h_41) ?_
              refine S_loadI Try.isAgg3 rfl hc_49 hr_51 rfl ?_
              rintro ⟨r_52, r_53⟩
              refine WL_on rfl rfl (bF h_41) ?_
              have h_54 := Rep.ext _ h E_25
              refine S_callQ Try.call27 rfl (there_ref_ok h_54 _) rfl ?_
              refine WL_on rfl rfl (bF h_41) ?_
              refine S_move rfl ?_
              refine WL_split (dj := 35) rfl (fun h_56 => ?_) (fun h_56 => ?_)
              ·
                have p_57 := h_56
                try simp only [lrn] at p_57
                refine WL_on rfl rfl (bT h_56) ?_
                refine S_move rfl ?_
                refine WL_on rfl rfl (bT h_56) ?_
                refine S_move rfl ?_
                refine WL_on rfl rfl (bT h_56) ?_
                refine S_move rfl ?_
                refine WL_on rfl rfl (bT h_56) ?_
                refine S_index Try.runUnderlying26 Try.sizeOf3 h_44 rfl (by omega) (by omega) rfl ?_
                intro b_58 o_59 cs_60 hi_61 hc_62 hb_63 hr_64
                refine WL_on rfl rfl (bT h_56) ?_
                refine S_loadI Try.isAgg3 rfl hc_62 hr_64 rfl ?_
                rintro ⟨r_65, r_66⟩
                refine WL_on rfl rfl (bT h_56) ?_
                have ta : There l ids[i.toNat] := ‹_›
                have tn : There l n := ⟨by omega, by omega⟩
                have ⟨a1, a2⟩ := ta
                have m1 := mulq (a := ids[i.toNat] - 1) (n := l.length) (by omega) (by omega) (by omega) (by omega)
                refine S_sub rfl rfl (by omega) rfl ?_
                refine WL_on rfl rfl (bT h_56) ?_
                refine S_move rfl ?_
                refine WL_on rfl rfl (bT h_56) ?_
                refine S_len Try.runUnderlying22 rfl rfl ?_
                refine WL_on rfl rfl (bT h_56) ?_
                refine S_mul rfl rfl (by omega) rfl ?_
                refine WL_on rfl rfl (bT h_56) ?_
                refine S_move rfl ?_
                refine WL_on rfl rfl (bT h_56) ?_
                refine S_add rfl rfl (by omega) rfl ?_
                refine WL_on rfl rfl (bT h_56) ?_
                refine S_sub rfl rfl (by omega) rfl ?_
                refine WL_on rfl rfl (bT h_56) ?_
                refine S_index Try.runUnderlying44 Try.sizeOf4 h_29 rfl (tabq hp_14 ta tn).1 (tabq hp_14 ta tn).2.1 rfl ?_
                intro b_67 o_68 cs_69 hi_70 hc_71 hb_72 hr_73
                refine WL_on rfl rfl (bT h_56) ?_
                refine S_loadB Try.isAgg4 rfl hc_71 hr_73 rfl ?_
                refine WL_on rfl rfl (bF h_41) ?_
                refine S_pick_t (bT h_56) rfl ?_
                refine S_pick_f (bF h_41) rfl ?_
                refine S_assign rfl ?_
                refine WL_nil ?_
                refine W_region ?_
                refine S_move rfl ?_
                refine S_add rfl rfl (by omega) rfl ?_
                refine S_assign rfl ?_
                refine WL_nil ?_
                refine ⟨by repeat (first | refine agree_upd rfl ?_ | exact agree_mix rfl agree_refl | refine agree_mix rfl ?_), ?_⟩
                exact ⟨_, by omega, i + 1, _, rfl, by omega, by first | exact anc1 s1 ‹_› s0 (by omega) | exact anc3 s1 ‹_› s0 (by omega) ‹_› | exact anc2 s1 ‹_› s0 (by omega) ((tabq hp_14 ‹There l ids[i.toNat]› tn).2.2 _), rfl, rfl, rfl, trivial⟩
              ·
                have p_75 := h_56
                try simp only [lrn] at p_75
                refine WL_off rfl rfl rfl (bF h_56) ?_
                refine WL_off rfl rfl rfl (bF h_56) ?_
                refine WL_off rfl rfl rfl (bF h_56) ?_
                refine WL_off rfl rfl rfl (bF h_56) ?_
                refine WL_off rfl rfl rfl (bF h_56) ?_
                refine WL_off rfl rfl rfl (bF h_56) ?_
                refine WL_off rfl rfl rfl (bF h_56) ?_
                refine WL_off rfl rfl rfl (bF h_56) ?_
                refine WL_off rfl rfl rfl (bF h_56) ?_
                refine WL_off rfl rfl rfl (bF h_56) ?_
                refine WL_off rfl rfl rfl (bF h_56) ?_
                refine WL_off rfl rfl rfl (bF h_56) ?_
                refine WL_off rfl rfl rfl (bF h_56) ?_
                refine WL_off rfl rfl rfl (bF h_56) ?_
                refine WL_on rfl rfl (bF h_41) ?_
                refine S_pick_f (bF h_56) rfl ?_
                refine S_pick_f (bF h_41) rfl ?_
                refine S_assign rfl ?_
                refine WL_nil ?_
                refine W_region ?_
                refine S_move rfl ?_
                refine S_add rfl rfl (by omega) rfl ?_
                refine S_assign rfl ?_
                refine WL_nil ?_
                refine ⟨by repeat (first | refine agree_upd rfl ?_ | exact agree_mix rfl agree_refl | refine agree_mix rfl ?_), ?_⟩
                exact ⟨_, by omega, i + 1, _, rfl, by omega, by first | exact anc1 s1 ‹_› s0 (by omega) | exact anc3 s1 ‹_› s0 (by omega) ‹_› | exact anc2 s1 ‹_› s0 (by omega) ((tabq hp_14 ‹There l ids[i.toNat]› tn).2.2 _), rfl, rfl, rfl, trivial⟩
          ·
            have p_76 := h_39
            try simp only [lrn] at p_76
            refine W_exit ?_
            refine W_seq ?_
            refine W_region ?_
            refine S_move rfl ?_
            refine WL_nil ?_
            refine W_cond rfl (fun h_77 => ?_) (fun h_77 => ?_)
            ·
              have p_78 := h_77
              try simp only [lrn] at p_78
              refine W_region ?_
              refine S_move rfl ?_
              refine S_move rfl ?_
              refine S_buildSlice Try.runUnderlying26 Try.sizeOf3 Try.zeroValue3 rfl rfl rfl rfl rfl rfl rfl ?_
              intro b_79 w_80 e_81 z_82 z_83 ho_84
              have hb_85 : w0.heap.size ≤ b_79 := by have := (E_25).size; omega
              have n_86 : (w_8).heap.size ≤ b_79 := by have := (e_26).size; omega
              have n_87 : b_79 ∉ bs_20 := fun h => by have := Acc.bs_lt ha_21 _ h; omega
              have E_88 := Ext.stepO E_25 e_81 mem0
              have c_89 := Ext.stepO e_26 e_81 mem0
              have h_90 := Acc.ext (Acc.weak ha_21 (cons_fresh z_82)) e_81 mem0
              have h_91 := Rep.mono (M' := b_79 :: M) _ h_29 e_81 mem0 (cons_fresh z_82)
              have ho_84 : Own _ _ _ [_] := ho_84
              have h_92 := Acc.weak (M' := M) h_90 (fun x hx => .inl (List.mem_cons_of_mem _ hx))
              have hr_93 := rd_ints (xs := [_]) (M := bs_20 ++ M) ho_84 (ninA n_87 (notin_old hM hb_85)) (by simp [InI]; omega) (by simp)
              refine S_append Try.runUnderlying26 Try.typeInfo3 Try.sizeOf3 Try.zeroValue3 rfl h_92 hr_93 (by show _ * 8 ≤ _; simp; omega) (by decide) (fun x hx => Nat.lt_of_lt_of_le (hM x hx) (E_88).size) rfl ?_
              intro v_94 w_95 bs_96 ha_97 e_98 hf_99
              have hb_100 := fresh_bs hf_99 hb_22 (E_88).size
              have rel_101 := rel_step hf_99 rel_23 (c_89).size
              have E_102 := Ext.stepO E_88 e_98 (fun x hx => .inr (hb_22 x hx))
              have c_103 := Ext.stepO c_89 e_98 (fun x hx => (rel_23 x hx).imp (fun h => by first | exact h | (cases h; done) | simp [h]) id)
              have o_106 := Acc.val ha_97
              obtain ⟨A_104, cap_105, rfl⟩ := o_106
              refine S_assign rfl ?_
              refine WL_nil ?_
              refine W_region ?_
              refine S_move rfl ?_
              refine S_add rfl rfl (by omega) rfl ?_
              refine S_assign rfl ?_
              refine WL_nil ?_
              refine ⟨by repeat (first | refine agree_upd rfl ?_ | exact agree_mix rfl agree_refl | refine agree_mix rfl ?_), ?_⟩
              exact ⟨_, by omega, n + 1, _, _, _, _, rfl, by omega, by omega, by first | omega | (simp; omega), by first | exact anc_add q3 q0 s1 (by omega) ‹_› | exact anc_skip q3 q0 s1 (by omega) ‹_›, E_102, c_103, ha_97, hb_100, rel_101, rfl, rfl, trivial⟩
            ·
              have p_107 := h_77
              try simp only [lrn] at p_107
              refine W_skip ?_
              refine W_region ?_
              refine S_move rfl ?_
              refine S_add rfl rfl (by omega) rfl ?_
              refine S_assign rfl ?_
              refine WL_nil ?_
              refine ⟨by repeat (first | refine agree_upd rfl ?_ | exact agree_mix rfl agree_refl | refine agree_mix rfl ?_), ?_⟩
              exact ⟨_, by omega, n + 1, _, _, _, _, rfl, by omega, by omega, by first | omega | (simp; omega), by first | exact anc_add q3 q0 s1 (by omega) ‹_› | exact anc_skip q3 q0 s1 (by omega) ‹_›, E_25, e_26, ha_21, hb_22, rel_23, rfl, rfl, trivial⟩
      ·
        have p_108 := h_31
        try simp only [lrn] at p_108
        refine W_exit ?_
        refine W_seq ?_
        refine W_region ?_
        refine S_move rfl ?_
        refine S_assign rfl ?_
        refine WL_nil ?_
        refine W_ret ?_
        exact ⟨_, _, _, rfl, Acc.rd ha_21 (by omega), ancTo_all ‹Right l› q3 (by omega), E_25⟩
theorem ints_step {x y : List Int} {i : Int} (h0 : 0 ≤ i) (h : ∀ j : Nat, j < i.toNat → x[j]? = y[j]?) (hx : i.toNat < x.length) (hy : i.toNat < y.length) (e : x[i.toNat] = y[i.toNat]) : ∀ j : Nat, j < (i + 1).toNat → x[j]? = y[j]? := by
  intro j hj
  by_cases hji : j = i.toNat
  · subst hji; simp [hx, hy, e]
  · exact h j (by omega)
theorem ints_all {x y : List Int} {i : Int} (e : x.length = y.length) (h0 : 0 ≤ i) (h : ∀ j : Nat, j < i.toNat → x[j]? = y[j]?) (hi : (x.length : Int) ≤ i) : x = y := by
  apply List.ext_getElem?
  intro j
  by_cases hj : j < x.length
  · exact h j (by omega)
  · rw [List.getElem?_eq_none (by omega), List.getElem?_eq_none (by omega)]
theorem ints_ok {M M' : List Nat} {w0 : World} {A B : Option Addr} {cap cap' : Nat} {x y : List Int} (hx : (rSlice rInt).rd M w0 [.slice A x.length cap] x) (hy : (rSlice rInt).rd M' w0 [.slice B y.length cap'] y) :
    CallR Try.prog 11 [.slice A x.length cap, .slice B y.length cap'] w0 (fun v w' => v = .bool (decide (x = y)) ∧ w' = w0) := by
  have lx := rSlice_len hx
  have ly := rSlice_len hy
  refine Call1 Try.func11 rfl rfl rfl rfl ?_
  refine W_seq ?_
  refine W_region ?_
  refine S_assign rfl ?_
  refine WL_nil ?_
  refine W_seq ?_
  refine W_seq ?_
  refine W_region ?_
  refine S_move rfl ?_
  refine S_len Try.runUnderlying26 rfl rfl ?_
  refine S_move rfl ?_
  refine S_len Try.runUnderlying26 rfl rfl ?_
  refine S_neq rfl rfl rfl ?_
  refine WL_nil ?_
  refine W_cond rfl (fun h_2 => ?_) (fun h_2 => ?_)
  ·
    have p_3 := h_2
    try simp only [lrn] at p_3
    refine W_seq ?_
    refine W_region ?_
    refine S_assign rfl ?_
    refine WL_nil ?_
    refine W_ret ?_
    exact ⟨by show Value.bool _ = _; congr 1; symm; simp; intro e; subst e; omega, rfl⟩
  ·
    have p_4 := h_2
    try simp only [lrn] at p_4
    refine W_skip ?_
    refine W_seq ?_
    refine W_seq ?_
    refine W_region ?_
    refine S_assign rfl ?_
    refine WL_nil ?_
    refine W_block ?_
    refine W_loopF [4, 5, 11, 12, 13, 14, 15, 16, 17, 18, 19, 20, 21, 22, 23, 24, 25] (fun m f w => ∃ i : Int, m = (x.length - i).toNat ∧ 0 ≤ i ∧ i ≤ x.length ∧ x.length = y.length ∧ (∀ j : Nat, j < i.toNat → x[j]? = y[j]?) ∧ w0 = w ∧ Live f [(5, .int .i64 i)]) ?_ ?_
    · exact ⟨_, 0, rfl, by omega, by omega, by omega, by omega, rfl, rfl, trivial⟩
    ·
      rintro m g_7 _ ⟨i, rfl, q0, q1, q2, q3, rfl, hl_6⟩
      refine W_liveM hl_6 rfl ?_
      refine W_seq ?_
      refine W_seq ?_
      refine W_region ?_
      refine S_move rfl ?_
      refine S_move rfl ?_
      refine S_len Try.runUnderlying26 rfl rfl ?_
      refine S_lss rfl rfl rfl ?_
      refine WL_nil ?_
      refine W_cond rfl (fun h_10 => ?_) (fun h_10 => ?_)
      ·
        have p_11 := h_10
        try simp only [lrn] at p_11
        refine W_skip ?_
        refine W_seq ?_
        refine W_block ?_
        refine W_seq ?_
        refine W_region_quiet rfl (by decide +kernel) ?_
        refine S_move rfl ?_
        refine S_move rfl ?_
        refine S_index Try.runUnderlying26 Try.sizeOf3 hx rfl (by omega) (by omega) rfl ?_
        intro b_12 o_13 cs_14 hi_15 hc_16 hb_17 hr_18
        refine S_loadI Try.isAgg3 rfl hc_16 hr_18 rfl ?_
        rintro ⟨r_19, r_20⟩
        refine S_move rfl ?_
        refine S_move rfl ?_
        refine S_index Try.runUnderlying26 Try.sizeOf3 hy rfl (by omega) (by omega) rfl ?_
        intro b_21 o_22 cs_23 hi_24 hc_25 hb_26 hr_27
        refine S_loadI Try.isAgg3 rfl hc_25 hr_27 rfl ?_
        rintro ⟨r_28, r_29⟩
        refine S_neq rfl rfl rfl ?_
        refine WL_nil ?_
        refine W_cond rfl (fun h_31 => ?_) (fun h_31 => ?_)
        ·
          have p_32 := h_31
          try simp only [lrn] at p_32
          refine W_seq ?_
          refine W_region ?_
          refine S_assign rfl ?_
          refine WL_nil ?_
          refine W_ret ?_
          exact ⟨by show Value.bool _ = _; congr 1; symm; simp; intro e; subst e; exact ‹¬ _› rfl, rfl⟩
        ·
          have p_33 := h_31
          try simp only [lrn] at p_33
          refine W_skip ?_
          refine W_region ?_
          refine S_move rfl ?_
          refine S_add rfl rfl (by omega) rfl ?_
          refine S_assign rfl ?_
          refine WL_nil ?_
          refine ⟨by repeat (first | refine agree_upd rfl ?_ | exact agree_mix rfl agree_refl | refine agree_mix rfl ?_), ?_⟩
          exact ⟨_, by omega, i + 1, rfl, by omega, by omega, by omega, ints_step q0 q3 (by omega) (by omega) ‹_›, rfl, rfl, trivial⟩
      ·
        have p_34 := h_10
        try simp only [lrn] at p_34
        refine W_exit ?_
        refine W_seq ?_
        refine W_region ?_
        refine S_assign rfl ?_
        refine WL_nil ?_
        refine W_ret ?_
        exact ⟨by show Value.bool _ = _; congr 1; symm; simp; exact ints_all (by omega) q0 q3 (by omega), rfl⟩
end Go.Proofs.Ytpgegnmaophapaa
