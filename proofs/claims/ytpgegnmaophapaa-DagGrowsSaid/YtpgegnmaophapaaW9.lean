/- The walks of a history's functions, printed by program. -/
import Derived.Test.YtpgegnmaophapaaW8
namespace Go.Proofs.Ytpgegnmaophapaa
open Go.Wk Classical
theorem path_ref_ok {M : List Nat} {w0 : World} {A : Option Addr} {cap : Nat} {l : List Commit} (h : (rSlice rCommit).rd M w0 [.slice A l.length cap] l) (hM : ∀ b ∈ M, b < w0.heap.size) (hl : l.length ≤ 60) (a b : Int) (hia : InI a) (hib : InI b) :
    CallR Try.prog 17 [.slice A l.length cap, .int .i64 a, .int .i64 b] w0 (fun v w' => ∃ L A cap, v = .slice A L.length cap ∧ (rSlice rInt).rd M w' [.slice A L.length cap] L ∧ PathL l a b L ∧ Ext [] w0 w') := by
  have ll := rSlice_len h
  refine Call1 Try.func17 rfl rfl rfl rfl ?_
  refine W_seq ?_
  refine W_region ?_
  refine S_assign rfl ?_
  refine WL_nil ?_
  refine W_seq ?_
  refine W_seq ?_
  refine W_region ?_
  refine S_move rfl ?_
  refine S_move rfl ?_
  refine S_move rfl ?_
  have hz_3 := reaches_ref_ok h hM hl a b hia
  refine S_callE Try.call22 rfl hz_3 rfl ?_
  intro w_1 e_2
  have E_4 := Ext.stepO (Ext.refl [] w0) e_2 mem0
  refine S_not rfl rfl ?_
  refine WL_nil ?_
  refine W_cond rfl (fun h_6 => ?_) (fun h_6 => ?_)
  ·
    have h_7 := h_6
    simp only [lrnN] at h_7
    have p_8 := h_7
    try simp only [lrn] at p_8
    refine W_seq ?_
    refine W_region ?_
    refine S_assign rfl ?_
    refine WL_nil ?_
    refine W_ret ?_
    exact ⟨[], _, _, rfl, rd_nil, pathL_no ‹¬ _›, E_4⟩
  ·
    have h_9 := h_6
    simp only [lrnN] at h_9
    have p_10 := h_9
    try simp only [lrn] at p_10
    refine W_skip ?_
    refine W_seq ?_
    refine W_region ?_
    refine S_move rfl ?_
    have hz : Right l ∧ Rch l a b := ‹_›
    have ⟨hr, hR0⟩ := hz
    have ⟨⟨a1, a2⟩, tb⟩ := hR0.there
    have ⟨b1, b2⟩ := tb
    have h_11 := Rep.ext _ h E_4
    have hz_19 := table_ok h_11 (fun x hx => Nat.lt_of_lt_of_le (hM x hx) (E_4).size) ‹Right _› hl
    refine S_call Try.call28 rfl hz_19 rfl ?_
    rintro _ w_12 ⟨L_14, A_15, cap_16, rfl, hr_17, hp_18, e_13⟩
    have E_20 := Ext.stepO E_4 e_13 mem0
    have hl_21 := rSlice_len hr_17
    refine S_assign rfl ?_
    refine WL_nil ?_
    refine W_seq ?_
    refine W_region ?_
    refine S_move rfl ?_
    refine S_buildSlice Try.runUnderlying26 Try.sizeOf3 Try.zeroValue3 rfl rfl rfl rfl rfl rfl rfl ?_
    intro b_22 w_23 e_24 z_25 z_26 ho_27
    have hb_28 : w0.heap.size ≤ b_22 := by have := (E_20).size; omega
    have E_29 := Ext.stepO E_20 e_24 mem0
    have h_30 := Rep.mono (M' := b_22 :: M) _ hr_17 e_24 mem0 (cons_fresh z_25)
    have ho_27 : Own _ _ _ [_] := ho_27
    refine S_assign rfl ?_
    have ha_31 := acc_ints (xs := [a]) (M := M) ho_27 (notin_old hM hb_28) (by simp [InI]; omega)
    have hb_32 : ∀ x ∈ [b_22], w0.heap.size ≤ x := memC hb_28 mem0
    refine WL_nil ?_
    refine W_seq ?_
    refine W_block ?_
    refine W_loopF [1, 8, 9, 10, 11, 21, 22, 23, 24, 25, 26, 27, 28, 29, 30, 31, 32, 33, 34, 35, 36, 37, 38, 39, 40, 41, 42, 43, 44, 45, 46, 47, 48, 49, 50, 51, 52, 53, 54, 55, 56, 57, 58, 59] (fun m f w => ∃ (cur : Int) (xs : List Int) (A_33 : Option Addr) (cap_34 : Nat) (bs_35 : List Nat), m = cur.toNat ∧ Rch l cur b ∧ Trail l b a cur xs ∧ xs.length + cur ≤ a + 1 ∧ cur ≤ a ∧ Ext [] w0 w ∧ Ext ([b_22]) w_23 w ∧ Acc rInt M w (.slice A_33 xs.length cap_34) xs bs_35 ∧ (∀ b ∈ bs_35, w0.heap.size ≤ b) ∧ (∀ b ∈ bs_35, b ∈ [b_22] ∨ (w_23).heap.size ≤ b) ∧ Live f [(1, .int .i64 cur), (8, .slice A_33 xs.length cap_34)]) ?_ ?_
    · exact ⟨_, a, [a], _, _, _, rfl, hR0, trail_zero, by simp; omega, by omega, E_29, (Ext.refl _ _), ha_31, hb_32, rel_refl, rfl, rfl, trivial⟩
    ·
      rintro m g_43 w_39 ⟨cur, xs, A_33, cap_34, bs_35, rfl, q0, q1, q2, q3, E_40, e_41, ha_36, hb_37, rel_38, hl_42⟩
      refine W_liveM hl_42 rfl ?_
      have h_44 := Rep.extB _ h_30 e_41 (by intro x hx; first | (simp [hx]; done) | (simp at hx; first | (subst hx; assumption) | (rcases hx with rfl | rfl <;> simp; done) | simp [hx]))
      refine W_seq ?_
      refine W_seq ?_
      refine W_region ?_
      refine S_move rfl ?_
      refine S_move rfl ?_
      refine S_neq rfl rfl rfl ?_
      refine WL_nil ?_
      refine W_cond rfl (fun h_46 => ?_) (fun h_46 => ?_)
      ·
        have p_47 := h_46
        try simp only [lrn] at p_47
        refine W_skip ?_
        refine W_block ?_
        refine W_seq ?_
        refine W_region ?_
        refine S_assign rfl ?_
        refine WL_nil ?_
        refine W_seq ?_
        refine W_region ?_
        have hn : ¬ cur = b := ‹_›
        have tc := q0.there.1
        have ⟨c1, c2⟩ := tc
        refine S_move rfl ?_
        refine S_move rfl ?_
        refine S_sub rfl rfl (by omega) rfl ?_
        have h_48 := Rep.ext _ h E_40
        refine S_index Try.runUnderlying22 Try.sizeOf37 h_48 rfl (by omega) (by omega) rfl ?_
        intro b_49 o_50 cs_51 hi_52 hc_53 hb_54 hr_55
        have o_62 := rCommit_cells hc_53 hr_55
        obtain ⟨c_56, c_59, ⟨hc_57, hr_58⟩, ⟨hc_60, hr_61⟩⟩ := o_62
        refine S_fieldAddr Try.runUnderlying37 rfl Try.sizeOf26 rfl rfl ?_
        refine S_loadR Try.isAgg26 rfl hc_60 hr_61 rfl rfl ?_
        intro v_63 h_64
        have o_68 := rSlice_val h_64
        obtain ⟨A_66, cap_67, rfl⟩ := o_68
        have hl_65 := rSlice_len h_64
        refine S_assign rfl ?_
        refine WL_nil ?_
        refine W_seq ?_
        refine W_seq ?_
        refine W_region ?_
        refine S_move rfl ?_
        refine S_len Try.runUnderlying26 rfl rfl ?_
        refine S_sub rfl rfl (by omega) rfl ?_
        refine S_assign rfl ?_
        refine WL_nil ?_
        refine W_block ?_
        refine W_loopF [9, 11, 33, 34, 35, 36, 37, 38, 39, 40, 41, 42, 43, 44, 45, 46, 47, 48, 49, 50, 51, 52, 53, 54] (fun m f w => ∃ (k : Int) (nx : Int), m = (k + 1).toNat ∧ -1 ≤ k ∧ k < l[(cur - 1).toNat].Parents.length ∧ LastNx l b l[(cur - 1).toNat].Parents k nx ∧ w_39 = w ∧ Live f [(11, .int .i64 k), (9, .int .i64 nx)]) ?_ ?_
        · exact ⟨_, _, 0, rfl, by omega, by omega, lastNx_zero (by omega), rfl, rfl, rfl, trivial⟩
        ·
          rintro m g_71 _ ⟨k, nx, rfl, s0, s1, s2, rfl, hl_70⟩
          refine W_liveM hl_70 rfl ?_
          refine W_seq ?_
          refine W_seq ?_
          refine W_region ?_
          refine S_move rfl ?_
          refine S_geq rfl rfl rfl ?_
          refine WL_nil ?_
          refine W_cond rfl (fun h_74 => ?_) (fun h_74 => ?_)
          ·
            have p_75 := h_74
            try simp only [lrn] at p_75
            refine W_skip ?_
            refine W_seq ?_
            refine W_block ?_
            refine W_seq ?_
            refine W_region ?_
            refine S_move rfl ?_
            refine S_move rfl ?_
            refine S_move rfl ?_
            refine S_index Try.runUnderlying26 Try.sizeOf3 h_64 rfl (by omega) (by omega) rfl ?_
            intro b_76 o_77 cs_78 hi_79 hc_80 hb_81 hr_82
            refine S_loadI Try.isAgg3 rfl hc_80 hr_82 rfl ?_
            rintro ⟨r_83, r_84⟩
            have tp : There l l[(cur - 1).toNat].Parents[k.toNat] := par_there hr tc (by rw [pars_get tc (by omega)]; exact List.getElem_mem _)
            have ⟨p1, p2⟩ := tp
            have m3 := mulq (a := l[(cur - 1).toNat].Parents[k.toNat] - 1) (n := l.length) (by omega) (by omega) (by omega) (by omega)
            refine S_sub rfl rfl (by omega) rfl ?_
            refine S_move rfl ?_
            refine S_len Try.runUnderlying22 rfl rfl ?_
            refine S_mul rfl rfl (by omega) rfl ?_
            refine S_move rfl ?_
            refine S_add rfl rfl (by omega) rfl ?_
            refine S_sub rfl rfl (by omega) rfl ?_
            refine S_index Try.runUnderlying44 Try.sizeOf4 h_44 rfl (tabq hp_18 tp tb).1 (tabq hp_18 tp tb).2.1 rfl ?_
            intro b_85 o_86 cs_87 hi_88 hc_89 hb_90 hr_91
            refine S_loadB Try.isAgg4 rfl hc_89 hr_91 rfl ?_
            refine WL_nil ?_
            refine W_cond rfl (fun h_93 => ?_) (fun h_93 => ?_)
            ·
              have p_94 := h_93
              try simp only [lrn] at p_94
              refine W_region ?_
              refine S_move rfl ?_
              refine S_move rfl ?_
              refine S_index Try.runUnderlying26 Try.sizeOf3 h_64 rfl (by omega) (by omega) rfl ?_
              intro b_95 o_96 cs_97 hi_98 hc_99 hb_100 hr_101
              refine S_loadI Try.isAgg3 rfl hc_99 hr_101 rfl ?_
              rintro ⟨r_102, r_103⟩
              refine S_assign rfl ?_
              refine WL_nil ?_
              refine W_region ?_
              refine S_move rfl ?_
              refine S_sub rfl rfl (by omega) rfl ?_
              refine S_assign rfl ?_
              refine WL_nil ?_
              refine ⟨by repeat (first | refine agree_upd rfl ?_ | exact agree_mix rfl agree_refl | refine agree_mix rfl ?_), ?_⟩
              exact ⟨_, by omega, k - 1, _, rfl, by omega, by omega, by first | exact lastNx_t (by omega) (by omega) (tabT hp_18 tp tb (by assumption)) | exact lastNx_f s2 (by omega) (by omega) (tabF hp_18 tp tb (by assumption)), rfl, rfl, rfl, trivial⟩
            ·
              have p_104 := h_93
              try simp only [lrn] at p_104
              refine W_skip ?_
              refine W_region ?_
              refine S_move rfl ?_
              refine S_sub rfl rfl (by omega) rfl ?_
              refine S_assign rfl ?_
              refine WL_nil ?_
              refine ⟨by repeat (first | refine agree_upd rfl ?_ | exact agree_mix rfl agree_refl | refine agree_mix rfl ?_), ?_⟩
              exact ⟨_, by omega, k - 1, _, rfl, by omega, by omega, by first | exact lastNx_t (by omega) (by omega) (tabT hp_18 tp tb (by assumption)) | exact lastNx_f s2 (by omega) (by omega) (tabF hp_18 tp tb (by assumption)), rfl, rfl, rfl, trivial⟩
          ·
            have p_105 := h_74
            try simp only [lrn] at p_105
            refine W_exit ?_
            refine W_seq ?_
            refine W_region ?_
            have ⟨p, hp1, hp2, hp3⟩ := nxt_some q0 hn
            have en := lastNx_all tc s2 (by omega) hp1
            subst en
            have ⟨n1, n2⟩ := par_lt hr tc hp2
            refine S_move rfl ?_
            refine S_move rfl ?_
            refine S_buildSlice Try.runUnderlying26 Try.sizeOf3 Try.zeroValue3 rfl rfl rfl rfl rfl rfl rfl ?_
            intro b_106 w_107 e_108 z_109 z_110 ho_111
            have hb_112 : w0.heap.size ≤ b_106 := by have := (E_40).size; omega
            have n_113 : (w_23).heap.size ≤ b_106 := by have := (e_41).size; omega
            have n_114 : b_106 ∉ bs_35 := fun h => by have := Acc.bs_lt ha_36 _ h; omega
            have E_115 := Ext.stepO E_40 e_108 mem0
            have c_116 := Ext.stepO e_41 e_108 mem0
            have h_117 := Rep.mono (M' := b_106 :: (b_22 :: M)) _ h_44 e_108 mem0 (cons_fresh z_109)
            have h_118 := Acc.ext (Acc.weak ha_36 (cons_fresh z_109)) e_108 mem0
            have h_119 := Rep.mono (M' := b_106 :: M) _ h_64 e_108 mem0 (cons_fresh z_109)
            have h_120 := Rep.mono (M' := b_106 :: M) _ hr_55 e_108 mem0 (cons_fresh z_109)
            have hb_122 : b_49 ∉ b_106 :: M := ninC (by have := Cells.lt hc_53; omega) hb_54
            have h_121 := Cells.ext hc_53 e_108 nin0
            have h_123 := Rep.mono (M' := b_106 :: M) _ hr_61 e_108 mem0 (cons_fresh z_109)
            have hb_125 : b_49 ∉ b_106 :: M := ninC (by have := Cells.lt hc_60; omega) hb_54
            have h_124 := Cells.ext hc_60 e_108 nin0
            have ho_111 : Own _ _ _ [_] := ho_111
            have h_126 := Acc.weak (M' := M) h_118 (fun x hx => .inl (List.mem_cons_of_mem _ hx))
            have hr_127 := rd_ints (xs := [_]) (M := bs_35 ++ M) ho_111 (ninA n_114 (notin_old hM hb_112)) (by simp [InI]; omega) (by simp)
            refine S_append Try.runUnderlying26 Try.typeInfo3 Try.sizeOf3 Try.zeroValue3 rfl h_126 hr_127 (by show _ * 8 ≤ _; simp; omega) (by decide) (fun x hx => Nat.lt_of_lt_of_le (hM x hx) (E_115).size) rfl ?_
            intro v_128 w_129 bs_130 ha_131 e_132 hf_133
            have hb_134 := fresh_bs hf_133 hb_37 (E_115).size
            have rel_135 := rel_step hf_133 rel_38 (c_116).size
            have E_136 := Ext.stepO E_115 e_132 (fun x hx => .inr (hb_37 x hx))
            have c_137 := Ext.stepO c_116 e_132 (fun x hx => (rel_38 x hx).imp (fun h => by first | exact h | (cases h; done) | simp [h]) id)
            have o_140 := Acc.val ha_131
            obtain ⟨A_138, cap_139, rfl⟩ := o_140
            refine S_assign rfl ?_
            refine WL_nil ?_
            refine W_region ?_
            refine S_move rfl ?_
            refine S_assign rfl ?_
            refine WL_nil ?_
            refine ⟨by repeat (first | refine agree_upd rfl ?_ | exact agree_mix rfl agree_refl | refine agree_mix rfl ?_), ?_⟩
            exact ⟨_, by omega, nx, _, _, _, _, rfl, hp3, trail_step q1 hn hp1, by simp; omega, by omega, E_136, c_137, ha_131, hb_134, rel_135, rfl, rfl, trivial⟩
      ·
        have p_141 := h_46
        try simp only [lrn] at p_141
        refine W_exit ?_
        refine W_seq ?_
        refine W_region ?_
        refine S_move rfl ?_
        refine S_assign rfl ?_
        refine WL_nil ?_
        refine W_ret ?_
        exact ⟨_, _, _, rfl, Acc.rd ha_36 (by omega), pathL_yes hr hR0 q1 ‹_›, E_40⟩
end Go.Proofs.Ytpgegnmaophapaa
