/- The walks of a history's functions, printed by program. -/
import Derived.Test.YtpgegnmaophapaaW8
namespace Go.Proofs.Ytpgegnmaophapaa
open Go.Wk Classical
theorem path_ref_ok {M : List Nat} {w0 : World} {A : Option Addr} {cap : Nat} {l : List Commit} (h : (rSlice rCommit).rd M w0 [.slice A l.length cap] l) (hM : ∀ b ∈ M, b < w0.heap.size) (hl : l.length ≤ 60) (a b : Int) (hia : InI a) (hib : InI b) :
    CallR Try.prog 17 [.slice A l.length cap, .int .i64 a, .int .i64 b] w0 (fun v w' => ∃ L A cap, v = .slice A L.length cap ∧ (rSlice rInt).rd M w' [.slice A L.length cap] L ∧ PathL l a b L ∧ Ext [] w0 w') := by
  have ll := rSlice_len h
  refine Call1 Try.func17 rfl rfl rfl rfl ?_
  refine W_seq ?_
  refine W_region ?_
  refine S_assign rfl ?_
  refine WL_nil ?_
  refine W_seq ?_
  refine W_seq ?_
  refine W_region ?_
  refine S_move rfl ?_
  refine S_move rfl ?_
  refine S_move rfl ?_
  refine S_call Try.call22 rfl (reaches_ref_ok h hM hl a b hia) rfl ?_
  rintro _ w_1 ⟨rfl, e_2⟩
  have E_3 := Ext.stepO (Ext.refl [] w0) e_2 mem0
  refine S_not rfl rfl ?_
  refine WL_nil ?_
  refine W_cond rfl (fun h_5 => ?_) (fun h_5 => ?_)
  ·
    have h_6 := h_5
    simp only [lrnN] at h_6
    have p_7 := h_6
    try simp only [lrn] at p_7
    refine W_seq ?_
    refine W_region ?_
    refine S_assign rfl ?_
    refine WL_nil ?_
    refine W_ret ?_
    exact ⟨[], _, _, rfl, rd_nil, pathL_no ‹¬ _›, E_3⟩
  ·
    have h_8 := h_5
    simp only [lrnN] at h_8
    have p_9 := h_8
    try simp only [lrn] at p_9
    refine W_skip ?_
    refine W_seq ?_
    refine W_region ?_
    refine S_move rfl ?_
    have hz : Right l ∧ Rch l a b := ‹_›
    have ⟨hr, hR0⟩ := hz
    have ⟨⟨a1, a2⟩, tb⟩ := hR0.there
    have ⟨b1, b2⟩ := tb
    have h_10 := Rep.ext _ h E_3
    have hz_18 := table_ok h_10 (fun x hx => Nat.lt_of_lt_of_le (hM x hx) (E_3).size) ‹Right _› hl
    refine S_call Try.call28 rfl hz_18 rfl ?_
    rintro _ w_11 ⟨L_13, A_14, cap_15, rfl, hr_16, hp_17, e_12⟩
    have E_19 := Ext.stepO E_3 e_12 mem0
    have hl_20 := rSlice_len hr_16
    refine S_assign rfl ?_
    refine WL_nil ?_
    refine W_seq ?_
    refine W_region ?_
    refine S_move rfl ?_
    refine S_buildSlice Try.runUnderlying26 Try.sizeOf3 Try.zeroValue3 rfl rfl rfl rfl rfl rfl rfl ?_
    intro b_21 w_22 e_23 z_24 z_25 ho_26
    have hb_27 : w0.heap.size ≤ b_21 := by have := (E_19).size; omega
    have E_28 := Ext.stepO E_19 e_23 mem0
    have h_29 := Rep.mono (M' := b_21 :: M) _ hr_16 e_23 mem0 (cons_fresh z_24)
    have ho_26 : Own _ _ _ [_] := ho_26
    refine S_assign rfl ?_
    have ha_30 := acc_ints (xs := [a]) (M := M) ho_26 (notin_old hM hb_27) (by simp [InI]; omega)
    have hb_31 : ∀ x ∈ [b_21], w0.heap.size ≤ x := memC hb_27 mem0
    refine WL_nil ?_
    refine W_seq ?_
    refine W_block ?_
    refine W_loopF [1, 8, 9, 10, 11, 21, 22, 23, 24, 25, 26, 27, 28, 29, 30, 31, 32, 33, 34, 35, 36, 37, 38, 39, 40, 41, 42, 43, 44, 45, 46, 47, 48, 49, 50, 51, 52, 53, 54, 55, 56, 57, 58, 59] (fun m f w => ∃ (cur : Int) (xs : List Int) (A_32 : Option Addr) (cap_33 : Nat) (bs_34 : List Nat), m = cur.toNat ∧ Rch l cur b ∧ Trail l b a cur xs ∧ xs.length + cur ≤ a + 1 ∧ cur ≤ a ∧ Ext [] w0 w ∧ Ext ([b_21]) w_22 w ∧ Acc rInt M w (.slice A_32 xs.length cap_33) xs bs_34 ∧ (∀ b ∈ bs_34, w0.heap.size ≤ b) ∧ (∀ b ∈ bs_34, b ∈ [b_21] ∨ (w_22).heap.size ≤ b) ∧ Live f [(1, .int .i64 cur), (8, .slice A_32 xs.length cap_33)]) ?_ ?_
    · exact ⟨_, a, [a], _, _, _, rfl, hR0, trail_zero, by simp; omega, by omega, E_28, (Ext.refl _ _), ha_30, hb_31, rel_refl, rfl, rfl, trivial⟩
    ·
      rintro m g_42 w_38 ⟨cur, xs, A_32, cap_33, bs_34, rfl, q0, q1, q2, q3, E_39, e_40, ha_35, hb_36, rel_37, hl_41⟩
      refine W_liveM hl_41 rfl ?_
      have h_43 := Rep.extB _ h_29 e_40 (by intro x hx; simp at hx; first | (subst hx; assumption) | (rcases hx with rfl | rfl <;> simp; done) | simp [hx])
      refine W_seq ?_
      refine W_seq ?_
      refine W_region ?_
      refine S_move rfl ?_
      refine S_move rfl ?_
      refine S_neq rfl rfl rfl ?_
      refine WL_nil ?_
      refine W_cond rfl (fun h_45 => ?_) (fun h_45 => ?_)
      ·
        have p_46 := h_45
        try simp only [lrn] at p_46
        refine W_skip ?_
        refine W_block ?_
        refine W_seq ?_
        refine W_region ?_
        refine S_assign rfl ?_
        refine WL_nil ?_
        refine W_seq ?_
        refine W_region ?_
        have hn : ¬ cur = b := ‹_›
        have tc := q0.there.1
        have ⟨c1, c2⟩ := tc
        refine S_move rfl ?_
        refine S_move rfl ?_
        refine S_sub rfl rfl (by omega) rfl ?_
        have h_47 := Rep.ext _ h E_39
        refine S_index Try.runUnderlying22 Try.sizeOf37 h_47 rfl (by omega) (by omega) rfl ?_
        intro b_48 o_49 cs_50 hi_51 hc_52 hb_53 hr_54
        have o_61 := rCommit_cells hc_52 hr_54
        obtain ⟨c_55, c_58, ⟨hc_56, hr_57⟩, ⟨hc_59, hr_60⟩⟩ := o_61
        refine S_fieldAddr Try.runUnderlying37 rfl Try.sizeOf26 rfl rfl ?_
        refine S_loadR Try.isAgg26 rfl hc_59 hr_60 rfl rfl ?_
        intro v_62 h_63
        have o_67 := rSlice_val h_63
        obtain ⟨A_65, cap_66, rfl⟩ := o_67
        have hl_64 := rSlice_len h_63
        refine S_assign rfl ?_
        refine WL_nil ?_
        refine W_seq ?_
        refine W_seq ?_
        refine W_region ?_
        refine S_move rfl ?_
        refine S_len Try.runUnderlying26 rfl rfl ?_
        refine S_sub rfl rfl (by omega) rfl ?_
        refine S_assign rfl ?_
        refine WL_nil ?_
        refine W_block ?_
        refine W_loopF [9, 11, 33, 34, 35, 36, 37, 38, 39, 40, 41, 42, 43, 44, 45, 46, 47, 48, 49, 50, 51, 52, 53, 54] (fun m f w => ∃ (k : Int) (nx : Int), m = (k + 1).toNat ∧ -1 ≤ k ∧ k < l[(cur - 1).toNat].Parents.length ∧ LastNx l b l[(cur - 1).toNat].Parents k nx ∧ w_38 = w ∧ Live f [(11, .int .i64 k), (9, .int .i64 nx)]) ?_ ?_
        · exact ⟨_, _, 0, rfl, by omega, by omega, lastNx_zero (by omega), rfl, rfl, rfl, trivial⟩
        ·
          rintro m g_70 _ ⟨k, nx, rfl, s0, s1, s2, rfl, hl_69⟩
          refine W_liveM hl_69 rfl ?_
          refine W_seq ?_
          refine W_seq ?_
          refine W_region ?_
          refine S_move rfl ?_
          refine S_geq rfl rfl rfl ?_
          refine WL_nil ?_
          refine W_cond rfl (fun h_73 => ?_) (fun h_73 => ?_)
          ·
            have p_74 := h_73
            try simp only [lrn] at p_74
            refine W_skip ?_
            refine W_seq ?_
            refine W_block ?_
            refine W_seq ?_
            refine W_region ?_
            refine S_move rfl ?_
            refine S_move rfl ?_
            refine S_move rfl ?_
            refine S_index Try.runUnderlying26 Try.sizeOf3 h_63 rfl (by omega) (by omega) rfl ?_
            intro b_75 o_76 cs_77 hi_78 hc_79 hb_80 hr_81
            refine S_loadI Try.isAgg3 rfl hc_79 hr_81 rfl ?_
            rintro ⟨r_82, r_83⟩
            have tp : There l l[(cur - 1).toNat].Parents[k.toNat] := par_there hr tc (by rw [pars_get tc (by omega)]; exact List.getElem_mem _)
            have ⟨p1, p2⟩ := tp
            have m3 := mulq (a := l[(cur - 1).toNat].Parents[k.toNat] - 1) (n := l.length) (by omega) (by omega) (by omega) (by omega)
            refine S_sub rfl rfl (by omega) rfl ?_
            refine S_move rfl ?_
            refine S_len Try.runUnderlying22 rfl rfl ?_
            refine S_mul rfl rfl (by omega) rfl ?_
            refine S_move rfl ?_
            refine S_add rfl rfl (by omega) rfl ?_
            refine S_sub rfl rfl (by omega) rfl ?_
            refine S_index Try.runUnderlying44 Try.sizeOf4 h_43 rfl (tabq hp_17 tp tb).1 (tabq hp_17 tp tb).2.1 rfl ?_
            intro b_84 o_85 cs_86 hi_87 hc_88 hb_89 hr_90
            refine S_loadB Try.isAgg4 rfl hc_88 hr_90 rfl ?_
            refine WL_nil ?_
            refine W_cond rfl (fun h_92 => ?_) (fun h_92 => ?_)
            ·
              have p_93 := h_92
              try simp only [lrn] at p_93
              refine W_region ?_
              refine S_move rfl ?_
              refine S_move rfl ?_
              refine S_index Try.runUnderlying26 Try.sizeOf3 h_63 rfl (by omega) (by omega) rfl ?_
              intro b_94 o_95 cs_96 hi_97 hc_98 hb_99 hr_100
              refine S_loadI Try.isAgg3 rfl hc_98 hr_100 rfl ?_
              rintro ⟨r_101, r_102⟩
              refine S_assign rfl ?_
              refine WL_nil ?_
              refine W_region ?_
              refine S_move rfl ?_
              refine S_sub rfl rfl (by omega) rfl ?_
              refine S_assign rfl ?_
              refine WL_nil ?_
              refine ⟨by repeat (first | refine agree_upd rfl ?_ | exact agree_mix rfl agree_refl | refine agree_mix rfl ?_), ?_⟩
              exact ⟨_, by omega, k - 1, _, rfl, by omega, by omega, by first | exact lastNx_t (by omega) (by omega) (tabT hp_17 tp tb (by assumption)) | exact lastNx_f s2 (by omega) (by omega) (tabF hp_17 tp tb (by assumption)), rfl, rfl, rfl, trivial⟩
            ·
              have p_103 := h_92
              try simp only [lrn] at p_103
              refine W_skip ?_
              refine W_region ?_
              refine S_move rfl ?_
              refine S_sub rfl rfl (by omega) rfl ?_
              refine S_assign rfl ?_
              refine WL_nil ?_
              refine ⟨by repeat (first | refine agree_upd rfl ?_ | exact agree_mix rfl agree_refl | refine agree_mix rfl ?_), ?_⟩
              exact ⟨_, by omega, k - 1, _, rfl, by omega, by omega, by first | exact lastNx_t (by omega) (by omega) (tabT hp_17 tp tb (by assumption)) | exact lastNx_f s2 (by omega) (by omega) (tabF hp_17 tp tb (by assumption)), rfl, rfl, rfl, trivial⟩
          ·
            have p_104 := h_73
            try simp only [lrn] at p_104
            refine W_exit ?_
            refine W_seq ?_
            refine W_region ?_
            have ⟨p, hp1, hp2, hp3⟩ := nxt_some q0 hn
            have en := lastNx_all tc s2 (by omega) hp1
            subst en
            have ⟨n1, n2⟩ := par_lt hr tc hp2
            refine S_move rfl ?_
            refine S_move rfl ?_
            refine S_buildSlice Try.runUnderlying26 Try.sizeOf3 Try.zeroValue3 rfl rfl rfl rfl rfl rfl rfl ?_
            intro b_105 w_106 e_107 z_108 z_109 ho_110
            have hb_111 : w0.heap.size ≤ b_105 := by have := (E_39).size; omega
            have n_112 : (w_22).heap.size ≤ b_105 := by have := (e_40).size; omega
            have n_113 : b_105 ∉ bs_34 := fun h => by have := Acc.bs_lt ha_35 _ h; omega
            have E_114 := Ext.stepO E_39 e_107 mem0
            have c_115 := Ext.stepO e_40 e_107 mem0
            have h_116 := Rep.mono (M' := b_105 :: (b_21 :: M)) _ h_43 e_107 mem0 (cons_fresh z_108)
            have h_117 := Acc.ext (Acc.weak ha_35 (cons_fresh z_108)) e_107 mem0
            have h_118 := Rep.mono (M' := b_105 :: M) _ h_63 e_107 mem0 (cons_fresh z_108)
            have h_119 := Rep.mono (M' := b_105 :: M) _ hr_54 e_107 mem0 (cons_fresh z_108)
            have hb_121 : b_48 ∉ b_105 :: M := ninC (by have := Cells.lt hc_52; omega) hb_53
            have h_120 := Cells.ext hc_52 e_107 nin0
            have h_122 := Rep.mono (M' := b_105 :: M) _ hr_60 e_107 mem0 (cons_fresh z_108)
            have hb_124 : b_48 ∉ b_105 :: M := ninC (by have := Cells.lt hc_59; omega) hb_53
            have h_123 := Cells.ext hc_59 e_107 nin0
            have ho_110 : Own _ _ _ [_] := ho_110
            have h_125 := Acc.weak (M' := M) h_117 (fun x hx => .inl (List.mem_cons_of_mem _ hx))
            have hr_126 := rd_ints (xs := [_]) (M := bs_34 ++ M) ho_110 (ninA n_113 (notin_old hM hb_111)) (by simp [InI]; omega) (by simp)
            refine S_append Try.runUnderlying26 Try.typeInfo3 Try.sizeOf3 Try.zeroValue3 rfl h_125 hr_126 (by show _ * 8 ≤ _; simp; omega) (by decide) (fun x hx => Nat.lt_of_lt_of_le (hM x hx) (E_114).size) rfl ?_
            intro v_127 w_128 bs_129 ha_130 e_131 hf_132
            have hb_133 := fresh_bs hf_132 hb_36 (E_114).size
            have rel_134 := rel_step hf_132 rel_37 (c_115).size
            have E_135 := Ext.stepO E_114 e_131 (fun x hx => .inr (hb_36 x hx))
            have c_136 := Ext.stepO c_115 e_131 (fun x hx => (rel_37 x hx).imp (fun h => by first | exact h | (cases h; done) | simp [h]) id)
            have o_139 := Acc.val ha_130
            obtain ⟨A_137, cap_138, rfl⟩ := o_139
            refine S_assign rfl ?_
            refine WL_nil ?_
            refine W_region ?_
            refine S_move rfl ?_
            refine S_assign rfl ?_
            refine WL_nil ?_
            refine ⟨by repeat (first | refine agree_upd rfl ?_ | exact agree_mix rfl agree_refl | refine agree_mix rfl ?_), ?_⟩
            exact ⟨_, by omega, nx, _, _, _, _, rfl, hp3, trail_step q1 hn hp1, by simp; omega, by omega, E_135, c_136, ha_130, hb_133, rel_134, rfl, rfl, trivial⟩
      ·
        have p_140 := h_45
        try simp only [lrn] at p_140
        refine W_exit ?_
        refine W_seq ?_
        refine W_region ?_
        refine S_move rfl ?_
        refine S_assign rfl ?_
        refine WL_nil ?_
        refine W_ret ?_
        exact ⟨_, _, _, rfl, Acc.rd ha_35 (by omega), pathL_yes hr hR0 q1 ‹_›, E_39⟩
end Go.Proofs.Ytpgegnmaophapaa
