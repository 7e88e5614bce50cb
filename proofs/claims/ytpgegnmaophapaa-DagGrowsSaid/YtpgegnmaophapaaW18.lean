/- The walks of a history's functions, printed by program. -/
import Derived.Test.YtpgegnmaophapaaW15
import Derived.Test.YtpgegnmaophapaaT4
import Derived.Test.YtpgegnmaophapaaWkV
namespace Go.Proofs.Ytpgegnmaophapaa
open Go.Wk Classical
set_option maxHeartbeats 2000000 in
theorem grows_law_ok {M : List Nat} {w0 : World} (hM : ∀ b ∈ M, b < w0.heap.size) {A' : Option Addr} {cap' : Nat} {x : List Int} (hi : (rSlice rInt).rd M w0 [.slice A' x.length cap'] x) {A2 : Option Addr} {cap2 : Nat} {on : List Int} (hon : (rSlice rInt).rd M w0 [.slice A2 on.length cap2] on) (a b : Int) (hia : InI a) (hib : InI b) :
    CallR Try.prog 7 [.slice A' x.length cap', .slice A2 on.length cap2, .int .i64 a, .int .i64 b] w0 (fun v w' => v = .bool true ∧ Ext [] w0 w') := by
  have li := rSlice_len hi
  have lon := rSlice_len hon
  refine Call1 Try.func7 rfl rfl rfl rfl ?_
  refine W_seq ?_
  refine W_region ?_
  refine S_assign rfl ?_
  refine WL_nil ?_
  refine W_seq ?_
  refine W_seq ?_
  refine W_region ?_
  refine S_move rfl ?_
  refine S_len Try.runUnderlying26 rfl rfl ?_
  refine S_gtr rfl rfl rfl ?_
  refine S_move rfl ?_
  refine WL_split (dj := 23) rfl (fun h_2 => ?_) (fun h_2 => ?_)
  ·
    have p_3 := h_2
    try simp only [lrn] at p_3
    refine WL_off rfl rfl rfl (bT h_2) ?_
    refine WL_off rfl rfl rfl (bT h_2) ?_
    refine WL_off rfl rfl rfl (bT h_2) ?_
    refine S_pick_t (bT h_2) rfl ?_
    refine S_move rfl ?_
    refine WL_off rfl rfl rfl rfl ?_
    refine WL_off rfl rfl rfl rfl ?_
    refine WL_off rfl rfl rfl rfl ?_
    refine S_pick_t rfl rfl ?_
    refine WL_nil ?_
    refine W_cond_true rfl ?_
    refine W_seq ?_
    refine W_region ?_
    refine S_callE Try.call10 rfl (alive_ok (M := M) hM) rfl ?_
    intro w_4 e_5
    have E_6 := Ext.stepO (Ext.refl [] w0) e_5 mem0
    refine S_assign rfl ?_
    refine WL_nil ?_
    refine W_ret ?_
    exact ⟨rfl, E_6⟩
  ·
    have p_7 := h_2
    try simp only [lrn] at p_7
    refine WL_on rfl rfl (bF h_2) ?_
    refine S_move rfl ?_
    refine WL_on rfl rfl (bF h_2) ?_
    refine S_len Try.runUnderlying26 rfl rfl ?_
    refine WL_on rfl rfl (bF h_2) ?_
    refine S_eql rfl rfl rfl ?_
    refine S_pick_f (bF h_2) rfl ?_
    refine S_move rfl ?_
    refine WL_split (dj := 28) rfl (fun h_9 => ?_) (fun h_9 => ?_)
    ·
      have p_10 := h_9
      try simp only [lrn] at p_10
      refine WL_off rfl rfl rfl (bT h_9) ?_
      refine WL_off rfl rfl rfl (bT h_9) ?_
      refine WL_off rfl rfl rfl (bT h_9) ?_
      refine S_pick_t (bT h_9) rfl ?_
      refine WL_nil ?_
      refine W_cond_true rfl ?_
      refine W_seq ?_
      refine W_region ?_
      refine S_callE Try.call10 rfl (alive_ok (M := M) hM) rfl ?_
      intro w_11 e_12
      have E_13 := Ext.stepO (Ext.refl [] w0) e_12 mem0
      refine S_assign rfl ?_
      refine WL_nil ?_
      refine W_ret ?_
      exact ⟨rfl, E_13⟩
    ·
      have p_14 := h_9
      try simp only [lrn] at p_14
      refine WL_on rfl rfl (bF h_9) ?_
      refine S_move rfl ?_
      refine WL_on rfl rfl (bF h_9) ?_
      refine S_len Try.runUnderlying26 rfl rfl ?_
      refine WL_on rfl rfl (bF h_9) ?_
      refine S_gtr rfl rfl rfl ?_
      refine S_pick_f (bF h_9) rfl ?_
      refine WL_nil ?_
      refine W_cond rfl (fun h_16 => ?_) (fun h_16 => ?_)
      ·
        have p_17 := h_16
        try simp only [lrn] at p_17
        refine W_seq ?_
        refine W_region ?_
        refine S_callE Try.call10 rfl (alive_ok (M := M) hM) rfl ?_
        intro w_18 e_19
        have E_20 := Ext.stepO (Ext.refl [] w0) e_19 mem0
        refine S_assign rfl ?_
        refine WL_nil ?_
        refine W_ret ?_
        exact ⟨rfl, E_20⟩
      ·
        have p_21 := h_16
        try simp only [lrn] at p_21
        refine W_skip ?_
        refine W_seq ?_
        refine W_region ?_
        refine S_move rfl ?_
        have hz_29 := made_ok hM hi (by omega)
        refine S_call Try.call18 rfl hz_29 rfl ?_
        rintro _ w_22 ⟨L_24, A_25, cap_26, rfl, hr_27, hp_28, e_23⟩
        have E_30 := Ext.stepO (Ext.refl [] w0) e_23 mem0
        have hl_31 := rSlice_len hr_27
        refine S_assign rfl ?_
        refine WL_nil ?_
        refine W_seq ?_
        refine W_region ?_
        refine S_move rfl ?_
        refine S_len Try.runUnderlying22 rfl rfl ?_
        refine S_assign rfl ?_
        refine WL_nil ?_
        refine W_seq ?_
        refine W_region_quiet rfl (by decide +kernel) ?_
        have ⟨hr, hlen⟩ := hp_28
        have hl : L_24.length ≤ 60 := by omega
        have hn : 0 < (L_24.length : Int) := by omega
        have ma := tm_norm (a := a) hn
        have ha : InI (1 + (a.tmod (L_24.length : Int) + (L_24.length : Int)).tmod (L_24.length : Int)) := by unfold InI; omega
        have ta : There L_24 (1 + (a.tmod (L_24.length : Int) + (L_24.length : Int)).tmod (L_24.length : Int)) := ⟨by omega, by omega⟩
        have mb := tm_norm (a := b) hn
        have hb : InI (1 + (b.tmod (L_24.length : Int) + (L_24.length : Int)).tmod (L_24.length : Int)) := by unfold InI; omega
        have tb : There L_24 (1 + (b.tmod (L_24.length : Int) + (L_24.length : Int)).tmod (L_24.length : Int)) := ⟨by omega, by omega⟩
        skip
        refine S_move rfl ?_
        refine S_move rfl ?_
        refine S_rem rfl rfl (by omega) rfl ?_
        refine S_move rfl ?_
        refine S_add rfl rfl (by omega) rfl ?_
        refine S_move rfl ?_
        refine S_rem rfl rfl (by omega) rfl ?_
        refine S_add rfl rfl (by omega) rfl ?_
        refine S_move rfl ?_
        refine S_move rfl ?_
        refine S_rem rfl rfl (by omega) rfl ?_
        refine S_move rfl ?_
        refine S_add rfl rfl (by omega) rfl ?_
        refine S_move rfl ?_
        refine S_rem rfl rfl (by omega) rfl ?_
        refine S_add rfl rfl (by omega) rfl ?_
        refine S_assign rfl ?_
        refine S_assign rfl ?_
        refine WL_nil ?_
        refine W_seq ?_
        refine W_region ?_
        refine S_move rfl ?_
        refine S_add rfl rfl (by omega) rfl ?_
        refine S_build (pl := #[(0, 1), (1, 1)]) Try.runUnderlying37 Try.zeroValue37 (fun w => by simp [Try.sizeOf26, Try.sizeOf3]) rfl rfl rfl ?_
        refine S_alloc Try.zeroValue37 rfl ?_
        intro b_32 w_33 e_34 z_35 z_36 ho_37
        have hb_38 : w0.heap.size ≤ b_32 := by have := (E_30).size; omega
        have E_39 := Ext.stepO E_30 e_34 mem0
        have h_40 := Rep.mono (M' := b_32 :: M) _ hr_27 e_34 mem0 (cons_fresh z_35)
        have ho_37 : Own _ _ _ [_, _] := ho_37
        refine S_store Try.sizeOf37 rfl rfl rfl ho_37 (Nat.le_of_ble_eq_true rfl) rfl ?_
        intro w_41 e_42 z_43 ho_44
        have ho_44 : Own _ _ _ [_, _] := ho_44
        have E_45 := Ext.stepO E_39 e_42 (memC (.inr hb_38) mem0)
        have h_46 := Rep.extB _ h_40 e_42 (by intro x hx; first | (simp [hx]; done) | (simp at hx; first | (subst hx; assumption) | (rcases hx with rfl | rfl <;> simp; done) | simp [hx]))
        refine WL_nil ?_
        refine W_seq ?_
        refine W_seq ?_
        refine W_region ?_
        have ha_47 : Acc rInt (b_32 :: M) w_41 (.slice none 0 0) [] [] := Acc.nil
        refine S_assign rfl ?_
        refine WL_nil ?_
        refine W_block ?_
        refine W_loopF [12, 14, 57, 58, 59, 60, 61, 62, 63, 64, 65, 66, 67, 68, 69, 70, 71, 72, 73, 74, 75, 76, 77, 78, 79, 80, 81, 82, 83, 84, 85, 86, 87, 88, 89, 90, 91, 92, 93, 94, 95, 96, 97, 98, 99, 100, 101, 102] (fun m f w => ∃ (p : Int) (ps : List Int) (A_48 : Option Addr) (cap_49 : Nat) (bs_50 : List Nat), m = (L_24.length + 1 - p).toNat ∧ 1 ≤ p ∧ p ≤ L_24.length + 1 ∧ RiseP p ps ∧ (ps.length : Int) < p ∧ Ext [] w0 w ∧ Ext ([b_32]) w_41 w ∧ Own w b_32 37 [.int .i64 (L_24.length + 1), .slice A_48 ps.length cap_49] ∧ Acc rInt (b_32 :: M) w (.slice A_48 ps.length cap_49) ps bs_50 ∧ (∀ b ∈ bs_50, w0.heap.size ≤ b) ∧ (∀ b ∈ bs_50, b ∈ [] ∨ (w_41).heap.size ≤ b) ∧ Live f [(12, .int .i64 p)]) ?_ ?_
        · exact ⟨_, 1, [], _, _, _, rfl, by omega, by omega, riseP_nil, by simp, E_45, (Ext.refl _ _), ho_44, ha_47, mem0, rel_refl, rfl, trivial⟩
        ·
          rintro m g_58 w_54 ⟨p, ps, A_48, cap_49, bs_50, rfl, q0, q1, q2, q3, E_55, e_56, ho1, ha_51, hb_52, rel_53, hl_57⟩
          refine W_liveM hl_57 rfl ?_
          have h_59 := Rep.extB _ h_46 e_56 (by intro x hx; first | (simp [hx]; done) | (simp at hx; first | (subst hx; assumption) | (rcases hx with rfl | rfl <;> simp; done) | simp [hx]))
          refine W_seq ?_
          refine W_seq ?_
          refine W_region ?_
          have lp := q3
          refine S_move rfl ?_
          refine S_move rfl ?_
          refine S_leq rfl rfl rfl ?_
          refine WL_nil ?_
          refine W_cond rfl (fun h_61 => ?_) (fun h_61 => ?_)
          ·
            have p_62 := h_61
            try simp only [lrn] at p_62
            refine W_skip ?_
            refine W_seq ?_
            refine W_block ?_
            refine W_seq ?_
            refine W_region ?_
            refine S_move rfl ?_
            refine S_len Try.runUnderlying26 rfl rfl ?_
            refine S_move rfl ?_
            refine WL_nil ?_
            refine W_block ?_
            refine W_loopF [14, 64, 65, 66, 67, 68, 69, 70, 71, 72, 73, 74, 75, 76, 77, 78, 79, 80, 81, 82, 83, 84, 85, 86, 87, 88, 89, 90, 91, 92, 93, 94, 95, 96, 97, 98, 99, 100, 101, 102] (fun m f w => ∃ (j : Int) (qs : List Int) (A_63 : Option Addr) (cap_64 : Nat) (bs_65 : List Nat), m = (on.length - j).toNat ∧ 0 ≤ j ∧ RiseQ p qs ∧ Ext [] w0 w ∧ Ext (bs_50 ++ [b_32]) w_54 w ∧ Own w b_32 37 [.int .i64 (L_24.length + 1), .slice A_63 qs.length cap_64] ∧ Acc rInt (b_32 :: M) w (.slice A_63 qs.length cap_64) qs bs_65 ∧ (∀ b ∈ bs_65, w0.heap.size ≤ b) ∧ (∀ b ∈ bs_65, b ∈ bs_50 ∨ (w_54).heap.size ≤ b) ∧ Live f [(64, .int .i64 j)]) ?_ ?_
            · exact ⟨_, 0, ps, _, _, _, rfl, by omega, riseQ_in q2 q3, E_55, (Ext.refl _ _), ho1, ha_51, hb_52, rel_refl, rfl, trivial⟩
            ·
              rintro m g_73 w_69 ⟨j, qs, A_63, cap_64, bs_65, rfl, s0, s1, E_70, e_71, ho2, ha_66, hb_67, rel_68, hl_72⟩
              refine W_liveM hl_72 rfl ?_
              have c_74 := Ext.stepO e_56 e_71 (memA (fun x hx => (rel_53 x hx).imp (fun h => by first | exact h | (cases h; done) | simp [h]) id) (memC (.inl (by simp)) mem0))
              have rel_75 := rel_step rel_68 rel_53 (e_56).size
              refine W_seq ?_
              refine W_region ?_
              refine S_lss rfl rfl rfl ?_
              refine WL_nil ?_
              refine W_seq ?_
              refine W_cond rfl (fun h_77 => ?_) (fun h_77 => ?_)
              ·
                have p_78 := h_77
                try simp only [lrn] at p_78
                refine W_skip ?_
                refine W_seq ?_
                refine W_block ?_
                refine W_seq ?_
                refine W_region ?_
                have h_79 := Rep.ext _ hon E_70
                refine S_index Try.runUnderlying26 Try.sizeOf3 h_79 rfl (by omega) (by omega) rfl ?_
                intro b_80 o_81 cs_82 hi_83 hc_84 hb_85 hr_86
                refine S_loadI Try.isAgg3 rfl hc_84 hr_86 rfl ?_
                rintro ⟨r_87, r_88⟩
                refine S_assign rfl ?_
                refine WL_nil ?_
                refine W_seq ?_
                refine W_region ?_
                refine S_move rfl ?_
                refine S_move rfl ?_
                have mo := tm_norm (a := on[j.toNat]) hn
                refine S_rem rfl rfl (by omega) rfl ?_
                refine S_move rfl ?_
                refine S_add rfl rfl (by omega) rfl ?_
                refine S_move rfl ?_
                refine S_rem rfl rfl (by omega) rfl ?_
                refine S_add rfl rfl (by omega) rfl ?_
                refine S_move rfl ?_
                refine S_eql rfl rfl rfl ?_
                refine S_move rfl ?_
                refine WL_split (dj := 78) rfl (fun h_90 => ?_) (fun h_90 => ?_)
                ·
                  have p_91 := h_90
                  try simp only [lrn] at p_91
                  refine WL_on rfl rfl (bT h_90) ?_
                  refine S_fieldAddr Try.runUnderlying37 rfl Try.sizeOf26 rfl rfl ?_
                  refine WL_on rfl rfl (bT h_90) ?_
                  have lq := riseQ_len s1
                  refine S_load1 Try.isAgg26 rfl (ho2.at rfl) rfl ?_
                  refine WL_on rfl rfl (bT h_90) ?_
                  refine S_len Try.runUnderlying26 rfl rfl ?_
                  refine WL_on rfl rfl (bT h_90) ?_
                  refine S_eql rfl rfl rfl ?_
                  refine WL_on rfl rfl (bT h_90) ?_
                  refine S_move rfl ?_
                  refine WL_split (dj := 83) rfl (fun h_93 => ?_) (fun h_93 => ?_)
                  ·
                    have p_94 := h_93
                    try simp only [lrn] at p_94
                    refine WL_off rfl rfl rfl (bT h_93) ?_
                    refine WL_off rfl rfl rfl (bT h_93) ?_
                    refine WL_off rfl rfl rfl (bT h_93) ?_
                    refine WL_off rfl rfl rfl (bT h_93) ?_
                    refine WL_off rfl rfl rfl (bT h_93) ?_
                    refine WL_off rfl rfl rfl (bT h_93) ?_
                    refine WL_off rfl rfl rfl (bT h_93) ?_
                    refine WL_off rfl rfl rfl (bT h_93) ?_
                    refine WL_off rfl rfl rfl (bT h_93) ?_
                    refine WL_off rfl rfl rfl (bT h_93) ?_
                    refine WL_on rfl rfl (bT h_90) ?_
                    refine S_pick_t (bT h_93) rfl ?_
                    refine S_pick_t (bT h_90) rfl ?_
                    refine WL_nil ?_
                    refine W_cond_true rfl ?_
                    refine W_region ?_
                    refine S_fieldAddr Try.runUnderlying37 rfl Try.sizeOf26 rfl rfl ?_
                    refine S_load1 Try.isAgg26 rfl (ho2.at rfl) rfl ?_
                    refine S_move rfl ?_
                    refine S_buildSlice Try.runUnderlying26 Try.sizeOf3 Try.zeroValue3 rfl rfl rfl rfl rfl rfl rfl ?_
                    intro b_95 w_96 e_97 z_98 z_99 ho_100
                    have hb_101 : w0.heap.size ≤ b_95 := by have := (E_70).size; omega
                    have n_102 : (w_41).heap.size ≤ b_95 := by have := (c_74).size; omega
                    have n_103 : (w_54).heap.size ≤ b_95 := by have := (e_71).size; omega
                    have n_104 : b_32 ≠ b_95 := by have := ho2.lt; omega
                    have n_105 : b_95 ∉ bs_65 := fun h => by have := Acc.bs_lt ha_66 _ h; omega
                    have E_106 := Ext.stepO E_70 e_97 mem0
                    have c_107 := Ext.stepO c_74 e_97 mem0
                    have c_108 := Ext.stepO e_71 e_97 mem0
                    have h_109 := Rep.mono (M' := b_95 :: M) _ hr_86 e_97 mem0 (cons_fresh z_98)
                    have hb_111 : b_80 ∉ b_95 :: M := ninC (by have := Cells.lt hc_84; omega) hb_85
                    have h_110 := Cells.ext hc_84 e_97 nin0
                    have h_112 := Acc.ext (Acc.weak ha_66 (cons_fresh z_98)) e_97 mem0
                    have h_113 := ho2.ext e_97 nin0
                    have ho_100 : Own _ _ _ [_] := ho_100
                    have h_114 := Acc.weak (M' := (b_32 :: M)) h_112 (fun x hx => .inl (List.mem_cons_of_mem _ hx))
                    have hr_115 := rd_ints (xs := [_]) (M := bs_65 ++ (b_32 :: M)) ho_100 (ninA n_105 (ninC (Ne.symm n_104) (notin_old hM hb_101))) (by simp [InI]; omega) (by simp)
                    refine S_append Try.runUnderlying26 Try.typeInfo3 Try.sizeOf3 Try.zeroValue3 rfl h_114 hr_115 (by show _ * 8 ≤ _; simp; omega) (by decide) (memC (h_113.lt) (fun x hx => Nat.lt_of_lt_of_le (hM x hx) (E_106).size)) rfl ?_
                    intro v_116 w_117 bs_118 ha_119 e_120 hf_121
                    have hb_122 := fresh_bs hf_121 hb_67 (E_106).size
                    have rel_123 := rel_step hf_121 rel_75 (c_107).size
                    have rel_124 := rel_step hf_121 rel_68 (c_108).size
                    have E_125 := Ext.stepO E_106 e_120 (fun x hx => .inr (hb_67 x hx))
                    have c_126 := Ext.stepO c_107 e_120 (fun x hx => (rel_75 x hx).imp (fun h => by first | exact h | (cases h; done) | simp [h]) id)
                    have c_127 := Ext.stepO c_108 e_120 (fun x hx => (rel_68 x hx).imp (fun h => by first | exact h | (cases h; done) | simp [h]) id)
                    have h_128 := h_113.ext e_120 (fun h => Acc.bs_notin h_114 _ h (by simp))
                    have o_131 := Acc.val ha_119
                    obtain ⟨A_129, cap_130, rfl⟩ := o_131
                    refine S_fieldAddr Try.runUnderlying37 rfl Try.sizeOf26 rfl rfl ?_
                    refine S_store Try.sizeOf26 rfl rfl rfl h_128 (Nat.le_of_ble_eq_true rfl) rfl ?_
                    intro w_132 e_133 z_134 ho_135
                    have ho_135 : Own _ _ _ [_, _] := ho_135
                    have E_136 := Ext.stepO E_125 e_133 (memC (.inr hb_38) mem0)
                    have c_137 := Ext.stepO c_126 e_133 (memC (.inl (by simp)) mem0)
                    have c_138 := Ext.stepO c_127 e_133 (memC (.inl (by simp)) mem0)
                    have h_139 := Acc.ext ha_119 e_133 (by first | (simp; done) | (intro x hx; left; simp [hx]))
                    refine WL_nil ?_
                    refine W_region ?_
                    refine S_add rfl rfl (by omega) rfl ?_
                    refine S_move rfl ?_
                    refine WL_nil ?_
                    refine ⟨by repeat (first | refine agree_upd rfl ?_ | exact agree_mix rfl agree_refl | refine agree_mix rfl ?_), ?_⟩
                    exact ⟨_, by omega, j + 1, _, _, _, _, rfl, by omega, by first | exact s1 | exact riseQ_add0 s1 (by assumption) q0 | exact riseQ_add (i := ((qs.length : Int) - 1).toNat) s1 (by omega) (by omega) (by assumption), E_136, c_138, ho_135, h_139, hb_122, rel_124, rfl, trivial⟩
                  ·
                    have p_140 := h_93
                    try simp only [lrn] at p_140
                    refine WL_on rfl rfl (bF h_93) ?_
                    refine S_fieldAddr Try.runUnderlying37 rfl Try.sizeOf26 rfl rfl ?_
                    refine WL_on rfl rfl (bF h_93) ?_
                    refine S_load1 Try.isAgg26 rfl (ho2.at rfl) rfl ?_
                    refine WL_on rfl rfl (bF h_93) ?_
                    refine S_fieldAddr Try.runUnderlying37 rfl Try.sizeOf26 rfl rfl ?_
                    refine WL_on rfl rfl (bF h_93) ?_
                    refine S_load1 Try.isAgg26 rfl (ho2.at rfl) rfl ?_
                    refine WL_on rfl rfl (bF h_93) ?_
                    refine S_len Try.runUnderlying26 rfl rfl ?_
                    refine WL_on rfl rfl (bF h_93) ?_
                    refine S_sub rfl rfl (by omega) rfl ?_
                    refine WL_on rfl rfl (bF h_93) ?_
                    have h_141 := Acc.rd ha_66 (by first | omega | (rw [List.length_append, List.length_singleton]; omega))
                    refine S_index Try.runUnderlying26 Try.sizeOf3 h_141 rfl (by omega) (by omega) rfl ?_
                    intro b_142 o_143 cs_144 hi_145 hc_146 hb_147 hr_148
                    refine WL_on rfl rfl (bF h_93) ?_
                    refine S_loadI Try.isAgg3 rfl hc_146 hr_148 rfl ?_
                    rintro ⟨r_149, r_150⟩
                    refine WL_on rfl rfl (bF h_93) ?_
                    refine S_move rfl ?_
                    refine WL_on rfl rfl (bF h_93) ?_
                    refine S_neq rfl rfl rfl ?_
                    refine WL_on rfl rfl (bT h_90) ?_
                    refine S_pick_f (bF h_93) rfl ?_
                    refine S_pick_t (bT h_90) rfl ?_
                    refine WL_nil ?_
                    refine W_cond rfl (fun h_152 => ?_) (fun h_152 => ?_)
                    ·
                      have p_153 := h_152
                      try simp only [lrn] at p_153
                      refine W_region ?_
                      refine S_fieldAddr Try.runUnderlying37 rfl Try.sizeOf26 rfl rfl ?_
                      refine S_load1 Try.isAgg26 rfl (ho2.at rfl) rfl ?_
                      refine S_move rfl ?_
                      refine S_buildSlice Try.runUnderlying26 Try.sizeOf3 Try.zeroValue3 rfl rfl rfl rfl rfl rfl rfl ?_
                      intro b_154 w_155 e_156 z_157 z_158 ho_159
                      have hb_160 : w0.heap.size ≤ b_154 := by have := (E_70).size; omega
                      have n_161 : (w_41).heap.size ≤ b_154 := by have := (c_74).size; omega
                      have n_162 : (w_54).heap.size ≤ b_154 := by have := (e_71).size; omega
                      have n_163 : b_32 ≠ b_154 := by have := ho2.lt; omega
                      have n_164 : b_154 ∉ bs_65 := fun h => by have := Acc.bs_lt ha_66 _ h; omega
                      have E_165 := Ext.stepO E_70 e_156 mem0
                      have c_166 := Ext.stepO c_74 e_156 mem0
                      have c_167 := Ext.stepO e_71 e_156 mem0
                      have h_168 := Rep.mono (M' := b_154 :: M) _ hr_86 e_156 mem0 (cons_fresh z_157)
                      have hb_170 : b_80 ∉ b_154 :: M := ninC (by have := Cells.lt hc_84; omega) hb_85
                      have h_169 := Cells.ext hc_84 e_156 nin0
                      have h_171 := Acc.ext (Acc.weak ha_66 (cons_fresh z_157)) e_156 mem0
                      have h_172 := Rep.mono (M' := b_154 :: (b_32 :: M)) _ hr_148 e_156 mem0 (cons_fresh z_157)
                      have hb_174 : b_142 ∉ b_154 :: (b_32 :: M) := ninC (by have := Cells.lt hc_146; omega) hb_147
                      have h_173 := Cells.ext hc_146 e_156 nin0
                      have h_175 := ho2.ext e_156 nin0
                      have ho_159 : Own _ _ _ [_] := ho_159
                      have h_176 := Acc.weak (M' := (b_32 :: M)) h_171 (fun x hx => .inl (List.mem_cons_of_mem _ hx))
                      have hr_177 := rd_ints (xs := [_]) (M := bs_65 ++ (b_32 :: M)) ho_159 (ninA n_164 (ninC (Ne.symm n_163) (notin_old hM hb_160))) (by simp [InI]; omega) (by simp)
                      refine S_append Try.runUnderlying26 Try.typeInfo3 Try.sizeOf3 Try.zeroValue3 rfl h_176 hr_177 (by show _ * 8 ≤ _; simp; omega) (by decide) (memC (h_175.lt) (fun x hx => Nat.lt_of_lt_of_le (hM x hx) (E_165).size)) rfl ?_
                      intro v_178 w_179 bs_180 ha_181 e_182 hf_183
                      have hb_184 := fresh_bs hf_183 hb_67 (E_165).size
                      have rel_185 := rel_step hf_183 rel_75 (c_166).size
                      have rel_186 := rel_step hf_183 rel_68 (c_167).size
                      have E_187 := Ext.stepO E_165 e_182 (fun x hx => .inr (hb_67 x hx))
                      have c_188 := Ext.stepO c_166 e_182 (fun x hx => (rel_75 x hx).imp (fun h => by first | exact h | (cases h; done) | simp [h]) id)
                      have c_189 := Ext.stepO c_167 e_182 (fun x hx => (rel_68 x hx).imp (fun h => by first | exact h | (cases h; done) | simp [h]) id)
                      have h_190 := h_175.ext e_182 (fun h => Acc.bs_notin h_176 _ h (by simp))
                      have o_193 := Acc.val ha_181
                      obtain ⟨A_191, cap_192, rfl⟩ := o_193
                      refine S_fieldAddr Try.runUnderlying37 rfl Try.sizeOf26 rfl rfl ?_
                      refine S_store Try.sizeOf26 rfl rfl rfl h_190 (Nat.le_of_ble_eq_true rfl) rfl ?_
                      intro w_194 e_195 z_196 ho_197
                      have ho_197 : Own _ _ _ [_, _] := ho_197
                      have E_198 := Ext.stepO E_187 e_195 (memC (.inr hb_38) mem0)
                      have c_199 := Ext.stepO c_188 e_195 (memC (.inl (by simp)) mem0)
                      have c_200 := Ext.stepO c_189 e_195 (memC (.inl (by simp)) mem0)
                      have h_201 := Acc.ext ha_181 e_195 (by first | (simp; done) | (intro x hx; left; simp [hx]))
                      refine WL_nil ?_
                      refine W_region ?_
                      refine S_add rfl rfl (by omega) rfl ?_
                      refine S_move rfl ?_
                      refine WL_nil ?_
                      refine ⟨by repeat (first | refine agree_upd rfl ?_ | exact agree_mix rfl agree_refl | refine agree_mix rfl ?_), ?_⟩
                      exact ⟨_, by omega, j + 1, _, _, _, _, rfl, by omega, by first | exact s1 | exact riseQ_add0 s1 (by assumption) q0 | exact riseQ_add (i := ((qs.length : Int) - 1).toNat) s1 (by omega) (by omega) (by assumption), E_198, c_200, ho_197, h_201, hb_184, rel_186, rfl, trivial⟩
                    ·
                      have p_202 := h_152
                      try simp only [lrn] at p_202
                      refine W_skip ?_
                      refine W_region ?_
                      refine S_add rfl rfl (by omega) rfl ?_
                      refine S_move rfl ?_
                      refine WL_nil ?_
                      refine ⟨by repeat (first | refine agree_upd rfl ?_ | exact agree_mix rfl agree_refl | refine agree_mix rfl ?_), ?_⟩
                      exact ⟨_, by omega, j + 1, _, _, _, _, rfl, by omega, by first | exact s1 | exact riseQ_add0 s1 (by assumption) q0 | exact riseQ_add (i := ((qs.length : Int) - 1).toNat) s1 (by omega) (by omega) (by assumption), E_70, e_71, ho2, ha_66, hb_67, rel_68, rfl, trivial⟩
                ·
                  have p_203 := h_90
                  try simp only [lrn] at p_203
                  refine WL_off rfl rfl rfl (bF h_90) ?_
                  refine WL_off rfl rfl rfl (bF h_90) ?_
                  refine WL_off rfl rfl rfl (bF h_90) ?_
                  refine WL_off rfl rfl rfl (bF h_90) ?_
                  refine WL_off rfl rfl rfl (bF h_90) ?_
                  refine WL_off0 rfl rfl rfl rfl ?_
                  refine WL_off0 rfl rfl rfl rfl ?_
                  refine WL_off0 rfl rfl rfl rfl ?_
                  refine WL_off0 rfl rfl rfl rfl ?_
                  refine WL_off0 rfl rfl rfl rfl ?_
                  refine WL_off0 rfl rfl rfl rfl ?_
                  refine WL_off0 rfl rfl rfl rfl ?_
                  refine WL_off0 rfl rfl rfl rfl ?_
                  refine WL_off0 rfl rfl rfl rfl ?_
                  refine WL_off0 rfl rfl rfl rfl ?_
                  refine WL_off rfl rfl rfl (bF h_90) ?_
                  refine S_pick_f (bF h_90) rfl ?_
                  refine WL_nil ?_
                  refine W_cond_false rfl ?_
                  refine W_skip ?_
                  refine W_region ?_
                  refine S_add rfl rfl (by omega) rfl ?_
                  refine S_move rfl ?_
                  refine WL_nil ?_
                  refine ⟨by repeat (first | refine agree_upd rfl ?_ | exact agree_mix rfl agree_refl | refine agree_mix rfl ?_), ?_⟩
                  exact ⟨_, by omega, j + 1, _, _, _, _, rfl, by omega, by first | exact s1 | exact riseQ_add0 s1 (by assumption) q0 | exact riseQ_add (i := ((qs.length : Int) - 1).toNat) s1 (by omega) (by omega) (by assumption), E_70, e_71, ho2, ha_66, hb_67, rel_68, rfl, trivial⟩
              ·
                have p_204 := h_77
                try simp only [lrn] at p_204
                refine W_exit ?_
                refine W_region ?_
                refine S_move rfl ?_
                refine S_add rfl rfl (by omega) rfl ?_
                skip
                refine S_assign rfl ?_
                refine WL_nil ?_
                refine ⟨by repeat (first | refine agree_upd rfl ?_ | exact agree_mix rfl agree_refl | refine agree_mix rfl ?_), ?_⟩
                exact ⟨_, by omega, p + 1, _, _, _, _, rfl, by omega, by omega, riseQ_out q0 s1, by have := riseQ_len s1; omega, E_70, c_74, ho2, ha_66, hb_67, rel_75, rfl, trivial⟩
          ·
            have p_205 := h_61
            try simp only [lrn] at p_205
            refine W_exit ?_
            refine W_seq ?_
            refine W_region_feet [15, 103, 104, 105, 106, 107, 108] 5 [fun B v w => ∃ b : Nat, v = .slice (some ⟨b, 0, none⟩) 0 0 ∧ Own w b 37 [] ∧ B 0 = [b], fun _ v _ => v = .slice A_25 L_24.length cap_26, fun B v w => ∃ (A : Option Addr) (cap : Nat) (bs : List Nat), v = .slice A L_24.length cap ∧ Acc rCommit M w (.slice A L_24.length cap) L_24 bs ∧ ∀ x ∈ bs, x ∈ B 0 ∨ x ∈ B 2, fun _ v _ => v = .agg #[.int .i64 (L_24.length + 1), .slice A_48 ps.length cap_49], fun B v w => ∃ b : Nat, v = .slice (some ⟨b, 0, none⟩) 1 1 ∧ Own w b 37 [.int .i64 (L_24.length + 1), .slice A_48 ps.length cap_49] ∧ B 4 = [b]] rfl (by decide +kernel) _ rfl ?_ ?_ ?_
            · exact (.cons (fun _ _ _ _ ⟨b, e, o, f⟩ x => ⟨b, e, o.ext x nin0, f⟩) (fun B B' v w h ⟨b, e, o, f⟩ => ⟨b, e, o, (h 0 (by decide +kernel)).symm.trans f⟩) (.cons (fun _ _ _ _ h _ => h) (fun _ _ _ _ _ h => h) (.cons (fun _ _ _ _ ⟨A, c, bs, e, a, f⟩ x => ⟨A, c, bs, e, Acc.ext a x mem0, f⟩) (fun B B' v w h ⟨A, c, bs, e, a, f⟩ => ⟨A, c, bs, e, a, fun x hx => by rw [← h 0 (by decide +kernel), ← h 2 (by decide +kernel)]; exact f x hx⟩) (.cons (fun _ _ _ _ h _ => h) (fun _ _ _ _ _ h => h) (.cons (fun _ _ _ _ ⟨b, e, o, f⟩ x => ⟨b, e, o.ext x nin0, f⟩) (fun B B' v w h ⟨b, e, o, f⟩ => ⟨b, e, o, (h 4 (by decide +kernel)).symm.trans f⟩) .nil)))))
            · refine (.cons ?_ (.cons ?_ (.cons ?_ (.cons ?_ (.cons ?_ .nil)))))
              ·
                intro B_206 g_209 w_207 E_208 hd_210 hf_211 hk_212
                have E_213 := Ext.stepO E_55 E_208 mem0
                have h_214 := Rep.ext _ h_59 E_208
                have h_215 := Acc.ext ha_51 E_208 mem0
                have h_216 := ho1.ext E_208 nin0
                refine WL_at (L := []) trivial ?_
                refine S_buildSlice Try.runUnderlying22 Try.sizeOf37 Try.zeroValue37 rfl rfl rfl rfl rfl rfl rfl ?_
                intro b_217 w_218 e_219 z_220 z_221 ho_222
                have hb_223 : w0.heap.size ≤ b_217 := by have := (E_213).size; omega
                have n_224 : (w_207).heap.size ≤ b_217 := by have := ((Ext.refl [] w_207)).size; omega
                have n_225 : b_32 ≠ b_217 := by have := h_216.lt; omega
                have n_226 : b_217 ∉ bs_50 := fun h => by have := Acc.bs_lt h_215 _ h; omega
                have E_227 := Ext.stepO E_213 e_219 mem0
                have c_228 := Ext.stepO (Ext.refl [] w_207) e_219 mem0
                have h_229 := Rep.mono (M' := b_217 :: (b_32 :: M)) _ h_214 e_219 mem0 (cons_fresh z_220)
                have h_230 := Acc.ext (Acc.weak h_215 (cons_fresh z_220)) e_219 mem0
                have h_231 := h_216.ext e_219 nin0
                refine WL_nil ⟨rfl, _, rfl, c_228, [b_217], (fun x hx => by rw [List.mem_singleton] at hx; subst hx; have := Own.lt ho_222; exact ⟨by omega, this⟩), ⟨b_217, rfl, ho_222, rfl⟩⟩
              ·
                intro B_232 g_235 w_233 E_234 hd_236 hf_237 hk_238
                have E_239 := Ext.stepO E_55 E_234 mem0
                have h_240 := Rep.ext _ h_59 E_234
                have h_241 := Acc.ext ha_51 E_234 mem0
                have h_242 := ho1.ext E_234 nin0
                refine WL_at (L := [(9, _)]) ⟨(hk_238 9 (by decide +kernel)), trivial⟩ ?_
                refine S_move rfl ?_
                refine WL_nil ⟨rfl, _, rfl, (Ext.refl [] w_233), [], (fun x hx => by cases hx), rfl⟩
              ·
                intro B_243 g_246 w_244 E_245 hd_247 hf_248 hk_249
                have E_250 := Ext.stepO E_55 E_245 mem0
                have h_251 := Rep.ext _ h_59 E_245
                have h_252 := Acc.ext ha_51 E_245 mem0
                have h_253 := ho1.ext E_245 nin0
                have hj_254 := hd_247 0 103 (by decide +kernel) rfl
                have ⟨b_255, e_256, o_257, f_258⟩ := hj_254
                have s_259 : w0.heap.size ≤ b_255 := Nat.le_trans (E_55).size ((hf_248 0 (by decide +kernel)) b_255 (by rw [f_258]; simp)).1
                have hj_260 := hd_247 1 104 (by decide +kernel) rfl
                refine WL_at (L := [(103, .slice (some ⟨b_255, 0, none⟩) 0 0), (104, .slice A_25 L_24.length cap_26)]) ⟨e_256, hj_260, trivial⟩ ?_
                have h_261 := Rep.mono (M' := M) _ h_251 (Ext.refl [] w_244) mem0 (fun x hx => .inl (by simp [hx]))
                refine S_append0 (r := rCommit) Try.runUnderlying22 Try.typeInfo37 Try.sizeOf37 Try.zeroValue37 rfl rfl o_257 (notin_old hM s_259) h_261 (by show _ * 32 ≤ _; omega) (by decide) (fun x hx => Nat.lt_of_lt_of_le (hM x hx) (E_250).size) rfl ?_
                intro v_262 w_263 bs_264 ha_265 e_266 hf_267
                have E_271 := Ext.stepO E_250 e_266 mem0
                have c_272 := Ext.stepO (Ext.refl [] w_244) e_266 mem0
                have h_273 := Rep.ext _ h_251 e_266
                have h_274 := Acc.ext h_252 e_266 mem0
                have h_275 := h_253.ext e_266 nin0
                have h_276 := o_257.ext e_266 nin0
                have o_277 := Acc.val ha_265
                obtain ⟨A_269, cap_270, rfl⟩ := o_277
                refine WL_nil ⟨rfl, _, rfl, c_272, (bs_264.filter fun x => decide ((w_244).heap.size ≤ x)), (fun x hx => ⟨by simpa using (List.mem_filter.1 hx).2, Acc.bs_lt ha_265 x (List.mem_filter.1 hx).1⟩), ⟨_, _, bs_264, rfl, ha_265, fun x hx => (hf_267 x hx).elim (fun e => .inl (by rw [e]; show _ ∈ B_243 0; rw [f_258]; simp)) (fun h => .inr (List.mem_filter.2 ⟨hx, by simpa using h⟩))⟩⟩
              ·
                intro B_278 g_281 w_279 E_280 hd_282 hf_283 hk_284
                have E_285 := Ext.stepO E_55 E_280 mem0
                have h_286 := Rep.ext _ h_59 E_280
                have h_287 := Acc.ext ha_51 E_280 mem0
                have h_288 := ho1.ext E_280 nin0
                refine WL_at (L := [(11, _)]) ⟨(hk_284 11 (by decide +kernel)), trivial⟩ ?_
                refine S_loadAgg Try.isAgg37 Try.sizeOf37 rfl rfl h_288.all rfl ?_
                refine WL_nil ⟨rfl, _, rfl, (Ext.refl [] w_279), [], (fun x hx => by cases hx), rfl⟩
              ·
                intro B_289 g_292 w_290 E_291 hd_293 hf_294 hk_295
                have E_296 := Ext.stepO E_55 E_291 mem0
                have h_297 := Rep.ext _ h_59 E_291
                have h_298 := Acc.ext ha_51 E_291 mem0
                have h_299 := ho1.ext E_291 nin0
                have hj_300 := hd_293 3 106 (by decide +kernel) rfl
                refine WL_at (L := [(106, .agg #[.int .i64 (L_24.length + 1), .slice A_48 ps.length cap_49])]) ⟨hj_300, trivial⟩ ?_
                refine S_buildSlice Try.runUnderlying22 Try.sizeOf37 Try.zeroValue37 rfl rfl rfl rfl rfl rfl rfl ?_
                intro b_301 w_302 e_303 z_304 z_305 ho_306
                have hb_307 : w0.heap.size ≤ b_301 := by have := (E_296).size; omega
                have n_308 : (w_290).heap.size ≤ b_301 := by have := ((Ext.refl [] w_290)).size; omega
                have n_309 : b_32 ≠ b_301 := by have := h_299.lt; omega
                have n_310 : b_301 ∉ bs_50 := fun h => by have := Acc.bs_lt h_298 _ h; omega
                have E_311 := Ext.stepO E_296 e_303 mem0
                have c_312 := Ext.stepO (Ext.refl [] w_290) e_303 mem0
                have h_313 := Rep.mono (M' := b_301 :: (b_32 :: M)) _ h_297 e_303 mem0 (cons_fresh z_304)
                have h_314 := Acc.ext (Acc.weak h_298 (cons_fresh z_304)) e_303 mem0
                have h_315 := h_299.ext e_303 nin0
                have ho_306 : Own _ _ _ [_, _] := ho_306
                refine WL_nil ⟨rfl, _, rfl, c_312, [b_301], (fun x hx => by rw [List.mem_singleton] at hx; subst hx; have := Own.lt ho_306; exact ⟨by omega, this⟩), ⟨b_301, rfl, ho_306, rfl⟩⟩
            ·
              intro B_316 g_319 w_317 E_318 hd_320 hf_321 hp_322
              have E_323 := Ext.stepO E_55 E_318 mem0
              have h_324 := Rep.ext _ h_59 E_318
              have h_325 := Acc.ext ha_51 E_318 mem0
              have h_326 := ho1.ext E_318 nin0
              have hj_327 := hd_320 2 105 (by decide) rfl
              have ⟨A_328, cap_329, bs_330, e_331, ha_332, f_333⟩ := hj_327
              have hj_334 := hd_320 4 107 (by decide) rfl
              have ⟨b_335, e_336, o_337, f_338⟩ := hj_334
              have s_339 : w0.heap.size ≤ b_335 := Nat.le_trans (E_55).size ((hf_321 4 (by decide)) b_335 (by rw [f_338]; simp)).1
              have rel_340 : ∀ x ∈ bs_330, x ∈ [] ∨ (w_54).heap.size ≤ x := fun x hx => .inr ((f_333 x hx).elim (fun h => (hf_321 0 (by decide) x h).1) (fun h => (hf_321 2 (by decide) x h).1))
              have hb_341 : ∀ x ∈ bs_330, w0.heap.size ≤ x := fun x hx => Nat.le_trans (E_55).size ((rel_340 x hx).elim (fun h => by cases h) id)
              have nb_342 : b_335 ∉ bs_330 := fun h => by
                have k4 : b_335 ∈ B_316 4 := by rw [f_338]; simp
                rcases f_333 _ h with h | h
                · exact hp_322 4 0 (by decide) (by decide) (by decide) _ k4 h
                · exact hp_322 4 2 (by decide) (by decide) (by decide) _ k4 h
              have hx_343 := (hf_321 4 (by decide) b_335 (by rw [f_338]; simp)).1
              have hpar_344 := Acc.ext (Acc.weak (M' := b_335 :: (bs_330 ++ M)) ha_51 (memC (.inr hx_343) (memA (fun x hx => (rel_340 x hx).elim (fun h => by cases h) .inr) (fun x hx => .inl (by simp [hx]))))) E_318 mem0
              refine ⟨[(105, .slice A_328 L_24.length cap_329), (107, .slice (some ⟨b_335, 0, none⟩) 1 1)], ⟨e_331, e_336, trivial⟩, rfl, ?_⟩
              have hr_345 : (rSlice rCommit).rd (bs_330 ++ M) w_317 [.slice (some ⟨b_335, 0, none⟩) 1 1] ([⟨(L_24.length : Int) + 1, ps⟩] : List Commit) := Acc.rd (Acc.lit (l := ([⟨(L_24.length : Int) + 1, ps⟩] : List Commit)) o_337 rfl (ninA nb_342 (notin_old hM s_339)) (fun k hk => match k, hk with | 0, _ => rCommit_mk (x := ⟨(L_24.length : Int) + 1, ps⟩) (by unfold InI; show _ ≤ (L_24.length : Int) + 1 ∧ (L_24.length : Int) + 1 ≤ _; omega) (Acc.rd hpar_344 (show ps.length ≤ 9223372036854775807 by omega)))) (by simp)
              refine S_append Try.runUnderlying22 Try.typeInfo37 Try.sizeOf37 Try.zeroValue37 rfl ha_332 hr_345 (by show _ * 32 ≤ _; simp; omega) (by decide) (fun x hx => Nat.lt_of_lt_of_le (hM x hx) (E_323).size) rfl ?_
              intro v_346 w_347 bs_348 ha_349 e_350 hf_351
              have hb_352 := fresh_bs hf_351 hb_341 (E_323).size
              have rel_353 := rel_step hf_351 rel_340 (E_318).size
              have E_354 := Ext.stepO E_323 e_350 (fun x hx => .inr (hb_341 x hx))
              have c_355 := Ext.stepO E_318 e_350 (fun x hx => (rel_340 x hx).imp (fun h => by first | exact h | (cases h; done) | simp [h]) id)
              have o_358 := Acc.val ha_349
              obtain ⟨A_356, cap_357, rfl⟩ := o_358
              refine S_assign rfl ?_
              refine WL_nil ?_
              have h_359 := Rep.ext _ h_59 c_355
              have h_360 := Acc.ext ha_51 c_355 mem0
              have h_361 := ho1.ext c_355 nin0
              refine W_seq ?_
              refine W_seq ?_
              refine W_region ?_
              have hX := Acc.rd ha_349 (by rw [List.length_append, List.length_singleton]; omega)
              have hmr : Right (L_24 ++ [(⟨(L_24.length : Int) + 1, ps⟩ : Commit)]) := right_add hr rfl (riseP_rises q2 (by omega))
              have hml : (L_24 ++ [(⟨(L_24.length : Int) + 1, ps⟩ : Commit)]).length ≤ 60 := by rw [List.length_append, List.length_singleton]; omega
              have hps : ∀ p ∈ (⟨(L_24.length : Int) + 1, ps⟩ : Commit).Parents, There L_24 p := fun p hp => by have := rises_mem (riseP_rises (i := L_24.length) q2 (by omega)) hp; exact ⟨this.1, by omega⟩
              have hn1 : InI ((L_24.length : Int) + 1) := by unfold InI; omega
              refine S_move rfl ?_
              refine WL_norm (L := [(2, .int .i64 (1 + (a.tmod (L_24.length : Int) + (L_24.length : Int)).tmod (L_24.length : Int))), (3, .int .i64 (1 + (b.tmod (L_24.length : Int) + (L_24.length : Int)).tmod (L_24.length : Int))), (9, .slice A_25 L_24.length cap_26), (10, .int .i64 (L_24.length : Int)), (11, .pointer (some ⟨b_32, 0, none⟩)), (15, .slice A_356 (L_24 ++ [(⟨(L_24.length : Int) + 1, ps⟩ : Commit)]).length cap_357), (109, .slice A_356 (L_24 ++ [(⟨(L_24.length : Int) + 1, ps⟩ : Commit)]).length cap_357)]) ⟨rfl, rfl, rfl, rfl, rfl, rfl, rfl, trivial⟩ ?_
              intro g_362
              have hz_363 := (right_ok hX).mono (R' := fun v w' => v = .bool true ∧ Ext [] w_347 w') (fun _ _ h => ⟨h.1.trans (congrArg Value.bool (decide_eq_true hmr)), h.2⟩)
              refine S_callE Try.call20 rfl hz_363 rfl ?_
              intro w_364 e_365
              have E_366 := Ext.stepO E_354 e_365 mem0
              have h_367 := Rep.ext _ h_359 e_365
              have h_368 := Rep.ext _ hX e_365
              have h_369 := Acc.ext h_360 e_365 mem0
              have h_370 := h_361.ext e_365 nin0
              refine S_not rfl rfl ?_
              refine S_move rfl ?_
              refine WL_on rfl rfl rfl ?_
              refine S_move rfl ?_
              refine WL_on rfl rfl rfl ?_
              refine S_move rfl ?_
              refine WL_on rfl rfl rfl ?_
              refine S_move rfl ?_
              refine WL_on rfl rfl rfl ?_
              have hz_373 := reaches_ok h_368 (fun x hx => Nat.lt_of_lt_of_le (hM x hx) (E_366).size) hml (1 + (a.tmod (L_24.length : Int) + (L_24.length : Int)).tmod (L_24.length : Int)) (1 + (b.tmod (L_24.length : Int) + (L_24.length : Int)).tmod (L_24.length : Int)) ha
              refine S_callE Try.call19 rfl hz_373 rfl ?_
              intro w_371 e_372
              have E_374 := Ext.stepO E_366 e_372 mem0
              have h_375 := Rep.ext _ h_367 e_372
              have h_376 := Rep.ext _ h_368 e_372
              have h_377 := Acc.ext h_369 e_372 mem0
              have h_378 := h_370.ext e_372 nin0
              refine WL_on rfl rfl rfl ?_
              refine S_move rfl ?_
              refine WL_on rfl rfl rfl ?_
              refine S_move rfl ?_
              refine WL_on rfl rfl rfl ?_
              refine S_move rfl ?_
              refine WL_on rfl rfl rfl ?_
              have h_380 := Rep.mono (M' := M) _ h_375 (Ext.refl [] w_371) mem0 (fun x hx => .inl (by simp [hx]))
              have hz_383 := reaches_ok h_380 (fun x hx => Nat.lt_of_lt_of_le (hM x hx) (E_374).size) hl (1 + (a.tmod (L_24.length : Int) + (L_24.length : Int)).tmod (L_24.length : Int)) (1 + (b.tmod (L_24.length : Int) + (L_24.length : Int)).tmod (L_24.length : Int)) ha
              refine S_callE Try.call19 rfl hz_383 rfl ?_
              intro w_381 e_382
              have E_384 := Ext.stepO E_374 e_382 mem0
              have h_385 := Rep.ext _ h_375 e_382
              have h_386 := Rep.ext _ h_376 e_382
              have h_387 := Acc.ext h_377 e_382 mem0
              have h_388 := h_378.ext e_382 nin0
              refine WL_on rfl rfl rfl ?_
              refine S_neqBF Try.runUnderlying4 rfl rfl (reach_old hr hmr ta) rfl ?_
              refine S_pick_f rfl rfl ?_
              refine S_move rfl ?_
              refine WL_norm (L := [(2, .int .i64 (1 + (a.tmod (L_24.length : Int) + (L_24.length : Int)).tmod (L_24.length : Int))), (3, .int .i64 (1 + (b.tmod (L_24.length : Int) + (L_24.length : Int)).tmod (L_24.length : Int))), (9, .slice A_25 L_24.length cap_26), (10, .int .i64 (L_24.length : Int)), (11, .pointer (some ⟨b_32, 0, none⟩)), (15, .slice A_356 (L_24 ++ [(⟨(L_24.length : Int) + 1, ps⟩ : Commit)]).length cap_357), (123, .bool false)]) ⟨rfl, rfl, rfl, rfl, rfl, rfl, rfl, trivial⟩ ?_
              intro g_390
              refine WL_on rfl rfl rfl ?_
              refine S_move rfl ?_
              refine WL_on rfl rfl rfl ?_
              refine S_move rfl ?_
              refine WL_on rfl rfl rfl ?_
              refine S_move rfl ?_
              refine WL_on rfl rfl rfl ?_
              have hz_398 := common_ok h_386 (fun x hx => Nat.lt_of_lt_of_le (hM x hx) (E_384).size) hml (1 + (a.tmod (L_24.length : Int) + (L_24.length : Int)).tmod (L_24.length : Int)) (1 + (b.tmod (L_24.length : Int) + (L_24.length : Int)).tmod (L_24.length : Int)) ha hb
              refine S_call Try.call12 rfl hz_398 rfl ?_
              rintro _ w_391 ⟨L_393, A_394, cap_395, rfl, hr_396, hp_397, e_392⟩
              have E_399 := Ext.stepO E_384 e_392 mem0
              have h_400 := Rep.ext _ h_385 e_392
              have h_401 := Rep.ext _ h_386 e_392
              have h_402 := Acc.ext h_387 e_392 mem0
              have h_403 := h_388.ext e_392 nin0
              have hl_404 := rSlice_len hr_396
              refine WL_on rfl rfl rfl ?_
              refine S_move rfl ?_
              refine WL_on rfl rfl rfl ?_
              refine S_move rfl ?_
              refine WL_on rfl rfl rfl ?_
              refine S_move rfl ?_
              refine WL_on rfl rfl rfl ?_
              have h_405 := Rep.mono (M' := M) _ h_400 (Ext.refl [] w_391) mem0 (fun x hx => .inl (by simp [hx]))
              have hz_413 := common_ok h_405 (fun x hx => Nat.lt_of_lt_of_le (hM x hx) (E_399).size) hl (1 + (a.tmod (L_24.length : Int) + (L_24.length : Int)).tmod (L_24.length : Int)) (1 + (b.tmod (L_24.length : Int) + (L_24.length : Int)).tmod (L_24.length : Int)) ha hb
              refine S_call Try.call12 rfl hz_413 rfl ?_
              rintro _ w_406 ⟨L_408, A_409, cap_410, rfl, hr_411, hp_412, e_407⟩
              have E_414 := Ext.stepO E_399 e_407 mem0
              have h_415 := Rep.ext _ h_400 e_407
              have h_416 := Rep.ext _ h_401 e_407
              have h_417 := Rep.ext _ hr_396 e_407
              have h_418 := Acc.ext h_402 e_407 mem0
              have h_419 := h_403.ext e_407 nin0
              have hl_420 := rSlice_len hr_411
              refine WL_on rfl rfl rfl ?_
              have he_421 : L_393 = L_408 := nearL_old hr hmr ta tb hp_397 hp_412
              have hz_422 := (ints_ok h_417 hr_411).mono (R' := fun v w' => v = .bool true ∧ w' = w_406) (fun _ _ h => ⟨h.1.trans (congrArg Value.bool (decide_eq_true he_421)), h.2⟩)
              refine S_callQ Try.call11 rfl hz_422 rfl ?_
              refine WL_on rfl rfl rfl ?_
              refine S_not rfl rfl ?_
              refine S_pick_f rfl rfl ?_
              refine S_move rfl ?_
              refine WL_norm (L := [(2, .int .i64 (1 + (a.tmod (L_24.length : Int) + (L_24.length : Int)).tmod (L_24.length : Int))), (3, .int .i64 (1 + (b.tmod (L_24.length : Int) + (L_24.length : Int)).tmod (L_24.length : Int))), (9, .slice A_25 L_24.length cap_26), (10, .int .i64 (L_24.length : Int)), (11, .pointer (some ⟨b_32, 0, none⟩)), (15, .slice A_356 (L_24 ++ [(⟨(L_24.length : Int) + 1, ps⟩ : Commit)]).length cap_357), (135, .bool false)]) ⟨rfl, rfl, rfl, rfl, rfl, rfl, rfl, trivial⟩ ?_
              intro g_424
              refine WL_on rfl rfl rfl ?_
              refine S_move rfl ?_
              refine WL_on rfl rfl rfl ?_
              refine S_move rfl ?_
              refine WL_on rfl rfl rfl ?_
              refine S_move rfl ?_
              refine WL_on rfl rfl rfl ?_
              have hz_432 := path_ok h_416 (fun x hx => Nat.lt_of_lt_of_le (hM x hx) (E_414).size) hml (1 + (a.tmod (L_24.length : Int) + (L_24.length : Int)).tmod (L_24.length : Int)) (1 + (b.tmod (L_24.length : Int) + (L_24.length : Int)).tmod (L_24.length : Int)) ha hb
              refine S_call Try.call16 rfl hz_432 rfl ?_
              rintro _ w_425 ⟨L_427, A_428, cap_429, rfl, hr_430, hp_431, e_426⟩
              have E_433 := Ext.stepO E_414 e_426 mem0
              have h_434 := Rep.ext _ h_415 e_426
              have h_435 := Rep.ext _ h_416 e_426
              have h_436 := Acc.ext h_418 e_426 mem0
              have h_437 := h_419.ext e_426 nin0
              have hl_438 := rSlice_len hr_430
              refine WL_on rfl rfl rfl ?_
              refine S_move rfl ?_
              refine WL_on rfl rfl rfl ?_
              refine S_move rfl ?_
              refine WL_on rfl rfl rfl ?_
              refine S_move rfl ?_
              refine WL_on rfl rfl rfl ?_
              have h_439 := Rep.mono (M' := M) _ h_434 (Ext.refl [] w_425) mem0 (fun x hx => .inl (by simp [hx]))
              have hz_447 := path_ok h_439 (fun x hx => Nat.lt_of_lt_of_le (hM x hx) (E_433).size) hl (1 + (a.tmod (L_24.length : Int) + (L_24.length : Int)).tmod (L_24.length : Int)) (1 + (b.tmod (L_24.length : Int) + (L_24.length : Int)).tmod (L_24.length : Int)) ha hb
              refine S_call Try.call16 rfl hz_447 rfl ?_
              rintro _ w_440 ⟨L_442, A_443, cap_444, rfl, hr_445, hp_446, e_441⟩
              have E_448 := Ext.stepO E_433 e_441 mem0
              have h_449 := Rep.ext _ h_434 e_441
              have h_450 := Rep.ext _ h_435 e_441
              have h_451 := Rep.ext _ hr_430 e_441
              have h_452 := Acc.ext h_436 e_441 mem0
              have h_453 := h_437.ext e_441 nin0
              have hl_454 := rSlice_len hr_445
              refine WL_on rfl rfl rfl ?_
              have he_455 : L_427 = L_442 := pathL_old hr hmr ta hp_431 hp_446
              have hz_456 := (ints_ok h_451 hr_445).mono (R' := fun v w' => v = .bool true ∧ w' = w_440) (fun _ _ h => ⟨h.1.trans (congrArg Value.bool (decide_eq_true he_455)), h.2⟩)
              refine S_callQ Try.call11 rfl hz_456 rfl ?_
              refine WL_on rfl rfl rfl ?_
              refine S_not rfl rfl ?_
              refine S_pick_f rfl rfl ?_
              refine WL_nil ?_
              refine W_cond_false rfl ?_
              refine W_skip ?_
              refine W_seq ?_
              refine W_seq ?_
              refine W_region_feet [147, 148, 149, 150, 151, 152, 153, 154, 155, 156, 157, 158, 159, 160, 161, 162, 163] 14 [fun _ v _ => v = .slice A_356 (L_24 ++ [(⟨(L_24.length : Int) + 1, ps⟩ : Commit)]).length cap_357, fun _ v _ => v = .int .i64 L_24.length, fun _ v _ => v = .int .i64 (L_24.length + 1), fun B v w => ∃ b : Nat, v = .slice (some ⟨b, 0, none⟩) 1 1 ∧ Own w b 3 [.int .i64 (L_24.length + 1)] ∧ B 3 = [b], fun B v w => ∃ (L : List Int) (A : Option Addr) (cap : Nat), v = .slice A L.length cap ∧ AncL (L_24 ++ [(⟨(L_24.length : Int) + 1, ps⟩ : Commit)]) [(L_24.length : Int) + 1] L ∧ ∀ X : List Nat, (∀ x ∈ X, w_440.heap.size ≤ x ∧ x ∉ B 3 ∧ x ∉ B 4) → (rSlice rInt).rd (X ++ M) w [.slice A L.length cap] L, fun B v w => ∃ b : Nat, v = .slice (some ⟨b, 0, none⟩) 0 0 ∧ Own w b 3 [] ∧ B 5 = [b], fun _ v _ => v = .slice A_25 L_24.length cap_26, fun _ v _ => v = .pointer (some ⟨b_32, 1, none⟩), fun _ v _ => v = .slice A_48 ps.length cap_49, fun _ v w => ∃ (L : List Int) (A : Option Addr) (cap : Nat), v = .slice A L.length cap ∧ AncL L_24 ps L ∧ (rSlice rInt).rd M w [.slice A L.length cap] L, fun B v w => ∃ (L : List Int) (A : Option Addr) (cap : Nat) (bs : List Nat), v = .slice A L.length cap ∧ AncL L_24 ps L ∧ Acc rInt M w (.slice A L.length cap) L bs ∧ ∀ x ∈ bs, x ∈ B 5 ∨ x ∈ B 10, fun _ v _ => v = .int .i64 L_24.length, fun _ v _ => v = .int .i64 (L_24.length + 1), fun B v w => ∃ b : Nat, v = .slice (some ⟨b, 0, none⟩) 1 1 ∧ Own w b 3 [.int .i64 (L_24.length + 1)] ∧ B 13 = [b]] rfl (by decide +kernel) _ rfl ?_ ?_ ?_
              · exact (.cons (fun _ _ _ _ h _ => h) (fun _ _ _ _ _ h => h) (.cons (fun _ _ _ _ h _ => h) (fun _ _ _ _ _ h => h) (.cons (fun _ _ _ _ h _ => h) (fun _ _ _ _ _ h => h) (.cons (fun _ _ _ _ ⟨b, e, o, f⟩ x => ⟨b, e, o.ext x nin0, f⟩) (fun B B' v w h ⟨b, e, o, f⟩ => ⟨b, e, o, (h 3 (by decide +kernel)).symm.trans f⟩) (.cons (fun _ _ _ _ ⟨L, A, c, e, a, r⟩ x => ⟨L, A, c, e, a, fun X hX => Rep.ext _ (r X hX) x⟩) (fun B B' v w h ⟨L, A, c, e, a, r⟩ => ⟨L, A, c, e, a, fun X hX => r X (by rw [h 3 (by decide +kernel), h 4 (by decide +kernel)]; exact hX)⟩) (.cons (fun _ _ _ _ ⟨b, e, o, f⟩ x => ⟨b, e, o.ext x nin0, f⟩) (fun B B' v w h ⟨b, e, o, f⟩ => ⟨b, e, o, (h 5 (by decide +kernel)).symm.trans f⟩) (.cons (fun _ _ _ _ h _ => h) (fun _ _ _ _ _ h => h) (.cons (fun _ _ _ _ h _ => h) (fun _ _ _ _ _ h => h) (.cons (fun _ _ _ _ h _ => h) (fun _ _ _ _ _ h => h) (.cons (fun _ _ _ _ ⟨L, A, c, e, a, r⟩ x => ⟨L, A, c, e, a, Rep.ext _ r x⟩) (fun _ _ _ _ _ h => h) (.cons (fun _ _ _ _ ⟨L, A, c, bs, e, a, k, f⟩ x => ⟨L, A, c, bs, e, a, Acc.ext k x mem0, f⟩) (fun B B' v w h ⟨L, A, c, bs, e, a, k, f⟩ => ⟨L, A, c, bs, e, a, k, fun x hx => by rw [← h 5 (by decide +kernel), ← h 10 (by decide +kernel)]; exact f x hx⟩) (.cons (fun _ _ _ _ h _ => h) (fun _ _ _ _ _ h => h) (.cons (fun _ _ _ _ h _ => h) (fun _ _ _ _ _ h => h) (.cons (fun _ _ _ _ ⟨b, e, o, f⟩ x => ⟨b, e, o.ext x nin0, f⟩) (fun B B' v w h ⟨b, e, o, f⟩ => ⟨b, e, o, (h 13 (by decide +kernel)).symm.trans f⟩) .nil))))))))))))))
              · refine (.cons ?_ (.cons ?_ (.cons ?_ (.cons ?_ (.cons ?_ (.cons ?_ (.cons ?_ (.cons ?_ (.cons ?_ (.cons ?_ (.cons ?_ (.cons ?_ (.cons ?_ (.cons ?_ .nil))))))))))))))
                ·
                  intro B_458 g_461 w_459 E_460 hd_462 hf_463 hk_464
                  have E_465 := Ext.stepO E_448 E_460 mem0
                  have h_466 := Rep.ext _ h_449 E_460
                  have h_467 := Rep.ext _ h_450 E_460
                  have h_468 := Rep.ext _ h_451 E_460
                  have h_469 := Rep.ext _ hr_445 E_460
                  have h_470 := Acc.ext h_452 E_460 mem0
                  have h_471 := h_453.ext E_460 nin0
                  refine WL_at (L := [(15, _)]) ⟨(hk_464 15 (by decide +kernel)), trivial⟩ ?_
                  refine S_move rfl ?_
                  refine WL_nil ⟨rfl, _, rfl, (Ext.refl [] w_459), [], (fun x hx => by cases hx), rfl⟩
                ·
                  intro B_472 g_475 w_473 E_474 hd_476 hf_477 hk_478
                  have E_479 := Ext.stepO E_448 E_474 mem0
                  have h_480 := Rep.ext _ h_449 E_474
                  have h_481 := Rep.ext _ h_450 E_474
                  have h_482 := Rep.ext _ h_451 E_474
                  have h_483 := Rep.ext _ hr_445 E_474
                  have h_484 := Acc.ext h_452 E_474 mem0
                  have h_485 := h_453.ext E_474 nin0
                  refine WL_at (L := [(10, _)]) ⟨(hk_478 10 (by decide +kernel)), trivial⟩ ?_
                  refine S_move rfl ?_
                  refine WL_nil ⟨rfl, _, rfl, (Ext.refl [] w_473), [], (fun x hx => by cases hx), rfl⟩
                ·
                  intro B_486 g_489 w_487 E_488 hd_490 hf_491 hk_492
                  have E_493 := Ext.stepO E_448 E_488 mem0
                  have h_494 := Rep.ext _ h_449 E_488
                  have h_495 := Rep.ext _ h_450 E_488
                  have h_496 := Rep.ext _ h_451 E_488
                  have h_497 := Rep.ext _ hr_445 E_488
                  have h_498 := Acc.ext h_452 E_488 mem0
                  have h_499 := h_453.ext E_488 nin0
                  have hj_500 := hd_490 1 148 (by decide +kernel) rfl
                  refine WL_at (L := [(148, .int .i64 L_24.length)]) ⟨hj_500, trivial⟩ ?_
                  refine S_add rfl rfl (by omega) rfl ?_
                  refine WL_nil ⟨rfl, _, rfl, (Ext.refl [] w_487), [], (fun x hx => by cases hx), rfl⟩
                ·
                  intro B_501 g_504 w_502 E_503 hd_505 hf_506 hk_507
                  have E_508 := Ext.stepO E_448 E_503 mem0
                  have h_509 := Rep.ext _ h_449 E_503
                  have h_510 := Rep.ext _ h_450 E_503
                  have h_511 := Rep.ext _ h_451 E_503
                  have h_512 := Rep.ext _ hr_445 E_503
                  have h_513 := Acc.ext h_452 E_503 mem0
                  have h_514 := h_453.ext E_503 nin0
                  have hj_515 := hd_505 2 149 (by decide +kernel) rfl
                  refine WL_at (L := [(149, .int .i64 (L_24.length + 1))]) ⟨hj_515, trivial⟩ ?_
                  refine S_buildSlice Try.runUnderlying26 Try.sizeOf3 Try.zeroValue3 rfl rfl rfl rfl rfl rfl rfl ?_
                  intro b_516 w_517 e_518 z_519 z_520 ho_521
                  have hb_522 : w0.heap.size ≤ b_516 := by have := (E_508).size; omega
                  have n_523 : (w_502).heap.size ≤ b_516 := by have := ((Ext.refl [] w_502)).size; omega
                  have n_524 : b_32 ≠ b_516 := by have := h_514.lt; omega
                  have n_525 : b_516 ∉ bs_50 := fun h => by have := Acc.bs_lt h_513 _ h; omega
                  have E_526 := Ext.stepO E_508 e_518 mem0
                  have c_527 := Ext.stepO (Ext.refl [] w_502) e_518 mem0
                  have h_528 := Rep.mono (M' := b_516 :: (b_32 :: M)) _ h_509 e_518 mem0 (cons_fresh z_519)
                  have h_529 := Rep.mono (M' := b_516 :: M) _ h_510 e_518 mem0 (cons_fresh z_519)
                  have h_530 := Rep.mono (M' := b_516 :: M) _ h_511 e_518 mem0 (cons_fresh z_519)
                  have h_531 := Rep.mono (M' := b_516 :: M) _ h_512 e_518 mem0 (cons_fresh z_519)
                  have h_532 := Acc.ext (Acc.weak h_513 (cons_fresh z_519)) e_518 mem0
                  have h_533 := h_514.ext e_518 nin0
                  have ho_521 : Own _ _ _ [_] := ho_521
                  refine WL_nil ⟨rfl, _, rfl, c_527, [b_516], (fun x hx => by rw [List.mem_singleton] at hx; subst hx; have := Own.lt ho_521; exact ⟨by omega, this⟩), ⟨b_516, rfl, ho_521, rfl⟩⟩
                ·
                  intro B_534 g_537 w_535 E_536 hd_538 hf_539 hk_540
                  have E_541 := Ext.stepO E_448 E_536 mem0
                  have h_542 := Rep.ext _ h_449 E_536
                  have h_543 := Rep.ext _ h_450 E_536
                  have h_544 := Rep.ext _ h_451 E_536
                  have h_545 := Rep.ext _ hr_445 E_536
                  have h_546 := Acc.ext h_452 E_536 mem0
                  have h_547 := h_453.ext E_536 nin0
                  have hj_548 := hd_538 0 147 (by decide +kernel) rfl
                  have hj_549 := hd_538 3 150 (by decide +kernel) rfl
                  have ⟨b_550, e_551, o_552, f_553⟩ := hj_549
                  have s_554 : w0.heap.size ≤ b_550 := Nat.le_trans (E_448).size ((hf_539 3 (by decide +kernel)) b_550 (by rw [f_553]; simp)).1
                  refine WL_at (L := [(147, .slice A_356 (L_24 ++ [(⟨(L_24.length : Int) + 1, ps⟩ : Commit)]).length cap_357), (150, .slice (some ⟨b_550, 0, none⟩) 1 1)]) ⟨hj_548, e_551, trivial⟩ ?_
                  have hq_556 := Rep.mono (M' := (((List.range w_535.heap.size).filter fun x => decide (w_440.heap.size ≤ x ∧ x ≠ b_550)) ++ M)) _ h_450 E_536 mem0 (fun x hx => (List.mem_append.1 hx).elim (fun h => .inr (by have := (List.mem_filter.1 h).2; simp at this; exact this.1)) .inl)
                  have hq_557 := rd_ints (xs := [(L_24.length : Int) + 1]) (M := (((List.range w_535.heap.size).filter fun x => decide (w_440.heap.size ≤ x ∧ x ≠ b_550)) ++ M)) o_552 (fun h => (List.mem_append.1 h).elim (fun h => by have := (List.mem_filter.1 h).2; simp at this) (notin_old hM s_554)) (by simp only [List.mem_singleton]; rintro _ rfl; assumption) (by simp)
                  have hq_558 : ∀ x ∈ (((List.range w_535.heap.size).filter fun x => decide (w_440.heap.size ≤ x ∧ x ≠ b_550)) ++ M), x < w_535.heap.size := fun x hx => (List.mem_append.1 hx).elim (fun h => List.mem_range.1 (List.mem_filter.1 h).1) (fun h => Nat.lt_of_lt_of_le (hM x h) (E_541).size)
                  have hz_566 := anc_ok hq_556 hq_558 hml hq_557
                  refine S_call Try.call23 rfl hz_566 rfl ?_
                  rintro _ w_565 ⟨L_559, A_560, cap_561, rfl, hr_562, ha_563, e_564⟩
                  have E_567 := Ext.stepO E_541 e_564 mem0
                  have c_568 := Ext.stepO (Ext.refl [] w_535) e_564 mem0
                  have h_569 := Rep.ext _ h_542 e_564
                  have h_570 := Rep.ext _ h_543 e_564
                  have h_571 := Rep.ext _ h_544 e_564
                  have h_572 := Rep.ext _ h_545 e_564
                  have h_573 := Acc.ext h_546 e_564 mem0
                  have h_574 := h_547.ext e_564 nin0
                  have h_575 := o_552.ext e_564 nin0
                  refine WL_nil ⟨rfl, _, rfl, c_568, ((List.range w_565.heap.size).filter fun x => decide (w_535.heap.size ≤ x)), (fun x hx => ⟨by simpa using (List.mem_filter.1 hx).2, List.mem_range.1 (List.mem_filter.1 hx).1⟩), ⟨L_559, _, _, rfl, ha_563, fun X hX => Rep.mono _ hr_562 (Ext.refl [] _) mem0 (fun x hx => by
                    rcases List.mem_append.1 hx with hx | hx
                    · have ⟨x1, x2, x3⟩ := hX x hx
                      have x2 : x ∉ B_534 3 := x2
                      rw [f_553] at x2
                      have x2 : x ≠ b_550 := fun e => x2 (by rw [e]; simp)
                      have x3 : x ∉ (List.range w_565.heap.size).filter fun x => decide (w_535.heap.size ≤ x) := x3
                      by_cases k : x < w_535.heap.size
                      · exact .inl (List.mem_append.2 (.inl (List.mem_filter.2 ⟨List.mem_range.2 k, by simp [x1, x2]⟩)))
                      · by_cases k2 : x < w_565.heap.size
                        · exact absurd (List.mem_filter.2 ⟨List.mem_range.2 k2, by simp; omega⟩) x3
                        · exact .inr (by omega)
                    · exact .inl (List.mem_append.2 (.inr hx)))⟩⟩
                ·
                  intro B_576 g_579 w_577 E_578 hd_580 hf_581 hk_582
                  have E_583 := Ext.stepO E_448 E_578 mem0
                  have h_584 := Rep.ext _ h_449 E_578
                  have h_585 := Rep.ext _ h_450 E_578
                  have h_586 := Rep.ext _ h_451 E_578
                  have h_587 := Rep.ext _ hr_445 E_578
                  have h_588 := Acc.ext h_452 E_578 mem0
                  have h_589 := h_453.ext E_578 nin0
                  refine WL_at (L := []) trivial ?_
                  refine S_buildSlice Try.runUnderlying26 Try.sizeOf3 Try.zeroValue3 rfl rfl rfl rfl rfl rfl rfl ?_
                  intro b_590 w_591 e_592 z_593 z_594 ho_595
                  have hb_596 : w0.heap.size ≤ b_590 := by have := (E_583).size; omega
                  have n_597 : (w_577).heap.size ≤ b_590 := by have := ((Ext.refl [] w_577)).size; omega
                  have n_598 : b_32 ≠ b_590 := by have := h_589.lt; omega
                  have n_599 : b_590 ∉ bs_50 := fun h => by have := Acc.bs_lt h_588 _ h; omega
                  have E_600 := Ext.stepO E_583 e_592 mem0
                  have c_601 := Ext.stepO (Ext.refl [] w_577) e_592 mem0
                  have h_602 := Rep.mono (M' := b_590 :: (b_32 :: M)) _ h_584 e_592 mem0 (cons_fresh z_593)
                  have h_603 := Rep.mono (M' := b_590 :: M) _ h_585 e_592 mem0 (cons_fresh z_593)
                  have h_604 := Rep.mono (M' := b_590 :: M) _ h_586 e_592 mem0 (cons_fresh z_593)
                  have h_605 := Rep.mono (M' := b_590 :: M) _ h_587 e_592 mem0 (cons_fresh z_593)
                  have h_606 := Acc.ext (Acc.weak h_588 (cons_fresh z_593)) e_592 mem0
                  have h_607 := h_589.ext e_592 nin0
                  refine WL_nil ⟨rfl, _, rfl, c_601, [b_590], (fun x hx => by rw [List.mem_singleton] at hx; subst hx; have := Own.lt ho_595; exact ⟨by omega, this⟩), ⟨b_590, rfl, ho_595, rfl⟩⟩
                ·
                  intro B_608 g_611 w_609 E_610 hd_612 hf_613 hk_614
                  have E_615 := Ext.stepO E_448 E_610 mem0
                  have h_616 := Rep.ext _ h_449 E_610
                  have h_617 := Rep.ext _ h_450 E_610
                  have h_618 := Rep.ext _ h_451 E_610
                  have h_619 := Rep.ext _ hr_445 E_610
                  have h_620 := Acc.ext h_452 E_610 mem0
                  have h_621 := h_453.ext E_610 nin0
                  refine WL_at (L := [(9, _)]) ⟨(hk_614 9 (by decide +kernel)), trivial⟩ ?_
                  refine S_move rfl ?_
                  refine WL_nil ⟨rfl, _, rfl, (Ext.refl [] w_609), [], (fun x hx => by cases hx), rfl⟩
                ·
                  intro B_622 g_625 w_623 E_624 hd_626 hf_627 hk_628
                  have E_629 := Ext.stepO E_448 E_624 mem0
                  have h_630 := Rep.ext _ h_449 E_624
                  have h_631 := Rep.ext _ h_450 E_624
                  have h_632 := Rep.ext _ h_451 E_624
                  have h_633 := Rep.ext _ hr_445 E_624
                  have h_634 := Acc.ext h_452 E_624 mem0
                  have h_635 := h_453.ext E_624 nin0
                  refine WL_at (L := [(11, _)]) ⟨(hk_628 11 (by decide +kernel)), trivial⟩ ?_
                  refine S_fieldAddr Try.runUnderlying37 rfl Try.sizeOf26 rfl rfl ?_
                  refine WL_nil ⟨rfl, _, rfl, (Ext.refl [] w_623), [], (fun x hx => by cases hx), rfl⟩
                ·
                  intro B_636 g_639 w_637 E_638 hd_640 hf_641 hk_642
                  have E_643 := Ext.stepO E_448 E_638 mem0
                  have h_644 := Rep.ext _ h_449 E_638
                  have h_645 := Rep.ext _ h_450 E_638
                  have h_646 := Rep.ext _ h_451 E_638
                  have h_647 := Rep.ext _ hr_445 E_638
                  have h_648 := Acc.ext h_452 E_638 mem0
                  have h_649 := h_453.ext E_638 nin0
                  have hj_650 := hd_640 7 154 (by decide +kernel) rfl
                  refine WL_at (L := [(154, .pointer (some ⟨b_32, 1, none⟩))]) ⟨hj_650, trivial⟩ ?_
                  refine S_load1 Try.isAgg26 rfl (h_649.at rfl) rfl ?_
                  refine WL_nil ⟨rfl, _, rfl, (Ext.refl [] w_637), [], (fun x hx => by cases hx), rfl⟩
                ·
                  intro B_651 g_654 w_652 E_653 hd_655 hf_656 hk_657
                  have E_658 := Ext.stepO E_448 E_653 mem0
                  have h_659 := Rep.ext _ h_449 E_653
                  have h_660 := Rep.ext _ h_450 E_653
                  have h_661 := Rep.ext _ h_451 E_653
                  have h_662 := Rep.ext _ hr_445 E_653
                  have h_663 := Acc.ext h_452 E_653 mem0
                  have h_664 := h_453.ext E_653 nin0
                  have hj_665 := hd_655 6 153 (by decide +kernel) rfl
                  have hj_666 := hd_655 8 155 (by decide +kernel) rfl
                  refine WL_at (L := [(153, .slice A_25 L_24.length cap_26), (155, .slice A_48 ps.length cap_49)]) ⟨hj_665, hj_666, trivial⟩ ?_
                  have h_667 := Rep.mono (M' := M) _ h_659 (Ext.refl [] w_652) mem0 (fun x hx => .inl (by simp [hx]))
                  have h_668 := Acc.rd (Acc.weak (M' := M) h_663 (fun x hx => .inl (by simp [hx]))) (by first | omega | (rw [List.length_append, List.length_singleton]; omega))
                  have hz_676 := anc_ok h_667 (fun x hx => Nat.lt_of_lt_of_le (hM x hx) (E_658).size) hl h_668
                  refine S_call Try.call23 rfl hz_676 rfl ?_
                  rintro _ w_669 ⟨L_671, A_672, cap_673, rfl, hr_674, hp_675, e_670⟩
                  have E_677 := Ext.stepO E_658 e_670 mem0
                  have c_678 := Ext.stepO (Ext.refl [] w_652) e_670 mem0
                  have h_679 := Rep.ext _ h_659 e_670
                  have h_680 := Rep.ext _ h_660 e_670
                  have h_681 := Rep.ext _ h_661 e_670
                  have h_682 := Rep.ext _ h_662 e_670
                  have h_683 := Acc.ext h_663 e_670 mem0
                  have h_684 := h_664.ext e_670 nin0
                  have hl_685 := rSlice_len hr_674
                  refine WL_nil ⟨rfl, _, rfl, c_678, [], (fun x hx => by cases hx), ⟨L_671, _, _, rfl, hp_675, hr_674⟩⟩
                ·
                  intro B_686 g_689 w_687 E_688 hd_690 hf_691 hk_692
                  have E_693 := Ext.stepO E_448 E_688 mem0
                  have h_694 := Rep.ext _ h_449 E_688
                  have h_695 := Rep.ext _ h_450 E_688
                  have h_696 := Rep.ext _ h_451 E_688
                  have h_697 := Rep.ext _ hr_445 E_688
                  have h_698 := Acc.ext h_452 E_688 mem0
                  have h_699 := h_453.ext E_688 nin0
                  have hj_700 := hd_690 5 152 (by decide +kernel) rfl
                  have ⟨b_701, e_702, o_703, f_704⟩ := hj_700
                  have s_705 : w0.heap.size ≤ b_701 := Nat.le_trans (E_448).size ((hf_691 5 (by decide +kernel)) b_701 (by rw [f_704]; simp)).1
                  have hj_706 := hd_690 9 156 (by decide +kernel) rfl
                  have ⟨L_707, A_708, cap_709, e_710, ha_711, r_712⟩ := hj_706
                  have hl_713 := ancL_len hr ha_711
                  refine WL_at (L := [(152, .slice (some ⟨b_701, 0, none⟩) 0 0), (156, .slice A_708 L_707.length cap_709)]) ⟨e_702, e_710, trivial⟩ ?_
                  refine S_append0 (r := rInt) Try.runUnderlying26 Try.typeInfo3 Try.sizeOf3 Try.zeroValue3 rfl rfl o_703 (notin_old hM s_705) r_712 (by show _ * 8 ≤ _; omega) (by decide) (fun x hx => Nat.lt_of_lt_of_le (hM x hx) (E_693).size) rfl ?_
                  intro v_714 w_715 bs_716 ha_717 e_718 hf_719
                  have E_723 := Ext.stepO E_693 e_718 mem0
                  have c_724 := Ext.stepO (Ext.refl [] w_687) e_718 mem0
                  have h_725 := Rep.ext _ h_694 e_718
                  have h_726 := Rep.ext _ h_695 e_718
                  have h_727 := Rep.ext _ h_696 e_718
                  have h_728 := Rep.ext _ h_697 e_718
                  have h_729 := Rep.ext _ r_712 e_718
                  have h_730 := Acc.ext h_698 e_718 mem0
                  have h_731 := h_699.ext e_718 nin0
                  have h_732 := o_703.ext e_718 nin0
                  have o_733 := Acc.val ha_717
                  obtain ⟨A_721, cap_722, rfl⟩ := o_733
                  refine WL_nil ⟨rfl, _, rfl, c_724, (bs_716.filter fun x => decide ((w_687).heap.size ≤ x)), (fun x hx => ⟨by simpa using (List.mem_filter.1 hx).2, Acc.bs_lt ha_717 x (List.mem_filter.1 hx).1⟩), ⟨L_707, _, _, bs_716, rfl, ha_711, ha_717, fun x hx => (hf_719 x hx).elim (fun e => .inl (by rw [e]; show _ ∈ B_686 5; rw [f_704]; simp)) (fun h => .inr (List.mem_filter.2 ⟨hx, by simpa using h⟩))⟩⟩
                ·
                  intro B_734 g_737 w_735 E_736 hd_738 hf_739 hk_740
                  have E_741 := Ext.stepO E_448 E_736 mem0
                  have h_742 := Rep.ext _ h_449 E_736
                  have h_743 := Rep.ext _ h_450 E_736
                  have h_744 := Rep.ext _ h_451 E_736
                  have h_745 := Rep.ext _ hr_445 E_736
                  have h_746 := Acc.ext h_452 E_736 mem0
                  have h_747 := h_453.ext E_736 nin0
                  refine WL_at (L := [(10, _)]) ⟨(hk_740 10 (by decide +kernel)), trivial⟩ ?_
                  refine S_move rfl ?_
                  refine WL_nil ⟨rfl, _, rfl, (Ext.refl [] w_735), [], (fun x hx => by cases hx), rfl⟩
                ·
                  intro B_748 g_751 w_749 E_750 hd_752 hf_753 hk_754
                  have E_755 := Ext.stepO E_448 E_750 mem0
                  have h_756 := Rep.ext _ h_449 E_750
                  have h_757 := Rep.ext _ h_450 E_750
                  have h_758 := Rep.ext _ h_451 E_750
                  have h_759 := Rep.ext _ hr_445 E_750
                  have h_760 := Acc.ext h_452 E_750 mem0
                  have h_761 := h_453.ext E_750 nin0
                  have hj_762 := hd_752 11 158 (by decide +kernel) rfl
                  refine WL_at (L := [(158, .int .i64 L_24.length)]) ⟨hj_762, trivial⟩ ?_
                  refine S_add rfl rfl (by omega) rfl ?_
                  refine WL_nil ⟨rfl, _, rfl, (Ext.refl [] w_749), [], (fun x hx => by cases hx), rfl⟩
                ·
                  intro B_763 g_766 w_764 E_765 hd_767 hf_768 hk_769
                  have E_770 := Ext.stepO E_448 E_765 mem0
                  have h_771 := Rep.ext _ h_449 E_765
                  have h_772 := Rep.ext _ h_450 E_765
                  have h_773 := Rep.ext _ h_451 E_765
                  have h_774 := Rep.ext _ hr_445 E_765
                  have h_775 := Acc.ext h_452 E_765 mem0
                  have h_776 := h_453.ext E_765 nin0
                  have hj_777 := hd_767 12 159 (by decide +kernel) rfl
                  refine WL_at (L := [(159, .int .i64 (L_24.length + 1))]) ⟨hj_777, trivial⟩ ?_
                  refine S_buildSlice Try.runUnderlying26 Try.sizeOf3 Try.zeroValue3 rfl rfl rfl rfl rfl rfl rfl ?_
                  intro b_778 w_779 e_780 z_781 z_782 ho_783
                  have hb_784 : w0.heap.size ≤ b_778 := by have := (E_770).size; omega
                  have n_785 : (w_764).heap.size ≤ b_778 := by have := ((Ext.refl [] w_764)).size; omega
                  have n_786 : b_32 ≠ b_778 := by have := h_776.lt; omega
                  have n_787 : b_778 ∉ bs_50 := fun h => by have := Acc.bs_lt h_775 _ h; omega
                  have E_788 := Ext.stepO E_770 e_780 mem0
                  have c_789 := Ext.stepO (Ext.refl [] w_764) e_780 mem0
                  have h_790 := Rep.mono (M' := b_778 :: (b_32 :: M)) _ h_771 e_780 mem0 (cons_fresh z_781)
                  have h_791 := Rep.mono (M' := b_778 :: M) _ h_772 e_780 mem0 (cons_fresh z_781)
                  have h_792 := Rep.mono (M' := b_778 :: M) _ h_773 e_780 mem0 (cons_fresh z_781)
                  have h_793 := Rep.mono (M' := b_778 :: M) _ h_774 e_780 mem0 (cons_fresh z_781)
                  have h_794 := Acc.ext (Acc.weak h_775 (cons_fresh z_781)) e_780 mem0
                  have h_795 := h_776.ext e_780 nin0
                  have ho_783 : Own _ _ _ [_] := ho_783
                  refine WL_nil ⟨rfl, _, rfl, c_789, [b_778], (fun x hx => by rw [List.mem_singleton] at hx; subst hx; have := Own.lt ho_783; exact ⟨by omega, this⟩), ⟨b_778, rfl, ho_783, rfl⟩⟩
              ·
                intro B_796 g_799 w_797 E_798 hd_800 hf_801 hp_802
                have E_803 := Ext.stepO E_448 E_798 mem0
                have h_804 := Rep.ext _ h_449 E_798
                have h_805 := Rep.ext _ h_450 E_798
                have h_806 := Rep.ext _ h_451 E_798
                have h_807 := Rep.ext _ hr_445 E_798
                have h_808 := Acc.ext h_452 E_798 mem0
                have h_809 := h_453.ext E_798 nin0
                have hj_810 := hd_800 4 151 (by decide) rfl
                have ⟨L_811, A_812, cap_813, e_814, ha_815, r_816⟩ := hj_810
                have hj_817 := hd_800 10 157 (by decide) rfl
                have ⟨L_818, A_819, cap_820, bs_821, e_822, ha_823, hc_824, f_825⟩ := hj_817
                have hl_826 := ancL_len hr ha_823
                have hj_827 := hd_800 13 160 (by decide) rfl
                have ⟨b_828, e_829, o_830, f_831⟩ := hj_827
                have s_832 : w0.heap.size ≤ b_828 := Nat.le_trans (E_448).size ((hf_801 13 (by decide)) b_828 (by rw [f_831]; simp)).1
                have rel_833 : ∀ x ∈ bs_821, x ∈ [] ∨ (w_440).heap.size ≤ x := fun x hx => .inr ((f_825 x hx).elim (fun h => (hf_801 5 (by decide) x h).1) (fun h => (hf_801 10 (by decide) x h).1))
                have hb_834 : ∀ x ∈ bs_821, w0.heap.size ≤ x := fun x hx => Nat.le_trans (E_448).size ((rel_833 x hx).elim (fun h => by cases h) id)
                have nb_835 : b_828 ∉ bs_821 := fun h => by
                  have k4 : b_828 ∈ B_796 13 := by rw [f_831]; simp
                  rcases f_825 _ h with h | h
                  · exact hp_802 13 5 (by decide) (by decide) (by decide) _ k4 h
                  · exact hp_802 13 10 (by decide) (by decide) (by decide) _ k4 h
                have h4_836 := r_816 bs_821 (fun x hx => ⟨(rel_833 x hx).elim (fun h => by cases h) id, (f_825 x hx).elim (fun h => hp_802 5 3 (by decide) (by decide) (by decide) x h) (fun h => hp_802 10 3 (by decide) (by decide) (by decide) x h), (f_825 x hx).elim (fun h => hp_802 5 4 (by decide) (by decide) (by decide) x h) (fun h => hp_802 10 4 (by decide) (by decide) (by decide) x h)⟩)
                refine ⟨[(151, .slice A_812 L_811.length cap_813), (157, .slice A_819 L_818.length cap_820), (160, .slice (some ⟨b_828, 0, none⟩) 1 1)], ⟨e_814, e_822, e_829, trivial⟩, rfl, ?_⟩
                have hr_837 := rd_ints (xs := [_]) (M := bs_821 ++ M) o_830 (ninA nb_835 (notin_old hM s_832)) (by simp [InI]; omega) (by simp)
                refine S_append Try.runUnderlying26 Try.typeInfo3 Try.sizeOf3 Try.zeroValue3 rfl hc_824 hr_837 (by show _ * 8 ≤ _; simp; omega) (by decide) (fun x hx => Nat.lt_of_lt_of_le (hM x hx) (E_803).size) rfl ?_
                intro v_838 w_839 bs_840 ha_841 e_842 hf_843
                have hb_844 := fresh_bs hf_843 hb_834 (E_803).size
                have rel_845 := rel_step hf_843 rel_833 (E_798).size
                have E_846 := Ext.stepO E_803 e_842 (fun x hx => .inr (hb_834 x hx))
                have c_847 := Ext.stepO E_798 e_842 (fun x hx => (rel_833 x hx).imp (fun h => by first | exact h | (cases h; done) | simp [h]) id)
                have h_848 := Rep.extB _ h4_836 e_842 (by intro x hx; first | (simp [hx]; done) | (simp at hx; first | (subst hx; assumption) | (rcases hx with rfl | rfl <;> simp; done) | simp [hx]))
                have o_851 := Acc.val ha_841
                obtain ⟨A_849, cap_850, rfl⟩ := o_851
                have h_852 := Acc.rd ha_841 (by first | omega | (rw [List.length_append, List.length_singleton]; omega))
                have he_853 : L_811 = L_818 ++ [(L_24.length : Int) + 1] := ancL_grow hr hmr hps ha_815 ha_823
                have hz_854 := (ints_ok h_848 h_852).mono (R' := fun v w' => v = .bool true ∧ w' = w_839) (fun _ _ h => ⟨h.1.trans (congrArg Value.bool (decide_eq_true he_853)), h.2⟩)
                refine S_callQ Try.call11 rfl hz_854 rfl ?_
                refine S_not rfl rfl ?_
                refine WL_nil ?_
                have h_855 := Rep.ext _ h_449 c_847
                have h_856 := Rep.ext _ h_450 c_847
                have h_857 := Rep.ext _ h_451 c_847
                have h_858 := Rep.ext _ hr_445 c_847
                have h_859 := Acc.ext h_452 c_847 mem0
                have h_860 := h_453.ext c_847 nin0
                refine W_cond_false rfl ?_
                refine W_skip ?_
                refine W_seq ?_
                refine W_seq ?_
                refine W_region ?_
                refine S_move rfl ?_
                have hz_868 := heads_ok h_856 (fun x hx => Nat.lt_of_lt_of_le (hM x hx) (E_846).size) hml
                refine S_call Try.call14 rfl hz_868 rfl ?_
                rintro _ w_861 ⟨L_863, A_864, cap_865, rfl, hr_866, hp_867, e_862⟩
                have E_869 := Ext.stepO E_846 e_862 mem0
                have h_870 := Rep.ext _ h_855 e_862
                have h_871 := Rep.ext _ h_856 e_862
                have h_872 := Rep.ext _ h_857 e_862
                have h_873 := Rep.ext _ h_858 e_862
                have h_874 := Rep.ext _ h_848 e_862
                have h_875 := Acc.ext ha_841 e_862 mem0
                have h_876 := Acc.ext h_859 e_862 mem0
                have h_877 := h_860.ext e_862 nin0
                have hl_878 := rSlice_len hr_866
                refine S_len Try.runUnderlying26 rfl rfl ?_
                refine S_move rfl ?_
                refine WL_nil ?_
                refine W_block ?_
                refine W_loopF [8, 17, 19, 167, 168, 169, 170, 171, 172, 173, 174, 175, 176, 177, 178, 179, 180, 181, 182] (fun m f w => ∃ j : Int, m = (L_863.length - j).toNat ∧ 0 ≤ j ∧ w_861 = w ∧ Live f [(167, .int .i64 j)]) ?_ ?_
                · exact ⟨_, 0, rfl, by omega, rfl, rfl, trivial⟩
                ·
                  rintro m g_881 _ ⟨j, rfl, y0, rfl, hl_880⟩
                  refine W_liveM hl_880 rfl ?_
                  refine W_seq ?_
                  refine W_region ?_
                  refine S_lss rfl rfl rfl ?_
                  refine WL_nil ?_
                  refine W_seq ?_
                  refine W_cond rfl (fun h_884 => ?_) (fun h_884 => ?_)
                  ·
                    have p_885 := h_884
                    try simp only [lrn] at p_885
                    refine W_skip ?_
                    refine W_seq ?_
                    refine W_block ?_
                    refine W_seq ?_
                    refine W_region ?_
                    refine S_index Try.runUnderlying26 Try.sizeOf3 hr_866 rfl (by omega) (by omega) rfl ?_
                    intro b_886 o_887 cs_888 hi_889 hc_890 hb_891 hr_892
                    refine S_loadI Try.isAgg3 rfl hc_890 hr_892 rfl ?_
                    rintro ⟨r_893, r_894⟩
                    refine S_assign rfl ?_
                    refine WL_nil ?_
                    refine W_seq ?_
                    refine W_region ?_
                    refine S_fieldAddr Try.runUnderlying37 rfl Try.sizeOf26 rfl rfl ?_
                    refine S_load1 Try.isAgg26 rfl (h_877.at rfl) rfl ?_
                    refine S_len Try.runUnderlying26 rfl rfl ?_
                    refine S_move rfl ?_
                    refine WL_nil ?_
                    refine W_block ?_
                    refine W_loopF [8, 19, 174, 175, 176, 177, 178, 179, 180, 181] (fun m f w => ∃ k : Int, m = (ps.length - k).toNat ∧ 0 ≤ k ∧ w_861 = w ∧ Live f [(174, .int .i64 k)]) ?_ ?_
                    · exact ⟨_, 0, rfl, by omega, rfl, rfl, trivial⟩
                    ·
                      rintro m g_897 _ ⟨k, rfl, z0, rfl, hl_896⟩
                      refine W_liveM hl_896 rfl ?_
                      refine W_seq ?_
                      refine W_region ?_
                      refine S_lss rfl rfl rfl ?_
                      refine WL_nil ?_
                      refine W_seq ?_
                      refine W_cond rfl (fun h_900 => ?_) (fun h_900 => ?_)
                      ·
                        have p_901 := h_900
                        try simp only [lrn] at p_901
                        refine W_skip ?_
                        refine W_seq ?_
                        refine W_block ?_
                        refine W_seq ?_
                        refine W_region ?_
                        have h_902 := Acc.rd h_876 (by first | omega | (rw [List.length_append, List.length_singleton]; omega))
                        refine S_index Try.runUnderlying26 Try.sizeOf3 h_902 rfl (by omega) (by omega) rfl ?_
                        intro b_903 o_904 cs_905 hi_906 hc_907 hb_908 hr_909
                        refine S_loadI Try.isAgg3 rfl hc_907 hr_909 rfl ?_
                        rintro ⟨r_910, r_911⟩
                        refine S_assign rfl ?_
                        refine WL_nil ?_
                        refine W_seq ?_
                        refine W_region ?_
                        refine S_move rfl ?_
                        refine S_move rfl ?_
                        refine S_eql rfl rfl rfl ?_
                        refine WL_nil ?_
                        refine W_cond rfl (fun h_913 => ?_) (fun h_913 => ?_)
                        ·
                          have p_914 := h_913
                          try simp only [lrn] at p_914
                          refine W_seq ?_
                          refine W_region ?_
                          refine S_assign rfl ?_
                          refine WL_nil ?_
                          refine W_ret ?_
                          exact (head_grow hmr hp_867 (i := j.toNat) (j := k.toNat) (by omega) (by omega) (by assumption)).elim
                        ·
                          have p_915 := h_913
                          try simp only [lrn] at p_915
                          refine W_skip ?_
                          refine W_region ?_
                          refine S_add rfl rfl (by omega) rfl ?_
                          refine S_move rfl ?_
                          refine WL_nil ?_
                          refine ⟨by repeat (first | refine agree_upd rfl ?_ | exact agree_mix rfl agree_refl | refine agree_mix rfl ?_), ?_⟩
                          exact ⟨_, by omega, k + 1, rfl, by omega, rfl, rfl, trivial⟩
                      ·
                        have p_916 := h_900
                        try simp only [lrn] at p_916
                        refine W_exit ?_
                        refine W_region ?_
                        refine S_add rfl rfl (by omega) rfl ?_
                        refine S_move rfl ?_
                        refine WL_nil ?_
                        refine ⟨by repeat (first | refine agree_upd rfl ?_ | exact agree_mix rfl agree_refl | refine agree_mix rfl ?_), ?_⟩
                        exact ⟨_, by omega, j + 1, rfl, by omega, rfl, rfl, trivial⟩
                  ·
                    have p_917 := h_884
                    try simp only [lrn] at p_917
                    refine W_exit ?_
                    refine W_seq ?_
                    refine W_region ?_
                    refine S_callE Try.call10 rfl (alive_ok (M := M) (fun x hx => Nat.lt_of_lt_of_le (hM x hx) (E_869).size)) rfl ?_
                    intro w_918 e_919
                    have E_920 := Ext.stepO E_869 e_919 mem0
                    have h_921 := Rep.ext _ h_870 e_919
                    have h_922 := Rep.ext _ h_871 e_919
                    have h_923 := Rep.ext _ h_872 e_919
                    have h_924 := Rep.ext _ h_873 e_919
                    have h_925 := Rep.ext _ h_874 e_919
                    have h_926 := Acc.ext h_875 e_919 mem0
                    have h_927 := Rep.ext _ hr_866 e_919
                    have h_928 := Acc.ext h_876 e_919 mem0
                    have h_929 := h_877.ext e_919 nin0
                    refine S_assign rfl ?_
                    refine WL_nil ?_
                    refine W_ret ?_
                    exact ⟨rfl, E_920⟩
end Go.Proofs.Ytpgegnmaophapaa
