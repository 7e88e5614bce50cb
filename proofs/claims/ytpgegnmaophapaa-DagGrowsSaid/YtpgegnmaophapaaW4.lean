/- The walks of a history's functions, printed by program. -/
import Derived.Test.YtpgegnmaophapaaW3
namespace Go.Proofs.Ytpgegnmaophapaa
open Go.Wk Classical
theorem rising_ok {M : List Nat} {w0 : World} {bm : Nat} {S : List Int} (hM : ∀ b ∈ M, b < w0.heap.size) (hm : MapAt kInt w0 bm (setL S)) (hS : ∀ x ∈ S, InI x) (hl : S.length ≤ 1000) :
    CallR Try.prog 26 [.map (some bm)] w0 (fun v w' => ∃ L A cap, v = .slice A L.length cap ∧ (rSlice rInt).rd M w' [.slice A L.length cap] L ∧ RiseOf L (· ∈ S) ∧ Ext [] w0 w') := by
  refine Call1 Try.func26 rfl rfl rfl rfl ?_
  refine W_seq ?_
  refine W_region ?_
  refine S_assign rfl ?_
  refine WL_nil ?_
  refine W_seq ?_
  refine W_region ?_
  refine S_assign rfl ?_
  have ha_1 : Acc rInt M w0 (.slice none 0 0) [] [] := Acc.nil
  refine WL_nil ?_
  refine W_seq ?_
  refine W_seq ?_
  refine W_region ?_
  refine S_move rfl ?_
  refine S_range Try.runUnderlying40 rfl hm rfl ?_
  intro it_2 w_3 e_4 z_5 z_6 hi_7
  have hb_8 : w0.heap.size ≤ it_2 := by have := ((Ext.refl [] w0)).size; omega
  have n_9 : bm ≠ it_2 := by have := hm.lt; omega
  have E_10 := Ext.stepO (Ext.refl [] w0) e_4 mem0
  have h_11 := hm.ext e_4 nin0
  refine WL_nil ?_
  refine W_block ?_
  refine W_loopF [3, 4, 7, 8, 9, 10, 11, 12, 13, 14] (fun m f w => ∃ (D : List (Int × Value)) (xs : List Int) (A_12 : Option Addr) (cap_13 : Nat) (bs_14 : List Nat), m = S.length - D.length ∧ xs = D.map (·.1) ∧ Told S D ∧ Ext [] w0 w ∧ Ext ([it_2]) w_3 w ∧ Iter kInt w it_2 bm (setL S) D ∧ Acc rInt (it_2 :: bm :: M) w (.slice A_12 xs.length cap_13) xs bs_14 ∧ (∀ b ∈ bs_14, w0.heap.size ≤ b) ∧ (∀ b ∈ bs_14, b ∈ [] ∨ (w_3).heap.size ≤ b) ∧ Live f [(3, .slice A_12 xs.length cap_13)]) ?_ ?_
  · exact ⟨_, [], [], _, _, _, rfl, rfl, told_nil, E_10, (Ext.refl _ _), hi_7, Acc.nil, mem0, rel_refl, rfl, trivial⟩
  ·
    rintro m g_22 w_18 ⟨D, xs, A_12, cap_13, bs_14, rfl, q0, q1, E_19, e_20, hi1, ha_15, hb_16, rel_17, hl_21⟩
    refine W_liveM hl_21 rfl ?_
    have h_23 := h_11.ext e_20 (ninC n_9 nin0)
    refine W_seq ?_
    refine W_region ?_
    refine S_next rfl hi1 rfl ?_ ?_
    ·
      intro k_24 v_25 w_26 hL_27 hD_28 hk_29 e_30 z_31 hi_32
      have E_34 := Ext.stepO E_19 e_30 (memC (.inr hb_8) mem0)
      have c_35 := Ext.stepO e_20 e_30 (memC (.inl (by simp)) mem0)
      have h_36 := Acc.ext ha_15 e_30 (by first | (simp; done) | (intro x hx; left; simp [hx]))
      have h_37 := h_23.ext e_30 (ninC n_9 nin0)
      have hlt := told_lt q1 hL_27 hk_29
      have hin := told_in hS hL_27
      have hle : xs.length = D.length := by rw [q0]; simp
      refine S_extract rfl rfl rfl ?_
      refine WL_nil ?_
      refine W_seq ?_
      refine W_cond_true rfl ?_
      refine W_skip ?_
      refine W_block ?_
      refine W_seq ?_
      refine W_region ?_
      refine S_entry rfl hi_32 rfl ?_
      refine S_extract rfl rfl rfl ?_
      refine S_assign rfl ?_
      refine WL_nil ?_
      refine W_region ?_
      refine S_move rfl ?_
      refine S_move rfl ?_
      refine S_buildSlice Try.runUnderlying26 Try.sizeOf3 Try.zeroValue3 rfl rfl rfl rfl rfl rfl rfl ?_
      intro b_38 w_39 e_40 z_41 z_42 ho_43
      have hb_44 : w0.heap.size ≤ b_38 := by have := (E_34).size; omega
      have n_45 : (w_3).heap.size ≤ b_38 := by have := (c_35).size; omega
      have n_46 : bm ≠ b_38 := by have := h_37.lt; omega
      have n_47 : it_2 ≠ b_38 := by have := Iter.lt hi_32; omega
      have n_48 : b_38 ∉ bs_14 := fun h => by have := Acc.bs_lt h_36 _ h; omega
      have E_49 := Ext.stepO E_34 e_40 mem0
      have c_50 := Ext.stepO c_35 e_40 mem0
      have h_51 := Acc.ext (Acc.weak h_36 (cons_fresh z_41)) e_40 mem0
      have h_52 := h_37.ext e_40 nin0
      have h_53 := Iter.ext hi_32 e_40 nin0 nin0
      have ho_43 : Own _ _ _ [_] := ho_43
      have h_54 := Acc.weak (M' := (it_2 :: bm :: M)) h_51 (fun x hx => .inl (List.mem_cons_of_mem _ hx))
      have hr_55 := rd_ints (xs := [_]) (M := bs_14 ++ (it_2 :: bm :: M)) ho_43 (ninA n_48 (ninC (Ne.symm n_47) (ninC (Ne.symm n_46) (notin_old hM hb_44)))) (by simpa using hin) (by simp)
      refine S_append Try.runUnderlying26 Try.typeInfo3 Try.sizeOf3 Try.zeroValue3 rfl h_54 hr_55 (by show _ * 8 ≤ _; simp; omega) (by decide) (memC (Iter.lt h_53) (memC (h_52.lt) (fun x hx => Nat.lt_of_lt_of_le (hM x hx) (E_49).size))) rfl ?_
      intro v_56 w_57 bs_58 ha_59 e_60 hf_61
      have hb_62 := fresh_bs hf_61 hb_16 (E_49).size
      have rel_63 := rel_step hf_61 rel_17 (c_50).size
      have E_64 := Ext.stepO E_49 e_60 (fun x hx => .inr (hb_16 x hx))
      have c_65 := Ext.stepO c_50 e_60 (fun x hx => (rel_17 x hx).imp (fun h => by first | exact h | (cases h; done) | simp [h]) id)
      have h_66 := h_52.ext e_60 (fun h => Acc.bs_notin h_54 _ h (by simp))
      have h_67 := Iter.ext h_53 e_60 (fun h => Acc.bs_notin h_54 _ h (by simp)) (fun h => Acc.bs_notin h_54 _ h (by simp))
      have o_70 := Acc.val ha_59
      obtain ⟨A_68, cap_69, rfl⟩ := o_70
      refine S_assign rfl ?_
      refine WL_nil ?_
      refine ⟨by repeat (first | refine agree_upd rfl ?_ | exact agree_mix rfl agree_refl | refine agree_mix rfl ?_), ?_⟩
      exact ⟨_, by simp; omega, _, _, _, _, _, rfl, by rw [q0]; simp, told_step q1 ‹_› ‹_›, E_64, c_65, h_67, ha_59, hb_62, rel_63, rfl, trivial⟩
    ·
      intro ho_33
      refine S_extract rfl rfl rfl ?_
      refine WL_nil ?_
      refine W_seq ?_
      refine W_cond_false rfl ?_
      refine W_exit ?_
      refine W_seq ?_
      refine W_region ?_
      refine S_move rfl ?_
      refine S_call Try.call33 rfl (sort_acc Try.slices_Sort_int_none Try.slices_Sort_int ha_15 (by have := told_le q1; have := congrArg List.length q0; simp at this; omega)) rfl ?_
      rintro _ w_71 ⟨ha_72, e_73⟩
      have E_74 := Ext.stepO E_19 e_73 (fun x hx => .inr (hb_16 x hx))
      have h_75 := h_23.ext e_73 (fun h => Acc.bs_notin ha_15 _ h (by simp))
      have h_76 := Iter.ext hi1 e_73 (fun h => Acc.bs_notin ha_15 _ h (by simp)) (fun h => Acc.bs_notin ha_15 _ h (by simp))
      refine WL_nil ?_
      refine W_seq ?_
      refine W_region ?_
      refine S_move rfl ?_
      refine S_assign rfl ?_
      refine WL_nil ?_
      refine W_ret ?_
      exact ⟨_, _, _, by rw [srt_len]; rfl, by rw [srt_len]; exact Acc.rd (Acc.weak (M' := M) ha_72 (fun x hx => .inl (by simp [hx]))) (by rw [srt_len]; have := told_le q1; have := congrArg List.length q0; simp at this; omega), told_all q1 q0 ho_33, E_74⟩
theorem reaches_ok {M : List Nat} {w0 : World} {A : Option Addr} {cap : Nat} {l : List Commit} (h : (rSlice rCommit).rd M w0 [.slice A l.length cap] l) (hM : ∀ b ∈ M, b < w0.heap.size) (hl : l.length ≤ 60) (a b : Int) (hib : InI a) :
    CallR Try.prog 19 [.slice A l.length cap, .int .i64 a, .int .i64 b] w0 (fun v w' => v = .bool (decide (Right l ∧ Rch l a b)) ∧ Ext [] w0 w') := by
  have ll := rSlice_len h
  refine Call1 Try.func19 rfl rfl rfl rfl ?_
  refine W_seq ?_
  refine W_region ?_
  refine S_assign rfl ?_
  refine WL_nil ?_
  refine W_seq ?_
  refine W_region ?_
  refine S_move rfl ?_
  have hz_3 := right_ok h
  refine S_callE Try.call20 rfl hz_3 rfl ?_
  intro w_1 e_2
  have E_4 := Ext.stepO (Ext.refl [] w0) e_2 mem0
  refine S_move rfl ?_
  refine WL_split (dj := 9) rfl (fun h_6 => ?_) (fun h_6 => ?_)
  ·
    have p_7 := h_6
    try simp only [lrn] at p_7
    refine WL_on rfl rfl (bT h_6) ?_
    refine S_move rfl ?_
    refine WL_on rfl rfl (bT h_6) ?_
    refine S_move rfl ?_
    refine WL_on rfl rfl (bT h_6) ?_
    have h_8 := Rep.ext _ h E_4
    refine S_callQ Try.call31 rfl (there_ok h_8 _) rfl ?_
    refine S_pick_t (bT h_6) rfl ?_
    refine S_move rfl ?_
    refine WL_split (dj := 14) rfl (fun h_10 => ?_) (fun h_10 => ?_)
    ·
      have p_11 := h_10
      try simp only [lrn] at p_11
      refine WL_on rfl rfl (bT h_10) ?_
      refine S_move rfl ?_
      refine WL_on rfl rfl (bT h_10) ?_
      refine S_move rfl ?_
      refine WL_on rfl rfl (bT h_10) ?_
      refine S_buildSlice Try.runUnderlying26 Try.sizeOf3 Try.zeroValue3 rfl rfl rfl rfl rfl rfl rfl ?_
      intro b_12 w_13 e_14 z_15 z_16 ho_17
      have hb_18 : w0.heap.size ≤ b_12 := by have := (E_4).size; omega
      have E_19 := Ext.stepO E_4 e_14 mem0
      have ho_17 : Own _ _ _ [_] := ho_17
      refine WL_on rfl rfl (bT h_10) ?_
      have h_20 := Rep.ext _ h E_19
      have hr_21 := rd_ints (xs := [a]) (M := M) ho_17 (notin_old hM hb_18) (by simpa using hib) (by simp)
      have hz_29 := reached_ok h_20 hr_21 ‹Right _›
      refine S_call Try.call25 rfl hz_29 rfl ?_
      rintro _ w_24 ⟨bm_22, S_23, rfl, hm_25, hz_29, hS_27, e_28⟩
      have hb_30 : w0.heap.size ≤ bm_22 := by have := (E_19).size; omega
      have n_31 : b_12 ≠ bm_22 := by have := ho_17.lt; omega
      have E_32 := Ext.stepO E_19 e_28 mem0
      have h_33 := ho_17.ext e_28 nin0
      refine WL_on rfl rfl (bT h_10) ?_
      refine S_move rfl ?_
      refine WL_on rfl rfl (bT h_10) ?_
      refine S_lookup (ky := kInt) Try.runUnderlying40 Try.runUnderlying3 Try.zeroValue4 rfl rfl hm_25 (get_setL _ _) rfl ?_
      refine S_pick_t (bT h_10) rfl ?_
      refine S_assign rfl ?_
      refine WL_nil ?_
      refine W_ret ?_
      exact ⟨by show Value.bool _ = _; congr 1; rw [decide_eq_decide, hS_27]; have hr : Right l := ‹_›; simp [hr], E_32⟩
    ·
      have p_35 := h_10
      try simp only [lrn] at p_35
      refine WL_off rfl rfl rfl (bF h_10) ?_
      refine WL_off rfl rfl rfl (bF h_10) ?_
      refine WL_off rfl rfl rfl (bF h_10) ?_
      refine WL_off rfl rfl rfl (bF h_10) ?_
      refine WL_off rfl rfl rfl (bF h_10) ?_
      refine WL_off rfl rfl rfl (bF h_10) ?_
      refine S_pick_f (bF h_10) rfl ?_
      refine S_assign rfl ?_
      refine WL_nil ?_
      refine W_ret ?_
      exact ⟨by show Value.bool _ = _; congr 1; symm; rw [decide_eq_false_iff_not]; rintro ⟨h1, h2⟩; have h3 := h2.there; simp_all, E_4⟩
  ·
    have p_36 := h_6
    try simp only [lrn] at p_36
    refine WL_off rfl rfl rfl (bF h_6) ?_
    refine WL_off rfl rfl rfl (bF h_6) ?_
    refine WL_off rfl rfl rfl (bF h_6) ?_
    refine S_pick_f (bF h_6) rfl ?_
    refine S_move rfl ?_
    refine WL_off rfl rfl rfl rfl ?_
    refine WL_off rfl rfl rfl rfl ?_
    refine WL_off rfl rfl rfl rfl ?_
    refine WL_off rfl rfl rfl rfl ?_
    refine WL_off rfl rfl rfl rfl ?_
    refine WL_off rfl rfl rfl rfl ?_
    refine S_pick_f rfl rfl ?_
    refine S_assign rfl ?_
    refine WL_nil ?_
    refine W_ret ?_
    exact ⟨by show Value.bool _ = _; congr 1; symm; rw [decide_eq_false_iff_not]; rintro ⟨h1, h2⟩; have h3 := h2.there; simp_all, E_4⟩
theorem reaches_ref_ok {M : List Nat} {w0 : World} {A : Option Addr} {cap : Nat} {l : List Commit} (h : (rSlice rCommit).rd M w0 [.slice A l.length cap] l) (hM : ∀ b ∈ M, b < w0.heap.size) (hl : l.length ≤ 60) (a b : Int) (hib : InI a) :
    CallR Try.prog 22 [.slice A l.length cap, .int .i64 a, .int .i64 b] w0 (fun v w' => v = .bool (decide (Right l ∧ Rch l a b)) ∧ Ext [] w0 w') := by
  have ll := rSlice_len h
  refine Call1 Try.func22 rfl rfl rfl rfl ?_
  refine W_seq ?_
  refine W_region ?_
  refine S_assign rfl ?_
  refine WL_nil ?_
  refine W_seq ?_
  refine W_seq ?_
  refine W_region ?_
  refine S_move rfl ?_
  refine S_callQ Try.call21 rfl (right_ref_ok h) rfl ?_
  refine S_not rfl rfl ?_
  refine S_move rfl ?_
  refine WL_split (dj := 10) rfl (fun h_2 => ?_) (fun h_2 => ?_)
  ·
    have h_3 := h_2
    simp only [lrnN] at h_3
    have p_4 := h_3
    try simp only [lrn] at p_4
    refine WL_off rfl rfl rfl (nF h_3) ?_
    refine WL_off rfl rfl rfl (nF h_3) ?_
    refine WL_off rfl rfl rfl (nF h_3) ?_
    refine WL_off rfl rfl rfl (nF h_3) ?_
    refine S_pick_t (nF h_3) rfl ?_
    refine S_move rfl ?_
    refine WL_off rfl rfl rfl rfl ?_
    refine WL_off rfl rfl rfl rfl ?_
    refine WL_off rfl rfl rfl rfl ?_
    refine WL_off rfl rfl rfl rfl ?_
    refine S_pick_t rfl rfl ?_
    refine WL_nil ?_
    refine W_cond_true rfl ?_
    refine W_seq ?_
    refine W_region ?_
    refine S_assign rfl ?_
    refine WL_nil ?_
    refine W_ret ?_
    exact ⟨by show Value.bool _ = _; congr 1; symm; rw [decide_eq_false_iff_not]; rintro ⟨h1, h2⟩; have h3 := h2.there; simp_all, Ext.refl _ _⟩
  ·
    have h_5 := h_2
    simp only [lrnN] at h_5
    have p_6 := h_5
    try simp only [lrn] at p_6
    refine WL_on rfl rfl (nT h_5) ?_
    refine S_move rfl ?_
    refine WL_on rfl rfl (nT h_5) ?_
    refine S_move rfl ?_
    refine WL_on rfl rfl (nT h_5) ?_
    refine S_callQ Try.call27 rfl (there_ref_ok h _) rfl ?_
    refine WL_on rfl rfl (nT h_5) ?_
    refine S_not rfl rfl ?_
    refine S_pick_f (nT h_5) rfl ?_
    refine S_move rfl ?_
    refine WL_split (dj := 16) rfl (fun h_8 => ?_) (fun h_8 => ?_)
    ·
      have h_9 := h_8
      simp only [lrnN] at h_9
      have p_10 := h_9
      try simp only [lrn] at p_10
      refine WL_off rfl rfl rfl (nF h_9) ?_
      refine WL_off rfl rfl rfl (nF h_9) ?_
      refine WL_off rfl rfl rfl (nF h_9) ?_
      refine WL_off rfl rfl rfl (nF h_9) ?_
      refine S_pick_t (nF h_9) rfl ?_
      refine WL_nil ?_
      refine W_cond_true rfl ?_
      refine W_seq ?_
      refine W_region ?_
      refine S_assign rfl ?_
      refine WL_nil ?_
      refine W_ret ?_
      exact ⟨by show Value.bool _ = _; congr 1; symm; rw [decide_eq_false_iff_not]; rintro ⟨h1, h2⟩; have h3 := h2.there; simp_all, Ext.refl _ _⟩
    ·
      have h_11 := h_8
      simp only [lrnN] at h_11
      have p_12 := h_11
      try simp only [lrn] at p_12
      refine WL_on rfl rfl (nT h_11) ?_
      refine S_move rfl ?_
      refine WL_on rfl rfl (nT h_11) ?_
      refine S_move rfl ?_
      refine WL_on rfl rfl (nT h_11) ?_
      refine S_callQ Try.call27 rfl (there_ref_ok h _) rfl ?_
      refine WL_on rfl rfl (nT h_11) ?_
      refine S_not rfl rfl ?_
      refine S_pick_f (nT h_11) rfl ?_
      refine WL_nil ?_
      refine W_cond rfl (fun h_14 => ?_) (fun h_14 => ?_)
      ·
        have h_15 := h_14
        simp only [lrnN] at h_15
        have p_16 := h_15
        try simp only [lrn] at p_16
        refine W_seq ?_
        refine W_region ?_
        refine S_assign rfl ?_
        refine WL_nil ?_
        refine W_ret ?_
        exact ⟨by show Value.bool _ = _; congr 1; symm; rw [decide_eq_false_iff_not]; rintro ⟨h1, h2⟩; have h3 := h2.there; simp_all, Ext.refl _ _⟩
      ·
        have h_17 := h_14
        simp only [lrnN] at h_17
        have p_18 := h_17
        try simp only [lrn] at p_18
        refine W_skip ?_
        refine W_seq ?_
        refine W_region ?_
        refine S_move rfl ?_
        have ta : There l a := ‹_›
        have tb : There l b := ‹_›
        have ⟨a1, a2⟩ := ta
        have ⟨b1, b2⟩ := tb
        have m1 := mulq (a := a - 1) (n := l.length) (by omega) (by omega) (by omega) (by omega)
        have hz_26 := table_ok h hM ‹Right _› hl
        refine S_call Try.call28 rfl hz_26 rfl ?_
        rintro _ w_19 ⟨L_21, A_22, cap_23, rfl, hr_24, hp_25, e_20⟩
        have E_27 := Ext.stepO (Ext.refl [] w0) e_20 mem0
        have hl_28 := rSlice_len hr_24
        refine S_move rfl ?_
        refine S_sub rfl rfl (by omega) rfl ?_
        refine S_move rfl ?_
        refine S_len Try.runUnderlying22 rfl rfl ?_
        refine S_mul rfl rfl (by omega) rfl ?_
        refine S_move rfl ?_
        refine S_add rfl rfl (by omega) rfl ?_
        refine S_sub rfl rfl (by omega) rfl ?_
        refine S_index Try.runUnderlying44 Try.sizeOf4 hr_24 rfl (tabq hp_25 ta tb).1 (tabq hp_25 ta tb).2.1 rfl ?_
        intro b_29 o_30 cs_31 hi_32 hc_33 hb_34 hr_35
        refine S_loadB Try.isAgg4 rfl hc_33 hr_35 rfl ?_
        refine S_assign rfl ?_
        refine WL_nil ?_
        refine W_ret ?_
        exact ⟨by show Value.bool _ = _; congr 1; rw [(tabq hp_25 ta tb).2.2]; have hr : Right l := ‹_›; simp [hr], E_27⟩
end Go.Proofs.Ytpgegnmaophapaa
