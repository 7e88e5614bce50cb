/- The walks of a history's functions, printed by program. -/
import Derived.Test.YtpgegnmaophapaaW3
namespace Go.Proofs.Ytpgegnmaophapaa
open Go.Wk Classical
theorem rising_ok {M : List Nat} {w0 : World} {bm : Nat} {S : List Int} (hM : ∀ b ∈ M, b < w0.heap.size) (hm : MapAt kInt w0 bm (setL S)) (hS : ∀ x ∈ S, InI x) (hl : S.length ≤ 1000) :
    CallR Try.prog 26 [.map (some bm)] w0 (fun v w' => ∃ L A cap, v = .slice A L.length cap ∧ (rSlice rInt).rd M w' [.slice A L.length cap] L ∧ RiseOf L (· ∈ S) ∧ Ext [] w0 w') := by
  refine Call1 Try.func26 rfl rfl rfl rfl ?_
  refine W_seq ?_
  refine W_region ?_
  refine S_assign rfl ?_
  refine WL_nil ?_
  refine W_seq ?_
  refine W_region ?_
  refine S_assign rfl ?_
  have ha_1 : Acc rInt M w0 (.slice none 0 0) [] [] := Acc.nil
  refine WL_nil ?_
  refine W_seq ?_
  refine W_seq ?_
  refine W_region ?_
  refine S_move rfl ?_
  refine S_range Try.runUnderlying40 rfl hm rfl ?_
  intro it_2 w_3 e_4 z_5 z_6 hi_7
  have hb_8 : w0.heap.size ≤ it_2 := by have := ((Ext.refl [] w0)).size; omega
  have n_9 : bm ≠ it_2 := by have := hm.lt; omega
  have n_10 : it_2 ∉ [] := fun h => by have := Acc.bs_lt ha_1 _ h; omega
  have E_11 := Ext.stepO (Ext.refl [] w0) e_4 mem0
  have h_12 := hm.ext e_4 nin0
  refine WL_nil ?_
  refine W_block ?_
  refine W_loopF [3, 4, 7, 8, 9, 10, 11, 12, 13, 14] (fun m f w => ∃ (D : List (Int × Value)) (xs : List Int) (A_13 : Option Addr) (cap_14 : Nat) (bs_15 : List Nat), m = S.length - D.length ∧ xs = D.map (·.1) ∧ Told S D ∧ Ext [] w0 w ∧ Ext ([it_2]) w_3 w ∧ Iter kInt w it_2 bm (setL S) D ∧ Acc rInt (it_2 :: bm :: M) w (.slice A_13 xs.length cap_14) xs bs_15 ∧ (∀ b ∈ bs_15, w0.heap.size ≤ b) ∧ (∀ b ∈ bs_15, b ∈ [] ∨ (w_3).heap.size ≤ b) ∧ Live f [(3, .slice A_13 xs.length cap_14)]) ?_ ?_
  · exact ⟨_, [], [], _, _, _, rfl, rfl, told_nil, E_11, (Ext.refl _ _), hi_7, Acc.nil, mem0, rel_refl, rfl, trivial⟩
  ·
    rintro m g_23 w_19 ⟨D, xs, A_13, cap_14, bs_15, rfl, q0, q1, E_20, e_21, hi1, ha_16, hb_17, rel_18, hl_22⟩
    refine W_liveM hl_22 rfl ?_
    have h_24 := h_12.ext e_21 (ninC n_9 nin0)
    refine W_seq ?_
    refine W_region ?_
    refine S_next rfl hi1 rfl ?_ ?_
    ·
      intro k_25 v_26 w_27 hL_28 hD_29 hk_30 e_31 z_32 hi_33
      have E_35 := Ext.stepO E_20 e_31 (memC (.inr hb_8) mem0)
      have c_36 := Ext.stepO e_21 e_31 (memC (.inl (by simp)) mem0)
      have h_37 := Acc.ext ha_16 e_31 (by first | (simp; done) | (intro x hx; left; simp [hx]))
      have h_38 := h_24.ext e_31 (ninC n_9 nin0)
      have hlt := told_lt q1 hL_28 hk_30
      have hin := told_in hS hL_28
      have hle : xs.length = D.length := by rw [q0]; simp
      refine S_extract rfl rfl rfl ?_
      refine WL_nil ?_
      refine W_seq ?_
      refine W_cond_true rfl ?_
      refine W_skip ?_
      refine W_block ?_
      refine W_seq ?_
      refine W_region ?_
      refine S_entry rfl hi_33 rfl ?_
      refine S_extract rfl rfl rfl ?_
      refine S_assign rfl ?_
      refine WL_nil ?_
      refine W_region ?_
      refine S_move rfl ?_
      refine S_move rfl ?_
      refine S_buildSlice Try.runUnderlying26 Try.sizeOf3 Try.zeroValue3 rfl rfl rfl rfl rfl rfl rfl ?_
      intro b_39 w_40 e_41 z_42 z_43 ho_44
      have hb_45 : w0.heap.size ≤ b_39 := by have := (E_35).size; omega
      have n_46 : (w_3).heap.size ≤ b_39 := by have := (c_36).size; omega
      have n_47 : bm ≠ b_39 := by have := h_38.lt; omega
      have n_48 : it_2 ≠ b_39 := by have := Iter.lt hi_33; omega
      have n_49 : b_39 ∉ bs_15 := fun h => by have := Acc.bs_lt h_37 _ h; omega
      have E_50 := Ext.stepO E_35 e_41 mem0
      have c_51 := Ext.stepO c_36 e_41 mem0
      have h_52 := Acc.ext (Acc.weak h_37 (cons_fresh z_42)) e_41 mem0
      have h_53 := h_38.ext e_41 nin0
      have h_54 := Iter.ext hi_33 e_41 nin0 nin0
      have ho_44 : Own _ _ _ [_] := ho_44
      have h_55 := Acc.weak (M' := (it_2 :: bm :: M)) h_52 (fun x hx => .inl (List.mem_cons_of_mem _ hx))
      have hr_56 := rd_ints (xs := [_]) (M := bs_15 ++ (it_2 :: bm :: M)) ho_44 (ninA n_49 (ninC (Ne.symm n_48) (ninC (Ne.symm n_47) (notin_old hM hb_45)))) (by simpa using hin) (by simp)
      refine S_append Try.runUnderlying26 Try.typeInfo3 Try.sizeOf3 Try.zeroValue3 rfl h_55 hr_56 (by show _ * 8 ≤ _; simp; omega) (by decide) (memC (Iter.lt h_54) (memC (h_53.lt) (fun x hx => Nat.lt_of_lt_of_le (hM x hx) (E_50).size))) rfl ?_
      intro v_57 w_58 bs_59 ha_60 e_61 hf_62
      have hb_63 := fresh_bs hf_62 hb_17 (E_50).size
      have rel_64 := rel_step hf_62 rel_18 (c_51).size
      have E_65 := Ext.stepO E_50 e_61 (fun x hx => .inr (hb_17 x hx))
      have c_66 := Ext.stepO c_51 e_61 (fun x hx => (rel_18 x hx).imp (fun h => by first | exact h | (cases h; done) | simp [h]) id)
      have h_67 := h_53.ext e_61 (fun h => Acc.bs_notin h_55 _ h (by simp))
      have h_68 := Iter.ext h_54 e_61 (fun h => Acc.bs_notin h_55 _ h (by simp)) (fun h => Acc.bs_notin h_55 _ h (by simp))
      have o_71 := Acc.val ha_60
      obtain ⟨A_69, cap_70, rfl⟩ := o_71
      refine S_assign rfl ?_
      refine WL_nil ?_
      refine ⟨by repeat (first | refine agree_upd rfl ?_ | exact agree_mix rfl agree_refl | refine agree_mix rfl ?_), ?_⟩
      exact ⟨_, by simp; omega, _, _, _, _, _, rfl, by rw [q0]; simp, told_step q1 ‹_› ‹_›, E_65, c_66, h_68, ha_60, hb_63, rel_64, rfl, trivial⟩
    ·
      intro ho_34
      refine S_extract rfl rfl rfl ?_
      refine WL_nil ?_
      refine W_seq ?_
      refine W_cond_false rfl ?_
      refine W_exit ?_
      refine W_seq ?_
      refine W_region ?_
      refine S_move rfl ?_
      refine S_call Try.call33 rfl (sort_acc Try.slices_Sort_int_none Try.slices_Sort_int ha_16 (by have := told_le q1; have := congrArg List.length q0; simp at this; omega)) rfl ?_
      rintro _ w_72 ⟨ha_73, e_74⟩
      have E_75 := Ext.stepO E_20 e_74 (fun x hx => .inr (hb_17 x hx))
      have h_76 := h_24.ext e_74 (fun h => Acc.bs_notin ha_16 _ h (by simp))
      have h_77 := Iter.ext hi1 e_74 (fun h => Acc.bs_notin ha_16 _ h (by simp)) (fun h => Acc.bs_notin ha_16 _ h (by simp))
      refine WL_nil ?_
      refine W_seq ?_
      refine W_region ?_
      refine S_move rfl ?_
      refine S_assign rfl ?_
      refine WL_nil ?_
      refine W_ret ?_
      exact ⟨_, _, _, by rw [srt_len]; rfl, by rw [srt_len]; exact Acc.rd (Acc.weak (M' := M) ha_73 (fun x hx => .inl (by simp [hx]))) (by rw [srt_len]; have := told_le q1; have := congrArg List.length q0; simp at this; omega), told_all q1 q0 ho_34, E_75⟩
theorem reaches_ok {M : List Nat} {w0 : World} {A : Option Addr} {cap : Nat} {l : List Commit} (h : (rSlice rCommit).rd M w0 [.slice A l.length cap] l) (hM : ∀ b ∈ M, b < w0.heap.size) (hl : l.length ≤ 60) (a b : Int) (hib : InI a) :
    CallR Try.prog 19 [.slice A l.length cap, .int .i64 a, .int .i64 b] w0 (fun v w' => v = .bool (decide (Right l ∧ Rch l a b)) ∧ Ext [] w0 w') := by
  have ll := rSlice_len h
  refine Call1 Try.func19 rfl rfl rfl rfl ?_
  refine W_seq ?_
  refine W_region ?_
  refine S_assign rfl ?_
  refine WL_nil ?_
  refine W_seq ?_
  refine W_region ?_
  refine S_move rfl ?_
  refine S_call Try.call20 rfl (right_ok h) rfl ?_
  rintro _ w_1 ⟨rfl, e_2⟩
  have E_3 := Ext.stepO (Ext.refl [] w0) e_2 mem0
  refine S_move rfl ?_
  refine WL_split (dj := 9) rfl (fun h_5 => ?_) (fun h_5 => ?_)
  ·
    have p_6 := h_5
    try simp only [lrn] at p_6
    refine WL_on rfl rfl (bT h_5) ?_
    refine S_move rfl ?_
    refine WL_on rfl rfl (bT h_5) ?_
    refine S_move rfl ?_
    refine WL_on rfl rfl (bT h_5) ?_
    have h_7 := Rep.ext _ h E_3
    refine S_call Try.call31 rfl (there_ok h_7 _) rfl ?_
    rintro _ _ ⟨rfl, hw_8⟩
    obtain rfl := hw_8.symm
    refine S_pick_t (bT h_5) rfl ?_
    refine S_move rfl ?_
    refine WL_split (dj := 14) rfl (fun h_10 => ?_) (fun h_10 => ?_)
    ·
      have p_11 := h_10
      try simp only [lrn] at p_11
      refine WL_on rfl rfl (bT h_10) ?_
      refine S_move rfl ?_
      refine WL_on rfl rfl (bT h_10) ?_
      refine S_move rfl ?_
      refine WL_on rfl rfl (bT h_10) ?_
      refine S_buildSlice Try.runUnderlying26 Try.sizeOf3 Try.zeroValue3 rfl rfl rfl rfl rfl rfl rfl ?_
      intro b_12 w_13 e_14 z_15 z_16 ho_17
      have hb_18 : w0.heap.size ≤ b_12 := by have := (E_3).size; omega
      have E_19 := Ext.stepO E_3 e_14 mem0
      have ho_17 : Own _ _ _ [_] := ho_17
      refine WL_on rfl rfl (bT h_10) ?_
      have h_20 := Rep.ext _ h E_19
      have hr_21 := rd_ints (xs := [a]) (M := M) ho_17 (notin_old hM hb_18) (by simpa using hib) (by simp)
      have hz_29 := reached_ok h_20 hr_21 ‹Right _›
      refine S_call Try.call25 rfl hz_29 rfl ?_
      rintro _ w_24 ⟨bm_22, S_23, rfl, hm_25, hz_29, hS_27, e_28⟩
      have hb_30 : w0.heap.size ≤ bm_22 := by have := (E_19).size; omega
      have n_31 : b_12 ≠ bm_22 := by have := ho_17.lt; omega
      have E_32 := Ext.stepO E_19 e_28 mem0
      have h_33 := ho_17.ext e_28 nin0
      refine WL_on rfl rfl (bT h_10) ?_
      refine S_move rfl ?_
      refine WL_on rfl rfl (bT h_10) ?_
      refine S_lookup (ky := kInt) Try.runUnderlying40 Try.runUnderlying3 Try.zeroValue4 rfl rfl hm_25 (get_setL _ _) rfl ?_
      refine S_pick_t (bT h_10) rfl ?_
      refine S_assign rfl ?_
      refine WL_nil ?_
      refine W_ret ?_
      exact ⟨by show Value.bool _ = _; congr 1; rw [decide_eq_decide, hS_27]; have hr : Right l := ‹_›; simp [hr], E_32⟩
    ·
      have p_35 := h_10
      try simp only [lrn] at p_35
      refine WL_off rfl rfl rfl (bF h_10) ?_
      refine WL_off rfl rfl rfl (bF h_10) ?_
      refine WL_off rfl rfl rfl (bF h_10) ?_
      refine WL_off rfl rfl rfl (bF h_10) ?_
      refine WL_off rfl rfl rfl (bF h_10) ?_
      refine WL_off rfl rfl rfl (bF h_10) ?_
      refine S_pick_f (bF h_10) rfl ?_
      refine S_assign rfl ?_
      refine WL_nil ?_
      refine W_ret ?_
      exact ⟨by show Value.bool _ = _; congr 1; symm; rw [decide_eq_false_iff_not]; rintro ⟨h1, h2⟩; have h3 := h2.there; simp_all, E_3⟩
  ·
    have p_36 := h_5
    try simp only [lrn] at p_36
    refine WL_off rfl rfl rfl (bF h_5) ?_
    refine WL_off rfl rfl rfl (bF h_5) ?_
    refine WL_off rfl rfl rfl (bF h_5) ?_
    refine S_pick_f (bF h_5) rfl ?_
    refine S_move rfl ?_
    refine WL_off rfl rfl rfl rfl ?_
    refine WL_off rfl rfl rfl rfl ?_
    refine WL_off rfl rfl rfl rfl ?_
    refine WL_off rfl rfl rfl rfl ?_
    refine WL_off rfl rfl rfl rfl ?_
    refine WL_off rfl rfl rfl rfl ?_
    refine S_pick_f rfl rfl ?_
    refine S_assign rfl ?_
    refine WL_nil ?_
    refine W_ret ?_
    exact ⟨by show Value.bool _ = _; congr 1; symm; rw [decide_eq_false_iff_not]; rintro ⟨h1, h2⟩; have h3 := h2.there; simp_all, E_3⟩
theorem reaches_ref_ok {M : List Nat} {w0 : World} {A : Option Addr} {cap : Nat} {l : List Commit} (h : (rSlice rCommit).rd M w0 [.slice A l.length cap] l) (hM : ∀ b ∈ M, b < w0.heap.size) (hl : l.length ≤ 60) (a b : Int) (hib : InI a) :
    CallR Try.prog 22 [.slice A l.length cap, .int .i64 a, .int .i64 b] w0 (fun v w' => v = .bool (decide (Right l ∧ Rch l a b)) ∧ Ext [] w0 w') := by
  have ll := rSlice_len h
  refine Call1 Try.func22 rfl rfl rfl rfl ?_
  refine W_seq ?_
  refine W_region ?_
  refine S_assign rfl ?_
  refine WL_nil ?_
  refine W_seq ?_
  refine W_seq ?_
  refine W_region ?_
  refine S_move rfl ?_
  refine S_call Try.call21 rfl (right_ref_ok h) rfl ?_
  rintro _ _ ⟨rfl, hw_1⟩
  obtain rfl := hw_1.symm
  refine S_not rfl rfl ?_
  refine S_move rfl ?_
  refine WL_split (dj := 10) rfl (fun h_3 => ?_) (fun h_3 => ?_)
  ·
    have h_4 := h_3
    simp only [lrnN] at h_4
    have p_5 := h_4
    try simp only [lrn] at p_5
    refine WL_off rfl rfl rfl (nF h_4) ?_
    refine WL_off rfl rfl rfl (nF h_4) ?_
    refine WL_off rfl rfl rfl (nF h_4) ?_
    refine WL_off rfl rfl rfl (nF h_4) ?_
    refine S_pick_t (nF h_4) rfl ?_
    refine S_move rfl ?_
    refine WL_off rfl rfl rfl rfl ?_
    refine WL_off rfl rfl rfl rfl ?_
    refine WL_off rfl rfl rfl rfl ?_
    refine WL_off rfl rfl rfl rfl ?_
    refine S_pick_t rfl rfl ?_
    refine WL_nil ?_
    refine W_cond_true rfl ?_
    refine W_seq ?_
    refine W_region ?_
    refine S_assign rfl ?_
    refine WL_nil ?_
    refine W_ret ?_
    exact ⟨by show Value.bool _ = _; congr 1; symm; rw [decide_eq_false_iff_not]; rintro ⟨h1, h2⟩; have h3 := h2.there; simp_all, Ext.refl _ _⟩
  ·
    have h_6 := h_3
    simp only [lrnN] at h_6
    have p_7 := h_6
    try simp only [lrn] at p_7
    refine WL_on rfl rfl (nT h_6) ?_
    refine S_move rfl ?_
    refine WL_on rfl rfl (nT h_6) ?_
    refine S_move rfl ?_
    refine WL_on rfl rfl (nT h_6) ?_
    refine S_call Try.call27 rfl (there_ref_ok h _) rfl ?_
    rintro _ _ ⟨rfl, hw_8⟩
    obtain rfl := hw_8.symm
    refine WL_on rfl rfl (nT h_6) ?_
    refine S_not rfl rfl ?_
    refine S_pick_f (nT h_6) rfl ?_
    refine S_move rfl ?_
    refine WL_split (dj := 16) rfl (fun h_10 => ?_) (fun h_10 => ?_)
    ·
      have h_11 := h_10
      simp only [lrnN] at h_11
      have p_12 := h_11
      try simp only [lrn] at p_12
      refine WL_off rfl rfl rfl (nF h_11) ?_
      refine WL_off rfl rfl rfl (nF h_11) ?_
      refine WL_off rfl rfl rfl (nF h_11) ?_
      refine WL_off rfl rfl rfl (nF h_11) ?_
      refine S_pick_t (nF h_11) rfl ?_
      refine WL_nil ?_
      refine W_cond_true rfl ?_
      refine W_seq ?_
      refine W_region ?_
      refine S_assign rfl ?_
      refine WL_nil ?_
      refine W_ret ?_
      exact ⟨by show Value.bool _ = _; congr 1; symm; rw [decide_eq_false_iff_not]; rintro ⟨h1, h2⟩; have h3 := h2.there; simp_all, Ext.refl _ _⟩
    ·
      have h_13 := h_10
      simp only [lrnN] at h_13
      have p_14 := h_13
      try simp only [lrn] at p_14
      refine WL_on rfl rfl (nT h_13) ?_
      refine S_move rfl ?_
      refine WL_on rfl rfl (nT h_13) ?_
      refine S_move rfl ?_
      refine WL_on rfl rfl (nT h_13) ?_
      refine S_call Try.call27 rfl (there_ref_ok h _) rfl ?_
      rintro _ _ ⟨rfl, hw_15⟩
      obtain rfl := hw_15.symm
      refine WL_on rfl rfl (nT h_13) ?_
      refine S_not rfl rfl ?_
      refine S_pick_f (nT h_13) rfl ?_
      refine WL_nil ?_
      refine W_cond rfl (fun h_17 => ?_) (fun h_17 => ?_)
      ·
        have h_18 := h_17
        simp only [lrnN] at h_18
        have p_19 := h_18
        try simp only [lrn] at p_19
        refine W_seq ?_
        refine W_region ?_
        refine S_assign rfl ?_
        refine WL_nil ?_
        refine W_ret ?_
        exact ⟨by show Value.bool _ = _; congr 1; symm; rw [decide_eq_false_iff_not]; rintro ⟨h1, h2⟩; have h3 := h2.there; simp_all, Ext.refl _ _⟩
      ·
        have h_20 := h_17
        simp only [lrnN] at h_20
        have p_21 := h_20
        try simp only [lrn] at p_21
        refine W_skip ?_
        refine W_seq ?_
        refine W_region ?_
        refine S_move rfl ?_
        have ta : There l a := ‹_›
        have tb : There l b := ‹_›
        have ⟨a1, a2⟩ := ta
        have ⟨b1, b2⟩ := tb
        have m1 := mulq (a := a - 1) (n := l.length) (by omega) (by omega) (by omega) (by omega)
        have hz_29 := table_ok h hM ‹Right _› hl
        refine S_call Try.call28 rfl hz_29 rfl ?_
        rintro _ w_22 ⟨L_24, A_25, cap_26, rfl, hr_27, hp_28, e_23⟩
        have E_30 := Ext.stepO (Ext.refl [] w0) e_23 mem0
        have hl_31 := rSlice_len hr_27
        refine S_move rfl ?_
        refine S_sub rfl rfl (by omega) rfl ?_
        refine S_move rfl ?_
        refine S_len Try.runUnderlying22 rfl rfl ?_
        refine S_mul rfl rfl (by omega) rfl ?_
        refine S_move rfl ?_
        refine S_add rfl rfl (by omega) rfl ?_
        refine S_sub rfl rfl (by omega) rfl ?_
        refine S_index Try.runUnderlying44 Try.sizeOf4 hr_27 rfl (tabq hp_28 ta tb).1 (tabq hp_28 ta tb).2.1 rfl ?_
        intro b_32 o_33 cs_34 hi_35 hc_36 hb_37 hr_38
        refine S_loadB Try.isAgg4 rfl hc_36 hr_38 rfl ?_
        refine S_assign rfl ?_
        refine WL_nil ?_
        refine W_ret ?_
        exact ⟨by show Value.bool _ = _; congr 1; rw [(tabq hp_28 ta tb).2.2]; have hr : Right l := ‹_›; simp [hr], E_30⟩
end Go.Proofs.Ytpgegnmaophapaa
