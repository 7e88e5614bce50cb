/- The walks of a history's functions, printed by program. -/
import Derived.Test.YtpgegnmaophapaaW12
namespace Go.Proofs.Ytpgegnmaophapaa
open Go.Wk Classical
set_option maxHeartbeats 1000000 in
theorem nearest_ok {M : List Nat} {w0 : World} {A : Option Addr} {cap : Nat} {l : List Commit} (h : (rSlice rCommit).rd M w0 [.slice A l.length cap] l) (hM : ∀ b ∈ M, b < w0.heap.size) (a b : Int) (hia : InI a) (hib : InI b) :
    CallR Try.prog 3 [.slice A l.length cap, .int .i64 a, .int .i64 b] w0 (fun v w' => v = .bool true ∧ Ext [] w0 w') := by
  have ll := rSlice_len h
  refine Call1 Try.func3 rfl rfl rfl rfl ?_
  refine W_seq ?_
  refine W_region ?_
  refine S_assign rfl ?_
  refine WL_nil ?_
  refine W_seq ?_
  refine W_seq ?_
  refine W_region ?_
  refine S_move rfl ?_
  refine S_call Try.call9 rfl (few_ok h) rfl ?_
  rintro _ _ ⟨⟨p_1, rfl, hf_2⟩, hw_3⟩
  obtain rfl := hw_3.symm
  refine S_not rfl rfl ?_
  refine WL_nil ?_
  refine W_cond rfl (fun h_5 => ?_) (fun h_5 => ?_)
  ·
    have h_6 := h_5
    simp only [lrnN] at h_6
    have p_7 := h_6
    try simp only [lrn] at p_7
    refine W_seq ?_
    refine W_region ?_
    refine S_callE Try.call10 rfl (alive_ok (M := M) hM) rfl ?_
    intro w_8 e_9
    have E_10 := Ext.stepO (Ext.refl [] w0) e_9 mem0
    refine S_assign rfl ?_
    refine WL_nil ?_
    refine W_ret ?_
    exact ⟨rfl, E_10⟩
  ·
    have h_11 := h_5
    simp only [lrnN] at h_11
    have p_12 := h_11
    try simp only [lrn] at p_12
    refine W_skip ?_
    refine W_seq ?_
    refine W_region ?_
    have hl := (hf_2 ‹_›).1
    refine S_move rfl ?_
    refine S_move rfl ?_
    refine S_move rfl ?_
    have hz_20 := common_ok h hM hl a b hia hib
    refine S_call Try.call12 rfl hz_20 rfl ?_
    rintro _ w_13 ⟨L_15, A_16, cap_17, rfl, hr_18, hp_19, e_14⟩
    have E_21 := Ext.stepO (Ext.refl [] w0) e_14 mem0
    have hl_22 := rSlice_len hr_18
    refine S_move rfl ?_
    refine S_move rfl ?_
    refine S_move rfl ?_
    have h_23 := Rep.ext _ h E_21
    have hz_31 := common_ref_ok h_23 (fun x hx => Nat.lt_of_lt_of_le (hM x hx) (E_21).size) hl a b hia hib
    refine S_call Try.call13 rfl hz_31 rfl ?_
    rintro _ w_24 ⟨L_26, A_27, cap_28, rfl, hr_29, hp_30, e_25⟩
    have E_32 := Ext.stepO E_21 e_25 mem0
    have h_33 := Rep.ext _ hr_18 e_25
    have hl_34 := rSlice_len hr_29
    have he_35 : L_15 = L_26 := nearL_unique hp_19 hp_30
    have hz_36 := (ints_ok h_33 hr_29).mono (R' := fun v w' => v = .bool true ∧ w' = w_24) (fun _ _ h => ⟨h.1.trans (congrArg Value.bool (decide_eq_true he_35)), h.2⟩)
    refine S_callQ Try.call11 rfl hz_36 rfl ?_
    refine S_move rfl ?_
    refine WL_on rfl rfl rfl ?_
    refine S_move rfl ?_
    refine WL_on rfl rfl rfl ?_
    have h_38 := Rep.ext _ h E_32
    have hz_46 := heads_ok h_38 (fun x hx => Nat.lt_of_lt_of_le (hM x hx) (E_32).size) hl
    refine S_call Try.call14 rfl hz_46 rfl ?_
    rintro _ w_39 ⟨L_41, A_42, cap_43, rfl, hr_44, hp_45, e_40⟩
    have E_47 := Ext.stepO E_32 e_40 mem0
    have h_48 := Rep.ext _ h_33 e_40
    have h_49 := Rep.ext _ hr_29 e_40
    have hl_50 := rSlice_len hr_44
    refine WL_on rfl rfl rfl ?_
    refine S_move rfl ?_
    refine WL_on rfl rfl rfl ?_
    have h_51 := Rep.ext _ h E_47
    have hz_59 := heads_ref_ok h_51 (fun x hx => Nat.lt_of_lt_of_le (hM x hx) (E_47).size) hl
    refine S_call Try.call15 rfl hz_59 rfl ?_
    rintro _ w_52 ⟨L_54, A_55, cap_56, rfl, hr_57, hp_58, e_53⟩
    have E_60 := Ext.stepO E_47 e_53 mem0
    have h_61 := Rep.ext _ h_48 e_53
    have h_62 := Rep.ext _ h_49 e_53
    have h_63 := Rep.ext _ hr_44 e_53
    have hl_64 := rSlice_len hr_57
    refine WL_on rfl rfl rfl ?_
    have he_65 : L_41 = L_54 := headL_unique hp_45 hp_58
    have hz_66 := (ints_ok h_63 hr_57).mono (R' := fun v w' => v = .bool true ∧ w' = w_52) (fun _ _ h => ⟨h.1.trans (congrArg Value.bool (decide_eq_true he_65)), h.2⟩)
    refine S_callQ Try.call11 rfl hz_66 rfl ?_
    refine S_pick_t rfl rfl ?_
    refine S_move rfl ?_
    refine WL_on rfl rfl rfl ?_
    refine S_move rfl ?_
    refine WL_on rfl rfl rfl ?_
    refine S_move rfl ?_
    refine WL_on rfl rfl rfl ?_
    refine S_move rfl ?_
    refine WL_on rfl rfl rfl ?_
    have h_68 := Rep.ext _ h E_60
    have hz_76 := path_ok h_68 (fun x hx => Nat.lt_of_lt_of_le (hM x hx) (E_60).size) hl a b hia hib
    refine S_call Try.call16 rfl hz_76 rfl ?_
    rintro _ w_69 ⟨L_71, A_72, cap_73, rfl, hr_74, hp_75, e_70⟩
    have E_77 := Ext.stepO E_60 e_70 mem0
    have h_78 := Rep.ext _ h_61 e_70
    have h_79 := Rep.ext _ h_62 e_70
    have h_80 := Rep.ext _ h_63 e_70
    have h_81 := Rep.ext _ hr_57 e_70
    have hl_82 := rSlice_len hr_74
    refine WL_on rfl rfl rfl ?_
    refine S_move rfl ?_
    refine WL_on rfl rfl rfl ?_
    refine S_move rfl ?_
    refine WL_on rfl rfl rfl ?_
    refine S_move rfl ?_
    refine WL_on rfl rfl rfl ?_
    have h_83 := Rep.ext _ h E_77
    have hz_91 := path_ref_ok h_83 (fun x hx => Nat.lt_of_lt_of_le (hM x hx) (E_77).size) hl a b hia hib
    refine S_call Try.call17 rfl hz_91 rfl ?_
    rintro _ w_84 ⟨L_86, A_87, cap_88, rfl, hr_89, hp_90, e_85⟩
    have E_92 := Ext.stepO E_77 e_85 mem0
    have h_93 := Rep.ext _ h_78 e_85
    have h_94 := Rep.ext _ h_79 e_85
    have h_95 := Rep.ext _ h_80 e_85
    have h_96 := Rep.ext _ h_81 e_85
    have h_97 := Rep.ext _ hr_74 e_85
    have hl_98 := rSlice_len hr_89
    refine WL_on rfl rfl rfl ?_
    have he_99 : L_71 = L_86 := pathL_unique hp_75 hp_90
    have hz_100 := (ints_ok h_97 hr_89).mono (R' := fun v w' => v = .bool true ∧ w' = w_84) (fun _ _ h => ⟨h.1.trans (congrArg Value.bool (decide_eq_true he_99)), h.2⟩)
    refine S_callQ Try.call11 rfl hz_100 rfl ?_
    refine S_pick_t rfl rfl ?_
    refine S_move rfl ?_
    refine WL_on rfl rfl rfl ?_
    refine S_callE Try.call10 rfl (alive_ok (M := M) (fun x hx => Nat.lt_of_lt_of_le (hM x hx) (E_92).size)) rfl ?_
    intro w_102 e_103
    have E_104 := Ext.stepO E_92 e_103 mem0
    have h_105 := Rep.ext _ h_93 e_103
    have h_106 := Rep.ext _ h_94 e_103
    have h_107 := Rep.ext _ h_95 e_103
    have h_108 := Rep.ext _ h_96 e_103
    have h_109 := Rep.ext _ h_97 e_103
    have h_110 := Rep.ext _ hr_89 e_103
    refine S_pick_t rfl rfl ?_
    refine S_assign rfl ?_
    refine WL_nil ?_
    refine W_ret ?_
    exact ⟨rfl, E_104⟩
set_option maxHeartbeats 1000000 in
theorem reach_law_ok {M : List Nat} {w0 : World} {A : Option Addr} {cap : Nat} {l : List Commit} (h : (rSlice rCommit).rd M w0 [.slice A l.length cap] l) (hM : ∀ b ∈ M, b < w0.heap.size) (a b : Int) (hia : InI a) (hib : InI b) {A' : Option Addr} {cap' : Nat} {ids : List Int} (hi : (rSlice rInt).rd M w0 [.slice A' ids.length cap'] ids) :
    CallR Try.prog 5 [.slice A l.length cap, .int .i64 a, .int .i64 b, .slice A' ids.length cap'] w0 (fun v w' => v = .bool true ∧ Ext [] w0 w') := by
  have ll := rSlice_len h
  have li := rSlice_len hi
  refine Call1 Try.func5 rfl rfl rfl rfl ?_
  refine W_seq ?_
  refine W_region ?_
  refine S_assign rfl ?_
  refine WL_nil ?_
  refine W_seq ?_
  refine W_seq ?_
  refine W_region ?_
  refine S_move rfl ?_
  refine S_call Try.call9 rfl (few_ok h) rfl ?_
  rintro _ _ ⟨⟨p_1, rfl, hf_2⟩, hw_3⟩
  obtain rfl := hw_3.symm
  refine S_not rfl rfl ?_
  refine S_move rfl ?_
  refine WL_split (dj := 12) rfl (fun h_5 => ?_) (fun h_5 => ?_)
  ·
    have h_6 := h_5
    simp only [lrnN] at h_6
    have p_7 := h_6
    try simp only [lrn] at p_7
    refine WL_off rfl rfl rfl (nF h_6) ?_
    refine WL_off rfl rfl rfl (nF h_6) ?_
    refine WL_off rfl rfl rfl (nF h_6) ?_
    refine S_pick_t (nF h_6) rfl ?_
    refine WL_nil ?_
    refine W_cond_true rfl ?_
    refine W_seq ?_
    refine W_region ?_
    refine S_callE Try.call10 rfl (alive_ok (M := M) hM) rfl ?_
    intro w_8 e_9
    have E_10 := Ext.stepO (Ext.refl [] w0) e_9 mem0
    refine S_assign rfl ?_
    refine WL_nil ?_
    refine W_ret ?_
    exact ⟨rfl, E_10⟩
  ·
    have h_11 := h_5
    simp only [lrnN] at h_11
    have p_12 := h_11
    try simp only [lrn] at p_12
    refine WL_on rfl rfl (nT h_11) ?_
    refine S_move rfl ?_
    refine WL_on rfl rfl (nT h_11) ?_
    refine S_len Try.runUnderlying26 rfl rfl ?_
    refine WL_on rfl rfl (nT h_11) ?_
    refine S_gtr rfl rfl rfl ?_
    refine S_pick_f (nT h_11) rfl ?_
    refine WL_nil ?_
    refine W_cond rfl (fun h_14 => ?_) (fun h_14 => ?_)
    ·
      have p_15 := h_14
      try simp only [lrn] at p_15
      refine W_seq ?_
      refine W_region ?_
      refine S_callE Try.call10 rfl (alive_ok (M := M) hM) rfl ?_
      intro w_16 e_17
      have E_18 := Ext.stepO (Ext.refl [] w0) e_17 mem0
      refine S_assign rfl ?_
      refine WL_nil ?_
      refine W_ret ?_
      exact ⟨rfl, E_18⟩
    ·
      have p_19 := h_14
      try simp only [lrn] at p_19
      refine W_skip ?_
      refine W_seq ?_
      refine W_region ?_
      have hl := (hf_2 ‹_›).1
      refine S_move rfl ?_
      have hz_22 := right_ok h
      refine S_callE Try.call20 rfl hz_22 rfl ?_
      intro w_20 e_21
      have E_23 := Ext.stepO (Ext.refl [] w0) e_21 mem0
      refine S_move rfl ?_
      have h_25 := Rep.ext _ h E_23
      refine S_callQ Try.call21 rfl (right_ref_ok h_25) rfl ?_
      refine S_eqlBT Try.runUnderlying4 rfl rfl rfl rfl ?_
      refine S_move rfl ?_
      refine WL_on rfl rfl rfl ?_
      refine S_move rfl ?_
      refine WL_on rfl rfl rfl ?_
      refine S_move rfl ?_
      refine WL_on rfl rfl rfl ?_
      refine S_move rfl ?_
      refine WL_on rfl rfl rfl ?_
      have hz_29 := reaches_ok h_25 (fun x hx => Nat.lt_of_lt_of_le (hM x hx) (E_23).size) hl a b hia
      refine S_callE Try.call19 rfl hz_29 rfl ?_
      intro w_27 e_28
      have E_30 := Ext.stepO E_23 e_28 mem0
      refine WL_on rfl rfl rfl ?_
      refine S_move rfl ?_
      refine WL_on rfl rfl rfl ?_
      refine S_move rfl ?_
      refine WL_on rfl rfl rfl ?_
      refine S_move rfl ?_
      refine WL_on rfl rfl rfl ?_
      have h_32 := Rep.ext _ h E_30
      have hz_35 := reaches_ref_ok h_32 (fun x hx => Nat.lt_of_lt_of_le (hM x hx) (E_30).size) hl a b hia
      refine S_callE Try.call22 rfl hz_35 rfl ?_
      intro w_33 e_34
      have E_36 := Ext.stepO E_30 e_34 mem0
      refine WL_on rfl rfl rfl ?_
      refine S_eqlBT Try.runUnderlying4 rfl rfl rfl rfl ?_
      refine S_pick_t rfl rfl ?_
      refine S_move rfl ?_
      refine WL_on rfl rfl rfl ?_
      refine S_move rfl ?_
      refine WL_on rfl rfl rfl ?_
      refine S_move rfl ?_
      refine WL_on rfl rfl rfl ?_
      have h_38 := Rep.ext _ h E_36
      have h_39 := Rep.ext _ hi E_36
      have hz_47 := anc_ok h_38 (fun x hx => Nat.lt_of_lt_of_le (hM x hx) (E_36).size) hl h_39
      refine S_call Try.call23 rfl hz_47 rfl ?_
      rintro _ w_40 ⟨L_42, A_43, cap_44, rfl, hr_45, hp_46, e_41⟩
      have E_48 := Ext.stepO E_36 e_41 mem0
      have hl_49 := rSlice_len hr_45
      refine WL_on rfl rfl rfl ?_
      refine S_move rfl ?_
      refine WL_on rfl rfl rfl ?_
      refine S_move rfl ?_
      refine WL_on rfl rfl rfl ?_
      have h_50 := Rep.ext _ h E_48
      have h_51 := Rep.ext _ hi E_48
      have hz_59 := anc_ref_ok h_50 (fun x hx => Nat.lt_of_lt_of_le (hM x hx) (E_48).size) hl h_51
      refine S_call Try.call24 rfl hz_59 rfl ?_
      rintro _ w_52 ⟨L_54, A_55, cap_56, rfl, hr_57, hp_58, e_53⟩
      have E_60 := Ext.stepO E_48 e_53 mem0
      have h_61 := Rep.ext _ hr_45 e_53
      have hl_62 := rSlice_len hr_57
      refine WL_on rfl rfl rfl ?_
      have he_63 : L_42 = L_54 := ancL_unique hp_46 hp_58
      have hz_64 := (ints_ok h_61 hr_57).mono (R' := fun v w' => v = .bool true ∧ w' = w_52) (fun _ _ h => ⟨h.1.trans (congrArg Value.bool (decide_eq_true he_63)), h.2⟩)
      refine S_callQ Try.call11 rfl hz_64 rfl ?_
      refine S_pick_t rfl rfl ?_
      refine S_move rfl ?_
      refine WL_on rfl rfl rfl ?_
      refine S_callE Try.call10 rfl (alive_ok (M := M) (fun x hx => Nat.lt_of_lt_of_le (hM x hx) (E_60).size)) rfl ?_
      intro w_66 e_67
      have E_68 := Ext.stepO E_60 e_67 mem0
      have h_69 := Rep.ext _ h_61 e_67
      have h_70 := Rep.ext _ hr_57 e_67
      refine S_pick_t rfl rfl ?_
      refine S_assign rfl ?_
      refine WL_nil ?_
      refine W_ret ?_
      exact ⟨rfl, E_68⟩
end Go.Proofs.Ytpgegnmaophapaa
