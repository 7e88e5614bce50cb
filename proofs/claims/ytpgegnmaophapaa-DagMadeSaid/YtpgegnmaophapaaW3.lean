/- The walks of a history's functions, printed by program. -/
import Derived.Test.YtpgegnmaophapaaW2
namespace Go.Proofs.Ytpgegnmaophapaa
open Go.Wk Classical
theorem walk_one {M : List Nat} {A : Option Addr} {cap : Nat} {l : List Commit} {b1 b2 b3 bm : Nat} (hr : Right l) (hbm : bm ∈ M) (id : Int) (ih : ∀ id' : Int, 1 ≤ id' → id' < id → ∀ {w0 : World} {S : List Int}, (rSlice rCommit).rd M w0 [.slice A l.length cap] l → Own w0 b1 22 [.slice A l.length cap] → Own w0 b2 40 [.map (some bm)] → Own w0 b3 48 [.func (.func 32) #[] #[.pointer (some ⟨b1, 0, none⟩), .pointer (some ⟨b2, 0, none⟩), .pointer (some ⟨b3, 0, none⟩)]] → MapAt kInt w0 bm (setL S) → Closed l S id' → CallR Try.prog 32 [.int .i64 id', .pointer (some ⟨b1, 0, none⟩), .pointer (some ⟨b2, 0, none⟩), .pointer (some ⟨b3, 0, none⟩)] w0 (fun _ w' => ∃ S', MapAt kInt w' bm (setL S') ∧ (∀ x, x ∈ S' ↔ x ∈ S ∨ Rch l id' x) ∧ Ext [bm] w0 w')) {w0 : World} {S : List Int} (h : (rSlice rCommit).rd M w0 [.slice A l.length cap] l) (h1 : Own w0 b1 22 [.slice A l.length cap]) (h2 : Own w0 b2 40 [.map (some bm)]) (h3 : Own w0 b3 48 [.func (.func 32) #[] #[.pointer (some ⟨b1, 0, none⟩), .pointer (some ⟨b2, 0, none⟩), .pointer (some ⟨b3, 0, none⟩)]]) (hm : MapAt kInt w0 bm (setL S)) (hc : Closed l S id) :
    CallR Try.prog 32 [.int .i64 id, .pointer (some ⟨b1, 0, none⟩), .pointer (some ⟨b2, 0, none⟩), .pointer (some ⟨b3, 0, none⟩)] w0 (fun _ w' => ∃ S', MapAt kInt w' bm (setL S') ∧ (∀ x, x ∈ S' ↔ x ∈ S ∨ Rch l id x) ∧ Ext [bm] w0 w') := by
  have n1 := ne_own_map h1 hm
  have n2 := ne_own_map h2 hm
  have n3 := ne_own_map h3 hm
  have ll := rSlice_len h
  refine Call0 Try.func32 rfl rfl rfl rfl ?_
  refine W_block ?_
  refine W_seq ?_
  refine W_block ?_
  refine W_seq ?_
  refine W_block ?_
  refine W_seq ?_
  refine W_block ?_
  refine W_seq ?_
  refine W_seq ?_
  refine W_seq ?_
  refine W_region ?_
  refine S_load1 Try.isAgg22 rfl (h1.at rfl) rfl ?_
  refine S_move rfl ?_
  refine S_call Try.call31 rfl (there_ok h _) rfl ?_
  rintro _ _ ⟨rfl, hw_1⟩
  obtain rfl := hw_1.symm
  refine S_not rfl rfl ?_
  refine S_move rfl ?_
  refine WL_split (dj := 12) rfl (fun h_3 => ?_) (fun h_3 => ?_)
  ·
    have h_4 := h_3
    simp only [lrnN] at h_4
    have p_5 := h_4
    try simp only [lrn] at p_5
    refine WL_off rfl rfl rfl (nF h_4) ?_
    refine WL_off rfl rfl rfl (nF h_4) ?_
    refine WL_off rfl rfl rfl (nF h_4) ?_
    refine S_pick_t (nF h_4) rfl ?_
    refine S_assign rfl ?_
    refine WL_nil ?_
    refine W_cond_true rfl ?_
    refine W_exit ?_
    refine W_seq ?_
    refine W_ret ?_
    exact ⟨S, hm, walk_old hc (by first | exact .inl ‹_› | exact .inr ‹_›), (Ext.refl [bm] w0)⟩
  ·
    have h_6 := h_3
    simp only [lrnN] at h_6
    have p_7 := h_6
    try simp only [lrn] at p_7
    try (have ht : There l id := p_7)
    try (have ⟨t1, t2⟩ := ht)
    refine WL_on rfl rfl (nT h_6) ?_
    refine S_load1 Try.isAgg40 rfl (h2.at rfl) rfl ?_
    refine WL_on rfl rfl (nT h_6) ?_
    refine S_move rfl ?_
    refine WL_on rfl rfl (nT h_6) ?_
    refine S_lookup (ky := kInt) Try.runUnderlying40 Try.runUnderlying3 Try.zeroValue4 rfl rfl hm (get_setL _ _) rfl ?_
    refine S_pick_f (nT h_6) rfl ?_
    refine S_assign rfl ?_
    refine WL_nil ?_
    refine W_cond rfl (fun h_9 => ?_) (fun h_9 => ?_)
    ·
      have p_10 := h_9
      try simp only [lrn] at p_10
      refine W_exit ?_
      refine W_seq ?_
      refine W_ret ?_
      exact ⟨S, hm, walk_old hc (by first | exact .inl ‹_› | exact .inr ‹_›), (Ext.refl [bm] w0)⟩
    ·
      have p_11 := h_9
      try simp only [lrn] at p_11
      try (have ht : There l id := p_11)
      try (have ⟨t1, t2⟩ := ht)
      refine W_skip ?_
      refine W_seq ?_
      refine W_region ?_
      refine S_assign rfl ?_
      refine WL_nil ?_
      refine W_cond_false rfl ?_
      refine W_skip ?_
      refine W_exit ?_
      refine W_region ?_
      refine S_load1 Try.isAgg40 rfl (h2.at rfl) rfl ?_
      refine S_move rfl ?_
      refine S_mapUpdate (ky := kInt) Try.runUnderlying40 Try.runUnderlying3 rfl rfl rfl hm ?_
      intro w_12 e_13 z_14 hm_15
      have E_16 := Ext.stepO (Ext.refl [bm] w0) e_13 (memC (.inl (by simp)) mem0)
      have h_17 := h1.ext e_13 (ninC n1 nin0)
      have h_18 := h2.ext e_13 (ninC n2 nin0)
      have h_19 := h3.ext e_13 (ninC n3 nin0)
      have hm_20 := put_set hm_15
      refine WL_nil ?_
      refine W_seq ?_
      refine W_seq ?_
      refine W_region ?_
      refine S_load1 Try.isAgg22 rfl (h_17.at rfl) rfl ?_
      refine S_move rfl ?_
      refine S_sub rfl rfl (by omega) rfl ?_
      have h_21 := Rep.extB _ h E_16 (memC hbm mem0)
      refine S_index Try.runUnderlying22 Try.sizeOf37 h_21 rfl (by omega) (by omega) rfl ?_
      intro b_22 o_23 cs_24 hi_25 hc_26 hb_27 hr_28
      have o_35 := rCommit_cells hc_26 hr_28
      obtain ⟨c_29, c_32, ⟨hc_30, hr_31⟩, ⟨hc_33, hr_34⟩⟩ := o_35
      refine S_fieldAddr Try.runUnderlying37 rfl Try.sizeOf26 rfl rfl ?_
      refine S_loadR Try.isAgg26 rfl hc_33 hr_34 rfl rfl ?_
      intro v_36 h_37
      have o_41 := rSlice_val h_37
      obtain ⟨A_39, cap_40, rfl⟩ := o_41
      have hl_38 := rSlice_len h_37
      refine S_len Try.runUnderlying26 rfl rfl ?_
      refine S_move rfl ?_
      refine WL_nil ?_
      refine W_block ?_
      refine W_loopF [6, 27, 28, 29, 30, 31, 32, 33, 34] (fun m f w => ∃ (j : Int) (S1 : List Int), m = ((pars l id).length - j).toNat ∧ 0 ≤ j ∧ (∀ x, x ∈ S1 ↔ x ∈ S ∨ x = id ∨ Some1 l (pars l id) j x) ∧ Ext [bm] w0 w ∧ Ext ([bm]) w_12 w ∧ MapAt kInt w bm (setL S1) ∧ Live f [(27, .int .i64 j)]) ?_ ?_
      · exact ⟨_, 0, _, rfl, by omega, (fun x => by rw [mem_insS]; simp [some1_zero]), E_16, (Ext.refl _ _), hm_20, rfl, trivial⟩
      ·
        rintro m g_46 w_42 ⟨j, S1, rfl, q0, q1, E_43, e_44, hm1, hl_45⟩
        refine W_liveM hl_45 rfl ?_
        have h_47 := Rep.extB _ hr_28 e_44 (by intro x hx; simp at hx; first | (subst hx; assumption) | (rcases hx with rfl | rfl <;> simp; done) | simp [hx])
        have h_48 := Cells.ext hc_26 e_44 (fun h => hb_27 (by simp at h; first | (subst h; assumption) | (rcases h with rfl | rfl <;> simp; done) | simp [h]))
        have h_49 := Rep.extB _ hr_34 e_44 (by intro x hx; simp at hx; first | (subst hx; assumption) | (rcases hx with rfl | rfl <;> simp; done) | simp [hx])
        have h_50 := Cells.ext hc_33 e_44 (fun h => hb_27 (by simp at h; first | (subst h; assumption) | (rcases h with rfl | rfl <;> simp; done) | simp [h]))
        have h_51 := Rep.extB _ h_37 e_44 (by intro x hx; simp at hx; first | (subst hx; assumption) | (rcases hx with rfl | rfl <;> simp; done) | simp [hx])
        have h_52 := h_17.ext e_44 (ninC n1 nin0)
        have h_53 := h_18.ext e_44 (ninC n2 nin0)
        have h_54 := h_19.ext e_44 (ninC n3 nin0)
        refine W_seq ?_
        refine W_region ?_
        refine S_lss rfl rfl rfl ?_
        refine WL_nil ?_
        refine W_seq ?_
        refine W_cond rfl (fun h_56 => ?_) (fun h_56 => ?_)
        ·
          have p_57 := h_56
          try simp only [lrn] at p_57
          refine W_skip ?_
          refine W_seq ?_
          refine W_block ?_
          refine W_seq ?_
          refine W_region ?_
          refine S_index Try.runUnderlying26 Try.sizeOf3 h_51 rfl (by omega) (by omega) rfl ?_
          intro b_58 o_59 cs_60 hi_61 hc_62 hb_63 hr_64
          refine S_loadI Try.isAgg3 rfl hc_62 hr_64 rfl ?_
          rintro ⟨r_65, r_66⟩
          refine S_assign rfl ?_
          refine WL_nil ?_
          refine W_region ?_
          refine S_load1 Try.isAgg48 rfl (h_54.at rfl) rfl ?_
          refine S_move rfl ?_
          have h_67 := Rep.extB _ h E_43 (memC hbm mem0)
          refine S_callV rfl Try.call32 rfl (ih _ (par_lt hr ht (pars_mem ht _ _)).1 (par_lt hr ht (pars_mem ht _ _)).2 h_67 h_52 h_53 h_54 hm1 (walk_pre hr hc q1 (par_lt hr ht (pars_mem ht _ _)).2)) rfl ?_
          rintro _ w_68 ⟨S_69, hm_70, hS_71, e_72⟩
          have E_73 := Ext.stepO E_43 e_72 (memC (.inl (by simp)) mem0)
          have c_74 := Ext.stepO e_44 e_72 (memC (.inl (by simp)) mem0)
          have h_75 := Rep.extB _ h_47 e_72 (by intro x hx; simp at hx; first | (subst hx; assumption) | (rcases hx with rfl | rfl <;> simp; done) | simp [hx])
          have h_76 := Cells.ext h_48 e_72 (fun h => hb_27 (by simp at h; first | (subst h; assumption) | (rcases h with rfl | rfl <;> simp; done) | simp [h]))
          have h_77 := Rep.extB _ h_49 e_72 (by intro x hx; simp at hx; first | (subst hx; assumption) | (rcases hx with rfl | rfl <;> simp; done) | simp [hx])
          have h_78 := Cells.ext h_50 e_72 (fun h => hb_27 (by simp at h; first | (subst h; assumption) | (rcases h with rfl | rfl <;> simp; done) | simp [h]))
          have h_79 := Rep.extB _ h_51 e_72 (by intro x hx; simp at hx; first | (subst hx; assumption) | (rcases hx with rfl | rfl <;> simp; done) | simp [hx])
          have h_80 := Rep.extB _ hr_64 e_72 (by intro x hx; simp at hx; first | (subst hx; assumption) | (rcases hx with rfl | rfl <;> simp; done) | simp [hx])
          have h_81 := Cells.ext hc_62 e_72 (fun h => hb_63 (by simp at h; first | (subst h; assumption) | (rcases h with rfl | rfl <;> simp; done) | simp [h]))
          have h_82 := h_52.ext e_72 (ninC n1 nin0)
          have h_83 := h_53.ext e_72 (ninC n2 nin0)
          have h_84 := h_54.ext e_72 (ninC n3 nin0)
          refine WL_nil ?_
          refine W_region ?_
          refine S_add rfl rfl (by omega) rfl ?_
          refine S_move rfl ?_
          refine WL_nil ?_
          refine ⟨by repeat (first | refine agree_upd rfl ?_ | exact agree_mix rfl agree_refl | refine agree_mix rfl ?_), ?_⟩
          exact ⟨_, by rw [pars_get ht ‹_›]; omega, j + 1, _, rfl, by omega, walk_next q1 q0 (by rw [pars_get ht ‹_›]; omega) (pars_eq ht ‹_› _) hS_71, E_73, c_74, hm_70, rfl, trivial⟩
        ·
          have p_85 := h_56
          try simp only [lrn] at p_85
          refine W_exit ?_
          refine W_exit ?_
          exact ⟨_, hm1, walk_end ht q1 (by rw [pars_get ht ‹_›]; omega), E_43⟩
theorem walk_all {M : List Nat} {A : Option Addr} {cap : Nat} {l : List Commit} {b1 b2 b3 bm : Nat} (hr : Right l) (hbm : bm ∈ M) : ∀ (k : Nat) (id : Int), id ≤ k → ∀ {w0 : World} {S : List Int}, (rSlice rCommit).rd M w0 [.slice A l.length cap] l → Own w0 b1 22 [.slice A l.length cap] → Own w0 b2 40 [.map (some bm)] → Own w0 b3 48 [.func (.func 32) #[] #[.pointer (some ⟨b1, 0, none⟩), .pointer (some ⟨b2, 0, none⟩), .pointer (some ⟨b3, 0, none⟩)]] → MapAt kInt w0 bm (setL S) → Closed l S id →
    CallR Try.prog 32 [.int .i64 id, .pointer (some ⟨b1, 0, none⟩), .pointer (some ⟨b2, 0, none⟩), .pointer (some ⟨b3, 0, none⟩)] w0 (fun _ w' => ∃ S', MapAt kInt w' bm (setL S') ∧ (∀ x, x ∈ S' ↔ x ∈ S ∨ Rch l id x) ∧ Ext [bm] w0 w') := by
  intro k
  induction k with
  | zero =>
    intro id hid w0 S h h1 h2 h3 hm hc
    exact walk_one hr hbm id (fun id' h1 h2 => by omega) h h1 h2 h3 hm hc
  | succ k ih =>
    intro id hid w0 S h h1 h2 h3 hm hc
    exact walk_one hr hbm id (fun id' h1 h2 {w1} {S1} a b c d e f => ih id' (by omega) a b c d e f) h h1 h2 h3 hm hc
theorem walk_ok {M : List Nat} {A : Option Addr} {cap : Nat} {l : List Commit} {b1 b2 b3 bm : Nat} {w0 : World} {S : List Int} (hr : Right l) (hbm : bm ∈ M) (id : Int) (h : (rSlice rCommit).rd M w0 [.slice A l.length cap] l) (h1 : Own w0 b1 22 [.slice A l.length cap]) (h2 : Own w0 b2 40 [.map (some bm)]) (h3 : Own w0 b3 48 [.func (.func 32) #[] #[.pointer (some ⟨b1, 0, none⟩), .pointer (some ⟨b2, 0, none⟩), .pointer (some ⟨b3, 0, none⟩)]])
    (hm : MapAt kInt w0 bm (setL S)) (hc : Closed l S id) :
    CallR Try.prog 32 [.int .i64 id, .pointer (some ⟨b1, 0, none⟩), .pointer (some ⟨b2, 0, none⟩), .pointer (some ⟨b3, 0, none⟩)] w0 (fun _ w' => ∃ S', MapAt kInt w' bm (setL S') ∧ (∀ x, x ∈ S' ↔ x ∈ S ∨ Rch l id x) ∧ Ext [bm] w0 w') :=
  walk_all hr hbm id.toNat id (by omega) h h1 h2 h3 hm hc
theorem reached_ok {M : List Nat} {w0 : World} {A A' : Option Addr} {cap cap' : Nat} {l : List Commit} {ids : List Int} (h : (rSlice rCommit).rd M w0 [.slice A l.length cap] l) (hi : (rSlice rInt).rd M w0 [.slice A' ids.length cap'] ids) (hr : Right l) :
    CallR Try.prog 25 [.slice A l.length cap, .slice A' ids.length cap'] w0 (fun v w' => ∃ bm S, v = .map (some bm) ∧ MapAt kInt w' bm (setL S) ∧ w0.heap.size ≤ bm ∧ (∀ x, x ∈ S ↔ ∃ a ∈ ids, Rch l a x) ∧ Ext [] w0 w') := by
  have ll := rSlice_len h
  have li := rSlice_len hi
  refine Call1 Try.func25 rfl rfl rfl rfl ?_
  refine W_seq ?_
  refine W_region ?_
  refine S_box rfl ?_
  intro b_1 w_2 e_3 z_4 z_5 ho_6
  have hb_7 : w0.heap.size ≤ b_1 := by have := ((Ext.refl [] w0)).size; omega
  have E_8 := Ext.stepO (Ext.refl [] w0) e_3 mem0
  have ho_6 : Own _ _ _ [_] := ho_6
  refine S_assign rfl ?_
  refine WL_nil ?_
  refine W_seq ?_
  refine W_region ?_
  refine S_makeMap (ky := kInt) rfl ?_
  intro b_9 w_10 e_11 z_12 z_13 hm_14
  have hb_15 : w0.heap.size ≤ b_9 := by have := (E_8).size; omega
  have n_16 : b_1 ≠ b_9 := by have := ho_6.lt; omega
  have E_17 := Ext.stepO E_8 e_11 mem0
  have h_18 := ho_6.ext e_11 nin0
  refine S_alloc Try.zeroValue40 rfl ?_
  intro b_19 w_20 e_21 z_22 z_23 ho_24
  have hb_25 : w0.heap.size ≤ b_19 := by have := (E_17).size; omega
  have n_26 : b_1 ≠ b_19 := by have := h_18.lt; omega
  have n_27 : b_9 ≠ b_19 := by have := hm_14.lt; omega
  have E_28 := Ext.stepO E_17 e_21 mem0
  have h_29 := h_18.ext e_21 nin0
  have h_30 := hm_14.ext e_21 nin0
  have ho_24 : Own _ _ _ [_] := ho_24
  refine S_store Try.sizeOf40 rfl rfl rfl ho_24 (Nat.le_of_ble_eq_true rfl) rfl ?_
  intro w_31 e_32 z_33 ho_34
  have ho_34 : Own _ _ _ [_] := ho_34
  have E_35 := Ext.stepO E_28 e_32 (memC (.inr hb_25) mem0)
  have h_36 := h_29.ext e_32 (ninC n_26 nin0)
  have h_37 := h_30.ext e_32 (ninC n_27 nin0)
  refine WL_nil ?_
  refine W_seq ?_
  refine W_region ?_
  refine S_alloc Try.zeroValue48 rfl ?_
  intro b_38 w_39 e_40 z_41 z_42 ho_43
  have hb_44 : w0.heap.size ≤ b_38 := by have := (E_35).size; omega
  have n_45 : b_1 ≠ b_38 := by have := h_36.lt; omega
  have n_46 : b_9 ≠ b_38 := by have := h_37.lt; omega
  have n_47 : b_19 ≠ b_38 := by have := ho_34.lt; omega
  have E_48 := Ext.stepO E_35 e_40 mem0
  have h_49 := h_36.ext e_40 nin0
  have h_50 := h_37.ext e_40 nin0
  have h_51 := ho_34.ext e_40 nin0
  have ho_43 : Own _ _ _ [_] := ho_43
  refine WL_nil ?_
  refine W_seq ?_
  refine W_region ?_
  refine S_makeFunc rfl ?_
  refine S_store Try.sizeOf48 rfl rfl rfl ho_43 (Nat.le_of_ble_eq_true rfl) rfl ?_
  intro w_52 e_53 z_54 ho_55
  have ho_55 : Own _ _ _ [_] := ho_55
  have E_56 := Ext.stepO E_48 e_53 (memC (.inr hb_44) mem0)
  have h_57 := h_49.ext e_53 (ninC n_45 nin0)
  have h_58 := h_50.ext e_53 (ninC n_46 nin0)
  have h_59 := h_51.ext e_53 (ninC n_47 nin0)
  refine WL_nil ?_
  refine W_seq ?_
  refine W_seq ?_
  refine W_region ?_
  refine S_move rfl ?_
  refine S_len Try.runUnderlying26 rfl rfl ?_
  refine S_move rfl ?_
  refine WL_nil ?_
  refine W_block ?_
  refine W_loopF [8, 13, 14, 15, 16, 17, 18, 19, 20] (fun m f w => ∃ (j : Int) (S1 : List Int), m = (ids.length - j).toNat ∧ 0 ≤ j ∧ (∀ x, x ∈ S1 ↔ Some1 l ids j x) ∧ Ext [] w0 w ∧ Ext ([b_9]) w_52 w ∧ MapAt kInt w b_9 (setL S1) ∧ Live f [(13, .int .i64 j)]) ?_ ?_
  · exact ⟨_, 0, [], rfl, by omega, (fun x => by simp [some1_zero]), E_56, (Ext.refl _ _), h_58, rfl, trivial⟩
  ·
    rintro m g_64 w_60 ⟨j, S1, rfl, q0, q1, E_61, e_62, hm1, hl_63⟩
    refine W_liveM hl_63 rfl ?_
    have h_65 := h_57.ext e_62 (ninC n_16 nin0)
    have h_66 := h_59.ext e_62 (ninC (Ne.symm n_27) nin0)
    have h_67 := ho_55.ext e_62 (ninC (Ne.symm n_46) nin0)
    refine W_seq ?_
    refine W_region ?_
    refine S_lss rfl rfl rfl ?_
    refine WL_nil ?_
    refine W_seq ?_
    refine W_cond rfl (fun h_69 => ?_) (fun h_69 => ?_)
    ·
      have p_70 := h_69
      try simp only [lrn] at p_70
      refine W_skip ?_
      refine W_seq ?_
      refine W_block ?_
      refine W_seq ?_
      refine W_region ?_
      have h_71 := Rep.ext _ hi E_61
      refine S_index Try.runUnderlying26 Try.sizeOf3 h_71 rfl (by omega) (by omega) rfl ?_
      intro b_72 o_73 cs_74 hi_75 hc_76 hb_77 hr_78
      refine S_loadI Try.isAgg3 rfl hc_76 hr_78 rfl ?_
      rintro ⟨r_79, r_80⟩
      refine S_assign rfl ?_
      refine WL_nil ?_
      refine W_region ?_
      refine S_load1 Try.isAgg48 rfl (h_67.at rfl) rfl ?_
      refine S_move rfl ?_
      have h_81 := Rep.mono (M' := (b_9 :: M)) _ h E_61 mem0 (memC (.inr hb_15) (fun x hx => .inl (by simp [hx])))
      refine S_callV rfl Try.call32 rfl (walk_ok hr (List.mem_cons_self) _ h_81 h_65 h_66 h_67 hm1 (reached_pre q1)) rfl ?_
      rintro _ w_82 ⟨S_83, hm_84, hS_85, e_86⟩
      have E_87 := Ext.stepO E_61 e_86 (memC (.inr hb_15) mem0)
      have c_88 := Ext.stepO e_62 e_86 (memC (.inl (by simp)) mem0)
      have h_89 := h_65.ext e_86 (ninC n_16 nin0)
      have h_90 := h_66.ext e_86 (ninC (Ne.symm n_27) nin0)
      have h_91 := h_67.ext e_86 (ninC (Ne.symm n_46) nin0)
      refine WL_nil ?_
      refine W_region ?_
      refine S_add rfl rfl (by omega) rfl ?_
      refine S_move rfl ?_
      refine WL_nil ?_
      refine ⟨by repeat (first | refine agree_upd rfl ?_ | exact agree_mix rfl agree_refl | refine agree_mix rfl ?_), ?_⟩
      exact ⟨_, by omega, j + 1, _, rfl, by omega, reached_next q1 q0 _ hS_85, E_87, c_88, hm_84, rfl, trivial⟩
    ·
      have p_92 := h_69
      try simp only [lrn] at p_92
      refine W_exit ?_
      refine W_seq ?_
      refine W_region ?_
      refine S_load1 Try.isAgg40 rfl (h_66.at rfl) rfl ?_
      refine S_assign rfl ?_
      refine WL_nil ?_
      refine W_ret ?_
      exact ⟨_, _, rfl, hm1, hb_15, (fun x => by rw [q1, some1_all (by omega)]), E_61⟩
end Go.Proofs.Ytpgegnmaophapaa
