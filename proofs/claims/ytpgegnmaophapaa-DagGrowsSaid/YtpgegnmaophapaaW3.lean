/- The walks of a history's functions, printed by program. -/
import Derived.Test.YtpgegnmaophapaaW2
namespace Go.Proofs.Ytpgegnmaophapaa
open Go.Wk Classical
theorem walk_one {M : List Nat} {A : Option Addr} {cap : Nat} {l : List Commit} {b1 b2 b3 bm : Nat} (hr : Right l) (hbm : bm ∈ M) (id : Int) (ih : ∀ id' : Int, 1 ≤ id' → id' < id → ∀ {w0 : World} {S : List Int}, (rSlice rCommit).rd M w0 [.slice A l.length cap] l → Own w0 b1 22 [.slice A l.length cap] → Own w0 b2 40 [.map (some bm)] → Own w0 b3 48 [.func (.func 32) #[] #[.pointer (some ⟨b1, 0, none⟩), .pointer (some ⟨b2, 0, none⟩), .pointer (some ⟨b3, 0, none⟩)]] → MapAt kInt w0 bm (setL S) → Closed l S id' → CallR Try.prog 32 [.int .i64 id', .pointer (some ⟨b1, 0, none⟩), .pointer (some ⟨b2, 0, none⟩), .pointer (some ⟨b3, 0, none⟩)] w0 (fun _ w' => ∃ S', MapAt kInt w' bm (setL S') ∧ (∀ x, x ∈ S' ↔ x ∈ S ∨ Rch l id' x) ∧ Ext [bm] w0 w')) {w0 : World} {S : List Int} (h : (rSlice rCommit).rd M w0 [.slice A l.length cap] l) (h1 : Own w0 b1 22 [.slice A l.length cap]) (h2 : Own w0 b2 40 [.map (some bm)]) (h3 : Own w0 b3 48 [.func (.func 32) #[] #[.pointer (some ⟨b1, 0, none⟩), .pointer (some ⟨b2, 0, none⟩), .pointer (some ⟨b3, 0, none⟩)]]) (hm : MapAt kInt w0 bm (setL S)) (hc : Closed l S id) :
    CallR Try.prog 32 [.int .i64 id, .pointer (some ⟨b1, 0, none⟩), .pointer (some ⟨b2, 0, none⟩), .pointer (some ⟨b3, 0, none⟩)] w0 (fun _ w' => ∃ S', MapAt kInt w' bm (setL S') ∧ (∀ x, x ∈ S' ↔ x ∈ S ∨ Rch l id x) ∧ Ext [bm] w0 w') := by
  have n1 := ne_own_map h1 hm
  have n2 := ne_own_map h2 hm
  have n3 := ne_own_map h3 hm
  have ll := rSlice_len h
  refine Call0 Try.func32 rfl rfl rfl rfl ?_
  refine W_block ?_
  refine W_seq ?_
  refine W_block ?_
  refine W_seq ?_
  refine W_block ?_
  refine W_seq ?_
  refine W_block ?_
  refine W_seq ?_
  refine W_seq ?_
  refine W_seq ?_
  refine W_region ?_
  refine S_load1 Try.isAgg22 rfl (h1.at rfl) rfl ?_
  refine S_move rfl ?_
  refine S_callQ Try.call31 rfl (there_ok h _) rfl ?_
  refine S_not rfl rfl ?_
  refine S_move rfl ?_
  refine WL_split (dj := 12) rfl (fun h_2 => ?_) (fun h_2 => ?_)
  ·
    have h_3 := h_2
    simp only [lrnN] at h_3
    have p_4 := h_3
    try simp only [lrn] at p_4
    refine WL_off rfl rfl rfl (nF h_3) ?_
    refine WL_off rfl rfl rfl (nF h_3) ?_
    refine WL_off rfl rfl rfl (nF h_3) ?_
    refine S_pick_t (nF h_3) rfl ?_
    refine S_assign rfl ?_
    refine WL_nil ?_
    refine W_cond_true rfl ?_
    refine W_exit ?_
    refine W_seq ?_
    refine W_ret ?_
    exact ⟨S, hm, walk_old hc (by first | exact .inl ‹_› | exact .inr ‹_›), (Ext.refl [bm] w0)⟩
  ·
    have h_5 := h_2
    simp only [lrnN] at h_5
    have p_6 := h_5
    try simp only [lrn] at p_6
    try (have ht : There l id := p_6)
    try (have ⟨t1, t2⟩ := ht)
    refine WL_on rfl rfl (nT h_5) ?_
    refine S_load1 Try.isAgg40 rfl (h2.at rfl) rfl ?_
    refine WL_on rfl rfl (nT h_5) ?_
    refine S_move rfl ?_
    refine WL_on rfl rfl (nT h_5) ?_
    refine S_lookup (ky := kInt) Try.runUnderlying40 Try.runUnderlying3 Try.zeroValue4 rfl rfl hm (get_setL _ _) rfl ?_
    refine S_pick_f (nT h_5) rfl ?_
    refine S_assign rfl ?_
    refine WL_nil ?_
    refine W_cond rfl (fun h_8 => ?_) (fun h_8 => ?_)
    ·
      have p_9 := h_8
      try simp only [lrn] at p_9
      refine W_exit ?_
      refine W_seq ?_
      refine W_ret ?_
      exact ⟨S, hm, walk_old hc (by first | exact .inl ‹_› | exact .inr ‹_›), (Ext.refl [bm] w0)⟩
    ·
      have p_10 := h_8
      try simp only [lrn] at p_10
      try (have ht : There l id := p_10)
      try (have ⟨t1, t2⟩ := ht)
      refine W_skip ?_
      refine W_seq ?_
      refine W_region ?_
      refine S_assign rfl ?_
      refine WL_nil ?_
      refine W_cond_false rfl ?_
      refine W_skip ?_
      refine W_exit ?_
      refine W_region ?_
      refine S_load1 Try.isAgg40 rfl (h2.at rfl) rfl ?_
      refine S_move rfl ?_
      refine S_mapUpdate (ky := kInt) Try.runUnderlying40 Try.runUnderlying3 rfl rfl rfl hm ?_
      intro w_11 e_12 z_13 hm_14
      have E_15 := Ext.stepO (Ext.refl [bm] w0) e_12 (memC (.inl (by simp)) mem0)
      have h_16 := h1.ext e_12 (ninC n1 nin0)
      have h_17 := h2.ext e_12 (ninC n2 nin0)
      have h_18 := h3.ext e_12 (ninC n3 nin0)
      have hm_19 := put_set hm_14
      refine WL_nil ?_
      refine W_seq ?_
      refine W_seq ?_
      refine W_region ?_
      refine S_load1 Try.isAgg22 rfl (h_16.at rfl) rfl ?_
      refine S_move rfl ?_
      refine S_sub rfl rfl (by omega) rfl ?_
      have h_20 := Rep.extB _ h E_15 (memC hbm mem0)
      refine S_index Try.runUnderlying22 Try.sizeOf37 h_20 rfl (by omega) (by omega) rfl ?_
      intro b_21 o_22 cs_23 hi_24 hc_25 hb_26 hr_27
      have o_34 := rCommit_cells hc_25 hr_27
      obtain ⟨c_28, c_31, ⟨hc_29, hr_30⟩, ⟨hc_32, hr_33⟩⟩ := o_34
      refine S_fieldAddr Try.runUnderlying37 rfl Try.sizeOf26 rfl rfl ?_
      refine S_loadR Try.isAgg26 rfl hc_32 hr_33 rfl rfl ?_
      intro v_35 h_36
      have o_40 := rSlice_val h_36
      obtain ⟨A_38, cap_39, rfl⟩ := o_40
      have hl_37 := rSlice_len h_36
      refine S_len Try.runUnderlying26 rfl rfl ?_
      refine S_move rfl ?_
      refine WL_nil ?_
      refine W_block ?_
      refine W_loopF [6, 27, 28, 29, 30, 31, 32, 33, 34] (fun m f w => ∃ (j : Int) (S1 : List Int), m = ((pars l id).length - j).toNat ∧ 0 ≤ j ∧ (∀ x, x ∈ S1 ↔ x ∈ S ∨ x = id ∨ Some1 l (pars l id) j x) ∧ Ext [bm] w0 w ∧ Ext ([bm]) w_11 w ∧ MapAt kInt w bm (setL S1) ∧ Live f [(27, .int .i64 j)]) ?_ ?_
      · exact ⟨_, 0, _, rfl, by omega, (fun x => by rw [mem_insS]; simp [some1_zero]), E_15, (Ext.refl _ _), hm_19, rfl, trivial⟩
      ·
        rintro m g_45 w_41 ⟨j, S1, rfl, q0, q1, E_42, e_43, hm1, hl_44⟩
        refine W_liveM hl_44 rfl ?_
        have h_46 := Rep.extB _ hr_27 e_43 (by intro x hx; first | (simp [hx]; done) | (simp at hx; first | (subst hx; assumption) | (rcases hx with rfl | rfl <;> simp; done) | simp [hx]))
        have h_47 := Cells.ext hc_25 e_43 (fun h => hb_26 (by simp at h; first | (subst h; assumption) | (rcases h with rfl | rfl <;> simp; done) | simp [h]))
        have h_48 := Rep.extB _ hr_33 e_43 (by intro x hx; first | (simp [hx]; done) | (simp at hx; first | (subst hx; assumption) | (rcases hx with rfl | rfl <;> simp; done) | simp [hx]))
        have h_49 := Cells.ext hc_32 e_43 (fun h => hb_26 (by simp at h; first | (subst h; assumption) | (rcases h with rfl | rfl <;> simp; done) | simp [h]))
        have h_50 := Rep.extB _ h_36 e_43 (by intro x hx; first | (simp [hx]; done) | (simp at hx; first | (subst hx; assumption) | (rcases hx with rfl | rfl <;> simp; done) | simp [hx]))
        have h_51 := h_16.ext e_43 (ninC n1 nin0)
        have h_52 := h_17.ext e_43 (ninC n2 nin0)
        have h_53 := h_18.ext e_43 (ninC n3 nin0)
        refine W_seq ?_
        refine W_region ?_
        refine S_lss rfl rfl rfl ?_
        refine WL_nil ?_
        refine W_seq ?_
        refine W_cond rfl (fun h_55 => ?_) (fun h_55 => ?_)
        ·
          have p_56 := h_55
          try simp only [lrn] at p_56
          refine W_skip ?_
          refine W_seq ?_
          refine W_block ?_
          refine W_seq ?_
          refine W_region ?_
          refine S_index Try.runUnderlying26 Try.sizeOf3 h_50 rfl (by omega) (by omega) rfl ?_
          intro b_57 o_58 cs_59 hi_60 hc_61 hb_62 hr_63
          refine S_loadI Try.isAgg3 rfl hc_61 hr_63 rfl ?_
          rintro ⟨r_64, r_65⟩
          refine S_assign rfl ?_
          refine WL_nil ?_
          refine W_region ?_
          refine S_load1 Try.isAgg48 rfl (h_53.at rfl) rfl ?_
          refine S_move rfl ?_
          have h_66 := Rep.extB _ h E_42 (memC hbm mem0)
          refine S_callV rfl Try.call32 rfl (ih _ (par_lt hr ht (pars_mem ht _ _)).1 (par_lt hr ht (pars_mem ht _ _)).2 h_66 h_51 h_52 h_53 hm1 (walk_pre hr hc q1 (par_lt hr ht (pars_mem ht _ _)).2)) rfl ?_
          rintro _ w_67 ⟨S_68, hm_69, hS_70, e_71⟩
          have E_72 := Ext.stepO E_42 e_71 (memC (.inl (by simp)) mem0)
          have c_73 := Ext.stepO e_43 e_71 (memC (.inl (by simp)) mem0)
          have h_74 := Rep.extB _ h_46 e_71 (by intro x hx; first | (simp [hx]; done) | (simp at hx; first | (subst hx; assumption) | (rcases hx with rfl | rfl <;> simp; done) | simp [hx]))
          have h_75 := Cells.ext h_47 e_71 (fun h => hb_26 (by simp at h; first | (subst h; assumption) | (rcases h with rfl | rfl <;> simp; done) | simp [h]))
          have h_76 := Rep.extB _ h_48 e_71 (by intro x hx; first | (simp [hx]; done) | (simp at hx; first | (subst hx; assumption) | (rcases hx with rfl | rfl <;> simp; done) | simp [hx]))
          have h_77 := Cells.ext h_49 e_71 (fun h => hb_26 (by simp at h; first | (subst h; assumption) | (rcases h with rfl | rfl <;> simp; done) | simp [h]))
          have h_78 := Rep.extB _ h_50 e_71 (by intro x hx; first | (simp [hx]; done) | (simp at hx; first | (subst hx; assumption) | (rcases hx with rfl | rfl <;> simp; done) | simp [hx]))
          have h_79 := Rep.extB _ hr_63 e_71 (by intro x hx; first | (simp [hx]; done) | (simp at hx; first | (subst hx; assumption) | (rcases hx with rfl | rfl <;> simp; done) | simp [hx]))
          have h_80 := Cells.ext hc_61 e_71 (fun h => hb_62 (by simp at h; first | (subst h; assumption) | (rcases h with rfl | rfl <;> simp; done) | simp [h]))
          have h_81 := h_51.ext e_71 (ninC n1 nin0)
          have h_82 := h_52.ext e_71 (ninC n2 nin0)
          have h_83 := h_53.ext e_71 (ninC n3 nin0)
          refine WL_nil ?_
          refine W_region ?_
          refine S_add rfl rfl (by omega) rfl ?_
          refine S_move rfl ?_
          refine WL_nil ?_
          refine ⟨by repeat (first | refine agree_upd rfl ?_ | exact agree_mix rfl agree_refl | refine agree_mix rfl ?_), ?_⟩
          exact ⟨_, by rw [pars_get ht ‹_›]; omega, j + 1, _, rfl, by omega, walk_next q1 q0 (by rw [pars_get ht ‹_›]; omega) (pars_eq ht ‹_› _) hS_70, E_72, c_73, hm_69, rfl, trivial⟩
        ·
          have p_84 := h_55
          try simp only [lrn] at p_84
          refine W_exit ?_
          refine W_exit ?_
          exact ⟨_, hm1, walk_end ht q1 (by rw [pars_get ht ‹_›]; omega), E_42⟩
theorem walk_all {M : List Nat} {A : Option Addr} {cap : Nat} {l : List Commit} {b1 b2 b3 bm : Nat} (hr : Right l) (hbm : bm ∈ M) : ∀ (k : Nat) (id : Int), id ≤ k → ∀ {w0 : World} {S : List Int}, (rSlice rCommit).rd M w0 [.slice A l.length cap] l → Own w0 b1 22 [.slice A l.length cap] → Own w0 b2 40 [.map (some bm)] → Own w0 b3 48 [.func (.func 32) #[] #[.pointer (some ⟨b1, 0, none⟩), .pointer (some ⟨b2, 0, none⟩), .pointer (some ⟨b3, 0, none⟩)]] → MapAt kInt w0 bm (setL S) → Closed l S id →
    CallR Try.prog 32 [.int .i64 id, .pointer (some ⟨b1, 0, none⟩), .pointer (some ⟨b2, 0, none⟩), .pointer (some ⟨b3, 0, none⟩)] w0 (fun _ w' => ∃ S', MapAt kInt w' bm (setL S') ∧ (∀ x, x ∈ S' ↔ x ∈ S ∨ Rch l id x) ∧ Ext [bm] w0 w') := by
  intro k
  induction k with
  | zero =>
    intro id hid w0 S h h1 h2 h3 hm hc
    exact walk_one hr hbm id (fun id' h1 h2 => by omega) h h1 h2 h3 hm hc
  | succ k ih =>
    intro id hid w0 S h h1 h2 h3 hm hc
    exact walk_one hr hbm id (fun id' h1 h2 {w1} {S1} a b c d e f => ih id' (by omega) a b c d e f) h h1 h2 h3 hm hc
theorem walk_ok {M : List Nat} {A : Option Addr} {cap : Nat} {l : List Commit} {b1 b2 b3 bm : Nat} {w0 : World} {S : List Int} (hr : Right l) (hbm : bm ∈ M) (id : Int) (h : (rSlice rCommit).rd M w0 [.slice A l.length cap] l) (h1 : Own w0 b1 22 [.slice A l.length cap]) (h2 : Own w0 b2 40 [.map (some bm)]) (h3 : Own w0 b3 48 [.func (.func 32) #[] #[.pointer (some ⟨b1, 0, none⟩), .pointer (some ⟨b2, 0, none⟩), .pointer (some ⟨b3, 0, none⟩)]])
    (hm : MapAt kInt w0 bm (setL S)) (hc : Closed l S id) :
    CallR Try.prog 32 [.int .i64 id, .pointer (some ⟨b1, 0, none⟩), .pointer (some ⟨b2, 0, none⟩), .pointer (some ⟨b3, 0, none⟩)] w0 (fun _ w' => ∃ S', MapAt kInt w' bm (setL S') ∧ (∀ x, x ∈ S' ↔ x ∈ S ∨ Rch l id x) ∧ Ext [bm] w0 w') :=
  walk_all hr hbm id.toNat id (by omega) h h1 h2 h3 hm hc
theorem reached_ok {M : List Nat} {w0 : World} {A A' : Option Addr} {cap cap' : Nat} {l : List Commit} {ids : List Int} (h : (rSlice rCommit).rd M w0 [.slice A l.length cap] l) (hi : (rSlice rInt).rd M w0 [.slice A' ids.length cap'] ids) (hr : Right l) :
    CallR Try.prog 25 [.slice A l.length cap, .slice A' ids.length cap'] w0 (fun v w' => ∃ bm S, v = .map (some bm) ∧ MapAt kInt w' bm (setL S) ∧ w0.heap.size ≤ bm ∧ (∀ x, x ∈ S ↔ ∃ a ∈ ids, Rch l a x) ∧ Ext [] w0 w') := by
  have ll := rSlice_len h
  have li := rSlice_len hi
  refine Call1 Try.func25 rfl rfl rfl rfl ?_
  refine W_seq ?_
  refine W_region ?_
  refine S_box rfl ?_
  intro b_1 w_2 e_3 z_4 z_5 ho_6
  have hb_7 : w0.heap.size ≤ b_1 := by have := ((Ext.refl [] w0)).size; omega
  have E_8 := Ext.stepO (Ext.refl [] w0) e_3 mem0
  have ho_6 : Own _ _ _ [_] := ho_6
  refine S_assign rfl ?_
  refine WL_nil ?_
  refine W_seq ?_
  refine W_region ?_
  refine S_makeMap (ky := kInt) rfl ?_
  intro b_9 w_10 e_11 z_12 z_13 hm_14
  have hb_15 : w0.heap.size ≤ b_9 := by have := (E_8).size; omega
  have n_16 : b_1 ≠ b_9 := by have := ho_6.lt; omega
  have E_17 := Ext.stepO E_8 e_11 mem0
  have h_18 := ho_6.ext e_11 nin0
  refine S_alloc Try.zeroValue40 rfl ?_
  intro b_19 w_20 e_21 z_22 z_23 ho_24
  have hb_25 : w0.heap.size ≤ b_19 := by have := (E_17).size; omega
  have n_26 : b_1 ≠ b_19 := by have := h_18.lt; omega
  have n_27 : b_9 ≠ b_19 := by have := hm_14.lt; omega
  have E_28 := Ext.stepO E_17 e_21 mem0
  have h_29 := h_18.ext e_21 nin0
  have h_30 := hm_14.ext e_21 nin0
  have ho_24 : Own _ _ _ [_] := ho_24
  refine S_store Try.sizeOf40 rfl rfl rfl ho_24 (Nat.le_of_ble_eq_true rfl) rfl ?_
  intro w_31 e_32 z_33 ho_34
  have ho_34 : Own _ _ _ [_] := ho_34
  have E_35 := Ext.stepO E_28 e_32 (memC (.inr hb_25) mem0)
  have h_36 := h_29.ext e_32 (ninC n_26 nin0)
  have h_37 := h_30.ext e_32 (ninC n_27 nin0)
  refine WL_nil ?_
  refine W_seq ?_
  refine W_region ?_
  refine S_alloc Try.zeroValue48 rfl ?_
  intro b_38 w_39 e_40 z_41 z_42 ho_43
  have hb_44 : w0.heap.size ≤ b_38 := by have := (E_35).size; omega
  have n_45 : b_1 ≠ b_38 := by have := h_36.lt; omega
  have n_46 : b_9 ≠ b_38 := by have := h_37.lt; omega
  have n_47 : b_19 ≠ b_38 := by have := ho_34.lt; omega
  have E_48 := Ext.stepO E_35 e_40 mem0
  have h_49 := h_36.ext e_40 nin0
  have h_50 := h_37.ext e_40 nin0
  have h_51 := ho_34.ext e_40 nin0
  have ho_43 : Own _ _ _ [_] := ho_43
  refine WL_nil ?_
  refine W_seq ?_
  refine W_region ?_
  refine S_makeFunc rfl ?_
  refine S_store Try.sizeOf48 rfl rfl rfl ho_43 (Nat.le_of_ble_eq_true rfl) rfl ?_
  intro w_52 e_53 z_54 ho_55
  have ho_55 : Own _ _ _ [_] := ho_55
  have E_56 := Ext.stepO E_48 e_53 (memC (.inr hb_44) mem0)
  have h_57 := h_49.ext e_53 (ninC n_45 nin0)
  have h_58 := h_50.ext e_53 (ninC n_46 nin0)
  have h_59 := h_51.ext e_53 (ninC n_47 nin0)
  refine WL_nil ?_
  refine W_seq ?_
  refine W_seq ?_
  refine W_region ?_
  refine S_move rfl ?_
  refine S_len Try.runUnderlying26 rfl rfl ?_
  refine S_move rfl ?_
  refine WL_nil ?_
  refine W_block ?_
  refine W_loopF [8, 13, 14, 15, 16, 17, 18, 19, 20] (fun m f w => ∃ (j : Int) (S1 : List Int), m = (ids.length - j).toNat ∧ 0 ≤ j ∧ (∀ x, x ∈ S1 ↔ Some1 l ids j x) ∧ Ext [] w0 w ∧ Ext ([b_9]) w_52 w ∧ MapAt kInt w b_9 (setL S1) ∧ Live f [(13, .int .i64 j)]) ?_ ?_
  · exact ⟨_, 0, [], rfl, by omega, (fun x => by simp [some1_zero]), E_56, (Ext.refl _ _), h_58, rfl, trivial⟩
  ·
    rintro m g_64 w_60 ⟨j, S1, rfl, q0, q1, E_61, e_62, hm1, hl_63⟩
    refine W_liveM hl_63 rfl ?_
    have h_65 := h_57.ext e_62 (ninC n_16 nin0)
    have h_66 := h_59.ext e_62 (ninC (Ne.symm n_27) nin0)
    have h_67 := ho_55.ext e_62 (ninC (Ne.symm n_46) nin0)
    refine W_seq ?_
    refine W_region ?_
    refine S_lss rfl rfl rfl ?_
    refine WL_nil ?_
    refine W_seq ?_
    refine W_cond rfl (fun h_69 => ?_) (fun h_69 => ?_)
    ·
      have p_70 := h_69
      try simp only [lrn] at p_70
      refine W_skip ?_
      refine W_seq ?_
      refine W_block ?_
      refine W_seq ?_
      refine W_region ?_
      have h_71 := Rep.ext _ hi E_61
      refine S_index Try.runUnderlying26 Try.sizeOf3 h_71 rfl (by omega) (by omega) rfl ?_
      intro b_72 o_73 cs_74 hi_75 hc_76 hb_77 hr_78
      refine S_loadI Try.isAgg3 rfl hc_76 hr_78 rfl ?_
      rintro ⟨r_79, r_80⟩
      refine S_assign rfl ?_
      refine WL_nil ?_
      refine W_region ?_
      refine S_load1 Try.isAgg48 rfl (h_67.at rfl) rfl ?_
      refine S_move rfl ?_
      have h_81 := Rep.mono (M' := (b_9 :: M)) _ h E_61 mem0 (memC (.inr hb_15) (fun x hx => .inl (by simp [hx])))
      refine S_callV rfl Try.call32 rfl (walk_ok hr (List.mem_cons_self) _ h_81 h_65 h_66 h_67 hm1 (reached_pre q1)) rfl ?_
      rintro _ w_82 ⟨S_83, hm_84, hS_85, e_86⟩
      have E_87 := Ext.stepO E_61 e_86 (memC (.inr hb_15) mem0)
      have c_88 := Ext.stepO e_62 e_86 (memC (.inl (by simp)) mem0)
      have h_89 := h_65.ext e_86 (ninC n_16 nin0)
      have h_90 := h_66.ext e_86 (ninC (Ne.symm n_27) nin0)
      have h_91 := h_67.ext e_86 (ninC (Ne.symm n_46) nin0)
      refine WL_nil ?_
      refine W_region ?_
      refine S_add rfl rfl (by omega) rfl ?_
      refine S_move rfl ?_
      refine WL_nil ?_
      refine ⟨by repeat (first | refine agree_upd rfl ?_ | exact agree_mix rfl agree_refl | refine agree_mix rfl ?_), ?_⟩
      exact ⟨_, by omega, j + 1, _, rfl, by omega, reached_next q1 q0 _ hS_85, E_87, c_88, hm_84, rfl, trivial⟩
    ·
      have p_92 := h_69
      try simp only [lrn] at p_92
      refine W_exit ?_
      refine W_seq ?_
      refine W_region ?_
      refine S_load1 Try.isAgg40 rfl (h_66.at rfl) rfl ?_
      refine S_assign rfl ?_
      refine WL_nil ?_
      refine W_ret ?_
      exact ⟨_, _, rfl, hm1, hb_15, (fun x => by rw [q1, some1_all (by omega)]), E_61⟩
end Go.Proofs.Ytpgegnmaophapaa
