/- The walks of a history's functions, printed by program. -/
import Derived.Test.YtpgegnmaophapaaT2
namespace Go.Proofs.Ytpgegnmaophapaa
open Go.Wk Classical
set_option maxHeartbeats 2000000 in
theorem orders_law_ok {M : List Nat} {w0 : World} (hM : ∀ b ∈ M, b < w0.heap.size) {A' : Option Addr} {cap' : Nat} {x : List Int} (hi : (rSlice rInt).rd M w0 [.slice A' x.length cap'] x) (a b c : Int) (hia : InI a) (hib : InI b) (hic : InI c) :
    CallR Try.prog 4 [.slice A' x.length cap', .int .i64 a, .int .i64 b, .int .i64 c] w0 (fun v w' => v = .bool true ∧ Ext [] w0 w') := by
  have li := rSlice_len hi
  refine Call1 Try.func4 rfl rfl rfl rfl ?_
  refine W_seq ?_
  refine W_region ?_
  refine S_assign rfl ?_
  refine WL_nil ?_
  refine W_seq ?_
  refine W_seq ?_
  refine W_region ?_
  refine S_move rfl ?_
  refine S_len Try.runUnderlying26 rfl rfl ?_
  refine S_gtr rfl rfl rfl ?_
  refine S_move rfl ?_
  refine WL_split (dj := 21) rfl (fun h_2 => ?_) (fun h_2 => ?_)
  ·
    have p_3 := h_2
    try simp only [lrn] at p_3
    refine WL_off rfl rfl rfl (bT h_2) ?_
    refine WL_off rfl rfl rfl (bT h_2) ?_
    refine WL_off rfl rfl rfl (bT h_2) ?_
    refine S_pick_t (bT h_2) rfl ?_
    refine WL_nil ?_
    refine W_cond_true rfl ?_
    refine W_seq ?_
    refine W_region ?_
    refine S_callE Try.call10 rfl (alive_ok (M := M) hM) rfl ?_
    intro w_4 e_5
    have E_6 := Ext.stepO (Ext.refl [] w0) e_5 mem0
    refine S_assign rfl ?_
    refine WL_nil ?_
    refine W_ret ?_
    exact ⟨rfl, E_6⟩
  ·
    have p_7 := h_2
    try simp only [lrn] at p_7
    refine WL_on rfl rfl (bF h_2) ?_
    refine S_move rfl ?_
    refine WL_on rfl rfl (bF h_2) ?_
    refine S_len Try.runUnderlying26 rfl rfl ?_
    refine WL_on rfl rfl (bF h_2) ?_
    refine S_eql rfl rfl rfl ?_
    refine S_pick_f (bF h_2) rfl ?_
    refine WL_nil ?_
    refine W_cond rfl (fun h_9 => ?_) (fun h_9 => ?_)
    ·
      have p_10 := h_9
      try simp only [lrn] at p_10
      refine W_seq ?_
      refine W_region ?_
      refine S_callE Try.call10 rfl (alive_ok (M := M) hM) rfl ?_
      intro w_11 e_12
      have E_13 := Ext.stepO (Ext.refl [] w0) e_12 mem0
      refine S_assign rfl ?_
      refine WL_nil ?_
      refine W_ret ?_
      exact ⟨rfl, E_13⟩
    ·
      have p_14 := h_9
      try simp only [lrn] at p_14
      refine W_skip ?_
      refine W_seq ?_
      refine W_region ?_
      refine S_move rfl ?_
      have hz_22 := made_ok hM hi (by omega)
      refine S_call Try.call18 rfl hz_22 rfl ?_
      rintro _ w_15 ⟨L_17, A_18, cap_19, rfl, hr_20, hp_21, e_16⟩
      have E_23 := Ext.stepO (Ext.refl [] w0) e_16 mem0
      have hl_24 := rSlice_len hr_20
      refine S_assign rfl ?_
      refine WL_nil ?_
      refine W_seq ?_
      refine W_region ?_
      refine S_move rfl ?_
      refine S_len Try.runUnderlying22 rfl rfl ?_
      refine S_assign rfl ?_
      refine WL_nil ?_
      refine W_seq ?_
      refine W_region_quiet rfl (by decide +kernel) ?_
      have ⟨hr, hlen⟩ := hp_21
      have hl : L_17.length ≤ 60 := by omega
      have hn : 0 < (L_17.length : Int) := by omega
      have ma := tm_norm (a := a) hn
      have ha : InI (1 + (a.tmod (L_17.length : Int) + (L_17.length : Int)).tmod (L_17.length : Int)) := by unfold InI; omega
      have ta : There L_17 (1 + (a.tmod (L_17.length : Int) + (L_17.length : Int)).tmod (L_17.length : Int)) := ⟨by omega, by omega⟩
      have mb := tm_norm (a := b) hn
      have hb : InI (1 + (b.tmod (L_17.length : Int) + (L_17.length : Int)).tmod (L_17.length : Int)) := by unfold InI; omega
      have tb : There L_17 (1 + (b.tmod (L_17.length : Int) + (L_17.length : Int)).tmod (L_17.length : Int)) := ⟨by omega, by omega⟩
      have mc := tm_norm (a := c) hn
      have hc : InI (1 + (c.tmod (L_17.length : Int) + (L_17.length : Int)).tmod (L_17.length : Int)) := by unfold InI; omega
      have tc : There L_17 (1 + (c.tmod (L_17.length : Int) + (L_17.length : Int)).tmod (L_17.length : Int)) := ⟨by omega, by omega⟩
      skip
      refine S_move rfl ?_
      refine S_move rfl ?_
      refine S_rem rfl rfl (by omega) rfl ?_
      refine S_move rfl ?_
      refine S_add rfl rfl (by omega) rfl ?_
      refine S_move rfl ?_
      refine S_rem rfl rfl (by omega) rfl ?_
      refine S_add rfl rfl (by omega) rfl ?_
      refine S_move rfl ?_
      refine S_move rfl ?_
      refine S_rem rfl rfl (by omega) rfl ?_
      refine S_move rfl ?_
      refine S_add rfl rfl (by omega) rfl ?_
      refine S_move rfl ?_
      refine S_rem rfl rfl (by omega) rfl ?_
      refine S_add rfl rfl (by omega) rfl ?_
      refine S_move rfl ?_
      refine S_move rfl ?_
      refine S_rem rfl rfl (by omega) rfl ?_
      refine S_move rfl ?_
      refine S_add rfl rfl (by omega) rfl ?_
      refine S_move rfl ?_
      refine S_rem rfl rfl (by omega) rfl ?_
      refine S_add rfl rfl (by omega) rfl ?_
      refine S_assign rfl ?_
      refine S_assign rfl ?_
      refine S_assign rfl ?_
      refine WL_nil ?_
      refine W_seq ?_
      refine W_region ?_
      refine WL_norm (L := [(1, .int .i64 (1 + (a.tmod (L_17.length : Int) + (L_17.length : Int)).tmod (L_17.length : Int))), (2, .int .i64 (1 + (b.tmod (L_17.length : Int) + (L_17.length : Int)).tmod (L_17.length : Int))), (3, .int .i64 (1 + (c.tmod (L_17.length : Int) + (L_17.length : Int)).tmod (L_17.length : Int))), (9, .slice A_18 L_17.length cap_19), (10, .int .i64 (L_17.length : Int))]) ⟨rfl, rfl, rfl, rfl, rfl, trivial⟩ ?_
      intro g_25
      refine S_move rfl ?_
      refine S_move rfl ?_
      refine S_move rfl ?_
      have hz_28 := reaches_ok hr_20 (fun x hx => Nat.lt_of_lt_of_le (hM x hx) (E_23).size) hl (1 + (a.tmod (L_17.length : Int) + (L_17.length : Int)).tmod (L_17.length : Int)) (1 + (b.tmod (L_17.length : Int) + (L_17.length : Int)).tmod (L_17.length : Int)) ha
      refine S_callE Try.call19 rfl hz_28 rfl ?_
      intro w_26 e_27
      have E_29 := Ext.stepO E_23 e_27 mem0
      have h_30 := Rep.ext _ hr_20 e_27
      refine S_move rfl ?_
      refine S_move rfl ?_
      refine S_move rfl ?_
      have hz_34 := reaches_ok h_30 (fun x hx => Nat.lt_of_lt_of_le (hM x hx) (E_29).size) hl (1 + (b.tmod (L_17.length : Int) + (L_17.length : Int)).tmod (L_17.length : Int)) (1 + (c.tmod (L_17.length : Int) + (L_17.length : Int)).tmod (L_17.length : Int)) hb
      refine S_callE Try.call19 rfl hz_34 rfl ?_
      intro w_32 e_33
      have E_35 := Ext.stepO E_29 e_33 mem0
      have h_36 := Rep.ext _ h_30 e_33
      refine S_assign rfl ?_
      refine S_assign rfl ?_
      refine WL_nil ?_
      refine W_seq ?_
      refine W_seq ?_
      refine W_region ?_
      refine WL_norm (L := [(1, .int .i64 (1 + (a.tmod (L_17.length : Int) + (L_17.length : Int)).tmod (L_17.length : Int))), (2, .int .i64 (1 + (b.tmod (L_17.length : Int) + (L_17.length : Int)).tmod (L_17.length : Int))), (3, .int .i64 (1 + (c.tmod (L_17.length : Int) + (L_17.length : Int)).tmod (L_17.length : Int))), (9, .slice A_18 L_17.length cap_19), (10, .int .i64 (L_17.length : Int)), (11, .bool (decide (Right L_17 ∧ Rch L_17 (1 + (a.tmod (L_17.length : Int) + (L_17.length : Int)).tmod (L_17.length : Int)) (1 + (b.tmod (L_17.length : Int) + (L_17.length : Int)).tmod (L_17.length : Int))))), (12, .bool (decide (Right L_17 ∧ Rch L_17 (1 + (b.tmod (L_17.length : Int) + (L_17.length : Int)).tmod (L_17.length : Int)) (1 + (c.tmod (L_17.length : Int) + (L_17.length : Int)).tmod (L_17.length : Int)))))]) ⟨rfl, rfl, rfl, rfl, rfl, rfl, rfl, trivial⟩ ?_
      intro g_38
      refine S_move rfl ?_
      refine S_move rfl ?_
      refine S_move rfl ?_
      have hz_41 := reaches_ok h_36 (fun x hx => Nat.lt_of_lt_of_le (hM x hx) (E_35).size) hl (1 + (a.tmod (L_17.length : Int) + (L_17.length : Int)).tmod (L_17.length : Int)) (1 + (a.tmod (L_17.length : Int) + (L_17.length : Int)).tmod (L_17.length : Int)) ha
      refine S_callE Try.call19 rfl hz_41 rfl ?_
      intro w_39 e_40
      have E_42 := Ext.stepO E_35 e_40 mem0
      have h_43 := Rep.ext _ h_36 e_40
      refine S_not rfl rfl ?_
      refine S_move rfl ?_
      refine WL_split (dj := 68) rfl (fun h_45 => ?_) (fun h_45 => ?_)
      ·
        have h_46 := h_45
        simp only [lrnN] at h_46
        have p_47 := h_46
        try simp only [lrn] at p_47
        refine WL_off rfl rfl rfl (nF h_46) ?_
        refine WL_off rfl rfl rfl (nF h_46) ?_
        refine WL_off0 rfl rfl rfl rfl ?_
        refine WL_off0 rfl rfl rfl rfl ?_
        refine WL_off0 rfl rfl rfl rfl ?_
        refine WL_off rfl rfl rfl (nF h_46) ?_
        refine S_pick_t (nF h_46) rfl ?_
        refine S_move rfl ?_
        refine WL_norm (L := [(1, .int .i64 (1 + (a.tmod (L_17.length : Int) + (L_17.length : Int)).tmod (L_17.length : Int))), (2, .int .i64 (1 + (b.tmod (L_17.length : Int) + (L_17.length : Int)).tmod (L_17.length : Int))), (3, .int .i64 (1 + (c.tmod (L_17.length : Int) + (L_17.length : Int)).tmod (L_17.length : Int))), (9, .slice A_18 L_17.length cap_19), (10, .int .i64 (L_17.length : Int)), (11, .bool (decide (Right L_17 ∧ Rch L_17 (1 + (a.tmod (L_17.length : Int) + (L_17.length : Int)).tmod (L_17.length : Int)) (1 + (b.tmod (L_17.length : Int) + (L_17.length : Int)).tmod (L_17.length : Int))))), (12, .bool (decide (Right L_17 ∧ Rch L_17 (1 + (b.tmod (L_17.length : Int) + (L_17.length : Int)).tmod (L_17.length : Int)) (1 + (c.tmod (L_17.length : Int) + (L_17.length : Int)).tmod (L_17.length : Int))))), (76, .bool true)]) ⟨rfl, rfl, rfl, rfl, rfl, rfl, rfl, rfl, trivial⟩ ?_
        intro g_48
        refine WL_off rfl rfl rfl rfl ?_
        refine WL_off rfl rfl rfl rfl ?_
        refine WL_off0 rfl rfl rfl rfl ?_
        refine WL_off rfl rfl rfl rfl ?_
        refine WL_off rfl rfl rfl rfl ?_
        refine WL_off0 rfl rfl rfl rfl ?_
        refine WL_off0 rfl rfl rfl rfl ?_
        refine WL_off0 rfl rfl rfl rfl ?_
        refine WL_off0 rfl rfl rfl rfl ?_
        refine WL_off0 rfl rfl rfl rfl ?_
        refine WL_off rfl rfl rfl rfl ?_
        refine S_pick_t rfl rfl ?_
        refine S_move rfl ?_
        refine WL_norm (L := [(1, .int .i64 (1 + (a.tmod (L_17.length : Int) + (L_17.length : Int)).tmod (L_17.length : Int))), (2, .int .i64 (1 + (b.tmod (L_17.length : Int) + (L_17.length : Int)).tmod (L_17.length : Int))), (3, .int .i64 (1 + (c.tmod (L_17.length : Int) + (L_17.length : Int)).tmod (L_17.length : Int))), (9, .slice A_18 L_17.length cap_19), (10, .int .i64 (L_17.length : Int)), (11, .bool (decide (Right L_17 ∧ Rch L_17 (1 + (a.tmod (L_17.length : Int) + (L_17.length : Int)).tmod (L_17.length : Int)) (1 + (b.tmod (L_17.length : Int) + (L_17.length : Int)).tmod (L_17.length : Int))))), (12, .bool (decide (Right L_17 ∧ Rch L_17 (1 + (b.tmod (L_17.length : Int) + (L_17.length : Int)).tmod (L_17.length : Int)) (1 + (c.tmod (L_17.length : Int) + (L_17.length : Int)).tmod (L_17.length : Int))))), (89, .bool true)]) ⟨rfl, rfl, rfl, rfl, rfl, rfl, rfl, rfl, trivial⟩ ?_
        intro g_49
        refine WL_off rfl rfl rfl rfl ?_
        refine WL_off rfl rfl rfl rfl ?_
        refine WL_off0 rfl rfl rfl rfl ?_
        refine WL_off0 rfl rfl rfl rfl ?_
        refine WL_off0 rfl rfl rfl rfl ?_
        refine WL_off rfl rfl rfl rfl ?_
        refine WL_off rfl rfl rfl rfl ?_
        refine WL_off0 rfl rfl rfl rfl ?_
        refine WL_off0 rfl rfl rfl rfl ?_
        refine WL_off0 rfl rfl rfl rfl ?_
        refine WL_off0 rfl rfl rfl rfl ?_
        refine WL_off rfl rfl rfl rfl ?_
        refine S_pick_t rfl rfl ?_
        refine WL_nil ?_
        refine W_cond_true rfl ?_
        refine W_seq ?_
        refine W_region ?_
        refine S_assign rfl ?_
        refine WL_nil ?_
        refine W_ret ?_
        first | exact (ord1 hr ta (by assumption)).elim | exact (ord2 (l := L_17) (a := (1 + (a.tmod (L_17.length : Int) + (L_17.length : Int)).tmod (L_17.length : Int))) (b := (1 + (b.tmod (L_17.length : Int) + (L_17.length : Int)).tmod (L_17.length : Int))) (by assumption) (by assumption)).elim | exact (ord3 (l := L_17) (a := (1 + (a.tmod (L_17.length : Int) + (L_17.length : Int)).tmod (L_17.length : Int))) (b := (1 + (b.tmod (L_17.length : Int) + (L_17.length : Int)).tmod (L_17.length : Int))) (c := (1 + (c.tmod (L_17.length : Int) + (L_17.length : Int)).tmod (L_17.length : Int))) (by assumption) (by assumption) (by assumption)).elim | exact (ord4 (l := L_17) (a := (1 + (a.tmod (L_17.length : Int) + (L_17.length : Int)).tmod (L_17.length : Int))) (b := (1 + (b.tmod (L_17.length : Int) + (L_17.length : Int)).tmod (L_17.length : Int))) (by assumption) (by assumption) (by assumption)).elim
      ·
        have h_50 := h_45
        simp only [lrnN] at h_50
        have p_51 := h_50
        try simp only [lrn] at p_51
        refine WL_on rfl rfl (nT h_50) ?_
        refine S_move rfl ?_
        refine WL_on rfl rfl (nT h_50) ?_
        refine S_move rfl ?_
        refine WL_split (dj := 70) rfl (fun h_52 => ?_) (fun h_52 => ?_)
        ·
          have p_53 := h_52
          try simp only [lrn] at p_53
          refine WL_on rfl rfl (bT h_52) ?_
          refine S_move rfl ?_
          refine WL_on rfl rfl (bT h_52) ?_
          refine S_move rfl ?_
          refine WL_on rfl rfl (bT h_52) ?_
          refine S_lss rfl rfl rfl ?_
          refine WL_on rfl rfl (nT h_50) ?_
          refine S_pick_t (bT h_52) rfl ?_
          refine S_pick_f (nT h_50) rfl ?_
          refine S_move rfl ?_
          refine WL_split (dj := 76) rfl (fun h_55 => ?_) (fun h_55 => ?_)
          ·
            have p_56 := h_55
            try simp only [lrn] at p_56
            refine WL_norm (L := [(1, .int .i64 (1 + (a.tmod (L_17.length : Int) + (L_17.length : Int)).tmod (L_17.length : Int))), (2, .int .i64 (1 + (b.tmod (L_17.length : Int) + (L_17.length : Int)).tmod (L_17.length : Int))), (3, .int .i64 (1 + (c.tmod (L_17.length : Int) + (L_17.length : Int)).tmod (L_17.length : Int))), (9, .slice A_18 L_17.length cap_19), (10, .int .i64 (L_17.length : Int)), (11, .bool true), (12, .bool (decide (Right L_17 ∧ Rch L_17 (1 + (b.tmod (L_17.length : Int) + (L_17.length : Int)).tmod (L_17.length : Int)) (1 + (c.tmod (L_17.length : Int) + (L_17.length : Int)).tmod (L_17.length : Int))))), (76, .bool true)]) ⟨rfl, rfl, rfl, rfl, rfl, (bT h_52), rfl, (bT h_55), trivial⟩ ?_
            intro g_57
            refine WL_off rfl rfl rfl rfl ?_
            refine WL_off rfl rfl rfl rfl ?_
            refine WL_off0 rfl rfl rfl rfl ?_
            refine WL_off rfl rfl rfl rfl ?_
            refine WL_off rfl rfl rfl rfl ?_
            refine WL_off0 rfl rfl rfl rfl ?_
            refine WL_off0 rfl rfl rfl rfl ?_
            refine WL_off0 rfl rfl rfl rfl ?_
            refine WL_off0 rfl rfl rfl rfl ?_
            refine WL_off0 rfl rfl rfl rfl ?_
            refine WL_off rfl rfl rfl rfl ?_
            refine S_pick_t rfl rfl ?_
            refine S_move rfl ?_
            refine WL_norm (L := [(1, .int .i64 (1 + (a.tmod (L_17.length : Int) + (L_17.length : Int)).tmod (L_17.length : Int))), (2, .int .i64 (1 + (b.tmod (L_17.length : Int) + (L_17.length : Int)).tmod (L_17.length : Int))), (3, .int .i64 (1 + (c.tmod (L_17.length : Int) + (L_17.length : Int)).tmod (L_17.length : Int))), (9, .slice A_18 L_17.length cap_19), (10, .int .i64 (L_17.length : Int)), (11, .bool true), (12, .bool (decide (Right L_17 ∧ Rch L_17 (1 + (b.tmod (L_17.length : Int) + (L_17.length : Int)).tmod (L_17.length : Int)) (1 + (c.tmod (L_17.length : Int) + (L_17.length : Int)).tmod (L_17.length : Int))))), (89, .bool true)]) ⟨rfl, rfl, rfl, rfl, rfl, rfl, rfl, rfl, trivial⟩ ?_
            intro g_58
            refine WL_off rfl rfl rfl rfl ?_
            refine WL_off rfl rfl rfl rfl ?_
            refine WL_off0 rfl rfl rfl rfl ?_
            refine WL_off0 rfl rfl rfl rfl ?_
            refine WL_off0 rfl rfl rfl rfl ?_
            refine WL_off rfl rfl rfl rfl ?_
            refine WL_off rfl rfl rfl rfl ?_
            refine WL_off0 rfl rfl rfl rfl ?_
            refine WL_off0 rfl rfl rfl rfl ?_
            refine WL_off0 rfl rfl rfl rfl ?_
            refine WL_off0 rfl rfl rfl rfl ?_
            refine WL_off rfl rfl rfl rfl ?_
            refine S_pick_t rfl rfl ?_
            refine WL_nil ?_
            refine W_cond_true rfl ?_
            refine W_seq ?_
            refine W_region ?_
            refine S_assign rfl ?_
            refine WL_nil ?_
            refine W_ret ?_
            first | exact (ord1 hr ta (by assumption)).elim | exact (ord2 (l := L_17) (a := (1 + (a.tmod (L_17.length : Int) + (L_17.length : Int)).tmod (L_17.length : Int))) (b := (1 + (b.tmod (L_17.length : Int) + (L_17.length : Int)).tmod (L_17.length : Int))) (by assumption) (by assumption)).elim | exact (ord3 (l := L_17) (a := (1 + (a.tmod (L_17.length : Int) + (L_17.length : Int)).tmod (L_17.length : Int))) (b := (1 + (b.tmod (L_17.length : Int) + (L_17.length : Int)).tmod (L_17.length : Int))) (c := (1 + (c.tmod (L_17.length : Int) + (L_17.length : Int)).tmod (L_17.length : Int))) (by assumption) (by assumption) (by assumption)).elim | exact (ord4 (l := L_17) (a := (1 + (a.tmod (L_17.length : Int) + (L_17.length : Int)).tmod (L_17.length : Int))) (b := (1 + (b.tmod (L_17.length : Int) + (L_17.length : Int)).tmod (L_17.length : Int))) (by assumption) (by assumption) (by assumption)).elim
          ·
            have p_59 := h_55
            try simp only [lrn] at p_59
            refine WL_norm (L := [(1, .int .i64 (1 + (a.tmod (L_17.length : Int) + (L_17.length : Int)).tmod (L_17.length : Int))), (2, .int .i64 (1 + (b.tmod (L_17.length : Int) + (L_17.length : Int)).tmod (L_17.length : Int))), (3, .int .i64 (1 + (c.tmod (L_17.length : Int) + (L_17.length : Int)).tmod (L_17.length : Int))), (9, .slice A_18 L_17.length cap_19), (10, .int .i64 (L_17.length : Int)), (11, .bool true), (12, .bool (decide (Right L_17 ∧ Rch L_17 (1 + (b.tmod (L_17.length : Int) + (L_17.length : Int)).tmod (L_17.length : Int)) (1 + (c.tmod (L_17.length : Int) + (L_17.length : Int)).tmod (L_17.length : Int))))), (76, .bool false)]) ⟨rfl, rfl, rfl, rfl, rfl, (bT h_52), rfl, (bF h_55), trivial⟩ ?_
            intro g_60
            refine WL_on rfl rfl rfl ?_
            refine S_move rfl ?_
            refine WL_on rfl rfl rfl ?_
            refine S_move rfl ?_
            refine WL_on rfl rfl rfl ?_
            refine S_move rfl ?_
            refine WL_on rfl rfl rfl ?_
            refine S_pick_t rfl rfl ?_
            refine WL_on rfl rfl rfl ?_
            refine S_move rfl ?_
            refine WL_split (dj := 81) rfl (fun h_61 => ?_) (fun h_61 => ?_)
            ·
              have p_62 := h_61
              try simp only [lrn] at p_62
              refine WL_on rfl rfl (bT h_61) ?_
              refine S_move rfl ?_
              refine WL_on rfl rfl (bT h_61) ?_
              refine S_move rfl ?_
              refine WL_on rfl rfl (bT h_61) ?_
              refine S_move rfl ?_
              refine WL_on rfl rfl (bT h_61) ?_
              have hz_65 := reaches_ok h_43 (fun x hx => Nat.lt_of_lt_of_le (hM x hx) (E_42).size) hl (1 + (a.tmod (L_17.length : Int) + (L_17.length : Int)).tmod (L_17.length : Int)) (1 + (c.tmod (L_17.length : Int) + (L_17.length : Int)).tmod (L_17.length : Int)) ha
              refine S_callE Try.call19 rfl hz_65 rfl ?_
              intro w_63 e_64
              have E_66 := Ext.stepO E_42 e_64 mem0
              have h_67 := Rep.ext _ h_43 e_64
              refine WL_on rfl rfl (bT h_61) ?_
              refine S_not rfl rfl ?_
              refine WL_on rfl rfl rfl ?_
              refine S_pick_t (bT h_61) rfl ?_
              refine S_pick_f rfl rfl ?_
              refine S_move rfl ?_
              refine WL_norm (L := [(1, .int .i64 (1 + (a.tmod (L_17.length : Int) + (L_17.length : Int)).tmod (L_17.length : Int))), (2, .int .i64 (1 + (b.tmod (L_17.length : Int) + (L_17.length : Int)).tmod (L_17.length : Int))), (3, .int .i64 (1 + (c.tmod (L_17.length : Int) + (L_17.length : Int)).tmod (L_17.length : Int))), (9, .slice A_18 L_17.length cap_19), (10, .int .i64 (L_17.length : Int)), (11, .bool true), (12, .bool true), (89, .bool (!(decide (Right L_17 ∧ Rch L_17 (1 + (a.tmod (L_17.length : Int) + (L_17.length : Int)).tmod (L_17.length : Int)) (1 + (c.tmod (L_17.length : Int) + (L_17.length : Int)).tmod (L_17.length : Int))))))]) ⟨rfl, rfl, rfl, rfl, rfl, rfl, (bT h_61), rfl, trivial⟩ ?_
              intro g_69
              refine WL_split (dj := 89) rfl (fun h_70 => ?_) (fun h_70 => ?_)
              ·
                have h_71 := h_70
                simp only [lrnN] at h_71
                have p_72 := h_71
                try simp only [lrn] at p_72
                refine WL_off rfl rfl rfl (nF h_71) ?_
                refine WL_off rfl rfl rfl (nF h_71) ?_
                refine WL_off0 rfl rfl rfl rfl ?_
                refine WL_off0 rfl rfl rfl rfl ?_
                refine WL_off0 rfl rfl rfl rfl ?_
                refine WL_off rfl rfl rfl (nF h_71) ?_
                refine WL_off rfl rfl rfl (nF h_71) ?_
                refine WL_off0 rfl rfl rfl rfl ?_
                refine WL_off0 rfl rfl rfl rfl ?_
                refine WL_off0 rfl rfl rfl rfl ?_
                refine WL_off0 rfl rfl rfl rfl ?_
                refine WL_off rfl rfl rfl (nF h_71) ?_
                refine S_pick_t (nF h_71) rfl ?_
                refine WL_nil ?_
                refine W_cond_true rfl ?_
                refine W_seq ?_
                refine W_region ?_
                refine S_assign rfl ?_
                refine WL_nil ?_
                refine W_ret ?_
                first | exact (ord1 hr ta (by assumption)).elim | exact (ord2 (l := L_17) (a := (1 + (a.tmod (L_17.length : Int) + (L_17.length : Int)).tmod (L_17.length : Int))) (b := (1 + (b.tmod (L_17.length : Int) + (L_17.length : Int)).tmod (L_17.length : Int))) (by assumption) (by assumption)).elim | exact (ord3 (l := L_17) (a := (1 + (a.tmod (L_17.length : Int) + (L_17.length : Int)).tmod (L_17.length : Int))) (b := (1 + (b.tmod (L_17.length : Int) + (L_17.length : Int)).tmod (L_17.length : Int))) (c := (1 + (c.tmod (L_17.length : Int) + (L_17.length : Int)).tmod (L_17.length : Int))) (by assumption) (by assumption) (by assumption)).elim | exact (ord4 (l := L_17) (a := (1 + (a.tmod (L_17.length : Int) + (L_17.length : Int)).tmod (L_17.length : Int))) (b := (1 + (b.tmod (L_17.length : Int) + (L_17.length : Int)).tmod (L_17.length : Int))) (by assumption) (by assumption) (by assumption)).elim
              ·
                have h_73 := h_70
                simp only [lrnN] at h_73
                have p_74 := h_73
                try simp only [lrn] at p_74
                refine WL_on rfl rfl (nT h_73) ?_
                refine S_move rfl ?_
                refine WL_on rfl rfl (nT h_73) ?_
                refine S_move rfl ?_
                refine WL_on rfl rfl rfl ?_
                refine S_move rfl ?_
                refine WL_on rfl rfl rfl ?_
                refine S_move rfl ?_
                refine WL_on rfl rfl rfl ?_
                refine S_neq rfl rfl rfl ?_
                refine WL_on rfl rfl (nT h_73) ?_
                refine S_pick_t rfl rfl ?_
                refine WL_on rfl rfl (nT h_73) ?_
                refine S_move rfl ?_
                refine WL_split (dj := 96) rfl (fun h_76 => ?_) (fun h_76 => ?_)
                ·
                  have p_77 := h_76
                  try simp only [lrn] at p_77
                  refine WL_on rfl rfl (bT h_76) ?_
                  refine S_move rfl ?_
                  refine WL_on rfl rfl (bT h_76) ?_
                  refine S_move rfl ?_
                  refine WL_on rfl rfl (bT h_76) ?_
                  refine S_move rfl ?_
                  refine WL_on rfl rfl (bT h_76) ?_
                  have hz_80 := reaches_ok h_67 (fun x hx => Nat.lt_of_lt_of_le (hM x hx) (E_66).size) hl (1 + (b.tmod (L_17.length : Int) + (L_17.length : Int)).tmod (L_17.length : Int)) (1 + (a.tmod (L_17.length : Int) + (L_17.length : Int)).tmod (L_17.length : Int)) hb
                  refine S_callE Try.call19 rfl hz_80 rfl ?_
                  intro w_78 e_79
                  have E_81 := Ext.stepO E_66 e_79 mem0
                  have h_82 := Rep.ext _ h_67 e_79
                  refine WL_on rfl rfl (nT h_73) ?_
                  refine S_pick_t (bT h_76) rfl ?_
                  refine S_pick_f (nT h_73) rfl ?_
                  refine WL_nil ?_
                  refine W_cond rfl (fun h_84 => ?_) (fun h_84 => ?_)
                  ·
                    have p_85 := h_84
                    try simp only [lrn] at p_85
                    refine W_seq ?_
                    refine W_region ?_
                    refine S_assign rfl ?_
                    refine WL_nil ?_
                    refine W_ret ?_
                    first | exact (ord1 hr ta (by assumption)).elim | exact (ord2 (l := L_17) (a := (1 + (a.tmod (L_17.length : Int) + (L_17.length : Int)).tmod (L_17.length : Int))) (b := (1 + (b.tmod (L_17.length : Int) + (L_17.length : Int)).tmod (L_17.length : Int))) (by assumption) (by assumption)).elim | exact (ord3 (l := L_17) (a := (1 + (a.tmod (L_17.length : Int) + (L_17.length : Int)).tmod (L_17.length : Int))) (b := (1 + (b.tmod (L_17.length : Int) + (L_17.length : Int)).tmod (L_17.length : Int))) (c := (1 + (c.tmod (L_17.length : Int) + (L_17.length : Int)).tmod (L_17.length : Int))) (by assumption) (by assumption) (by assumption)).elim | exact (ord4 (l := L_17) (a := (1 + (a.tmod (L_17.length : Int) + (L_17.length : Int)).tmod (L_17.length : Int))) (b := (1 + (b.tmod (L_17.length : Int) + (L_17.length : Int)).tmod (L_17.length : Int))) (by assumption) (by assumption) (by assumption)).elim
                  ·
                    have p_86 := h_84
                    try simp only [lrn] at p_86
                    refine W_skip ?_
                    refine W_seq ?_
                    refine W_seq ?_
                    refine W_region ?_
                    refine WL_norm (L := [(1, .int .i64 (1 + (a.tmod (L_17.length : Int) + (L_17.length : Int)).tmod (L_17.length : Int))), (2, .int .i64 (1 + (b.tmod (L_17.length : Int) + (L_17.length : Int)).tmod (L_17.length : Int))), (3, .int .i64 (1 + (c.tmod (L_17.length : Int) + (L_17.length : Int)).tmod (L_17.length : Int))), (9, .slice A_18 L_17.length cap_19), (10, .int .i64 (L_17.length : Int)), (11, .bool true)]) ⟨rfl, rfl, rfl, rfl, rfl, rfl, trivial⟩ ?_
                    intro g_87
                    refine S_move rfl ?_
                    refine S_move rfl ?_
                    refine WL_on rfl rfl rfl ?_
                    refine S_move rfl ?_
                    refine WL_on rfl rfl rfl ?_
                    refine S_move rfl ?_
                    refine WL_on rfl rfl rfl ?_
                    refine S_move rfl ?_
                    refine WL_on rfl rfl rfl ?_
                    have hz_95 := common_ok h_82 (fun x hx => Nat.lt_of_lt_of_le (hM x hx) (E_81).size) hl (1 + (a.tmod (L_17.length : Int) + (L_17.length : Int)).tmod (L_17.length : Int)) (1 + (b.tmod (L_17.length : Int) + (L_17.length : Int)).tmod (L_17.length : Int)) ha hb
                    refine S_call Try.call12 rfl hz_95 rfl ?_
                    rintro _ w_88 ⟨L_90, A_91, cap_92, rfl, hr_93, hp_94, e_89⟩
                    have E_96 := Ext.stepO E_81 e_89 mem0
                    have h_97 := Rep.ext _ h_82 e_89
                    have hl_98 := rSlice_len hr_93
                    refine WL_on rfl rfl rfl ?_
                    refine S_move rfl ?_
                    refine WL_on rfl rfl rfl ?_
                    refine S_buildSlice Try.runUnderlying26 Try.sizeOf3 Try.zeroValue3 rfl rfl rfl rfl rfl rfl rfl ?_
                    intro b_99 w_100 e_101 z_102 z_103 ho_104
                    have hb_105 : w0.heap.size ≤ b_99 := by have := (E_96).size; omega
                    have E_106 := Ext.stepO E_96 e_101 mem0
                    have h_107 := Rep.mono (M' := b_99 :: M) _ h_97 e_101 mem0 (cons_fresh z_102)
                    have h_108 := Rep.mono (M' := b_99 :: M) _ hr_93 e_101 mem0 (cons_fresh z_102)
                    have ho_104 : Own _ _ _ [_] := ho_104
                    refine WL_on rfl rfl rfl ?_
                    have h_109 := Rep.mono (M' := M) _ h_108 (Ext.refl [] w_100) mem0 (fun x hx => .inl (by simp [hx]))
                    have hr_110 := rd_ints (xs := [(1 + (b.tmod (L_17.length : Int) + (L_17.length : Int)).tmod (L_17.length : Int))]) (M := M) ho_104 (notin_old hM hb_105) (by simp only [List.mem_singleton]; rintro _ rfl; assumption) (by simp)
                    have he_111 : L_90 = [(1 + (b.tmod (L_17.length : Int) + (L_17.length : Int)).tmod (L_17.length : Int))] := (fun h => nearL_unique h (near_reach (by assumption))) hp_94
                    have hz_112 := (ints_ok h_109 hr_110).mono (R' := fun v w' => v = .bool true ∧ w' = w_100) (fun _ _ h => ⟨h.1.trans (congrArg Value.bool (decide_eq_true he_111)), h.2⟩)
                    refine S_callQ Try.call11 rfl hz_112 rfl ?_
                    refine WL_on rfl rfl rfl ?_
                    refine S_not rfl rfl ?_
                    refine S_pick_t rfl rfl ?_
                    refine WL_nil ?_
                    refine W_cond_false rfl ?_
                    refine W_skip ?_
                    refine W_seq ?_
                    refine W_region ?_
                    refine WL_norm (L := [(1, .int .i64 (1 + (a.tmod (L_17.length : Int) + (L_17.length : Int)).tmod (L_17.length : Int))), (2, .int .i64 (1 + (b.tmod (L_17.length : Int) + (L_17.length : Int)).tmod (L_17.length : Int))), (3, .int .i64 (1 + (c.tmod (L_17.length : Int) + (L_17.length : Int)).tmod (L_17.length : Int))), (9, .slice A_18 L_17.length cap_19), (10, .int .i64 (L_17.length : Int))]) ⟨rfl, rfl, rfl, rfl, rfl, trivial⟩ ?_
                    intro g_114
                    refine S_move rfl ?_
                    refine S_move rfl ?_
                    refine S_move rfl ?_
                    have h_115 := Rep.mono (M' := M) _ h_107 (Ext.refl [] w_100) mem0 (fun x hx => .inl (by simp [hx]))
                    have hz_123 := common_ok h_115 (fun x hx => Nat.lt_of_lt_of_le (hM x hx) (E_106).size) hl (1 + (a.tmod (L_17.length : Int) + (L_17.length : Int)).tmod (L_17.length : Int)) (1 + (c.tmod (L_17.length : Int) + (L_17.length : Int)).tmod (L_17.length : Int)) ha hc
                    refine S_call Try.call12 rfl hz_123 rfl ?_
                    rintro _ w_116 ⟨L_118, A_119, cap_120, rfl, hr_121, hp_122, e_117⟩
                    have E_124 := Ext.stepO E_106 e_117 mem0
                    have h_125 := Rep.ext _ h_107 e_117
                    have h_126 := ho_104.ext e_117 nin0
                    have hl_127 := rSlice_len hr_121
                    refine S_assign rfl ?_
                    refine WL_nil ?_
                    refine W_seq ?_
                    refine W_seq ?_
                    refine W_region ?_
                    refine WL_norm (L := [(1, .int .i64 (1 + (a.tmod (L_17.length : Int) + (L_17.length : Int)).tmod (L_17.length : Int))), (2, .int .i64 (1 + (b.tmod (L_17.length : Int) + (L_17.length : Int)).tmod (L_17.length : Int))), (3, .int .i64 (1 + (c.tmod (L_17.length : Int) + (L_17.length : Int)).tmod (L_17.length : Int))), (9, .slice A_18 L_17.length cap_19), (10, .int .i64 (L_17.length : Int)), (13, .slice A_119 L_118.length cap_120)]) ⟨rfl, rfl, rfl, rfl, rfl, rfl, trivial⟩ ?_
                    intro g_128
                    skip
                    refine S_move rfl ?_
                    refine S_move rfl ?_
                    refine S_move rfl ?_
                    refine S_move rfl ?_
                    have h_129 := Rep.mono (M' := M) _ h_125 (Ext.refl [] w_116) mem0 (fun x hx => .inl (by simp [hx]))
                    have hz_137 := common_ok h_129 (fun x hx => Nat.lt_of_lt_of_le (hM x hx) (E_124).size) hl (1 + (c.tmod (L_17.length : Int) + (L_17.length : Int)).tmod (L_17.length : Int)) (1 + (a.tmod (L_17.length : Int) + (L_17.length : Int)).tmod (L_17.length : Int)) hc ha
                    refine S_call Try.call12 rfl hz_137 rfl ?_
                    rintro _ w_130 ⟨L_132, A_133, cap_134, rfl, hr_135, hp_136, e_131⟩
                    have E_138 := Ext.stepO E_124 e_131 mem0
                    have h_139 := Rep.ext _ h_125 e_131
                    have h_140 := Rep.ext _ hr_121 e_131
                    have h_141 := h_126.ext e_131 nin0
                    have hl_142 := rSlice_len hr_135
                    have he_143 : L_118 = L_132 := (fun h k => nearL_unique h (nearL_comm k)) hp_122 hp_136
                    have hz_144 := (ints_ok h_140 hr_135).mono (R' := fun v w' => v = .bool true ∧ w' = w_130) (fun _ _ h => ⟨h.1.trans (congrArg Value.bool (decide_eq_true he_143)), h.2⟩)
                    refine S_callQ Try.call11 rfl hz_144 rfl ?_
                    refine S_not rfl rfl ?_
                    refine WL_nil ?_
                    refine W_cond_false rfl ?_
                    refine W_skip ?_
                    refine W_seq ?_
                    refine W_seq ?_
                    refine W_region ?_
                    refine WL_norm (L := [(1, .int .i64 (1 + (a.tmod (L_17.length : Int) + (L_17.length : Int)).tmod (L_17.length : Int))), (3, .int .i64 (1 + (c.tmod (L_17.length : Int) + (L_17.length : Int)).tmod (L_17.length : Int))), (9, .slice A_18 L_17.length cap_19), (10, .int .i64 (L_17.length : Int)), (13, .slice A_119 L_118.length cap_120)]) ⟨rfl, rfl, rfl, rfl, rfl, trivial⟩ ?_
                    intro g_146
                    refine S_assign rfl ?_
                    refine WL_nil ?_
                    refine W_block ?_
                    refine W_loopF [8, 14, 15, 17, 125, 126, 127, 128, 129, 130, 131, 132, 133, 134, 135, 136, 137, 138, 139, 140, 141, 142, 143, 144, 145, 146, 147, 148, 149, 150, 151, 152, 153, 154, 155, 156, 157] (fun m f w => ∃ k : Int, m = (L_17.length + 1 - k).toNat ∧ 1 ≤ k ∧ k ≤ L_17.length + 1 ∧ Ext [] w0 w ∧ Ext ([]) w_130 w ∧ Live f [(14, .int .i64 k)]) ?_ ?_
                    · exact ⟨_, 1, rfl, by omega, by omega, E_138, (Ext.refl _ _), rfl, trivial⟩
                    ·
                      rintro m g_151 w_147 ⟨k, rfl, q0, q1, E_148, e_149, hl_150⟩
                      refine W_liveM hl_150 rfl ?_
                      have h_152 := Rep.ext _ h_139 e_149
                      have h_153 := Rep.ext _ h_140 e_149
                      have h_154 := h_141.ext e_149 nin0
                      refine W_seq ?_
                      refine W_seq ?_
                      refine W_region ?_
                      refine S_move rfl ?_
                      refine S_move rfl ?_
                      refine S_leq rfl rfl rfl ?_
                      refine WL_nil ?_
                      refine W_cond rfl (fun h_156 => ?_) (fun h_156 => ?_)
                      ·
                        have p_157 := h_156
                        try simp only [lrn] at p_157
                        refine W_skip ?_
                        refine W_seq ?_
                        refine W_block ?_
                        refine W_seq ?_
                        refine W_seq ?_
                        refine W_region ?_
                        refine S_move rfl ?_
                        refine S_move rfl ?_
                        refine S_move rfl ?_
                        have h_158 := Rep.mono (M' := M) _ h_152 (Ext.refl [] w_147) mem0 (fun x hx => .inl (by simp [hx]))
                        have hz_161 := reaches_ok h_158 (fun x hx => Nat.lt_of_lt_of_le (hM x hx) (E_148).size) hl (1 + (a.tmod (L_17.length : Int) + (L_17.length : Int)).tmod (L_17.length : Int)) k ha
                        refine S_callE Try.call19 rfl hz_161 rfl ?_
                        intro w_159 e_160
                        have E_162 := Ext.stepO E_148 e_160 mem0
                        have c_163 := Ext.stepO e_149 e_160 mem0
                        have h_164 := Rep.ext _ h_152 e_160
                        have h_165 := Rep.ext _ h_153 e_160
                        have h_166 := h_154.ext e_160 nin0
                        refine S_not rfl rfl ?_
                        refine S_move rfl ?_
                        refine WL_split (dj := 135) rfl (fun h_168 => ?_) (fun h_168 => ?_)
                        ·
                          have h_169 := h_168
                          simp only [lrnN] at h_169
                          have p_170 := h_169
                          try simp only [lrn] at p_170
                          refine WL_off rfl rfl rfl (nF h_169) ?_
                          refine WL_off rfl rfl rfl (nF h_169) ?_
                          refine WL_off rfl rfl rfl (nF h_169) ?_
                          refine WL_off rfl rfl rfl (nF h_169) ?_
                          refine WL_off rfl rfl rfl (nF h_169) ?_
                          refine S_pick_t (nF h_169) rfl ?_
                          refine WL_nil ?_
                          refine W_cond_true rfl ?_
                          refine W_exit ?_
                          refine W_region ?_
                          refine S_move rfl ?_
                          refine S_add rfl rfl (by omega) rfl ?_
                          refine S_assign rfl ?_
                          refine WL_nil ?_
                          refine ⟨by repeat (first | refine agree_upd rfl ?_ | exact agree_mix rfl agree_refl | refine agree_mix rfl ?_), ?_⟩
                          exact ⟨_, by omega, k + 1, rfl, by omega, by omega, E_162, c_163, rfl, trivial⟩
                        ·
                          have h_171 := h_168
                          simp only [lrnN] at h_171
                          have p_172 := h_171
                          try simp only [lrn] at p_172
                          refine WL_on rfl rfl (nT h_171) ?_
                          refine S_move rfl ?_
                          refine WL_on rfl rfl (nT h_171) ?_
                          refine S_move rfl ?_
                          refine WL_on rfl rfl (nT h_171) ?_
                          refine S_move rfl ?_
                          refine WL_on rfl rfl (nT h_171) ?_
                          have h_173 := Rep.mono (M' := M) _ h_164 (Ext.refl [] w_159) mem0 (fun x hx => .inl (by simp [hx]))
                          have hz_176 := reaches_ok h_173 (fun x hx => Nat.lt_of_lt_of_le (hM x hx) (E_162).size) hl (1 + (c.tmod (L_17.length : Int) + (L_17.length : Int)).tmod (L_17.length : Int)) k hc
                          refine S_callE Try.call19 rfl hz_176 rfl ?_
                          intro w_174 e_175
                          have E_177 := Ext.stepO E_162 e_175 mem0
                          have c_178 := Ext.stepO c_163 e_175 mem0
                          have h_179 := Rep.ext _ h_164 e_175
                          have h_180 := Rep.ext _ h_165 e_175
                          have h_181 := h_166.ext e_175 nin0
                          refine WL_on rfl rfl (nT h_171) ?_
                          refine S_not rfl rfl ?_
                          refine S_pick_f (nT h_171) rfl ?_
                          refine WL_nil ?_
                          refine W_cond rfl (fun h_183 => ?_) (fun h_183 => ?_)
                          ·
                            have h_184 := h_183
                            simp only [lrnN] at h_184
                            have p_185 := h_184
                            try simp only [lrn] at p_185
                            refine W_exit ?_
                            refine W_region ?_
                            refine S_move rfl ?_
                            refine S_add rfl rfl (by omega) rfl ?_
                            refine S_assign rfl ?_
                            refine WL_nil ?_
                            refine ⟨by repeat (first | refine agree_upd rfl ?_ | exact agree_mix rfl agree_refl | refine agree_mix rfl ?_), ?_⟩
                            exact ⟨_, by omega, k + 1, rfl, by omega, by omega, E_177, c_178, rfl, trivial⟩
                          ·
                            have h_186 := h_183
                            simp only [lrnN] at h_186
                            have p_187 := h_186
                            try simp only [lrn] at p_187
                            refine W_skip ?_
                            refine W_seq ?_
                            refine W_region ?_
                            refine S_assign rfl ?_
                            refine WL_nil ?_
                            refine W_seq ?_
                            refine W_seq ?_
                            refine W_region ?_
                            refine S_move rfl ?_
                            refine S_len Try.runUnderlying26 rfl rfl ?_
                            refine S_move rfl ?_
                            refine WL_nil ?_
                            refine W_block ?_
                            refine W_loopF [15, 17, 144, 145, 146, 147, 148, 149, 150, 151, 152, 153, 154, 155] (fun m f w => ∃ (j : Int) (p : Bool), m = (L_118.length - j).toNat ∧ 0 ≤ j ∧ p = decide (Cov L_17 L_118 k j) ∧ Ext [] w0 w ∧ Ext ([]) w_174 w ∧ Live f [(144, .int .i64 j), (15, .bool p)]) ?_ ?_
                            · exact ⟨_, 0, _, rfl, by omega, cov0, E_177, (Ext.refl _ _), rfl, rfl, trivial⟩
                            ·
                              rintro m g_193 w_189 ⟨j, p, rfl, s0, s1, E_190, e_191, hl_192⟩
                              refine W_liveM hl_192 rfl ?_
                              have c_194 := Ext.stepO c_178 e_191 mem0
                              have h_195 := Rep.ext _ h_179 e_191
                              have h_196 := Rep.ext _ h_180 e_191
                              have h_197 := h_181.ext e_191 nin0
                              refine W_seq ?_
                              refine W_region ?_
                              refine S_lss rfl rfl rfl ?_
                              refine WL_nil ?_
                              refine W_seq ?_
                              refine W_cond rfl (fun h_199 => ?_) (fun h_199 => ?_)
                              ·
                                have p_200 := h_199
                                try simp only [lrn] at p_200
                                refine W_skip ?_
                                refine W_seq ?_
                                refine W_block ?_
                                refine W_seq ?_
                                refine W_region ?_
                                refine S_index Try.runUnderlying26 Try.sizeOf3 h_196 rfl (by omega) (by omega) rfl ?_
                                intro b_201 o_202 cs_203 hi_204 hc_205 hb_206 hr_207
                                refine S_loadI Try.isAgg3 rfl hc_205 hr_207 rfl ?_
                                rintro ⟨r_208, r_209⟩
                                refine S_assign rfl ?_
                                refine WL_nil ?_
                                refine W_region ?_
                                refine S_move rfl ?_
                                refine S_move rfl ?_
                                refine WL_split (dj := 149) rfl (fun h_210 => ?_) (fun h_210 => ?_)
                                ·
                                  have p_211 := h_210
                                  try simp only [lrn] at p_211
                                  refine WL_off rfl rfl rfl (bT h_210) ?_
                                  refine WL_off rfl rfl rfl (bT h_210) ?_
                                  refine WL_off rfl rfl rfl (bT h_210) ?_
                                  refine WL_off rfl rfl rfl (bT h_210) ?_
                                  refine S_pick_t (bT h_210) rfl ?_
                                  refine S_assign rfl ?_
                                  refine WL_nil ?_
                                  refine W_region ?_
                                  refine S_add rfl rfl (by omega) rfl ?_
                                  refine S_move rfl ?_
                                  refine WL_nil ?_
                                  refine ⟨by repeat (first | refine agree_upd rfl ?_ | exact agree_mix rfl agree_refl | refine agree_mix rfl ?_), ?_⟩
                                  exact ⟨_, by omega, j + 1, _, rfl, by omega, by first | exact cov_t s1 ‹_› s0 (by omega) | exact cov_f hr s1 ‹_› s0 (by omega), E_190, e_191, rfl, rfl, trivial⟩
                                ·
                                  have p_212 := h_210
                                  try simp only [lrn] at p_212
                                  refine WL_on rfl rfl (bF h_210) ?_
                                  refine S_move rfl ?_
                                  refine WL_on rfl rfl (bF h_210) ?_
                                  refine S_move rfl ?_
                                  refine WL_on rfl rfl (bF h_210) ?_
                                  refine S_move rfl ?_
                                  refine WL_on rfl rfl (bF h_210) ?_
                                  have h_213 := Rep.mono (M' := M) _ h_195 (Ext.refl [] w_189) mem0 (fun x hx => .inl (by simp [hx]))
                                  have hz_216 := reaches_ok h_213 (fun x hx => Nat.lt_of_lt_of_le (hM x hx) (E_190).size) hl L_118[j.toNat] k (by unfold InI; omega)
                                  refine S_callE Try.call19 rfl hz_216 rfl ?_
                                  intro w_214 e_215
                                  have E_217 := Ext.stepO E_190 e_215 mem0
                                  have c_218 := Ext.stepO c_194 e_215 mem0
                                  have c_219 := Ext.stepO e_191 e_215 mem0
                                  have h_220 := Rep.ext _ h_195 e_215
                                  have h_221 := Rep.ext _ h_196 e_215
                                  have h_222 := Rep.ext _ hr_207 e_215
                                  have h_223 := Cells.ext hc_205 e_215 nin0
                                  have h_224 := h_197.ext e_215 nin0
                                  refine S_pick_f (bF h_210) rfl ?_
                                  refine S_assign rfl ?_
                                  refine WL_nil ?_
                                  refine W_region ?_
                                  refine S_add rfl rfl (by omega) rfl ?_
                                  refine S_move rfl ?_
                                  refine WL_nil ?_
                                  refine ⟨by repeat (first | refine agree_upd rfl ?_ | exact agree_mix rfl agree_refl | refine agree_mix rfl ?_), ?_⟩
                                  exact ⟨_, by omega, j + 1, _, rfl, by omega, by first | exact cov_t s1 ‹_› s0 (by omega) | exact cov_f hr s1 ‹_› s0 (by omega), E_217, c_219, rfl, rfl, trivial⟩
                              ·
                                have p_226 := h_199
                                try simp only [lrn] at p_226
                                refine W_exit ?_
                                refine W_seq ?_
                                refine W_region ?_
                                refine S_move rfl ?_
                                refine S_not rfl rfl ?_
                                refine WL_nil ?_
                                refine W_cond rfl (fun h_227 => ?_) (fun h_227 => ?_)
                                ·
                                  have h_228 := h_227
                                  simp only [lrnN] at h_228
                                  have p_229 := h_228
                                  try simp only [lrn] at p_229
                                  refine W_seq ?_
                                  refine W_region ?_
                                  refine S_assign rfl ?_
                                  refine WL_nil ?_
                                  refine W_ret ?_
                                  exact (cov_all hr hp_122 s1 (by omega) (by assumption) (by assumption) (by assumption)).elim
                                ·
                                  have h_230 := h_227
                                  simp only [lrnN] at h_230
                                  have p_231 := h_230
                                  try simp only [lrn] at p_231
                                  refine W_skip ?_
                                  refine W_region ?_
                                  refine S_move rfl ?_
                                  refine S_add rfl rfl (by omega) rfl ?_
                                  refine S_assign rfl ?_
                                  refine WL_nil ?_
                                  refine ⟨by repeat (first | refine agree_upd rfl ?_ | exact agree_mix rfl agree_refl | refine agree_mix rfl ?_), ?_⟩
                                  exact ⟨_, by omega, k + 1, rfl, by omega, by omega, E_190, c_194, rfl, trivial⟩
                      ·
                        have p_232 := h_156
                        try simp only [lrn] at p_232
                        refine W_exit ?_
                        refine W_seq ?_
                        refine W_region ?_
                        refine S_callE Try.call10 rfl (alive_ok (M := M) (fun x hx => Nat.lt_of_lt_of_le (hM x hx) (E_148).size)) rfl ?_
                        intro w_233 e_234
                        have E_235 := Ext.stepO E_148 e_234 mem0
                        have h_236 := Rep.ext _ h_152 e_234
                        have h_237 := Rep.ext _ h_153 e_234
                        have h_238 := h_154.ext e_234 nin0
                        refine S_assign rfl ?_
                        refine WL_nil ?_
                        refine W_ret ?_
                        exact ⟨rfl, E_235⟩
                ·
                  have p_239 := h_76
                  try simp only [lrn] at p_239
                  refine WL_off rfl rfl rfl (bF h_76) ?_
                  refine WL_off rfl rfl rfl (bF h_76) ?_
                  refine WL_off rfl rfl rfl (bF h_76) ?_
                  refine WL_off rfl rfl rfl (bF h_76) ?_
                  refine WL_on rfl rfl (nT h_73) ?_
                  refine S_pick_f (bF h_76) rfl ?_
                  refine S_pick_f (nT h_73) rfl ?_
                  refine WL_nil ?_
                  refine W_cond_false rfl ?_
                  refine W_skip ?_
                  refine W_seq ?_
                  refine W_seq ?_
                  refine W_region ?_
                  refine WL_norm (L := [(1, .int .i64 (1 + (a.tmod (L_17.length : Int) + (L_17.length : Int)).tmod (L_17.length : Int))), (2, .int .i64 (1 + (b.tmod (L_17.length : Int) + (L_17.length : Int)).tmod (L_17.length : Int))), (3, .int .i64 (1 + (c.tmod (L_17.length : Int) + (L_17.length : Int)).tmod (L_17.length : Int))), (9, .slice A_18 L_17.length cap_19), (10, .int .i64 (L_17.length : Int)), (11, .bool true)]) ⟨rfl, rfl, rfl, rfl, rfl, rfl, trivial⟩ ?_
                  intro g_240
                  refine S_move rfl ?_
                  refine S_move rfl ?_
                  refine WL_on rfl rfl rfl ?_
                  refine S_move rfl ?_
                  refine WL_on rfl rfl rfl ?_
                  refine S_move rfl ?_
                  refine WL_on rfl rfl rfl ?_
                  refine S_move rfl ?_
                  refine WL_on rfl rfl rfl ?_
                  have hz_248 := common_ok h_67 (fun x hx => Nat.lt_of_lt_of_le (hM x hx) (E_66).size) hl (1 + (a.tmod (L_17.length : Int) + (L_17.length : Int)).tmod (L_17.length : Int)) (1 + (b.tmod (L_17.length : Int) + (L_17.length : Int)).tmod (L_17.length : Int)) ha hb
                  refine S_call Try.call12 rfl hz_248 rfl ?_
                  rintro _ w_241 ⟨L_243, A_244, cap_245, rfl, hr_246, hp_247, e_242⟩
                  have E_249 := Ext.stepO E_66 e_242 mem0
                  have h_250 := Rep.ext _ h_67 e_242
                  have hl_251 := rSlice_len hr_246
                  refine WL_on rfl rfl rfl ?_
                  refine S_move rfl ?_
                  refine WL_on rfl rfl rfl ?_
                  refine S_buildSlice Try.runUnderlying26 Try.sizeOf3 Try.zeroValue3 rfl rfl rfl rfl rfl rfl rfl ?_
                  intro b_252 w_253 e_254 z_255 z_256 ho_257
                  have hb_258 : w0.heap.size ≤ b_252 := by have := (E_249).size; omega
                  have E_259 := Ext.stepO E_249 e_254 mem0
                  have h_260 := Rep.mono (M' := b_252 :: M) _ h_250 e_254 mem0 (cons_fresh z_255)
                  have h_261 := Rep.mono (M' := b_252 :: M) _ hr_246 e_254 mem0 (cons_fresh z_255)
                  have ho_257 : Own _ _ _ [_] := ho_257
                  refine WL_on rfl rfl rfl ?_
                  have h_262 := Rep.mono (M' := M) _ h_261 (Ext.refl [] w_253) mem0 (fun x hx => .inl (by simp [hx]))
                  have hr_263 := rd_ints (xs := [(1 + (b.tmod (L_17.length : Int) + (L_17.length : Int)).tmod (L_17.length : Int))]) (M := M) ho_257 (notin_old hM hb_258) (by simp only [List.mem_singleton]; rintro _ rfl; assumption) (by simp)
                  have he_264 : L_243 = [(1 + (b.tmod (L_17.length : Int) + (L_17.length : Int)).tmod (L_17.length : Int))] := (fun h => nearL_unique h (near_reach (by assumption))) hp_247
                  have hz_265 := (ints_ok h_262 hr_263).mono (R' := fun v w' => v = .bool true ∧ w' = w_253) (fun _ _ h => ⟨h.1.trans (congrArg Value.bool (decide_eq_true he_264)), h.2⟩)
                  refine S_callQ Try.call11 rfl hz_265 rfl ?_
                  refine WL_on rfl rfl rfl ?_
                  refine S_not rfl rfl ?_
                  refine S_pick_t rfl rfl ?_
                  refine WL_nil ?_
                  refine W_cond_false rfl ?_
                  refine W_skip ?_
                  refine W_seq ?_
                  refine W_region ?_
                  refine WL_norm (L := [(1, .int .i64 (1 + (a.tmod (L_17.length : Int) + (L_17.length : Int)).tmod (L_17.length : Int))), (2, .int .i64 (1 + (b.tmod (L_17.length : Int) + (L_17.length : Int)).tmod (L_17.length : Int))), (3, .int .i64 (1 + (c.tmod (L_17.length : Int) + (L_17.length : Int)).tmod (L_17.length : Int))), (9, .slice A_18 L_17.length cap_19), (10, .int .i64 (L_17.length : Int))]) ⟨rfl, rfl, rfl, rfl, rfl, trivial⟩ ?_
                  intro g_267
                  refine S_move rfl ?_
                  refine S_move rfl ?_
                  refine S_move rfl ?_
                  have h_268 := Rep.mono (M' := M) _ h_260 (Ext.refl [] w_253) mem0 (fun x hx => .inl (by simp [hx]))
                  have hz_276 := common_ok h_268 (fun x hx => Nat.lt_of_lt_of_le (hM x hx) (E_259).size) hl (1 + (a.tmod (L_17.length : Int) + (L_17.length : Int)).tmod (L_17.length : Int)) (1 + (c.tmod (L_17.length : Int) + (L_17.length : Int)).tmod (L_17.length : Int)) ha hc
                  refine S_call Try.call12 rfl hz_276 rfl ?_
                  rintro _ w_269 ⟨L_271, A_272, cap_273, rfl, hr_274, hp_275, e_270⟩
                  have E_277 := Ext.stepO E_259 e_270 mem0
                  have h_278 := Rep.ext _ h_260 e_270
                  have h_279 := ho_257.ext e_270 nin0
                  have hl_280 := rSlice_len hr_274
                  refine S_assign rfl ?_
                  refine WL_nil ?_
                  refine W_seq ?_
                  refine W_seq ?_
                  refine W_region ?_
                  refine WL_norm (L := [(1, .int .i64 (1 + (a.tmod (L_17.length : Int) + (L_17.length : Int)).tmod (L_17.length : Int))), (2, .int .i64 (1 + (b.tmod (L_17.length : Int) + (L_17.length : Int)).tmod (L_17.length : Int))), (3, .int .i64 (1 + (c.tmod (L_17.length : Int) + (L_17.length : Int)).tmod (L_17.length : Int))), (9, .slice A_18 L_17.length cap_19), (10, .int .i64 (L_17.length : Int)), (13, .slice A_272 L_271.length cap_273)]) ⟨rfl, rfl, rfl, rfl, rfl, rfl, trivial⟩ ?_
                  intro g_281
                  skip
                  refine S_move rfl ?_
                  refine S_move rfl ?_
                  refine S_move rfl ?_
                  refine S_move rfl ?_
                  have h_282 := Rep.mono (M' := M) _ h_278 (Ext.refl [] w_269) mem0 (fun x hx => .inl (by simp [hx]))
                  have hz_290 := common_ok h_282 (fun x hx => Nat.lt_of_lt_of_le (hM x hx) (E_277).size) hl (1 + (c.tmod (L_17.length : Int) + (L_17.length : Int)).tmod (L_17.length : Int)) (1 + (a.tmod (L_17.length : Int) + (L_17.length : Int)).tmod (L_17.length : Int)) hc ha
                  refine S_call Try.call12 rfl hz_290 rfl ?_
                  rintro _ w_283 ⟨L_285, A_286, cap_287, rfl, hr_288, hp_289, e_284⟩
                  have E_291 := Ext.stepO E_277 e_284 mem0
                  have h_292 := Rep.ext _ h_278 e_284
                  have h_293 := Rep.ext _ hr_274 e_284
                  have h_294 := h_279.ext e_284 nin0
                  have hl_295 := rSlice_len hr_288
                  have he_296 : L_271 = L_285 := (fun h k => nearL_unique h (nearL_comm k)) hp_275 hp_289
                  have hz_297 := (ints_ok h_293 hr_288).mono (R' := fun v w' => v = .bool true ∧ w' = w_283) (fun _ _ h => ⟨h.1.trans (congrArg Value.bool (decide_eq_true he_296)), h.2⟩)
                  refine S_callQ Try.call11 rfl hz_297 rfl ?_
                  refine S_not rfl rfl ?_
                  refine WL_nil ?_
                  refine W_cond_false rfl ?_
                  refine W_skip ?_
                  refine W_seq ?_
                  refine W_seq ?_
                  refine W_region ?_
                  refine WL_norm (L := [(1, .int .i64 (1 + (a.tmod (L_17.length : Int) + (L_17.length : Int)).tmod (L_17.length : Int))), (3, .int .i64 (1 + (c.tmod (L_17.length : Int) + (L_17.length : Int)).tmod (L_17.length : Int))), (9, .slice A_18 L_17.length cap_19), (10, .int .i64 (L_17.length : Int)), (13, .slice A_272 L_271.length cap_273)]) ⟨rfl, rfl, rfl, rfl, rfl, trivial⟩ ?_
                  intro g_299
                  refine S_assign rfl ?_
                  refine WL_nil ?_
                  refine W_block ?_
                  refine W_loopF [8, 14, 15, 17, 125, 126, 127, 128, 129, 130, 131, 132, 133, 134, 135, 136, 137, 138, 139, 140, 141, 142, 143, 144, 145, 146, 147, 148, 149, 150, 151, 152, 153, 154, 155, 156, 157] (fun m f w => ∃ k : Int, m = (L_17.length + 1 - k).toNat ∧ 1 ≤ k ∧ k ≤ L_17.length + 1 ∧ Ext [] w0 w ∧ Ext ([]) w_283 w ∧ Live f [(14, .int .i64 k)]) ?_ ?_
                  · exact ⟨_, 1, rfl, by omega, by omega, E_291, (Ext.refl _ _), rfl, trivial⟩
                  ·
                    rintro m g_304 w_300 ⟨k, rfl, q0, q1, E_301, e_302, hl_303⟩
                    refine W_liveM hl_303 rfl ?_
                    have h_305 := Rep.ext _ h_292 e_302
                    have h_306 := Rep.ext _ h_293 e_302
                    have h_307 := h_294.ext e_302 nin0
                    refine W_seq ?_
                    refine W_seq ?_
                    refine W_region ?_
                    refine S_move rfl ?_
                    refine S_move rfl ?_
                    refine S_leq rfl rfl rfl ?_
                    refine WL_nil ?_
                    refine W_cond rfl (fun h_309 => ?_) (fun h_309 => ?_)
                    ·
                      have p_310 := h_309
                      try simp only [lrn] at p_310
                      refine W_skip ?_
                      refine W_seq ?_
                      refine W_block ?_
                      refine W_seq ?_
                      refine W_seq ?_
                      refine W_region ?_
                      refine S_move rfl ?_
                      refine S_move rfl ?_
                      refine S_move rfl ?_
                      have h_311 := Rep.mono (M' := M) _ h_305 (Ext.refl [] w_300) mem0 (fun x hx => .inl (by simp [hx]))
                      have hz_314 := reaches_ok h_311 (fun x hx => Nat.lt_of_lt_of_le (hM x hx) (E_301).size) hl (1 + (a.tmod (L_17.length : Int) + (L_17.length : Int)).tmod (L_17.length : Int)) k ha
                      refine S_callE Try.call19 rfl hz_314 rfl ?_
                      intro w_312 e_313
                      have E_315 := Ext.stepO E_301 e_313 mem0
                      have c_316 := Ext.stepO e_302 e_313 mem0
                      have h_317 := Rep.ext _ h_305 e_313
                      have h_318 := Rep.ext _ h_306 e_313
                      have h_319 := h_307.ext e_313 nin0
                      refine S_not rfl rfl ?_
                      refine S_move rfl ?_
                      refine WL_split (dj := 135) rfl (fun h_321 => ?_) (fun h_321 => ?_)
                      ·
                        have h_322 := h_321
                        simp only [lrnN] at h_322
                        have p_323 := h_322
                        try simp only [lrn] at p_323
                        refine WL_off rfl rfl rfl (nF h_322) ?_
                        refine WL_off rfl rfl rfl (nF h_322) ?_
                        refine WL_off rfl rfl rfl (nF h_322) ?_
                        refine WL_off rfl rfl rfl (nF h_322) ?_
                        refine WL_off rfl rfl rfl (nF h_322) ?_
                        refine S_pick_t (nF h_322) rfl ?_
                        refine WL_nil ?_
                        refine W_cond_true rfl ?_
                        refine W_exit ?_
                        refine W_region ?_
                        refine S_move rfl ?_
                        refine S_add rfl rfl (by omega) rfl ?_
                        refine S_assign rfl ?_
                        refine WL_nil ?_
                        refine ⟨by repeat (first | refine agree_upd rfl ?_ | exact agree_mix rfl agree_refl | refine agree_mix rfl ?_), ?_⟩
                        exact ⟨_, by omega, k + 1, rfl, by omega, by omega, E_315, c_316, rfl, trivial⟩
                      ·
                        have h_324 := h_321
                        simp only [lrnN] at h_324
                        have p_325 := h_324
                        try simp only [lrn] at p_325
                        refine WL_on rfl rfl (nT h_324) ?_
                        refine S_move rfl ?_
                        refine WL_on rfl rfl (nT h_324) ?_
                        refine S_move rfl ?_
                        refine WL_on rfl rfl (nT h_324) ?_
                        refine S_move rfl ?_
                        refine WL_on rfl rfl (nT h_324) ?_
                        have h_326 := Rep.mono (M' := M) _ h_317 (Ext.refl [] w_312) mem0 (fun x hx => .inl (by simp [hx]))
                        have hz_329 := reaches_ok h_326 (fun x hx => Nat.lt_of_lt_of_le (hM x hx) (E_315).size) hl (1 + (c.tmod (L_17.length : Int) + (L_17.length : Int)).tmod (L_17.length : Int)) k hc
                        refine S_callE Try.call19 rfl hz_329 rfl ?_
                        intro w_327 e_328
                        have E_330 := Ext.stepO E_315 e_328 mem0
                        have c_331 := Ext.stepO c_316 e_328 mem0
                        have h_332 := Rep.ext _ h_317 e_328
                        have h_333 := Rep.ext _ h_318 e_328
                        have h_334 := h_319.ext e_328 nin0
                        refine WL_on rfl rfl (nT h_324) ?_
                        refine S_not rfl rfl ?_
                        refine S_pick_f (nT h_324) rfl ?_
                        refine WL_nil ?_
                        refine W_cond rfl (fun h_336 => ?_) (fun h_336 => ?_)
                        ·
                          have h_337 := h_336
                          simp only [lrnN] at h_337
                          have p_338 := h_337
                          try simp only [lrn] at p_338
                          refine W_exit ?_
                          refine W_region ?_
                          refine S_move rfl ?_
                          refine S_add rfl rfl (by omega) rfl ?_
                          refine S_assign rfl ?_
                          refine WL_nil ?_
                          refine ⟨by repeat (first | refine agree_upd rfl ?_ | exact agree_mix rfl agree_refl | refine agree_mix rfl ?_), ?_⟩
                          exact ⟨_, by omega, k + 1, rfl, by omega, by omega, E_330, c_331, rfl, trivial⟩
                        ·
                          have h_339 := h_336
                          simp only [lrnN] at h_339
                          have p_340 := h_339
                          try simp only [lrn] at p_340
                          refine W_skip ?_
                          refine W_seq ?_
                          refine W_region ?_
                          refine S_assign rfl ?_
                          refine WL_nil ?_
                          refine W_seq ?_
                          refine W_seq ?_
                          refine W_region ?_
                          refine S_move rfl ?_
                          refine S_len Try.runUnderlying26 rfl rfl ?_
                          refine S_move rfl ?_
                          refine WL_nil ?_
                          refine W_block ?_
                          refine W_loopF [15, 17, 144, 145, 146, 147, 148, 149, 150, 151, 152, 153, 154, 155] (fun m f w => ∃ (j : Int) (p : Bool), m = (L_271.length - j).toNat ∧ 0 ≤ j ∧ p = decide (Cov L_17 L_271 k j) ∧ Ext [] w0 w ∧ Ext ([]) w_327 w ∧ Live f [(144, .int .i64 j), (15, .bool p)]) ?_ ?_
                          · exact ⟨_, 0, _, rfl, by omega, cov0, E_330, (Ext.refl _ _), rfl, rfl, trivial⟩
                          ·
                            rintro m g_346 w_342 ⟨j, p, rfl, s0, s1, E_343, e_344, hl_345⟩
                            refine W_liveM hl_345 rfl ?_
                            have c_347 := Ext.stepO c_331 e_344 mem0
                            have h_348 := Rep.ext _ h_332 e_344
                            have h_349 := Rep.ext _ h_333 e_344
                            have h_350 := h_334.ext e_344 nin0
                            refine W_seq ?_
                            refine W_region ?_
                            refine S_lss rfl rfl rfl ?_
                            refine WL_nil ?_
                            refine W_seq ?_
                            refine W_cond rfl (fun h_352 => ?_) (fun h_352 => ?_)
                            ·
                              have p_353 := h_352
                              try simp only [lrn] at p_353
                              refine W_skip ?_
                              refine W_seq ?_
                              refine W_block ?_
                              refine W_seq ?_
                              refine W_region ?_
                              refine S_index Try.runUnderlying26 Try.sizeOf3 h_349 rfl (by omega) (by omega) rfl ?_
                              intro b_354 o_355 cs_356 hi_357 hc_358 hb_359 hr_360
                              refine S_loadI Try.isAgg3 rfl hc_358 hr_360 rfl ?_
                              rintro ⟨r_361, r_362⟩
                              refine S_assign rfl ?_
                              refine WL_nil ?_
                              refine W_region ?_
                              refine S_move rfl ?_
                              refine S_move rfl ?_
                              refine WL_split (dj := 149) rfl (fun h_363 => ?_) (fun h_363 => ?_)
                              ·
                                have p_364 := h_363
                                try simp only [lrn] at p_364
                                refine WL_off rfl rfl rfl (bT h_363) ?_
                                refine WL_off rfl rfl rfl (bT h_363) ?_
                                refine WL_off rfl rfl rfl (bT h_363) ?_
                                refine WL_off rfl rfl rfl (bT h_363) ?_
                                refine S_pick_t (bT h_363) rfl ?_
                                refine S_assign rfl ?_
                                refine WL_nil ?_
                                refine W_region ?_
                                refine S_add rfl rfl (by omega) rfl ?_
                                refine S_move rfl ?_
                                refine WL_nil ?_
                                refine ⟨by repeat (first | refine agree_upd rfl ?_ | exact agree_mix rfl agree_refl | refine agree_mix rfl ?_), ?_⟩
                                exact ⟨_, by omega, j + 1, _, rfl, by omega, by first | exact cov_t s1 ‹_› s0 (by omega) | exact cov_f hr s1 ‹_› s0 (by omega), E_343, e_344, rfl, rfl, trivial⟩
                              ·
                                have p_365 := h_363
                                try simp only [lrn] at p_365
                                refine WL_on rfl rfl (bF h_363) ?_
                                refine S_move rfl ?_
                                refine WL_on rfl rfl (bF h_363) ?_
                                refine S_move rfl ?_
                                refine WL_on rfl rfl (bF h_363) ?_
                                refine S_move rfl ?_
                                refine WL_on rfl rfl (bF h_363) ?_
                                have h_366 := Rep.mono (M' := M) _ h_348 (Ext.refl [] w_342) mem0 (fun x hx => .inl (by simp [hx]))
                                have hz_369 := reaches_ok h_366 (fun x hx => Nat.lt_of_lt_of_le (hM x hx) (E_343).size) hl L_271[j.toNat] k (by unfold InI; omega)
                                refine S_callE Try.call19 rfl hz_369 rfl ?_
                                intro w_367 e_368
                                have E_370 := Ext.stepO E_343 e_368 mem0
                                have c_371 := Ext.stepO c_347 e_368 mem0
                                have c_372 := Ext.stepO e_344 e_368 mem0
                                have h_373 := Rep.ext _ h_348 e_368
                                have h_374 := Rep.ext _ h_349 e_368
                                have h_375 := Rep.ext _ hr_360 e_368
                                have h_376 := Cells.ext hc_358 e_368 nin0
                                have h_377 := h_350.ext e_368 nin0
                                refine S_pick_f (bF h_363) rfl ?_
                                refine S_assign rfl ?_
                                refine WL_nil ?_
                                refine W_region ?_
                                refine S_add rfl rfl (by omega) rfl ?_
                                refine S_move rfl ?_
                                refine WL_nil ?_
                                refine ⟨by repeat (first | refine agree_upd rfl ?_ | exact agree_mix rfl agree_refl | refine agree_mix rfl ?_), ?_⟩
                                exact ⟨_, by omega, j + 1, _, rfl, by omega, by first | exact cov_t s1 ‹_› s0 (by omega) | exact cov_f hr s1 ‹_› s0 (by omega), E_370, c_372, rfl, rfl, trivial⟩
                            ·
                              have p_379 := h_352
                              try simp only [lrn] at p_379
                              refine W_exit ?_
                              refine W_seq ?_
                              refine W_region ?_
                              refine S_move rfl ?_
                              refine S_not rfl rfl ?_
                              refine WL_nil ?_
                              refine W_cond rfl (fun h_380 => ?_) (fun h_380 => ?_)
                              ·
                                have h_381 := h_380
                                simp only [lrnN] at h_381
                                have p_382 := h_381
                                try simp only [lrn] at p_382
                                refine W_seq ?_
                                refine W_region ?_
                                refine S_assign rfl ?_
                                refine WL_nil ?_
                                refine W_ret ?_
                                exact (cov_all hr hp_275 s1 (by omega) (by assumption) (by assumption) (by assumption)).elim
                              ·
                                have h_383 := h_380
                                simp only [lrnN] at h_383
                                have p_384 := h_383
                                try simp only [lrn] at p_384
                                refine W_skip ?_
                                refine W_region ?_
                                refine S_move rfl ?_
                                refine S_add rfl rfl (by omega) rfl ?_
                                refine S_assign rfl ?_
                                refine WL_nil ?_
                                refine ⟨by repeat (first | refine agree_upd rfl ?_ | exact agree_mix rfl agree_refl | refine agree_mix rfl ?_), ?_⟩
                                exact ⟨_, by omega, k + 1, rfl, by omega, by omega, E_343, c_347, rfl, trivial⟩
                    ·
                      have p_385 := h_309
                      try simp only [lrn] at p_385
                      refine W_exit ?_
                      refine W_seq ?_
                      refine W_region ?_
                      refine S_callE Try.call10 rfl (alive_ok (M := M) (fun x hx => Nat.lt_of_lt_of_le (hM x hx) (E_301).size)) rfl ?_
                      intro w_386 e_387
                      have E_388 := Ext.stepO E_301 e_387 mem0
                      have h_389 := Rep.ext _ h_305 e_387
                      have h_390 := Rep.ext _ h_306 e_387
                      have h_391 := h_307.ext e_387 nin0
                      refine S_assign rfl ?_
                      refine WL_nil ?_
                      refine W_ret ?_
                      exact ⟨rfl, E_388⟩
            ·
              have p_392 := h_61
              try simp only [lrn] at p_392
              refine WL_off rfl rfl rfl (bF h_61) ?_
              refine WL_off rfl rfl rfl (bF h_61) ?_
              refine WL_off rfl rfl rfl (bF h_61) ?_
              refine WL_off rfl rfl rfl (bF h_61) ?_
              refine WL_off rfl rfl rfl (bF h_61) ?_
              refine WL_on rfl rfl rfl ?_
              refine S_pick_f (bF h_61) rfl ?_
              refine S_pick_f rfl rfl ?_
              refine S_move rfl ?_
              refine WL_norm (L := [(1, .int .i64 (1 + (a.tmod (L_17.length : Int) + (L_17.length : Int)).tmod (L_17.length : Int))), (2, .int .i64 (1 + (b.tmod (L_17.length : Int) + (L_17.length : Int)).tmod (L_17.length : Int))), (3, .int .i64 (1 + (c.tmod (L_17.length : Int) + (L_17.length : Int)).tmod (L_17.length : Int))), (9, .slice A_18 L_17.length cap_19), (10, .int .i64 (L_17.length : Int)), (11, .bool true), (12, .bool false), (89, .bool false)]) ⟨rfl, rfl, rfl, rfl, rfl, rfl, (bF h_61), rfl, trivial⟩ ?_
              intro g_393
              refine WL_on rfl rfl rfl ?_
              refine S_move rfl ?_
              refine WL_on rfl rfl rfl ?_
              refine S_move rfl ?_
              refine WL_on rfl rfl rfl ?_
              refine S_move rfl ?_
              refine WL_on rfl rfl rfl ?_
              refine S_move rfl ?_
              refine WL_on rfl rfl rfl ?_
              refine S_neq rfl rfl rfl ?_
              refine WL_on rfl rfl rfl ?_
              refine S_pick_t rfl rfl ?_
              refine WL_on rfl rfl rfl ?_
              refine S_move rfl ?_
              refine WL_split (dj := 96) rfl (fun h_395 => ?_) (fun h_395 => ?_)
              ·
                have p_396 := h_395
                try simp only [lrn] at p_396
                refine WL_on rfl rfl (bT h_395) ?_
                refine S_move rfl ?_
                refine WL_on rfl rfl (bT h_395) ?_
                refine S_move rfl ?_
                refine WL_on rfl rfl (bT h_395) ?_
                refine S_move rfl ?_
                refine WL_on rfl rfl (bT h_395) ?_
                have hz_399 := reaches_ok h_43 (fun x hx => Nat.lt_of_lt_of_le (hM x hx) (E_42).size) hl (1 + (b.tmod (L_17.length : Int) + (L_17.length : Int)).tmod (L_17.length : Int)) (1 + (a.tmod (L_17.length : Int) + (L_17.length : Int)).tmod (L_17.length : Int)) hb
                refine S_callE Try.call19 rfl hz_399 rfl ?_
                intro w_397 e_398
                have E_400 := Ext.stepO E_42 e_398 mem0
                have h_401 := Rep.ext _ h_43 e_398
                refine WL_on rfl rfl rfl ?_
                refine S_pick_t (bT h_395) rfl ?_
                refine S_pick_f rfl rfl ?_
                refine WL_nil ?_
                refine W_cond rfl (fun h_403 => ?_) (fun h_403 => ?_)
                ·
                  have p_404 := h_403
                  try simp only [lrn] at p_404
                  refine W_seq ?_
                  refine W_region ?_
                  refine S_assign rfl ?_
                  refine WL_nil ?_
                  refine W_ret ?_
                  first | exact (ord1 hr ta (by assumption)).elim | exact (ord2 (l := L_17) (a := (1 + (a.tmod (L_17.length : Int) + (L_17.length : Int)).tmod (L_17.length : Int))) (b := (1 + (b.tmod (L_17.length : Int) + (L_17.length : Int)).tmod (L_17.length : Int))) (by assumption) (by assumption)).elim | exact (ord3 (l := L_17) (a := (1 + (a.tmod (L_17.length : Int) + (L_17.length : Int)).tmod (L_17.length : Int))) (b := (1 + (b.tmod (L_17.length : Int) + (L_17.length : Int)).tmod (L_17.length : Int))) (c := (1 + (c.tmod (L_17.length : Int) + (L_17.length : Int)).tmod (L_17.length : Int))) (by assumption) (by assumption) (by assumption)).elim | exact (ord4 (l := L_17) (a := (1 + (a.tmod (L_17.length : Int) + (L_17.length : Int)).tmod (L_17.length : Int))) (b := (1 + (b.tmod (L_17.length : Int) + (L_17.length : Int)).tmod (L_17.length : Int))) (by assumption) (by assumption) (by assumption)).elim
                ·
                  have p_405 := h_403
                  try simp only [lrn] at p_405
                  refine W_skip ?_
                  refine W_seq ?_
                  refine W_seq ?_
                  refine W_region ?_
                  refine WL_norm (L := [(1, .int .i64 (1 + (a.tmod (L_17.length : Int) + (L_17.length : Int)).tmod (L_17.length : Int))), (2, .int .i64 (1 + (b.tmod (L_17.length : Int) + (L_17.length : Int)).tmod (L_17.length : Int))), (3, .int .i64 (1 + (c.tmod (L_17.length : Int) + (L_17.length : Int)).tmod (L_17.length : Int))), (9, .slice A_18 L_17.length cap_19), (10, .int .i64 (L_17.length : Int)), (11, .bool true)]) ⟨rfl, rfl, rfl, rfl, rfl, rfl, trivial⟩ ?_
                  intro g_406
                  refine S_move rfl ?_
                  refine S_move rfl ?_
                  refine WL_on rfl rfl rfl ?_
                  refine S_move rfl ?_
                  refine WL_on rfl rfl rfl ?_
                  refine S_move rfl ?_
                  refine WL_on rfl rfl rfl ?_
                  refine S_move rfl ?_
                  refine WL_on rfl rfl rfl ?_
                  have hz_414 := common_ok h_401 (fun x hx => Nat.lt_of_lt_of_le (hM x hx) (E_400).size) hl (1 + (a.tmod (L_17.length : Int) + (L_17.length : Int)).tmod (L_17.length : Int)) (1 + (b.tmod (L_17.length : Int) + (L_17.length : Int)).tmod (L_17.length : Int)) ha hb
                  refine S_call Try.call12 rfl hz_414 rfl ?_
                  rintro _ w_407 ⟨L_409, A_410, cap_411, rfl, hr_412, hp_413, e_408⟩
                  have E_415 := Ext.stepO E_400 e_408 mem0
                  have h_416 := Rep.ext _ h_401 e_408
                  have hl_417 := rSlice_len hr_412
                  refine WL_on rfl rfl rfl ?_
                  refine S_move rfl ?_
                  refine WL_on rfl rfl rfl ?_
                  refine S_buildSlice Try.runUnderlying26 Try.sizeOf3 Try.zeroValue3 rfl rfl rfl rfl rfl rfl rfl ?_
                  intro b_418 w_419 e_420 z_421 z_422 ho_423
                  have hb_424 : w0.heap.size ≤ b_418 := by have := (E_415).size; omega
                  have E_425 := Ext.stepO E_415 e_420 mem0
                  have h_426 := Rep.mono (M' := b_418 :: M) _ h_416 e_420 mem0 (cons_fresh z_421)
                  have h_427 := Rep.mono (M' := b_418 :: M) _ hr_412 e_420 mem0 (cons_fresh z_421)
                  have ho_423 : Own _ _ _ [_] := ho_423
                  refine WL_on rfl rfl rfl ?_
                  have h_428 := Rep.mono (M' := M) _ h_427 (Ext.refl [] w_419) mem0 (fun x hx => .inl (by simp [hx]))
                  have hr_429 := rd_ints (xs := [(1 + (b.tmod (L_17.length : Int) + (L_17.length : Int)).tmod (L_17.length : Int))]) (M := M) ho_423 (notin_old hM hb_424) (by simp only [List.mem_singleton]; rintro _ rfl; assumption) (by simp)
                  have he_430 : L_409 = [(1 + (b.tmod (L_17.length : Int) + (L_17.length : Int)).tmod (L_17.length : Int))] := (fun h => nearL_unique h (near_reach (by assumption))) hp_413
                  have hz_431 := (ints_ok h_428 hr_429).mono (R' := fun v w' => v = .bool true ∧ w' = w_419) (fun _ _ h => ⟨h.1.trans (congrArg Value.bool (decide_eq_true he_430)), h.2⟩)
                  refine S_callQ Try.call11 rfl hz_431 rfl ?_
                  refine WL_on rfl rfl rfl ?_
                  refine S_not rfl rfl ?_
                  refine S_pick_t rfl rfl ?_
                  refine WL_nil ?_
                  refine W_cond_false rfl ?_
                  refine W_skip ?_
                  refine W_seq ?_
                  refine W_region ?_
                  refine WL_norm (L := [(1, .int .i64 (1 + (a.tmod (L_17.length : Int) + (L_17.length : Int)).tmod (L_17.length : Int))), (2, .int .i64 (1 + (b.tmod (L_17.length : Int) + (L_17.length : Int)).tmod (L_17.length : Int))), (3, .int .i64 (1 + (c.tmod (L_17.length : Int) + (L_17.length : Int)).tmod (L_17.length : Int))), (9, .slice A_18 L_17.length cap_19), (10, .int .i64 (L_17.length : Int))]) ⟨rfl, rfl, rfl, rfl, rfl, trivial⟩ ?_
                  intro g_433
                  refine S_move rfl ?_
                  refine S_move rfl ?_
                  refine S_move rfl ?_
                  have h_434 := Rep.mono (M' := M) _ h_426 (Ext.refl [] w_419) mem0 (fun x hx => .inl (by simp [hx]))
                  have hz_442 := common_ok h_434 (fun x hx => Nat.lt_of_lt_of_le (hM x hx) (E_425).size) hl (1 + (a.tmod (L_17.length : Int) + (L_17.length : Int)).tmod (L_17.length : Int)) (1 + (c.tmod (L_17.length : Int) + (L_17.length : Int)).tmod (L_17.length : Int)) ha hc
                  refine S_call Try.call12 rfl hz_442 rfl ?_
                  rintro _ w_435 ⟨L_437, A_438, cap_439, rfl, hr_440, hp_441, e_436⟩
                  have E_443 := Ext.stepO E_425 e_436 mem0
                  have h_444 := Rep.ext _ h_426 e_436
                  have h_445 := ho_423.ext e_436 nin0
                  have hl_446 := rSlice_len hr_440
                  refine S_assign rfl ?_
                  refine WL_nil ?_
                  refine W_seq ?_
                  refine W_seq ?_
                  refine W_region ?_
                  refine WL_norm (L := [(1, .int .i64 (1 + (a.tmod (L_17.length : Int) + (L_17.length : Int)).tmod (L_17.length : Int))), (2, .int .i64 (1 + (b.tmod (L_17.length : Int) + (L_17.length : Int)).tmod (L_17.length : Int))), (3, .int .i64 (1 + (c.tmod (L_17.length : Int) + (L_17.length : Int)).tmod (L_17.length : Int))), (9, .slice A_18 L_17.length cap_19), (10, .int .i64 (L_17.length : Int)), (13, .slice A_438 L_437.length cap_439)]) ⟨rfl, rfl, rfl, rfl, rfl, rfl, trivial⟩ ?_
                  intro g_447
                  skip
                  refine S_move rfl ?_
                  refine S_move rfl ?_
                  refine S_move rfl ?_
                  refine S_move rfl ?_
                  have h_448 := Rep.mono (M' := M) _ h_444 (Ext.refl [] w_435) mem0 (fun x hx => .inl (by simp [hx]))
                  have hz_456 := common_ok h_448 (fun x hx => Nat.lt_of_lt_of_le (hM x hx) (E_443).size) hl (1 + (c.tmod (L_17.length : Int) + (L_17.length : Int)).tmod (L_17.length : Int)) (1 + (a.tmod (L_17.length : Int) + (L_17.length : Int)).tmod (L_17.length : Int)) hc ha
                  refine S_call Try.call12 rfl hz_456 rfl ?_
                  rintro _ w_449 ⟨L_451, A_452, cap_453, rfl, hr_454, hp_455, e_450⟩
                  have E_457 := Ext.stepO E_443 e_450 mem0
                  have h_458 := Rep.ext _ h_444 e_450
                  have h_459 := Rep.ext _ hr_440 e_450
                  have h_460 := h_445.ext e_450 nin0
                  have hl_461 := rSlice_len hr_454
                  have he_462 : L_437 = L_451 := (fun h k => nearL_unique h (nearL_comm k)) hp_441 hp_455
                  have hz_463 := (ints_ok h_459 hr_454).mono (R' := fun v w' => v = .bool true ∧ w' = w_449) (fun _ _ h => ⟨h.1.trans (congrArg Value.bool (decide_eq_true he_462)), h.2⟩)
                  refine S_callQ Try.call11 rfl hz_463 rfl ?_
                  refine S_not rfl rfl ?_
                  refine WL_nil ?_
                  refine W_cond_false rfl ?_
                  refine W_skip ?_
                  refine W_seq ?_
                  refine W_seq ?_
                  refine W_region ?_
                  refine WL_norm (L := [(1, .int .i64 (1 + (a.tmod (L_17.length : Int) + (L_17.length : Int)).tmod (L_17.length : Int))), (3, .int .i64 (1 + (c.tmod (L_17.length : Int) + (L_17.length : Int)).tmod (L_17.length : Int))), (9, .slice A_18 L_17.length cap_19), (10, .int .i64 (L_17.length : Int)), (13, .slice A_438 L_437.length cap_439)]) ⟨rfl, rfl, rfl, rfl, rfl, trivial⟩ ?_
                  intro g_465
                  refine S_assign rfl ?_
                  refine WL_nil ?_
                  refine W_block ?_
                  refine W_loopF [8, 14, 15, 17, 125, 126, 127, 128, 129, 130, 131, 132, 133, 134, 135, 136, 137, 138, 139, 140, 141, 142, 143, 144, 145, 146, 147, 148, 149, 150, 151, 152, 153, 154, 155, 156, 157] (fun m f w => ∃ k : Int, m = (L_17.length + 1 - k).toNat ∧ 1 ≤ k ∧ k ≤ L_17.length + 1 ∧ Ext [] w0 w ∧ Ext ([]) w_449 w ∧ Live f [(14, .int .i64 k)]) ?_ ?_
                  · exact ⟨_, 1, rfl, by omega, by omega, E_457, (Ext.refl _ _), rfl, trivial⟩
                  ·
                    rintro m g_470 w_466 ⟨k, rfl, q0, q1, E_467, e_468, hl_469⟩
                    refine W_liveM hl_469 rfl ?_
                    have h_471 := Rep.ext _ h_458 e_468
                    have h_472 := Rep.ext _ h_459 e_468
                    have h_473 := h_460.ext e_468 nin0
                    refine W_seq ?_
                    refine W_seq ?_
                    refine W_region ?_
                    refine S_move rfl ?_
                    refine S_move rfl ?_
                    refine S_leq rfl rfl rfl ?_
                    refine WL_nil ?_
                    refine W_cond rfl (fun h_475 => ?_) (fun h_475 => ?_)
                    ·
                      have p_476 := h_475
                      try simp only [lrn] at p_476
                      refine W_skip ?_
                      refine W_seq ?_
                      refine W_block ?_
                      refine W_seq ?_
                      refine W_seq ?_
                      refine W_region ?_
                      refine S_move rfl ?_
                      refine S_move rfl ?_
                      refine S_move rfl ?_
                      have h_477 := Rep.mono (M' := M) _ h_471 (Ext.refl [] w_466) mem0 (fun x hx => .inl (by simp [hx]))
                      have hz_480 := reaches_ok h_477 (fun x hx => Nat.lt_of_lt_of_le (hM x hx) (E_467).size) hl (1 + (a.tmod (L_17.length : Int) + (L_17.length : Int)).tmod (L_17.length : Int)) k ha
                      refine S_callE Try.call19 rfl hz_480 rfl ?_
                      intro w_478 e_479
                      have E_481 := Ext.stepO E_467 e_479 mem0
                      have c_482 := Ext.stepO e_468 e_479 mem0
                      have h_483 := Rep.ext _ h_471 e_479
                      have h_484 := Rep.ext _ h_472 e_479
                      have h_485 := h_473.ext e_479 nin0
                      refine S_not rfl rfl ?_
                      refine S_move rfl ?_
                      refine WL_split (dj := 135) rfl (fun h_487 => ?_) (fun h_487 => ?_)
                      ·
                        have h_488 := h_487
                        simp only [lrnN] at h_488
                        have p_489 := h_488
                        try simp only [lrn] at p_489
                        refine WL_off rfl rfl rfl (nF h_488) ?_
                        refine WL_off rfl rfl rfl (nF h_488) ?_
                        refine WL_off rfl rfl rfl (nF h_488) ?_
                        refine WL_off rfl rfl rfl (nF h_488) ?_
                        refine WL_off rfl rfl rfl (nF h_488) ?_
                        refine S_pick_t (nF h_488) rfl ?_
                        refine WL_nil ?_
                        refine W_cond_true rfl ?_
                        refine W_exit ?_
                        refine W_region ?_
                        refine S_move rfl ?_
                        refine S_add rfl rfl (by omega) rfl ?_
                        refine S_assign rfl ?_
                        refine WL_nil ?_
                        refine ⟨by repeat (first | refine agree_upd rfl ?_ | exact agree_mix rfl agree_refl | refine agree_mix rfl ?_), ?_⟩
                        exact ⟨_, by omega, k + 1, rfl, by omega, by omega, E_481, c_482, rfl, trivial⟩
                      ·
                        have h_490 := h_487
                        simp only [lrnN] at h_490
                        have p_491 := h_490
                        try simp only [lrn] at p_491
                        refine WL_on rfl rfl (nT h_490) ?_
                        refine S_move rfl ?_
                        refine WL_on rfl rfl (nT h_490) ?_
                        refine S_move rfl ?_
                        refine WL_on rfl rfl (nT h_490) ?_
                        refine S_move rfl ?_
                        refine WL_on rfl rfl (nT h_490) ?_
                        have h_492 := Rep.mono (M' := M) _ h_483 (Ext.refl [] w_478) mem0 (fun x hx => .inl (by simp [hx]))
                        have hz_495 := reaches_ok h_492 (fun x hx => Nat.lt_of_lt_of_le (hM x hx) (E_481).size) hl (1 + (c.tmod (L_17.length : Int) + (L_17.length : Int)).tmod (L_17.length : Int)) k hc
                        refine S_callE Try.call19 rfl hz_495 rfl ?_
                        intro w_493 e_494
                        have E_496 := Ext.stepO E_481 e_494 mem0
                        have c_497 := Ext.stepO c_482 e_494 mem0
                        have h_498 := Rep.ext _ h_483 e_494
                        have h_499 := Rep.ext _ h_484 e_494
                        have h_500 := h_485.ext e_494 nin0
                        refine WL_on rfl rfl (nT h_490) ?_
                        refine S_not rfl rfl ?_
                        refine S_pick_f (nT h_490) rfl ?_
                        refine WL_nil ?_
                        refine W_cond rfl (fun h_502 => ?_) (fun h_502 => ?_)
                        ·
                          have h_503 := h_502
                          simp only [lrnN] at h_503
                          have p_504 := h_503
                          try simp only [lrn] at p_504
                          refine W_exit ?_
                          refine W_region ?_
                          refine S_move rfl ?_
                          refine S_add rfl rfl (by omega) rfl ?_
                          refine S_assign rfl ?_
                          refine WL_nil ?_
                          refine ⟨by repeat (first | refine agree_upd rfl ?_ | exact agree_mix rfl agree_refl | refine agree_mix rfl ?_), ?_⟩
                          exact ⟨_, by omega, k + 1, rfl, by omega, by omega, E_496, c_497, rfl, trivial⟩
                        ·
                          have h_505 := h_502
                          simp only [lrnN] at h_505
                          have p_506 := h_505
                          try simp only [lrn] at p_506
                          refine W_skip ?_
                          refine W_seq ?_
                          refine W_region ?_
                          refine S_assign rfl ?_
                          refine WL_nil ?_
                          refine W_seq ?_
                          refine W_seq ?_
                          refine W_region ?_
                          refine S_move rfl ?_
                          refine S_len Try.runUnderlying26 rfl rfl ?_
                          refine S_move rfl ?_
                          refine WL_nil ?_
                          refine W_block ?_
                          refine W_loopF [15, 17, 144, 145, 146, 147, 148, 149, 150, 151, 152, 153, 154, 155] (fun m f w => ∃ (j : Int) (p : Bool), m = (L_437.length - j).toNat ∧ 0 ≤ j ∧ p = decide (Cov L_17 L_437 k j) ∧ Ext [] w0 w ∧ Ext ([]) w_493 w ∧ Live f [(144, .int .i64 j), (15, .bool p)]) ?_ ?_
                          · exact ⟨_, 0, _, rfl, by omega, cov0, E_496, (Ext.refl _ _), rfl, rfl, trivial⟩
                          ·
                            rintro m g_512 w_508 ⟨j, p, rfl, s0, s1, E_509, e_510, hl_511⟩
                            refine W_liveM hl_511 rfl ?_
                            have c_513 := Ext.stepO c_497 e_510 mem0
                            have h_514 := Rep.ext _ h_498 e_510
                            have h_515 := Rep.ext _ h_499 e_510
                            have h_516 := h_500.ext e_510 nin0
                            refine W_seq ?_
                            refine W_region ?_
                            refine S_lss rfl rfl rfl ?_
                            refine WL_nil ?_
                            refine W_seq ?_
                            refine W_cond rfl (fun h_518 => ?_) (fun h_518 => ?_)
                            ·
                              have p_519 := h_518
                              try simp only [lrn] at p_519
                              refine W_skip ?_
                              refine W_seq ?_
                              refine W_block ?_
                              refine W_seq ?_
                              refine W_region ?_
                              refine S_index Try.runUnderlying26 Try.sizeOf3 h_515 rfl (by omega) (by omega) rfl ?_
                              intro b_520 o_521 cs_522 hi_523 hc_524 hb_525 hr_526
                              refine S_loadI Try.isAgg3 rfl hc_524 hr_526 rfl ?_
                              rintro ⟨r_527, r_528⟩
                              refine S_assign rfl ?_
                              refine WL_nil ?_
                              refine W_region ?_
                              refine S_move rfl ?_
                              refine S_move rfl ?_
                              refine WL_split (dj := 149) rfl (fun h_529 => ?_) (fun h_529 => ?_)
                              ·
                                have p_530 := h_529
                                try simp only [lrn] at p_530
                                refine WL_off rfl rfl rfl (bT h_529) ?_
                                refine WL_off rfl rfl rfl (bT h_529) ?_
                                refine WL_off rfl rfl rfl (bT h_529) ?_
                                refine WL_off rfl rfl rfl (bT h_529) ?_
                                refine S_pick_t (bT h_529) rfl ?_
                                refine S_assign rfl ?_
                                refine WL_nil ?_
                                refine W_region ?_
                                refine S_add rfl rfl (by omega) rfl ?_
                                refine S_move rfl ?_
                                refine WL_nil ?_
                                refine ⟨by repeat (first | refine agree_upd rfl ?_ | exact agree_mix rfl agree_refl | refine agree_mix rfl ?_), ?_⟩
                                exact ⟨_, by omega, j + 1, _, rfl, by omega, by first | exact cov_t s1 ‹_› s0 (by omega) | exact cov_f hr s1 ‹_› s0 (by omega), E_509, e_510, rfl, rfl, trivial⟩
                              ·
                                have p_531 := h_529
                                try simp only [lrn] at p_531
                                refine WL_on rfl rfl (bF h_529) ?_
                                refine S_move rfl ?_
                                refine WL_on rfl rfl (bF h_529) ?_
                                refine S_move rfl ?_
                                refine WL_on rfl rfl (bF h_529) ?_
                                refine S_move rfl ?_
                                refine WL_on rfl rfl (bF h_529) ?_
                                have h_532 := Rep.mono (M' := M) _ h_514 (Ext.refl [] w_508) mem0 (fun x hx => .inl (by simp [hx]))
                                have hz_535 := reaches_ok h_532 (fun x hx => Nat.lt_of_lt_of_le (hM x hx) (E_509).size) hl L_437[j.toNat] k (by unfold InI; omega)
                                refine S_callE Try.call19 rfl hz_535 rfl ?_
                                intro w_533 e_534
                                have E_536 := Ext.stepO E_509 e_534 mem0
                                have c_537 := Ext.stepO c_513 e_534 mem0
                                have c_538 := Ext.stepO e_510 e_534 mem0
                                have h_539 := Rep.ext _ h_514 e_534
                                have h_540 := Rep.ext _ h_515 e_534
                                have h_541 := Rep.ext _ hr_526 e_534
                                have h_542 := Cells.ext hc_524 e_534 nin0
                                have h_543 := h_516.ext e_534 nin0
                                refine S_pick_f (bF h_529) rfl ?_
                                refine S_assign rfl ?_
                                refine WL_nil ?_
                                refine W_region ?_
                                refine S_add rfl rfl (by omega) rfl ?_
                                refine S_move rfl ?_
                                refine WL_nil ?_
                                refine ⟨by repeat (first | refine agree_upd rfl ?_ | exact agree_mix rfl agree_refl | refine agree_mix rfl ?_), ?_⟩
                                exact ⟨_, by omega, j + 1, _, rfl, by omega, by first | exact cov_t s1 ‹_› s0 (by omega) | exact cov_f hr s1 ‹_› s0 (by omega), E_536, c_538, rfl, rfl, trivial⟩
                            ·
                              have p_545 := h_518
                              try simp only [lrn] at p_545
                              refine W_exit ?_
                              refine W_seq ?_
                              refine W_region ?_
                              refine S_move rfl ?_
                              refine S_not rfl rfl ?_
                              refine WL_nil ?_
                              refine W_cond rfl (fun h_546 => ?_) (fun h_546 => ?_)
                              ·
                                have h_547 := h_546
                                simp only [lrnN] at h_547
                                have p_548 := h_547
                                try simp only [lrn] at p_548
                                refine W_seq ?_
                                refine W_region ?_
                                refine S_assign rfl ?_
                                refine WL_nil ?_
                                refine W_ret ?_
                                exact (cov_all hr hp_441 s1 (by omega) (by assumption) (by assumption) (by assumption)).elim
                              ·
                                have h_549 := h_546
                                simp only [lrnN] at h_549
                                have p_550 := h_549
                                try simp only [lrn] at p_550
                                refine W_skip ?_
                                refine W_region ?_
                                refine S_move rfl ?_
                                refine S_add rfl rfl (by omega) rfl ?_
                                refine S_assign rfl ?_
                                refine WL_nil ?_
                                refine ⟨by repeat (first | refine agree_upd rfl ?_ | exact agree_mix rfl agree_refl | refine agree_mix rfl ?_), ?_⟩
                                exact ⟨_, by omega, k + 1, rfl, by omega, by omega, E_509, c_513, rfl, trivial⟩
                    ·
                      have p_551 := h_475
                      try simp only [lrn] at p_551
                      refine W_exit ?_
                      refine W_seq ?_
                      refine W_region ?_
                      refine S_callE Try.call10 rfl (alive_ok (M := M) (fun x hx => Nat.lt_of_lt_of_le (hM x hx) (E_467).size)) rfl ?_
                      intro w_552 e_553
                      have E_554 := Ext.stepO E_467 e_553 mem0
                      have h_555 := Rep.ext _ h_471 e_553
                      have h_556 := Rep.ext _ h_472 e_553
                      have h_557 := h_473.ext e_553 nin0
                      refine S_assign rfl ?_
                      refine WL_nil ?_
                      refine W_ret ?_
                      exact ⟨rfl, E_554⟩
              ·
                have p_558 := h_395
                try simp only [lrn] at p_558
                refine WL_off rfl rfl rfl (bF h_395) ?_
                refine WL_off rfl rfl rfl (bF h_395) ?_
                refine WL_off rfl rfl rfl (bF h_395) ?_
                refine WL_off rfl rfl rfl (bF h_395) ?_
                refine WL_on rfl rfl rfl ?_
                refine S_pick_f (bF h_395) rfl ?_
                refine S_pick_f rfl rfl ?_
                refine WL_nil ?_
                refine W_cond_false rfl ?_
                refine W_skip ?_
                refine W_seq ?_
                refine W_seq ?_
                refine W_region ?_
                refine WL_norm (L := [(1, .int .i64 (1 + (a.tmod (L_17.length : Int) + (L_17.length : Int)).tmod (L_17.length : Int))), (2, .int .i64 (1 + (b.tmod (L_17.length : Int) + (L_17.length : Int)).tmod (L_17.length : Int))), (3, .int .i64 (1 + (c.tmod (L_17.length : Int) + (L_17.length : Int)).tmod (L_17.length : Int))), (9, .slice A_18 L_17.length cap_19), (10, .int .i64 (L_17.length : Int)), (11, .bool true)]) ⟨rfl, rfl, rfl, rfl, rfl, rfl, trivial⟩ ?_
                intro g_559
                refine S_move rfl ?_
                refine S_move rfl ?_
                refine WL_on rfl rfl rfl ?_
                refine S_move rfl ?_
                refine WL_on rfl rfl rfl ?_
                refine S_move rfl ?_
                refine WL_on rfl rfl rfl ?_
                refine S_move rfl ?_
                refine WL_on rfl rfl rfl ?_
                have hz_567 := common_ok h_43 (fun x hx => Nat.lt_of_lt_of_le (hM x hx) (E_42).size) hl (1 + (a.tmod (L_17.length : Int) + (L_17.length : Int)).tmod (L_17.length : Int)) (1 + (b.tmod (L_17.length : Int) + (L_17.length : Int)).tmod (L_17.length : Int)) ha hb
                refine S_call Try.call12 rfl hz_567 rfl ?_
                rintro _ w_560 ⟨L_562, A_563, cap_564, rfl, hr_565, hp_566, e_561⟩
                have E_568 := Ext.stepO E_42 e_561 mem0
                have h_569 := Rep.ext _ h_43 e_561
                have hl_570 := rSlice_len hr_565
                refine WL_on rfl rfl rfl ?_
                refine S_move rfl ?_
                refine WL_on rfl rfl rfl ?_
                refine S_buildSlice Try.runUnderlying26 Try.sizeOf3 Try.zeroValue3 rfl rfl rfl rfl rfl rfl rfl ?_
                intro b_571 w_572 e_573 z_574 z_575 ho_576
                have hb_577 : w0.heap.size ≤ b_571 := by have := (E_568).size; omega
                have E_578 := Ext.stepO E_568 e_573 mem0
                have h_579 := Rep.mono (M' := b_571 :: M) _ h_569 e_573 mem0 (cons_fresh z_574)
                have h_580 := Rep.mono (M' := b_571 :: M) _ hr_565 e_573 mem0 (cons_fresh z_574)
                have ho_576 : Own _ _ _ [_] := ho_576
                refine WL_on rfl rfl rfl ?_
                have h_581 := Rep.mono (M' := M) _ h_580 (Ext.refl [] w_572) mem0 (fun x hx => .inl (by simp [hx]))
                have hr_582 := rd_ints (xs := [(1 + (b.tmod (L_17.length : Int) + (L_17.length : Int)).tmod (L_17.length : Int))]) (M := M) ho_576 (notin_old hM hb_577) (by simp only [List.mem_singleton]; rintro _ rfl; assumption) (by simp)
                have he_583 : L_562 = [(1 + (b.tmod (L_17.length : Int) + (L_17.length : Int)).tmod (L_17.length : Int))] := (fun h => nearL_unique h (near_reach (by assumption))) hp_566
                have hz_584 := (ints_ok h_581 hr_582).mono (R' := fun v w' => v = .bool true ∧ w' = w_572) (fun _ _ h => ⟨h.1.trans (congrArg Value.bool (decide_eq_true he_583)), h.2⟩)
                refine S_callQ Try.call11 rfl hz_584 rfl ?_
                refine WL_on rfl rfl rfl ?_
                refine S_not rfl rfl ?_
                refine S_pick_t rfl rfl ?_
                refine WL_nil ?_
                refine W_cond_false rfl ?_
                refine W_skip ?_
                refine W_seq ?_
                refine W_region ?_
                refine WL_norm (L := [(1, .int .i64 (1 + (a.tmod (L_17.length : Int) + (L_17.length : Int)).tmod (L_17.length : Int))), (2, .int .i64 (1 + (b.tmod (L_17.length : Int) + (L_17.length : Int)).tmod (L_17.length : Int))), (3, .int .i64 (1 + (c.tmod (L_17.length : Int) + (L_17.length : Int)).tmod (L_17.length : Int))), (9, .slice A_18 L_17.length cap_19), (10, .int .i64 (L_17.length : Int))]) ⟨rfl, rfl, rfl, rfl, rfl, trivial⟩ ?_
                intro g_586
                refine S_move rfl ?_
                refine S_move rfl ?_
                refine S_move rfl ?_
                have h_587 := Rep.mono (M' := M) _ h_579 (Ext.refl [] w_572) mem0 (fun x hx => .inl (by simp [hx]))
                have hz_595 := common_ok h_587 (fun x hx => Nat.lt_of_lt_of_le (hM x hx) (E_578).size) hl (1 + (a.tmod (L_17.length : Int) + (L_17.length : Int)).tmod (L_17.length : Int)) (1 + (c.tmod (L_17.length : Int) + (L_17.length : Int)).tmod (L_17.length : Int)) ha hc
                refine S_call Try.call12 rfl hz_595 rfl ?_
                rintro _ w_588 ⟨L_590, A_591, cap_592, rfl, hr_593, hp_594, e_589⟩
                have E_596 := Ext.stepO E_578 e_589 mem0
                have h_597 := Rep.ext _ h_579 e_589
                have h_598 := ho_576.ext e_589 nin0
                have hl_599 := rSlice_len hr_593
                refine S_assign rfl ?_
                refine WL_nil ?_
                refine W_seq ?_
                refine W_seq ?_
                refine W_region ?_
                refine WL_norm (L := [(1, .int .i64 (1 + (a.tmod (L_17.length : Int) + (L_17.length : Int)).tmod (L_17.length : Int))), (2, .int .i64 (1 + (b.tmod (L_17.length : Int) + (L_17.length : Int)).tmod (L_17.length : Int))), (3, .int .i64 (1 + (c.tmod (L_17.length : Int) + (L_17.length : Int)).tmod (L_17.length : Int))), (9, .slice A_18 L_17.length cap_19), (10, .int .i64 (L_17.length : Int)), (13, .slice A_591 L_590.length cap_592)]) ⟨rfl, rfl, rfl, rfl, rfl, rfl, trivial⟩ ?_
                intro g_600
                skip
                refine S_move rfl ?_
                refine S_move rfl ?_
                refine S_move rfl ?_
                refine S_move rfl ?_
                have h_601 := Rep.mono (M' := M) _ h_597 (Ext.refl [] w_588) mem0 (fun x hx => .inl (by simp [hx]))
                have hz_609 := common_ok h_601 (fun x hx => Nat.lt_of_lt_of_le (hM x hx) (E_596).size) hl (1 + (c.tmod (L_17.length : Int) + (L_17.length : Int)).tmod (L_17.length : Int)) (1 + (a.tmod (L_17.length : Int) + (L_17.length : Int)).tmod (L_17.length : Int)) hc ha
                refine S_call Try.call12 rfl hz_609 rfl ?_
                rintro _ w_602 ⟨L_604, A_605, cap_606, rfl, hr_607, hp_608, e_603⟩
                have E_610 := Ext.stepO E_596 e_603 mem0
                have h_611 := Rep.ext _ h_597 e_603
                have h_612 := Rep.ext _ hr_593 e_603
                have h_613 := h_598.ext e_603 nin0
                have hl_614 := rSlice_len hr_607
                have he_615 : L_590 = L_604 := (fun h k => nearL_unique h (nearL_comm k)) hp_594 hp_608
                have hz_616 := (ints_ok h_612 hr_607).mono (R' := fun v w' => v = .bool true ∧ w' = w_602) (fun _ _ h => ⟨h.1.trans (congrArg Value.bool (decide_eq_true he_615)), h.2⟩)
                refine S_callQ Try.call11 rfl hz_616 rfl ?_
                refine S_not rfl rfl ?_
                refine WL_nil ?_
                refine W_cond_false rfl ?_
                refine W_skip ?_
                refine W_seq ?_
                refine W_seq ?_
                refine W_region ?_
                refine WL_norm (L := [(1, .int .i64 (1 + (a.tmod (L_17.length : Int) + (L_17.length : Int)).tmod (L_17.length : Int))), (3, .int .i64 (1 + (c.tmod (L_17.length : Int) + (L_17.length : Int)).tmod (L_17.length : Int))), (9, .slice A_18 L_17.length cap_19), (10, .int .i64 (L_17.length : Int)), (13, .slice A_591 L_590.length cap_592)]) ⟨rfl, rfl, rfl, rfl, rfl, trivial⟩ ?_
                intro g_618
                refine S_assign rfl ?_
                refine WL_nil ?_
                refine W_block ?_
                refine W_loopF [8, 14, 15, 17, 125, 126, 127, 128, 129, 130, 131, 132, 133, 134, 135, 136, 137, 138, 139, 140, 141, 142, 143, 144, 145, 146, 147, 148, 149, 150, 151, 152, 153, 154, 155, 156, 157] (fun m f w => ∃ k : Int, m = (L_17.length + 1 - k).toNat ∧ 1 ≤ k ∧ k ≤ L_17.length + 1 ∧ Ext [] w0 w ∧ Ext ([]) w_602 w ∧ Live f [(14, .int .i64 k)]) ?_ ?_
                · exact ⟨_, 1, rfl, by omega, by omega, E_610, (Ext.refl _ _), rfl, trivial⟩
                ·
                  rintro m g_623 w_619 ⟨k, rfl, q0, q1, E_620, e_621, hl_622⟩
                  refine W_liveM hl_622 rfl ?_
                  have h_624 := Rep.ext _ h_611 e_621
                  have h_625 := Rep.ext _ h_612 e_621
                  have h_626 := h_613.ext e_621 nin0
                  refine W_seq ?_
                  refine W_seq ?_
                  refine W_region ?_
                  refine S_move rfl ?_
                  refine S_move rfl ?_
                  refine S_leq rfl rfl rfl ?_
                  refine WL_nil ?_
                  refine W_cond rfl (fun h_628 => ?_) (fun h_628 => ?_)
                  ·
                    have p_629 := h_628
                    try simp only [lrn] at p_629
                    refine W_skip ?_
                    refine W_seq ?_
                    refine W_block ?_
                    refine W_seq ?_
                    refine W_seq ?_
                    refine W_region ?_
                    refine S_move rfl ?_
                    refine S_move rfl ?_
                    refine S_move rfl ?_
                    have h_630 := Rep.mono (M' := M) _ h_624 (Ext.refl [] w_619) mem0 (fun x hx => .inl (by simp [hx]))
                    have hz_633 := reaches_ok h_630 (fun x hx => Nat.lt_of_lt_of_le (hM x hx) (E_620).size) hl (1 + (a.tmod (L_17.length : Int) + (L_17.length : Int)).tmod (L_17.length : Int)) k ha
                    refine S_callE Try.call19 rfl hz_633 rfl ?_
                    intro w_631 e_632
                    have E_634 := Ext.stepO E_620 e_632 mem0
                    have c_635 := Ext.stepO e_621 e_632 mem0
                    have h_636 := Rep.ext _ h_624 e_632
                    have h_637 := Rep.ext _ h_625 e_632
                    have h_638 := h_626.ext e_632 nin0
                    refine S_not rfl rfl ?_
                    refine S_move rfl ?_
                    refine WL_split (dj := 135) rfl (fun h_640 => ?_) (fun h_640 => ?_)
                    ·
                      have h_641 := h_640
                      simp only [lrnN] at h_641
                      have p_642 := h_641
                      try simp only [lrn] at p_642
                      refine WL_off rfl rfl rfl (nF h_641) ?_
                      refine WL_off rfl rfl rfl (nF h_641) ?_
                      refine WL_off rfl rfl rfl (nF h_641) ?_
                      refine WL_off rfl rfl rfl (nF h_641) ?_
                      refine WL_off rfl rfl rfl (nF h_641) ?_
                      refine S_pick_t (nF h_641) rfl ?_
                      refine WL_nil ?_
                      refine W_cond_true rfl ?_
                      refine W_exit ?_
                      refine W_region ?_
                      refine S_move rfl ?_
                      refine S_add rfl rfl (by omega) rfl ?_
                      refine S_assign rfl ?_
                      refine WL_nil ?_
                      refine ⟨by repeat (first | refine agree_upd rfl ?_ | exact agree_mix rfl agree_refl | refine agree_mix rfl ?_), ?_⟩
                      exact ⟨_, by omega, k + 1, rfl, by omega, by omega, E_634, c_635, rfl, trivial⟩
                    ·
                      have h_643 := h_640
                      simp only [lrnN] at h_643
                      have p_644 := h_643
                      try simp only [lrn] at p_644
                      refine WL_on rfl rfl (nT h_643) ?_
                      refine S_move rfl ?_
                      refine WL_on rfl rfl (nT h_643) ?_
                      refine S_move rfl ?_
                      refine WL_on rfl rfl (nT h_643) ?_
                      refine S_move rfl ?_
                      refine WL_on rfl rfl (nT h_643) ?_
                      have h_645 := Rep.mono (M' := M) _ h_636 (Ext.refl [] w_631) mem0 (fun x hx => .inl (by simp [hx]))
                      have hz_648 := reaches_ok h_645 (fun x hx => Nat.lt_of_lt_of_le (hM x hx) (E_634).size) hl (1 + (c.tmod (L_17.length : Int) + (L_17.length : Int)).tmod (L_17.length : Int)) k hc
                      refine S_callE Try.call19 rfl hz_648 rfl ?_
                      intro w_646 e_647
                      have E_649 := Ext.stepO E_634 e_647 mem0
                      have c_650 := Ext.stepO c_635 e_647 mem0
                      have h_651 := Rep.ext _ h_636 e_647
                      have h_652 := Rep.ext _ h_637 e_647
                      have h_653 := h_638.ext e_647 nin0
                      refine WL_on rfl rfl (nT h_643) ?_
                      refine S_not rfl rfl ?_
                      refine S_pick_f (nT h_643) rfl ?_
                      refine WL_nil ?_
                      refine W_cond rfl (fun h_655 => ?_) (fun h_655 => ?_)
                      ·
                        have h_656 := h_655
                        simp only [lrnN] at h_656
                        have p_657 := h_656
                        try simp only [lrn] at p_657
                        refine W_exit ?_
                        refine W_region ?_
                        refine S_move rfl ?_
                        refine S_add rfl rfl (by omega) rfl ?_
                        refine S_assign rfl ?_
                        refine WL_nil ?_
                        refine ⟨by repeat (first | refine agree_upd rfl ?_ | exact agree_mix rfl agree_refl | refine agree_mix rfl ?_), ?_⟩
                        exact ⟨_, by omega, k + 1, rfl, by omega, by omega, E_649, c_650, rfl, trivial⟩
                      ·
                        have h_658 := h_655
                        simp only [lrnN] at h_658
                        have p_659 := h_658
                        try simp only [lrn] at p_659
                        refine W_skip ?_
                        refine W_seq ?_
                        refine W_region ?_
                        refine S_assign rfl ?_
                        refine WL_nil ?_
                        refine W_seq ?_
                        refine W_seq ?_
                        refine W_region ?_
                        refine S_move rfl ?_
                        refine S_len Try.runUnderlying26 rfl rfl ?_
                        refine S_move rfl ?_
                        refine WL_nil ?_
                        refine W_block ?_
                        refine W_loopF [15, 17, 144, 145, 146, 147, 148, 149, 150, 151, 152, 153, 154, 155] (fun m f w => ∃ (j : Int) (p : Bool), m = (L_590.length - j).toNat ∧ 0 ≤ j ∧ p = decide (Cov L_17 L_590 k j) ∧ Ext [] w0 w ∧ Ext ([]) w_646 w ∧ Live f [(144, .int .i64 j), (15, .bool p)]) ?_ ?_
                        · exact ⟨_, 0, _, rfl, by omega, cov0, E_649, (Ext.refl _ _), rfl, rfl, trivial⟩
                        ·
                          rintro m g_665 w_661 ⟨j, p, rfl, s0, s1, E_662, e_663, hl_664⟩
                          refine W_liveM hl_664 rfl ?_
                          have c_666 := Ext.stepO c_650 e_663 mem0
                          have h_667 := Rep.ext _ h_651 e_663
                          have h_668 := Rep.ext _ h_652 e_663
                          have h_669 := h_653.ext e_663 nin0
                          refine W_seq ?_
                          refine W_region ?_
                          refine S_lss rfl rfl rfl ?_
                          refine WL_nil ?_
                          refine W_seq ?_
                          refine W_cond rfl (fun h_671 => ?_) (fun h_671 => ?_)
                          ·
                            have p_672 := h_671
                            try simp only [lrn] at p_672
                            refine W_skip ?_
                            refine W_seq ?_
                            refine W_block ?_
                            refine W_seq ?_
                            refine W_region ?_
                            refine S_index Try.runUnderlying26 Try.sizeOf3 h_668 rfl (by omega) (by omega) rfl ?_
                            intro b_673 o_674 cs_675 hi_676 hc_677 hb_678 hr_679
                            refine S_loadI Try.isAgg3 rfl hc_677 hr_679 rfl ?_
                            rintro ⟨r_680, r_681⟩
                            refine S_assign rfl ?_
                            refine WL_nil ?_
                            refine W_region ?_
                            refine S_move rfl ?_
                            refine S_move rfl ?_
                            refine WL_split (dj := 149) rfl (fun h_682 => ?_) (fun h_682 => ?_)
                            ·
                              have p_683 := h_682
                              try simp only [lrn] at p_683
                              refine WL_off rfl rfl rfl (bT h_682) ?_
                              refine WL_off rfl rfl rfl (bT h_682) ?_
                              refine WL_off rfl rfl rfl (bT h_682) ?_
                              refine WL_off rfl rfl rfl (bT h_682) ?_
                              refine S_pick_t (bT h_682) rfl ?_
                              refine S_assign rfl ?_
                              refine WL_nil ?_
                              refine W_region ?_
                              refine S_add rfl rfl (by omega) rfl ?_
                              refine S_move rfl ?_
                              refine WL_nil ?_
                              refine ⟨by repeat (first | refine agree_upd rfl ?_ | exact agree_mix rfl agree_refl | refine agree_mix rfl ?_), ?_⟩
                              exact ⟨_, by omega, j + 1, _, rfl, by omega, by first | exact cov_t s1 ‹_› s0 (by omega) | exact cov_f hr s1 ‹_› s0 (by omega), E_662, e_663, rfl, rfl, trivial⟩
                            ·
                              have p_684 := h_682
                              try simp only [lrn] at p_684
                              refine WL_on rfl rfl (bF h_682) ?_
                              refine S_move rfl ?_
                              refine WL_on rfl rfl (bF h_682) ?_
                              refine S_move rfl ?_
                              refine WL_on rfl rfl (bF h_682) ?_
                              refine S_move rfl ?_
                              refine WL_on rfl rfl (bF h_682) ?_
                              have h_685 := Rep.mono (M' := M) _ h_667 (Ext.refl [] w_661) mem0 (fun x hx => .inl (by simp [hx]))
                              have hz_688 := reaches_ok h_685 (fun x hx => Nat.lt_of_lt_of_le (hM x hx) (E_662).size) hl L_590[j.toNat] k (by unfold InI; omega)
                              refine S_callE Try.call19 rfl hz_688 rfl ?_
                              intro w_686 e_687
                              have E_689 := Ext.stepO E_662 e_687 mem0
                              have c_690 := Ext.stepO c_666 e_687 mem0
                              have c_691 := Ext.stepO e_663 e_687 mem0
                              have h_692 := Rep.ext _ h_667 e_687
                              have h_693 := Rep.ext _ h_668 e_687
                              have h_694 := Rep.ext _ hr_679 e_687
                              have h_695 := Cells.ext hc_677 e_687 nin0
                              have h_696 := h_669.ext e_687 nin0
                              refine S_pick_f (bF h_682) rfl ?_
                              refine S_assign rfl ?_
                              refine WL_nil ?_
                              refine W_region ?_
                              refine S_add rfl rfl (by omega) rfl ?_
                              refine S_move rfl ?_
                              refine WL_nil ?_
                              refine ⟨by repeat (first | refine agree_upd rfl ?_ | exact agree_mix rfl agree_refl | refine agree_mix rfl ?_), ?_⟩
                              exact ⟨_, by omega, j + 1, _, rfl, by omega, by first | exact cov_t s1 ‹_› s0 (by omega) | exact cov_f hr s1 ‹_› s0 (by omega), E_689, c_691, rfl, rfl, trivial⟩
                          ·
                            have p_698 := h_671
                            try simp only [lrn] at p_698
                            refine W_exit ?_
                            refine W_seq ?_
                            refine W_region ?_
                            refine S_move rfl ?_
                            refine S_not rfl rfl ?_
                            refine WL_nil ?_
                            refine W_cond rfl (fun h_699 => ?_) (fun h_699 => ?_)
                            ·
                              have h_700 := h_699
                              simp only [lrnN] at h_700
                              have p_701 := h_700
                              try simp only [lrn] at p_701
                              refine W_seq ?_
                              refine W_region ?_
                              refine S_assign rfl ?_
                              refine WL_nil ?_
                              refine W_ret ?_
                              exact (cov_all hr hp_594 s1 (by omega) (by assumption) (by assumption) (by assumption)).elim
                            ·
                              have h_702 := h_699
                              simp only [lrnN] at h_702
                              have p_703 := h_702
                              try simp only [lrn] at p_703
                              refine W_skip ?_
                              refine W_region ?_
                              refine S_move rfl ?_
                              refine S_add rfl rfl (by omega) rfl ?_
                              refine S_assign rfl ?_
                              refine WL_nil ?_
                              refine ⟨by repeat (first | refine agree_upd rfl ?_ | exact agree_mix rfl agree_refl | refine agree_mix rfl ?_), ?_⟩
                              exact ⟨_, by omega, k + 1, rfl, by omega, by omega, E_662, c_666, rfl, trivial⟩
                  ·
                    have p_704 := h_628
                    try simp only [lrn] at p_704
                    refine W_exit ?_
                    refine W_seq ?_
                    refine W_region ?_
                    refine S_callE Try.call10 rfl (alive_ok (M := M) (fun x hx => Nat.lt_of_lt_of_le (hM x hx) (E_620).size)) rfl ?_
                    intro w_705 e_706
                    have E_707 := Ext.stepO E_620 e_706 mem0
                    have h_708 := Rep.ext _ h_624 e_706
                    have h_709 := Rep.ext _ h_625 e_706
                    have h_710 := h_626.ext e_706 nin0
                    refine S_assign rfl ?_
                    refine WL_nil ?_
                    refine W_ret ?_
                    exact ⟨rfl, E_707⟩
        ·
          have p_711 := h_52
          try simp only [lrn] at p_711
          refine WL_off rfl rfl rfl (bF h_52) ?_
          refine WL_off rfl rfl rfl (bF h_52) ?_
          refine WL_off rfl rfl rfl (bF h_52) ?_
          refine WL_on rfl rfl (nT h_50) ?_
          refine S_pick_f (bF h_52) rfl ?_
          refine S_pick_f (nT h_50) rfl ?_
          refine S_move rfl ?_
          refine WL_norm (L := [(1, .int .i64 (1 + (a.tmod (L_17.length : Int) + (L_17.length : Int)).tmod (L_17.length : Int))), (2, .int .i64 (1 + (b.tmod (L_17.length : Int) + (L_17.length : Int)).tmod (L_17.length : Int))), (3, .int .i64 (1 + (c.tmod (L_17.length : Int) + (L_17.length : Int)).tmod (L_17.length : Int))), (9, .slice A_18 L_17.length cap_19), (10, .int .i64 (L_17.length : Int)), (11, .bool false), (12, .bool (decide (Right L_17 ∧ Rch L_17 (1 + (b.tmod (L_17.length : Int) + (L_17.length : Int)).tmod (L_17.length : Int)) (1 + (c.tmod (L_17.length : Int) + (L_17.length : Int)).tmod (L_17.length : Int))))), (76, .bool false)]) ⟨rfl, rfl, rfl, rfl, rfl, (bF h_52), rfl, rfl, trivial⟩ ?_
          intro g_712
          refine WL_on rfl rfl rfl ?_
          refine S_move rfl ?_
          refine WL_on rfl rfl rfl ?_
          refine S_move rfl ?_
          refine WL_off rfl rfl rfl rfl ?_
          refine WL_on rfl rfl rfl ?_
          refine S_pick_f rfl rfl ?_
          refine WL_on rfl rfl rfl ?_
          refine S_move rfl ?_
          refine WL_off rfl rfl rfl rfl ?_
          refine WL_off rfl rfl rfl rfl ?_
          refine WL_off rfl rfl rfl rfl ?_
          refine WL_off rfl rfl rfl rfl ?_
          refine WL_off rfl rfl rfl rfl ?_
          refine WL_on rfl rfl rfl ?_
          refine S_pick_f rfl rfl ?_
          refine S_pick_f rfl rfl ?_
          refine S_move rfl ?_
          refine WL_norm (L := [(1, .int .i64 (1 + (a.tmod (L_17.length : Int) + (L_17.length : Int)).tmod (L_17.length : Int))), (2, .int .i64 (1 + (b.tmod (L_17.length : Int) + (L_17.length : Int)).tmod (L_17.length : Int))), (3, .int .i64 (1 + (c.tmod (L_17.length : Int) + (L_17.length : Int)).tmod (L_17.length : Int))), (9, .slice A_18 L_17.length cap_19), (10, .int .i64 (L_17.length : Int)), (11, .bool false), (12, .bool (decide (Right L_17 ∧ Rch L_17 (1 + (b.tmod (L_17.length : Int) + (L_17.length : Int)).tmod (L_17.length : Int)) (1 + (c.tmod (L_17.length : Int) + (L_17.length : Int)).tmod (L_17.length : Int))))), (89, .bool false)]) ⟨rfl, rfl, rfl, rfl, rfl, rfl, rfl, rfl, trivial⟩ ?_
          intro g_713
          refine WL_on rfl rfl rfl ?_
          refine S_move rfl ?_
          refine WL_on rfl rfl rfl ?_
          refine S_move rfl ?_
          refine WL_off rfl rfl rfl rfl ?_
          refine WL_off rfl rfl rfl rfl ?_
          refine WL_off rfl rfl rfl rfl ?_
          refine WL_on rfl rfl rfl ?_
          refine S_pick_f rfl rfl ?_
          refine WL_on rfl rfl rfl ?_
          refine S_move rfl ?_
          refine WL_off rfl rfl rfl rfl ?_
          refine WL_off rfl rfl rfl rfl ?_
          refine WL_off rfl rfl rfl rfl ?_
          refine WL_off rfl rfl rfl rfl ?_
          refine WL_on rfl rfl rfl ?_
          refine S_pick_f rfl rfl ?_
          refine S_pick_f rfl rfl ?_
          refine WL_nil ?_
          refine W_cond_false rfl ?_
          refine W_skip ?_
          refine W_seq ?_
          refine W_seq ?_
          refine W_region ?_
          refine WL_norm (L := [(1, .int .i64 (1 + (a.tmod (L_17.length : Int) + (L_17.length : Int)).tmod (L_17.length : Int))), (2, .int .i64 (1 + (b.tmod (L_17.length : Int) + (L_17.length : Int)).tmod (L_17.length : Int))), (3, .int .i64 (1 + (c.tmod (L_17.length : Int) + (L_17.length : Int)).tmod (L_17.length : Int))), (9, .slice A_18 L_17.length cap_19), (10, .int .i64 (L_17.length : Int)), (11, .bool false)]) ⟨rfl, rfl, rfl, rfl, rfl, rfl, trivial⟩ ?_
          intro g_714
          refine S_move rfl ?_
          refine S_move rfl ?_
          refine WL_off rfl rfl rfl rfl ?_
          refine WL_off rfl rfl rfl rfl ?_
          refine WL_off rfl rfl rfl rfl ?_
          refine WL_off rfl rfl rfl rfl ?_
          refine WL_off rfl rfl rfl rfl ?_
          refine WL_off rfl rfl rfl rfl ?_
          refine WL_off rfl rfl rfl rfl ?_
          refine WL_off rfl rfl rfl rfl ?_
          refine S_pick_f rfl rfl ?_
          refine WL_nil ?_
          refine W_cond_false rfl ?_
          refine W_skip ?_
          refine W_seq ?_
          refine W_region ?_
          refine WL_norm (L := [(1, .int .i64 (1 + (a.tmod (L_17.length : Int) + (L_17.length : Int)).tmod (L_17.length : Int))), (2, .int .i64 (1 + (b.tmod (L_17.length : Int) + (L_17.length : Int)).tmod (L_17.length : Int))), (3, .int .i64 (1 + (c.tmod (L_17.length : Int) + (L_17.length : Int)).tmod (L_17.length : Int))), (9, .slice A_18 L_17.length cap_19), (10, .int .i64 (L_17.length : Int))]) ⟨rfl, rfl, rfl, rfl, rfl, trivial⟩ ?_
          intro g_715
          refine S_move rfl ?_
          refine S_move rfl ?_
          refine S_move rfl ?_
          have hz_723 := common_ok h_43 (fun x hx => Nat.lt_of_lt_of_le (hM x hx) (E_42).size) hl (1 + (a.tmod (L_17.length : Int) + (L_17.length : Int)).tmod (L_17.length : Int)) (1 + (c.tmod (L_17.length : Int) + (L_17.length : Int)).tmod (L_17.length : Int)) ha hc
          refine S_call Try.call12 rfl hz_723 rfl ?_
          rintro _ w_716 ⟨L_718, A_719, cap_720, rfl, hr_721, hp_722, e_717⟩
          have E_724 := Ext.stepO E_42 e_717 mem0
          have h_725 := Rep.ext _ h_43 e_717
          have hl_726 := rSlice_len hr_721
          refine S_assign rfl ?_
          refine WL_nil ?_
          refine W_seq ?_
          refine W_seq ?_
          refine W_region ?_
          refine WL_norm (L := [(1, .int .i64 (1 + (a.tmod (L_17.length : Int) + (L_17.length : Int)).tmod (L_17.length : Int))), (2, .int .i64 (1 + (b.tmod (L_17.length : Int) + (L_17.length : Int)).tmod (L_17.length : Int))), (3, .int .i64 (1 + (c.tmod (L_17.length : Int) + (L_17.length : Int)).tmod (L_17.length : Int))), (9, .slice A_18 L_17.length cap_19), (10, .int .i64 (L_17.length : Int)), (13, .slice A_719 L_718.length cap_720)]) ⟨rfl, rfl, rfl, rfl, rfl, rfl, trivial⟩ ?_
          intro g_727
          skip
          refine S_move rfl ?_
          refine S_move rfl ?_
          refine S_move rfl ?_
          refine S_move rfl ?_
          have hz_735 := common_ok h_725 (fun x hx => Nat.lt_of_lt_of_le (hM x hx) (E_724).size) hl (1 + (c.tmod (L_17.length : Int) + (L_17.length : Int)).tmod (L_17.length : Int)) (1 + (a.tmod (L_17.length : Int) + (L_17.length : Int)).tmod (L_17.length : Int)) hc ha
          refine S_call Try.call12 rfl hz_735 rfl ?_
          rintro _ w_728 ⟨L_730, A_731, cap_732, rfl, hr_733, hp_734, e_729⟩
          have E_736 := Ext.stepO E_724 e_729 mem0
          have h_737 := Rep.ext _ h_725 e_729
          have h_738 := Rep.ext _ hr_721 e_729
          have hl_739 := rSlice_len hr_733
          have he_740 : L_718 = L_730 := (fun h k => nearL_unique h (nearL_comm k)) hp_722 hp_734
          have hz_741 := (ints_ok h_738 hr_733).mono (R' := fun v w' => v = .bool true ∧ w' = w_728) (fun _ _ h => ⟨h.1.trans (congrArg Value.bool (decide_eq_true he_740)), h.2⟩)
          refine S_callQ Try.call11 rfl hz_741 rfl ?_
          refine S_not rfl rfl ?_
          refine WL_nil ?_
          refine W_cond_false rfl ?_
          refine W_skip ?_
          refine W_seq ?_
          refine W_seq ?_
          refine W_region ?_
          refine WL_norm (L := [(1, .int .i64 (1 + (a.tmod (L_17.length : Int) + (L_17.length : Int)).tmod (L_17.length : Int))), (3, .int .i64 (1 + (c.tmod (L_17.length : Int) + (L_17.length : Int)).tmod (L_17.length : Int))), (9, .slice A_18 L_17.length cap_19), (10, .int .i64 (L_17.length : Int)), (13, .slice A_719 L_718.length cap_720)]) ⟨rfl, rfl, rfl, rfl, rfl, trivial⟩ ?_
          intro g_743
          refine S_assign rfl ?_
          refine WL_nil ?_
          refine W_block ?_
          refine W_loopF [8, 14, 15, 17, 125, 126, 127, 128, 129, 130, 131, 132, 133, 134, 135, 136, 137, 138, 139, 140, 141, 142, 143, 144, 145, 146, 147, 148, 149, 150, 151, 152, 153, 154, 155, 156, 157] (fun m f w => ∃ k : Int, m = (L_17.length + 1 - k).toNat ∧ 1 ≤ k ∧ k ≤ L_17.length + 1 ∧ Ext [] w0 w ∧ Ext ([]) w_728 w ∧ Live f [(14, .int .i64 k)]) ?_ ?_
          · exact ⟨_, 1, rfl, by omega, by omega, E_736, (Ext.refl _ _), rfl, trivial⟩
          ·
            rintro m g_748 w_744 ⟨k, rfl, q0, q1, E_745, e_746, hl_747⟩
            refine W_liveM hl_747 rfl ?_
            have h_749 := Rep.ext _ h_737 e_746
            have h_750 := Rep.ext _ h_738 e_746
            refine W_seq ?_
            refine W_seq ?_
            refine W_region ?_
            refine S_move rfl ?_
            refine S_move rfl ?_
            refine S_leq rfl rfl rfl ?_
            refine WL_nil ?_
            refine W_cond rfl (fun h_752 => ?_) (fun h_752 => ?_)
            ·
              have p_753 := h_752
              try simp only [lrn] at p_753
              refine W_skip ?_
              refine W_seq ?_
              refine W_block ?_
              refine W_seq ?_
              refine W_seq ?_
              refine W_region ?_
              refine S_move rfl ?_
              refine S_move rfl ?_
              refine S_move rfl ?_
              have hz_756 := reaches_ok h_749 (fun x hx => Nat.lt_of_lt_of_le (hM x hx) (E_745).size) hl (1 + (a.tmod (L_17.length : Int) + (L_17.length : Int)).tmod (L_17.length : Int)) k ha
              refine S_callE Try.call19 rfl hz_756 rfl ?_
              intro w_754 e_755
              have E_757 := Ext.stepO E_745 e_755 mem0
              have c_758 := Ext.stepO e_746 e_755 mem0
              have h_759 := Rep.ext _ h_749 e_755
              have h_760 := Rep.ext _ h_750 e_755
              refine S_not rfl rfl ?_
              refine S_move rfl ?_
              refine WL_split (dj := 135) rfl (fun h_762 => ?_) (fun h_762 => ?_)
              ·
                have h_763 := h_762
                simp only [lrnN] at h_763
                have p_764 := h_763
                try simp only [lrn] at p_764
                refine WL_off rfl rfl rfl (nF h_763) ?_
                refine WL_off rfl rfl rfl (nF h_763) ?_
                refine WL_off rfl rfl rfl (nF h_763) ?_
                refine WL_off rfl rfl rfl (nF h_763) ?_
                refine WL_off rfl rfl rfl (nF h_763) ?_
                refine S_pick_t (nF h_763) rfl ?_
                refine WL_nil ?_
                refine W_cond_true rfl ?_
                refine W_exit ?_
                refine W_region ?_
                refine S_move rfl ?_
                refine S_add rfl rfl (by omega) rfl ?_
                refine S_assign rfl ?_
                refine WL_nil ?_
                refine ⟨by repeat (first | refine agree_upd rfl ?_ | exact agree_mix rfl agree_refl | refine agree_mix rfl ?_), ?_⟩
                exact ⟨_, by omega, k + 1, rfl, by omega, by omega, E_757, c_758, rfl, trivial⟩
              ·
                have h_765 := h_762
                simp only [lrnN] at h_765
                have p_766 := h_765
                try simp only [lrn] at p_766
                refine WL_on rfl rfl (nT h_765) ?_
                refine S_move rfl ?_
                refine WL_on rfl rfl (nT h_765) ?_
                refine S_move rfl ?_
                refine WL_on rfl rfl (nT h_765) ?_
                refine S_move rfl ?_
                refine WL_on rfl rfl (nT h_765) ?_
                have hz_769 := reaches_ok h_759 (fun x hx => Nat.lt_of_lt_of_le (hM x hx) (E_757).size) hl (1 + (c.tmod (L_17.length : Int) + (L_17.length : Int)).tmod (L_17.length : Int)) k hc
                refine S_callE Try.call19 rfl hz_769 rfl ?_
                intro w_767 e_768
                have E_770 := Ext.stepO E_757 e_768 mem0
                have c_771 := Ext.stepO c_758 e_768 mem0
                have h_772 := Rep.ext _ h_759 e_768
                have h_773 := Rep.ext _ h_760 e_768
                refine WL_on rfl rfl (nT h_765) ?_
                refine S_not rfl rfl ?_
                refine S_pick_f (nT h_765) rfl ?_
                refine WL_nil ?_
                refine W_cond rfl (fun h_775 => ?_) (fun h_775 => ?_)
                ·
                  have h_776 := h_775
                  simp only [lrnN] at h_776
                  have p_777 := h_776
                  try simp only [lrn] at p_777
                  refine W_exit ?_
                  refine W_region ?_
                  refine S_move rfl ?_
                  refine S_add rfl rfl (by omega) rfl ?_
                  refine S_assign rfl ?_
                  refine WL_nil ?_
                  refine ⟨by repeat (first | refine agree_upd rfl ?_ | exact agree_mix rfl agree_refl | refine agree_mix rfl ?_), ?_⟩
                  exact ⟨_, by omega, k + 1, rfl, by omega, by omega, E_770, c_771, rfl, trivial⟩
                ·
                  have h_778 := h_775
                  simp only [lrnN] at h_778
                  have p_779 := h_778
                  try simp only [lrn] at p_779
                  refine W_skip ?_
                  refine W_seq ?_
                  refine W_region ?_
                  refine S_assign rfl ?_
                  refine WL_nil ?_
                  refine W_seq ?_
                  refine W_seq ?_
                  refine W_region ?_
                  refine S_move rfl ?_
                  refine S_len Try.runUnderlying26 rfl rfl ?_
                  refine S_move rfl ?_
                  refine WL_nil ?_
                  refine W_block ?_
                  refine W_loopF [15, 17, 144, 145, 146, 147, 148, 149, 150, 151, 152, 153, 154, 155] (fun m f w => ∃ (j : Int) (p : Bool), m = (L_718.length - j).toNat ∧ 0 ≤ j ∧ p = decide (Cov L_17 L_718 k j) ∧ Ext [] w0 w ∧ Ext ([]) w_767 w ∧ Live f [(144, .int .i64 j), (15, .bool p)]) ?_ ?_
                  · exact ⟨_, 0, _, rfl, by omega, cov0, E_770, (Ext.refl _ _), rfl, rfl, trivial⟩
                  ·
                    rintro m g_785 w_781 ⟨j, p, rfl, s0, s1, E_782, e_783, hl_784⟩
                    refine W_liveM hl_784 rfl ?_
                    have c_786 := Ext.stepO c_771 e_783 mem0
                    have h_787 := Rep.ext _ h_772 e_783
                    have h_788 := Rep.ext _ h_773 e_783
                    refine W_seq ?_
                    refine W_region ?_
                    refine S_lss rfl rfl rfl ?_
                    refine WL_nil ?_
                    refine W_seq ?_
                    refine W_cond rfl (fun h_790 => ?_) (fun h_790 => ?_)
                    ·
                      have p_791 := h_790
                      try simp only [lrn] at p_791
                      refine W_skip ?_
                      refine W_seq ?_
                      refine W_block ?_
                      refine W_seq ?_
                      refine W_region ?_
                      refine S_index Try.runUnderlying26 Try.sizeOf3 h_788 rfl (by omega) (by omega) rfl ?_
                      intro b_792 o_793 cs_794 hi_795 hc_796 hb_797 hr_798
                      refine S_loadI Try.isAgg3 rfl hc_796 hr_798 rfl ?_
                      rintro ⟨r_799, r_800⟩
                      refine S_assign rfl ?_
                      refine WL_nil ?_
                      refine W_region ?_
                      refine S_move rfl ?_
                      refine S_move rfl ?_
                      refine WL_split (dj := 149) rfl (fun h_801 => ?_) (fun h_801 => ?_)
                      ·
                        have p_802 := h_801
                        try simp only [lrn] at p_802
                        refine WL_off rfl rfl rfl (bT h_801) ?_
                        refine WL_off rfl rfl rfl (bT h_801) ?_
                        refine WL_off rfl rfl rfl (bT h_801) ?_
                        refine WL_off rfl rfl rfl (bT h_801) ?_
                        refine S_pick_t (bT h_801) rfl ?_
                        refine S_assign rfl ?_
                        refine WL_nil ?_
                        refine W_region ?_
                        refine S_add rfl rfl (by omega) rfl ?_
                        refine S_move rfl ?_
                        refine WL_nil ?_
                        refine ⟨by repeat (first | refine agree_upd rfl ?_ | exact agree_mix rfl agree_refl | refine agree_mix rfl ?_), ?_⟩
                        exact ⟨_, by omega, j + 1, _, rfl, by omega, by first | exact cov_t s1 ‹_› s0 (by omega) | exact cov_f hr s1 ‹_› s0 (by omega), E_782, e_783, rfl, rfl, trivial⟩
                      ·
                        have p_803 := h_801
                        try simp only [lrn] at p_803
                        refine WL_on rfl rfl (bF h_801) ?_
                        refine S_move rfl ?_
                        refine WL_on rfl rfl (bF h_801) ?_
                        refine S_move rfl ?_
                        refine WL_on rfl rfl (bF h_801) ?_
                        refine S_move rfl ?_
                        refine WL_on rfl rfl (bF h_801) ?_
                        have hz_806 := reaches_ok h_787 (fun x hx => Nat.lt_of_lt_of_le (hM x hx) (E_782).size) hl L_718[j.toNat] k (by unfold InI; omega)
                        refine S_callE Try.call19 rfl hz_806 rfl ?_
                        intro w_804 e_805
                        have E_807 := Ext.stepO E_782 e_805 mem0
                        have c_808 := Ext.stepO c_786 e_805 mem0
                        have c_809 := Ext.stepO e_783 e_805 mem0
                        have h_810 := Rep.ext _ h_787 e_805
                        have h_811 := Rep.ext _ h_788 e_805
                        have h_812 := Rep.ext _ hr_798 e_805
                        have h_813 := Cells.ext hc_796 e_805 nin0
                        refine S_pick_f (bF h_801) rfl ?_
                        refine S_assign rfl ?_
                        refine WL_nil ?_
                        refine W_region ?_
                        refine S_add rfl rfl (by omega) rfl ?_
                        refine S_move rfl ?_
                        refine WL_nil ?_
                        refine ⟨by repeat (first | refine agree_upd rfl ?_ | exact agree_mix rfl agree_refl | refine agree_mix rfl ?_), ?_⟩
                        exact ⟨_, by omega, j + 1, _, rfl, by omega, by first | exact cov_t s1 ‹_› s0 (by omega) | exact cov_f hr s1 ‹_› s0 (by omega), E_807, c_809, rfl, rfl, trivial⟩
                    ·
                      have p_815 := h_790
                      try simp only [lrn] at p_815
                      refine W_exit ?_
                      refine W_seq ?_
                      refine W_region ?_
                      refine S_move rfl ?_
                      refine S_not rfl rfl ?_
                      refine WL_nil ?_
                      refine W_cond rfl (fun h_816 => ?_) (fun h_816 => ?_)
                      ·
                        have h_817 := h_816
                        simp only [lrnN] at h_817
                        have p_818 := h_817
                        try simp only [lrn] at p_818
                        refine W_seq ?_
                        refine W_region ?_
                        refine S_assign rfl ?_
                        refine WL_nil ?_
                        refine W_ret ?_
                        exact (cov_all hr hp_722 s1 (by omega) (by assumption) (by assumption) (by assumption)).elim
                      ·
                        have h_819 := h_816
                        simp only [lrnN] at h_819
                        have p_820 := h_819
                        try simp only [lrn] at p_820
                        refine W_skip ?_
                        refine W_region ?_
                        refine S_move rfl ?_
                        refine S_add rfl rfl (by omega) rfl ?_
                        refine S_assign rfl ?_
                        refine WL_nil ?_
                        refine ⟨by repeat (first | refine agree_upd rfl ?_ | exact agree_mix rfl agree_refl | refine agree_mix rfl ?_), ?_⟩
                        exact ⟨_, by omega, k + 1, rfl, by omega, by omega, E_782, c_786, rfl, trivial⟩
            ·
              have p_821 := h_752
              try simp only [lrn] at p_821
              refine W_exit ?_
              refine W_seq ?_
              refine W_region ?_
              refine S_callE Try.call10 rfl (alive_ok (M := M) (fun x hx => Nat.lt_of_lt_of_le (hM x hx) (E_745).size)) rfl ?_
              intro w_822 e_823
              have E_824 := Ext.stepO E_745 e_823 mem0
              have h_825 := Rep.ext _ h_749 e_823
              have h_826 := Rep.ext _ h_750 e_823
              refine S_assign rfl ?_
              refine WL_nil ?_
              refine W_ret ?_
              exact ⟨rfl, E_824⟩
end Go.Proofs.Ytpgegnmaophapaa
