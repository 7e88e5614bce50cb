/- Disks: walks, printed by program, and their plain law. -/
import Derived.Test.YtdgcgifigkfeaaaR2
namespace Go.Proofs.Ytdgcgifigkfeaaa
open Go Go.Wk Go.Wl Classical
theorem rread_ok {w0 : World} {r : Nat} {x : Rk} {F : List Nat} (h : RkIs r w0 x F) (ok : x.Ok) (a : Int) :
    CallR Try.prog 21 [.pointer (some ⟨r, 0, none⟩), .int .i64 a] w0 (fun v w' => v = .tuple #[sv (x.read a).1, .int .i64 (x.read a).2] ∧ w' = w0) := by
  obtain ⟨A_Lasts, k_Lasts, s_Lasts, A_At, k_At, s_At, A_Fresh, k_Fresh, s_Fresh, hs1⟩ := h.fix (Z := fun b => b ∈ F) h.lt (fun b hb => hb)
  have hs0 := hs1.fact (t := iObF (obRk r) x F) ⟨fun b hb => hb, h⟩ sObF rfl rfl
  have ⟨hsame, hmax, hinn, hll, hfl, ⟨hi1, hi2⟩, hcnt⟩ := ok
  refine Call2 Try.func21 rfl rfl rfl rfl ?_
  refine W_seq ?_
  refine W_region ?_
  refine S_assign rfl ?_
  refine S_assign rfl ?_
  refine WL_nil ?_
  refine W_seq ?_
  refine W_seq ?_
  refine W_region ?_
  refine S_move rfl ?_
  refine S_lss rfl rfl rfl ?_
  refine S_move rfl ?_
  refine WL_split (dj := 10) rfl (fun h1 => ?_) (fun h1 => ?_)
  ·
    have p2 := of_decide_eq_true h1
    refine WL_off rfl rfl rfl (bT h1) ?_
    refine WL_off rfl rfl rfl (bT h1) ?_
    refine WL_off rfl rfl rfl (bT h1) ?_
    refine WL_off rfl rfl rfl (bT h1) ?_
    refine WL_off rfl rfl rfl (bT h1) ?_
    refine WL_off rfl rfl rfl (bT h1) ?_
    refine WL_off rfl rfl rfl (bT h1) ?_
    refine S_pick_t (bT h1) rfl ?_
    refine WL_nil ?_
    refine W_cond_true rfl ?_
    refine W_seq ?_
    refine W_live (L := []) trivial ?_
    intro g3
    refine W_region ?_
    refine S_assign rfl ?_
    refine S_assign rfl ?_
    refine WL_nil ?_
    refine W_ret ?_
    show (Value.tuple #[sv [], .int .i64 3]) = .tuple #[sv (x.read a).1, .int .i64 (x.read a).2] ∧ w0 = w0
    rw [Rk.read, if_pos (by omega)]
    exact ⟨rfl, rfl⟩
  ·
    have p4 := of_decide_eq_false h1
    refine WL_on rfl rfl (bF h1) ?_
    refine S_move rfl ?_
    refine WL_on rfl rfl (bF h1) ?_
    refine S_move rfl ?_
    refine WL_on rfl rfl (bF h1) ?_
    refine S_nilCheck rfl rfl ?_
    refine WL_on rfl rfl (bF h1) ?_
    refine S_fieldAddr Try.runUnderlying43 rfl Try.sizeOf41 rfl rfl ?_
    refine WL_on rfl rfl (bF h1) ?_
    refine S_load1 Try.isAgg41 rfl (Own.at ((hs0.at 1 rfl)).2 rfl) rfl ?_
    refine WL_on rfl rfl (bF h1) ?_
    refine S_len Try.runUnderlying41 rfl rfl ?_
    refine WL_on rfl rfl (bF h1) ?_
    refine S_geq rfl rfl rfl ?_
    refine S_pick_f (bF h1) rfl ?_
    refine WL_nil ?_
    refine W_cond rfl (fun h5 => ?_) (fun h5 => ?_)
    ·
      have p6 := of_decide_eq_true h5
      refine W_seq ?_
      refine W_live (L := []) trivial ?_
      intro g7
      refine W_region ?_
      refine S_assign rfl ?_
      refine S_assign rfl ?_
      refine WL_nil ?_
      refine W_ret ?_
      show (Value.tuple #[sv [], .int .i64 3]) = .tuple #[sv (x.read a).1, .int .i64 (x.read a).2] ∧ w0 = w0
      rw [Rk.read, if_pos (by omega)]
      exact ⟨rfl, rfl⟩
    ·
      have p8 := of_decide_eq_false h5
      refine W_skip ?_
      refine W_seq ?_
      refine W_seq ?_
      refine W_live (L := [(0, .pointer (some ⟨r, 0, none⟩)), (1, .int .i64 a)]) ⟨rfl, rfl, trivial⟩ ?_
      intro g9
      refine W_region ?_
      refine S_move rfl ?_
      refine S_nilCheck rfl rfl ?_
      refine S_fieldAddr Try.runUnderlying43 rfl Try.sizeOf4 rfl rfl ?_
      refine S_load1 Try.isAgg4 rfl (Own.at ((hs0.at 1 rfl)).2 rfl) rfl ?_
      refine WL_nil ?_
      refine W_cond rfl (fun h10 => ?_) (fun h10 => ?_)
      ·
        have p11 := h10
        try simp only [lrn] at p11
        refine W_seq ?_
        refine W_region ?_
        refine S_assign rfl ?_
        refine S_assign rfl ?_
        refine WL_nil ?_
        refine W_ret ?_
        show (Value.tuple #[sv [], .int .i64 9]) = .tuple #[sv (x.read a).1, .int .i64 (x.read a).2] ∧ w0 = w0
        rw [Rk.read, if_neg (by omega), if_pos ‹_›]
        exact ⟨rfl, rfl⟩
      ·
        have p12 := h10
        try simp only [lrn] at p12
        refine W_skip ?_
        refine W_seq ?_
        refine W_region ?_
        refine S_move rfl ?_
        refine S_move rfl ?_
        refine S_callQ Try.call35 rfl (rnow_ok ((hs0.at 0 rfl)).2 ok a) rfl ?_
        refine S_move rfl ?_
        refine S_extract rfl rfl rfl ?_
        refine S_extract rfl rfl rfl ?_
        refine S_assign rfl ?_
        refine S_assign rfl ?_
        refine WL_nil ?_
        refine W_seq ?_
        refine W_seq ?_
        refine W_live (L := [(0, .pointer (some ⟨r, 0, none⟩)), (1, .int .i64 a), (6, sv ((x.now a).getD [])), (7, .bool (Option.isSome (x.now a)))]) ⟨rfl, rfl, rfl, rfl, trivial⟩ ?_
        intro g13
        refine W_region ?_
        refine S_move rfl ?_
        refine WL_nil ?_
        refine W_cond rfl (fun h14 => ?_) (fun h14 => ?_)
        ·
          have p15 := h14
          try simp only [lrn] at p15
          refine W_seq ?_
          refine W_region ?_
          refine S_move rfl ?_
          refine S_assign rfl ?_
          refine S_assign rfl ?_
          refine WL_nil ?_
          refine W_ret ?_
          show (Value.tuple #[sv ((x.now a).getD []), .int .i64 0]) = .tuple #[sv (x.read a).1, .int .i64 (x.read a).2] ∧ w0 = w0
          rw [rread_fine (by omega) (by omega) ‹_› ‹_›]
          exact ⟨rfl, rfl⟩
        ·
          have p16 := h14
          try simp only [lrn] at p16
          refine W_skip ?_
          refine W_seq ?_
          refine W_region ?_
          refine S_move rfl ?_
          refine S_nilCheck rfl rfl ?_
          refine S_fieldAddr Try.runUnderlying43 rfl Try.sizeOf41 rfl rfl ?_
          refine S_load1 Try.isAgg41 rfl (Own.at ((hs0.at 1 rfl)).2 rfl) rfl ?_
          refine S_move rfl ?_
          refine Z_indexAc ((hs0.at 2 rfl)).choose_spec.2 Try.runUnderlying41 Try.sizeOf9 rfl rfl (show (0 : Int) ≤ a from by omega) (show a < ((x.Lasts.length : Nat) : Int) from by omega) rfl ?_
          have o20 := cell_ac (q := (Int.toNat a) * 1) (sz := 1) (o := 0) ((hs0.at 2 rfl)).choose_spec.2 (Sub.self _) rfl (Nat.add_zero _).symm (show (0 : Int) ≤ a from by omega) (show a < ((x.Lasts.length : Nat) : Int) from by omega)
          obtain ⟨c17, hc18, hr19⟩ := o20
          obtain ⟨rfl, r21⟩ := hr19
          refine Z_load Try.isAgg9 rfl hc18 rfl ?_
          refine S_assign rfl ?_
          refine S_assign rfl ?_
          refine WL_nil ?_
          refine W_ret ?_
          show (Value.tuple #[sv (ix x.Lasts a), .int .i64 0]) = .tuple #[sv (x.read a).1, .int .i64 (x.read a).2] ∧ w0 = w0
          rw [rread_fine (by omega) (by omega) ‹_› ‹_›]
          exact ⟨rfl, rfl⟩
theorem rflush_ok {w0 : World} {r : Nat} {x : Rk} {F : List Nat} (h : RkIs r w0 x F) (ok : x.Ok) :
    CallR Try.prog 31 [.pointer (some ⟨r, 0, none⟩)] w0 (fun v w' => v = .int .i64 x.flush.1 ∧ ∃ F', RkIs r w' x.flush.2 F' ∧ Turn w0 w' F F') := by
  have hs0 := Sep.one (o := obRk r) (Z := fun _ => False) h (fun _ h => h.elim) (fun _ _ h => h)
  have ⟨hsame, hmax, hinn, hll, hfl, ⟨hi1, hi2⟩, hcnt⟩ := ok
  refine Call1 Try.func31 rfl rfl rfl rfl ?_
  refine W_seq ?_
  refine W_region ?_
  refine S_assign rfl ?_
  refine WL_nil ?_
  refine W_seq ?_
  refine W_seq ?_
  refine W_region ?_
  refine S_move rfl ?_
  have hz5 := ract_ok (hs0.at 0 rfl) ok
  refine S_callE Try.call41 rfl hz5 rfl ?_
  rintro w1 ⟨F2, h3, t4⟩
  have hs6 : Sep F w0 (fun _ => False) w1 [iOb (obRk r) x.act.2 F2 F] := hs0.turn 0 rfl h3 t4
  refine S_not rfl rfl ?_
  refine WL_nil ?_
  refine W_cond rfl (fun h8 => ?_) (fun h8 => ?_)
  ·
    have h9 := h8
    simp only [lrnN] at h9
    have p10 := h9
    try simp only [lrn] at p10
    refine W_seq ?_
    refine W_region ?_
    refine S_assign rfl ?_
    refine WL_nil ?_
    refine W_ret ?_
    show (Value.int .i64 9) = .int .i64 x.flush.1 ∧ ∃ F', RkIs r w1 x.flush.2 F' ∧ Turn w0 w1 F F'
    rw [Rk.flush, if_pos ‹_›]
    exact ⟨rfl, _, hs6.at 0 rfl, hs6.ext, fun b hb => (hs6.org 0 rfl b hb)⟩
  ·
    have h11 := h8
    simp only [lrnN] at h11
    have p12 := h11
    try simp only [lrn] at p12
    refine W_skip ?_
    refine W_seq ?_
    refine W_seq ?_
    have ⟨A_Lasts13, k_Lasts13, s_Lasts13, A_At13, k_At13, s_At13, A_Fresh13, k_Fresh13, s_Fresh13, hs14⟩ := Sep.openRk hs6
    have hs14 : Sep F w0 (fun _ => False) w1 [iOwn r 43 [.slice A_Lasts13 x.act.2.Lasts.length k_Lasts13, .slice A_At13 x.act.2.At.length k_At13, .slice A_Fresh13 x.act.2.Fresh.length k_Fresh13, .int .i64 x.act.2.Left, .bool x.act.2.Off] F, iAc dStr (.slice A_Lasts13 x.act.2.Lasts.length k_Lasts13) x.act.2.Lasts s_Lasts13 F, iAc dInt (.slice A_At13 x.act.2.At.length k_At13) x.act.2.At s_At13 F, iAc dStr (.slice A_Fresh13 x.act.2.Fresh.length k_Fresh13) x.act.2.Fresh s_Fresh13 F] := hs14
    have hok := ract_Ok ok
    have hsam := hok.same
    have hcn := hok.cnt
    refine W_region ?_
    refine S_assign rfl ?_
    refine WL_nil ?_
    refine W_block ?_
    refine W_loopE (fun m f w => ∃ (i : Int) (la : List Str), m = ((x.act.2.At.length : Int) - i).toNat ∧ (0 ≤ i) ∧ (i ≤ x.act.2.At.length) ∧ (la = ((x.act.2.At.zip x.act.2.Fresh).take i.toNat).foldl rstep x.act.2.Lasts) ∧ Sep F w0 (fun _ => False) w [iOwn r 43 [.slice A_Lasts13 x.act.2.Lasts.length k_Lasts13, .slice A_At13 x.act.2.At.length k_At13, .slice A_Fresh13 x.act.2.Fresh.length k_Fresh13, .int .i64 x.act.2.Left, .bool x.act.2.Off] F, iAc dStr (.slice A_Lasts13 x.act.2.Lasts.length k_Lasts13) la s_Lasts13 F, iAc dInt (.slice A_At13 x.act.2.At.length k_At13) x.act.2.At s_At13 F, iAc dStr (.slice A_Fresh13 x.act.2.Fresh.length k_Fresh13) x.act.2.Fresh s_Fresh13 F] ∧ Live f [(0, .pointer (some ⟨r, 0, none⟩)), (3, .int .i64 i)]) ?_ ?_
    · exact ⟨_, 0, _, rfl, (by omega), (by omega), rfl, hs14, ⟨rfl, rfl, trivial⟩⟩
    ·
      rintro _ f17 w15 ⟨i, la, rfl, q20, q21, q22, hs18, hl19⟩
      refine W_live hl19 ?_
      intro g23
      refine W_seq ?_
      refine W_seq ?_
      refine W_region ?_
      refine S_move rfl ?_
      refine S_move rfl ?_
      refine S_nilCheck rfl rfl ?_
      refine S_fieldAddr Try.runUnderlying43 rfl Try.sizeOf37 rfl rfl ?_
      refine S_load1 Try.isAgg37 rfl (Own.at (hs18.at 0 rfl) rfl) rfl ?_
      refine S_len Try.runUnderlying37 rfl rfl ?_
      refine S_lss rfl rfl rfl ?_
      refine WL_nil ?_
      refine W_cond rfl (fun h24 => ?_) (fun h24 => ?_)
      ·
        have p25 := of_decide_eq_true h24
        refine W_skip ?_
        refine W_seq ?_
        refine W_block ?_
        have hai := ix_in hok.inn (i := i) (by omega) (by omega)
        have hal := ix_in hok.flen (i := i) (by omega) (by omega)
        refine W_live (L := [(0, .pointer (some ⟨r, 0, none⟩)), (3, .int .i64 i)]) ⟨rfl, rfl, trivial⟩ ?_
        intro g26
        refine W_region_J (fun dN vL w => Sep F w0 (fun _ => False) w [iOwn r 43 [.slice A_Lasts13 x.act.2.Lasts.length k_Lasts13, .slice A_At13 x.act.2.At.length k_At13, .slice A_Fresh13 x.act.2.Fresh.length k_Fresh13, .int .i64 x.act.2.Left, .bool x.act.2.Off] F, (bif dN 19 then (iAc dStr (.slice A_Lasts13 x.act.2.Lasts.length k_Lasts13) (List.set la (Int.toNat (ix x.act.2.At i)) (ix x.act.2.Fresh i)) s_Lasts13 F) else (iAc dStr (.slice A_Lasts13 x.act.2.Lasts.length k_Lasts13) la s_Lasts13 F)), iAc dInt (.slice A_At13 x.act.2.At.length k_At13) x.act.2.At s_At13 F, iAc dStr (.slice A_Fresh13 x.act.2.Fresh.length k_Fresh13) x.act.2.Fresh s_Fresh13 F] ∧ (dN 0 = true → vL 0 = .pointer (some ⟨r, 0, none⟩)) ∧ (dN 1 = true → vL 1 = .pointer (some ⟨r, 0, none⟩)) ∧ (dN 2 = true → vL 2 = .pointer (some ⟨r, 0, none⟩)) ∧ (dN 3 = true → vL 3 = .slice A_Lasts13 x.act.2.Lasts.length k_Lasts13) ∧ (dN 4 = true → vL 4 = .pointer (some ⟨r, 0, none⟩)) ∧ (dN 5 = true → vL 5 = .pointer (some ⟨r, 0, none⟩)) ∧ (dN 6 = true → vL 6 = .pointer (some ⟨r, 1, none⟩)) ∧ (dN 7 = true → vL 7 = .slice A_At13 x.act.2.At.length k_At13) ∧ (dN 8 = true → vL 8 = .int .i64 i) ∧ (dN 9 = true → vL 9 = .pointer (some (eA A_At13 ((Int.toNat i) * 1)))) ∧ (dN 10 = true → vL 10 = .int .i64 (ix x.act.2.At i)) ∧ (dN 11 = true → vL 11 = .pointer (some ⟨r, 0, none⟩)) ∧ (dN 12 = true → vL 12 = .pointer (some ⟨r, 0, none⟩)) ∧ (dN 13 = true → vL 13 = .pointer (some ⟨r, 2, none⟩)) ∧ (dN 14 = true → vL 14 = .slice A_Fresh13 x.act.2.Fresh.length k_Fresh13) ∧ (dN 15 = true → vL 15 = .int .i64 i) ∧ (dN 16 = true → vL 16 = .pointer (some (eA A_Fresh13 ((Int.toNat i) * 1)))) ∧ (dN 17 = true → vL 17 = sv (ix x.act.2.Fresh i)) ∧ (dN 18 = true → vL 18 = .pointer (some (eA A_Lasts13 ((Int.toNat (ix x.act.2.At i)) * 1)))) ∧ True) [16, 17, 18, 19, 20, 21, 22, 23, 24, 25, 26, 27, 28, 29, 30, 31, 32, 33, 34] rfl (by decide +kernel) _ rfl ?_ ?_ ?_
        · exact fun V => ⟨hs18, (fun h => by cases h), (fun h => by cases h), (fun h => by cases h), (fun h => by cases h), (fun h => by cases h), (fun h => by cases h), (fun h => by cases h), (fun h => by cases h), (fun h => by cases h), (fun h => by cases h), (fun h => by cases h), (fun h => by cases h), (fun h => by cases h), (fun h => by cases h), (fun h => by cases h), (fun h => by cases h), (fun h => by cases h), (fun h => by cases h), (fun h => by cases h), trivial⟩
        · refine (.cons ?_ (.cons ?_ (.cons ?_ (.cons ?_ (.cons ?_ (.cons ?_ (.cons ?_ (.cons ?_ (.cons ?_ (.cons ?_ (.cons ?_ (.cons ?_ (.cons ?_ (.cons ?_ (.cons ?_ (.cons ?_ (.cons ?_ (.cons ?_ (.cons ?_ (.cons ?_ .nil))))))))))))))))))))
          ·
            rintro dN vL g42 w43 ⟨hs44, v50, v51, v52, v53, v54, v55, v56, v57, v58, v59, v60, v61, v62, v63, v64, v65, v66, v67, v68, _⟩ hD45 hd46 hu47 hg48 hk49
            have e69 : dN 19 = false := hu47 19 (by decide +kernel)
            rw [e69] at hs44
            have hs70 : Sep F w0 (fun _ => False) w43 [iOwn r 43 [.slice A_Lasts13 x.act.2.Lasts.length k_Lasts13, .slice A_At13 x.act.2.At.length k_At13, .slice A_Fresh13 x.act.2.Fresh.length k_Fresh13, .int .i64 x.act.2.Left, .bool x.act.2.Off] F, iAc dStr (.slice A_Lasts13 x.act.2.Lasts.length k_Lasts13) la s_Lasts13 F, iAc dInt (.slice A_At13 x.act.2.At.length k_At13) x.act.2.At s_At13 F, iAc dStr (.slice A_Fresh13 x.act.2.Fresh.length k_Fresh13) x.act.2.Fresh s_Fresh13 F] := hs44
            refine WL_at (L := [(0, .pointer (some ⟨r, 0, none⟩))]) ⟨(hk49 0 (by decide +kernel)), trivial⟩ ?_
            refine S_move rfl ?_
            have hs71 : Sep F w0 (fun _ => False) w43 [iOwn r 43 [.slice A_Lasts13 x.act.2.Lasts.length k_Lasts13, .slice A_At13 x.act.2.At.length k_At13, .slice A_Fresh13 x.act.2.Fresh.length k_Fresh13, .int .i64 x.act.2.Left, .bool x.act.2.Off] F, (bif dN 19 then (iAc dStr (.slice A_Lasts13 x.act.2.Lasts.length k_Lasts13) (List.set la (Int.toNat (ix x.act.2.At i)) (ix x.act.2.Fresh i)) s_Lasts13 F) else (iAc dStr (.slice A_Lasts13 x.act.2.Lasts.length k_Lasts13) la s_Lasts13 F)), iAc dInt (.slice A_At13 x.act.2.At.length k_At13) x.act.2.At s_At13 F, iAc dStr (.slice A_Fresh13 x.act.2.Fresh.length k_Fresh13) x.act.2.Fresh s_Fresh13 F] := by rw [e69]; exact hs70
            exact WL_nil ⟨rfl, _, rfl, hs71, (fun _ => rfl), v51, v52, v53, v54, v55, v56, v57, v58, v59, v60, v61, v62, v63, v64, v65, v66, v67, v68, trivial⟩
          ·
            rintro dN vL g72 w73 ⟨hs74, v80, v81, v82, v83, v84, v85, v86, v87, v88, v89, v90, v91, v92, v93, v94, v95, v96, v97, v98, _⟩ hD75 hd76 hu77 hg78 hk79
            have e99 : dN 0 = true := hd76 0 (by decide +kernel)
            have e100 : dN 19 = false := hu77 19 (by decide +kernel)
            rw [e100] at hs74
            have hs101 : Sep F w0 (fun _ => False) w73 [iOwn r 43 [.slice A_Lasts13 x.act.2.Lasts.length k_Lasts13, .slice A_At13 x.act.2.At.length k_At13, .slice A_Fresh13 x.act.2.Fresh.length k_Fresh13, .int .i64 x.act.2.Left, .bool x.act.2.Off] F, iAc dStr (.slice A_Lasts13 x.act.2.Lasts.length k_Lasts13) la s_Lasts13 F, iAc dInt (.slice A_At13 x.act.2.At.length k_At13) x.act.2.At s_At13 F, iAc dStr (.slice A_Fresh13 x.act.2.Fresh.length k_Fresh13) x.act.2.Fresh s_Fresh13 F] := hs74
            refine WL_at (L := [(16, .pointer (some ⟨r, 0, none⟩))]) ⟨((hg78 0 16 e99 rfl).trans (v80 e99)), trivial⟩ ?_
            refine S_nilCheck rfl rfl ?_
            have hs102 : Sep F w0 (fun _ => False) w73 [iOwn r 43 [.slice A_Lasts13 x.act.2.Lasts.length k_Lasts13, .slice A_At13 x.act.2.At.length k_At13, .slice A_Fresh13 x.act.2.Fresh.length k_Fresh13, .int .i64 x.act.2.Left, .bool x.act.2.Off] F, (bif dN 19 then (iAc dStr (.slice A_Lasts13 x.act.2.Lasts.length k_Lasts13) (List.set la (Int.toNat (ix x.act.2.At i)) (ix x.act.2.Fresh i)) s_Lasts13 F) else (iAc dStr (.slice A_Lasts13 x.act.2.Lasts.length k_Lasts13) la s_Lasts13 F)), iAc dInt (.slice A_At13 x.act.2.At.length k_At13) x.act.2.At s_At13 F, iAc dStr (.slice A_Fresh13 x.act.2.Fresh.length k_Fresh13) x.act.2.Fresh s_Fresh13 F] := by rw [e100]; exact hs101
            exact WL_nil ⟨rfl, _, rfl, hs102, v80, (fun _ => rfl), v82, v83, v84, v85, v86, v87, v88, v89, v90, v91, v92, v93, v94, v95, v96, v97, v98, trivial⟩
          ·
            rintro dN vL g103 w104 ⟨hs105, v111, v112, v113, v114, v115, v116, v117, v118, v119, v120, v121, v122, v123, v124, v125, v126, v127, v128, v129, _⟩ hD106 hd107 hu108 hg109 hk110
            have e130 : dN 1 = true := hd107 1 (by decide +kernel)
            have e131 : dN 19 = false := hu108 19 (by decide +kernel)
            rw [e131] at hs105
            have hs132 : Sep F w0 (fun _ => False) w104 [iOwn r 43 [.slice A_Lasts13 x.act.2.Lasts.length k_Lasts13, .slice A_At13 x.act.2.At.length k_At13, .slice A_Fresh13 x.act.2.Fresh.length k_Fresh13, .int .i64 x.act.2.Left, .bool x.act.2.Off] F, iAc dStr (.slice A_Lasts13 x.act.2.Lasts.length k_Lasts13) la s_Lasts13 F, iAc dInt (.slice A_At13 x.act.2.At.length k_At13) x.act.2.At s_At13 F, iAc dStr (.slice A_Fresh13 x.act.2.Fresh.length k_Fresh13) x.act.2.Fresh s_Fresh13 F] := hs105
            refine WL_at (L := [(17, .pointer (some ⟨r, 0, none⟩))]) ⟨((hg109 1 17 e130 rfl).trans (v112 e130)), trivial⟩ ?_
            refine S_fieldAddr Try.runUnderlying43 rfl Try.sizeOf41 rfl rfl ?_
            have hs133 : Sep F w0 (fun _ => False) w104 [iOwn r 43 [.slice A_Lasts13 x.act.2.Lasts.length k_Lasts13, .slice A_At13 x.act.2.At.length k_At13, .slice A_Fresh13 x.act.2.Fresh.length k_Fresh13, .int .i64 x.act.2.Left, .bool x.act.2.Off] F, (bif dN 19 then (iAc dStr (.slice A_Lasts13 x.act.2.Lasts.length k_Lasts13) (List.set la (Int.toNat (ix x.act.2.At i)) (ix x.act.2.Fresh i)) s_Lasts13 F) else (iAc dStr (.slice A_Lasts13 x.act.2.Lasts.length k_Lasts13) la s_Lasts13 F)), iAc dInt (.slice A_At13 x.act.2.At.length k_At13) x.act.2.At s_At13 F, iAc dStr (.slice A_Fresh13 x.act.2.Fresh.length k_Fresh13) x.act.2.Fresh s_Fresh13 F] := by rw [e131]; exact hs132
            exact WL_nil ⟨rfl, _, rfl, hs133, v111, v112, (fun _ => rfl), v114, v115, v116, v117, v118, v119, v120, v121, v122, v123, v124, v125, v126, v127, v128, v129, trivial⟩
          ·
            rintro dN vL g134 w135 ⟨hs136, v142, v143, v144, v145, v146, v147, v148, v149, v150, v151, v152, v153, v154, v155, v156, v157, v158, v159, v160, _⟩ hD137 hd138 hu139 hg140 hk141
            have e161 : dN 2 = true := hd138 2 (by decide +kernel)
            have e162 : dN 19 = false := hu139 19 (by decide +kernel)
            rw [e162] at hs136
            have hs163 : Sep F w0 (fun _ => False) w135 [iOwn r 43 [.slice A_Lasts13 x.act.2.Lasts.length k_Lasts13, .slice A_At13 x.act.2.At.length k_At13, .slice A_Fresh13 x.act.2.Fresh.length k_Fresh13, .int .i64 x.act.2.Left, .bool x.act.2.Off] F, iAc dStr (.slice A_Lasts13 x.act.2.Lasts.length k_Lasts13) la s_Lasts13 F, iAc dInt (.slice A_At13 x.act.2.At.length k_At13) x.act.2.At s_At13 F, iAc dStr (.slice A_Fresh13 x.act.2.Fresh.length k_Fresh13) x.act.2.Fresh s_Fresh13 F] := hs136
            refine WL_at (L := [(18, .pointer (some ⟨r, 0, none⟩))]) ⟨((hg140 2 18 e161 rfl).trans (v144 e161)), trivial⟩ ?_
            refine S_load1 Try.isAgg41 rfl (Own.at (hs163.at 0 rfl) rfl) rfl ?_
            have hs164 : Sep F w0 (fun _ => False) w135 [iOwn r 43 [.slice A_Lasts13 x.act.2.Lasts.length k_Lasts13, .slice A_At13 x.act.2.At.length k_At13, .slice A_Fresh13 x.act.2.Fresh.length k_Fresh13, .int .i64 x.act.2.Left, .bool x.act.2.Off] F, (bif dN 19 then (iAc dStr (.slice A_Lasts13 x.act.2.Lasts.length k_Lasts13) (List.set la (Int.toNat (ix x.act.2.At i)) (ix x.act.2.Fresh i)) s_Lasts13 F) else (iAc dStr (.slice A_Lasts13 x.act.2.Lasts.length k_Lasts13) la s_Lasts13 F)), iAc dInt (.slice A_At13 x.act.2.At.length k_At13) x.act.2.At s_At13 F, iAc dStr (.slice A_Fresh13 x.act.2.Fresh.length k_Fresh13) x.act.2.Fresh s_Fresh13 F] := by rw [e162]; exact hs163
            exact WL_nil ⟨rfl, _, rfl, hs164, v142, v143, v144, (fun _ => rfl), v146, v147, v148, v149, v150, v151, v152, v153, v154, v155, v156, v157, v158, v159, v160, trivial⟩
          ·
            rintro dN vL g165 w166 ⟨hs167, v173, v174, v175, v176, v177, v178, v179, v180, v181, v182, v183, v184, v185, v186, v187, v188, v189, v190, v191, _⟩ hD168 hd169 hu170 hg171 hk172
            have e192 : dN 19 = false := hu170 19 (by decide +kernel)
            rw [e192] at hs167
            have hs193 : Sep F w0 (fun _ => False) w166 [iOwn r 43 [.slice A_Lasts13 x.act.2.Lasts.length k_Lasts13, .slice A_At13 x.act.2.At.length k_At13, .slice A_Fresh13 x.act.2.Fresh.length k_Fresh13, .int .i64 x.act.2.Left, .bool x.act.2.Off] F, iAc dStr (.slice A_Lasts13 x.act.2.Lasts.length k_Lasts13) la s_Lasts13 F, iAc dInt (.slice A_At13 x.act.2.At.length k_At13) x.act.2.At s_At13 F, iAc dStr (.slice A_Fresh13 x.act.2.Fresh.length k_Fresh13) x.act.2.Fresh s_Fresh13 F] := hs167
            refine WL_at (L := [(0, .pointer (some ⟨r, 0, none⟩))]) ⟨(hk172 0 (by decide +kernel)), trivial⟩ ?_
            refine S_move rfl ?_
            have hs194 : Sep F w0 (fun _ => False) w166 [iOwn r 43 [.slice A_Lasts13 x.act.2.Lasts.length k_Lasts13, .slice A_At13 x.act.2.At.length k_At13, .slice A_Fresh13 x.act.2.Fresh.length k_Fresh13, .int .i64 x.act.2.Left, .bool x.act.2.Off] F, (bif dN 19 then (iAc dStr (.slice A_Lasts13 x.act.2.Lasts.length k_Lasts13) (List.set la (Int.toNat (ix x.act.2.At i)) (ix x.act.2.Fresh i)) s_Lasts13 F) else (iAc dStr (.slice A_Lasts13 x.act.2.Lasts.length k_Lasts13) la s_Lasts13 F)), iAc dInt (.slice A_At13 x.act.2.At.length k_At13) x.act.2.At s_At13 F, iAc dStr (.slice A_Fresh13 x.act.2.Fresh.length k_Fresh13) x.act.2.Fresh s_Fresh13 F] := by rw [e192]; exact hs193
            exact WL_nil ⟨rfl, _, rfl, hs194, v173, v174, v175, v176, (fun _ => rfl), v178, v179, v180, v181, v182, v183, v184, v185, v186, v187, v188, v189, v190, v191, trivial⟩
          ·
            rintro dN vL g195 w196 ⟨hs197, v203, v204, v205, v206, v207, v208, v209, v210, v211, v212, v213, v214, v215, v216, v217, v218, v219, v220, v221, _⟩ hD198 hd199 hu200 hg201 hk202
            have e222 : dN 4 = true := hd199 4 (by decide +kernel)
            have e223 : dN 19 = false := hu200 19 (by decide +kernel)
            rw [e223] at hs197
            have hs224 : Sep F w0 (fun _ => False) w196 [iOwn r 43 [.slice A_Lasts13 x.act.2.Lasts.length k_Lasts13, .slice A_At13 x.act.2.At.length k_At13, .slice A_Fresh13 x.act.2.Fresh.length k_Fresh13, .int .i64 x.act.2.Left, .bool x.act.2.Off] F, iAc dStr (.slice A_Lasts13 x.act.2.Lasts.length k_Lasts13) la s_Lasts13 F, iAc dInt (.slice A_At13 x.act.2.At.length k_At13) x.act.2.At s_At13 F, iAc dStr (.slice A_Fresh13 x.act.2.Fresh.length k_Fresh13) x.act.2.Fresh s_Fresh13 F] := hs197
            refine WL_at (L := [(20, .pointer (some ⟨r, 0, none⟩))]) ⟨((hg201 4 20 e222 rfl).trans (v207 e222)), trivial⟩ ?_
            refine S_nilCheck rfl rfl ?_
            have hs225 : Sep F w0 (fun _ => False) w196 [iOwn r 43 [.slice A_Lasts13 x.act.2.Lasts.length k_Lasts13, .slice A_At13 x.act.2.At.length k_At13, .slice A_Fresh13 x.act.2.Fresh.length k_Fresh13, .int .i64 x.act.2.Left, .bool x.act.2.Off] F, (bif dN 19 then (iAc dStr (.slice A_Lasts13 x.act.2.Lasts.length k_Lasts13) (List.set la (Int.toNat (ix x.act.2.At i)) (ix x.act.2.Fresh i)) s_Lasts13 F) else (iAc dStr (.slice A_Lasts13 x.act.2.Lasts.length k_Lasts13) la s_Lasts13 F)), iAc dInt (.slice A_At13 x.act.2.At.length k_At13) x.act.2.At s_At13 F, iAc dStr (.slice A_Fresh13 x.act.2.Fresh.length k_Fresh13) x.act.2.Fresh s_Fresh13 F] := by rw [e223]; exact hs224
            exact WL_nil ⟨rfl, _, rfl, hs225, v203, v204, v205, v206, v207, (fun _ => rfl), v209, v210, v211, v212, v213, v214, v215, v216, v217, v218, v219, v220, v221, trivial⟩
          ·
            rintro dN vL g226 w227 ⟨hs228, v234, v235, v236, v237, v238, v239, v240, v241, v242, v243, v244, v245, v246, v247, v248, v249, v250, v251, v252, _⟩ hD229 hd230 hu231 hg232 hk233
            have e253 : dN 5 = true := hd230 5 (by decide +kernel)
            have e254 : dN 19 = false := hu231 19 (by decide +kernel)
            rw [e254] at hs228
            have hs255 : Sep F w0 (fun _ => False) w227 [iOwn r 43 [.slice A_Lasts13 x.act.2.Lasts.length k_Lasts13, .slice A_At13 x.act.2.At.length k_At13, .slice A_Fresh13 x.act.2.Fresh.length k_Fresh13, .int .i64 x.act.2.Left, .bool x.act.2.Off] F, iAc dStr (.slice A_Lasts13 x.act.2.Lasts.length k_Lasts13) la s_Lasts13 F, iAc dInt (.slice A_At13 x.act.2.At.length k_At13) x.act.2.At s_At13 F, iAc dStr (.slice A_Fresh13 x.act.2.Fresh.length k_Fresh13) x.act.2.Fresh s_Fresh13 F] := hs228
            refine WL_at (L := [(21, .pointer (some ⟨r, 0, none⟩))]) ⟨((hg232 5 21 e253 rfl).trans (v239 e253)), trivial⟩ ?_
            refine S_fieldAddr Try.runUnderlying43 rfl Try.sizeOf37 rfl rfl ?_
            have hs256 : Sep F w0 (fun _ => False) w227 [iOwn r 43 [.slice A_Lasts13 x.act.2.Lasts.length k_Lasts13, .slice A_At13 x.act.2.At.length k_At13, .slice A_Fresh13 x.act.2.Fresh.length k_Fresh13, .int .i64 x.act.2.Left, .bool x.act.2.Off] F, (bif dN 19 then (iAc dStr (.slice A_Lasts13 x.act.2.Lasts.length k_Lasts13) (List.set la (Int.toNat (ix x.act.2.At i)) (ix x.act.2.Fresh i)) s_Lasts13 F) else (iAc dStr (.slice A_Lasts13 x.act.2.Lasts.length k_Lasts13) la s_Lasts13 F)), iAc dInt (.slice A_At13 x.act.2.At.length k_At13) x.act.2.At s_At13 F, iAc dStr (.slice A_Fresh13 x.act.2.Fresh.length k_Fresh13) x.act.2.Fresh s_Fresh13 F] := by rw [e254]; exact hs255
            exact WL_nil ⟨rfl, _, rfl, hs256, v234, v235, v236, v237, v238, v239, (fun _ => rfl), v241, v242, v243, v244, v245, v246, v247, v248, v249, v250, v251, v252, trivial⟩
          ·
            rintro dN vL g257 w258 ⟨hs259, v265, v266, v267, v268, v269, v270, v271, v272, v273, v274, v275, v276, v277, v278, v279, v280, v281, v282, v283, _⟩ hD260 hd261 hu262 hg263 hk264
            have e284 : dN 6 = true := hd261 6 (by decide +kernel)
            have e285 : dN 19 = false := hu262 19 (by decide +kernel)
            rw [e285] at hs259
            have hs286 : Sep F w0 (fun _ => False) w258 [iOwn r 43 [.slice A_Lasts13 x.act.2.Lasts.length k_Lasts13, .slice A_At13 x.act.2.At.length k_At13, .slice A_Fresh13 x.act.2.Fresh.length k_Fresh13, .int .i64 x.act.2.Left, .bool x.act.2.Off] F, iAc dStr (.slice A_Lasts13 x.act.2.Lasts.length k_Lasts13) la s_Lasts13 F, iAc dInt (.slice A_At13 x.act.2.At.length k_At13) x.act.2.At s_At13 F, iAc dStr (.slice A_Fresh13 x.act.2.Fresh.length k_Fresh13) x.act.2.Fresh s_Fresh13 F] := hs259
            refine WL_at (L := [(22, .pointer (some ⟨r, 1, none⟩))]) ⟨((hg263 6 22 e284 rfl).trans (v271 e284)), trivial⟩ ?_
            refine S_load1 Try.isAgg37 rfl (Own.at (hs286.at 0 rfl) rfl) rfl ?_
            have hs287 : Sep F w0 (fun _ => False) w258 [iOwn r 43 [.slice A_Lasts13 x.act.2.Lasts.length k_Lasts13, .slice A_At13 x.act.2.At.length k_At13, .slice A_Fresh13 x.act.2.Fresh.length k_Fresh13, .int .i64 x.act.2.Left, .bool x.act.2.Off] F, (bif dN 19 then (iAc dStr (.slice A_Lasts13 x.act.2.Lasts.length k_Lasts13) (List.set la (Int.toNat (ix x.act.2.At i)) (ix x.act.2.Fresh i)) s_Lasts13 F) else (iAc dStr (.slice A_Lasts13 x.act.2.Lasts.length k_Lasts13) la s_Lasts13 F)), iAc dInt (.slice A_At13 x.act.2.At.length k_At13) x.act.2.At s_At13 F, iAc dStr (.slice A_Fresh13 x.act.2.Fresh.length k_Fresh13) x.act.2.Fresh s_Fresh13 F] := by rw [e285]; exact hs286
            exact WL_nil ⟨rfl, _, rfl, hs287, v265, v266, v267, v268, v269, v270, v271, (fun _ => rfl), v273, v274, v275, v276, v277, v278, v279, v280, v281, v282, v283, trivial⟩
          ·
            rintro dN vL g288 w289 ⟨hs290, v296, v297, v298, v299, v300, v301, v302, v303, v304, v305, v306, v307, v308, v309, v310, v311, v312, v313, v314, _⟩ hD291 hd292 hu293 hg294 hk295
            have e315 : dN 19 = false := hu293 19 (by decide +kernel)
            rw [e315] at hs290
            have hs316 : Sep F w0 (fun _ => False) w289 [iOwn r 43 [.slice A_Lasts13 x.act.2.Lasts.length k_Lasts13, .slice A_At13 x.act.2.At.length k_At13, .slice A_Fresh13 x.act.2.Fresh.length k_Fresh13, .int .i64 x.act.2.Left, .bool x.act.2.Off] F, iAc dStr (.slice A_Lasts13 x.act.2.Lasts.length k_Lasts13) la s_Lasts13 F, iAc dInt (.slice A_At13 x.act.2.At.length k_At13) x.act.2.At s_At13 F, iAc dStr (.slice A_Fresh13 x.act.2.Fresh.length k_Fresh13) x.act.2.Fresh s_Fresh13 F] := hs290
            refine WL_at (L := [(3, .int .i64 i)]) ⟨(hk295 3 (by decide +kernel)), trivial⟩ ?_
            refine S_move rfl ?_
            have hs317 : Sep F w0 (fun _ => False) w289 [iOwn r 43 [.slice A_Lasts13 x.act.2.Lasts.length k_Lasts13, .slice A_At13 x.act.2.At.length k_At13, .slice A_Fresh13 x.act.2.Fresh.length k_Fresh13, .int .i64 x.act.2.Left, .bool x.act.2.Off] F, (bif dN 19 then (iAc dStr (.slice A_Lasts13 x.act.2.Lasts.length k_Lasts13) (List.set la (Int.toNat (ix x.act.2.At i)) (ix x.act.2.Fresh i)) s_Lasts13 F) else (iAc dStr (.slice A_Lasts13 x.act.2.Lasts.length k_Lasts13) la s_Lasts13 F)), iAc dInt (.slice A_At13 x.act.2.At.length k_At13) x.act.2.At s_At13 F, iAc dStr (.slice A_Fresh13 x.act.2.Fresh.length k_Fresh13) x.act.2.Fresh s_Fresh13 F] := by rw [e315]; exact hs316
            exact WL_nil ⟨rfl, _, rfl, hs317, v296, v297, v298, v299, v300, v301, v302, v303, (fun _ => rfl), v305, v306, v307, v308, v309, v310, v311, v312, v313, v314, trivial⟩
          ·
            rintro dN vL g318 w319 ⟨hs320, v326, v327, v328, v329, v330, v331, v332, v333, v334, v335, v336, v337, v338, v339, v340, v341, v342, v343, v344, _⟩ hD321 hd322 hu323 hg324 hk325
            have e345 : dN 7 = true := hd322 7 (by decide +kernel)
            have e346 : dN 8 = true := hd322 8 (by decide +kernel)
            have e347 : dN 19 = false := hu323 19 (by decide +kernel)
            rw [e347] at hs320
            have hs348 : Sep F w0 (fun _ => False) w319 [iOwn r 43 [.slice A_Lasts13 x.act.2.Lasts.length k_Lasts13, .slice A_At13 x.act.2.At.length k_At13, .slice A_Fresh13 x.act.2.Fresh.length k_Fresh13, .int .i64 x.act.2.Left, .bool x.act.2.Off] F, iAc dStr (.slice A_Lasts13 x.act.2.Lasts.length k_Lasts13) la s_Lasts13 F, iAc dInt (.slice A_At13 x.act.2.At.length k_At13) x.act.2.At s_At13 F, iAc dStr (.slice A_Fresh13 x.act.2.Fresh.length k_Fresh13) x.act.2.Fresh s_Fresh13 F] := hs320
            refine WL_at (L := [(23, .slice A_At13 x.act.2.At.length k_At13), (24, .int .i64 i)]) ⟨((hg324 7 23 e345 rfl).trans (v333 e345)), ((hg324 8 24 e346 rfl).trans (v334 e346)), trivial⟩ ?_
            refine Z_indexAc (hs348.at 2 rfl) Try.runUnderlying37 Try.sizeOf3 rfl rfl (show (0 : Int) ≤ i from by omega) (show i < ((x.act.2.At.length : Nat) : Int) from by omega) rfl ?_
            have hs349 : Sep F w0 (fun _ => False) w319 [iOwn r 43 [.slice A_Lasts13 x.act.2.Lasts.length k_Lasts13, .slice A_At13 x.act.2.At.length k_At13, .slice A_Fresh13 x.act.2.Fresh.length k_Fresh13, .int .i64 x.act.2.Left, .bool x.act.2.Off] F, (bif dN 19 then (iAc dStr (.slice A_Lasts13 x.act.2.Lasts.length k_Lasts13) (List.set la (Int.toNat (ix x.act.2.At i)) (ix x.act.2.Fresh i)) s_Lasts13 F) else (iAc dStr (.slice A_Lasts13 x.act.2.Lasts.length k_Lasts13) la s_Lasts13 F)), iAc dInt (.slice A_At13 x.act.2.At.length k_At13) x.act.2.At s_At13 F, iAc dStr (.slice A_Fresh13 x.act.2.Fresh.length k_Fresh13) x.act.2.Fresh s_Fresh13 F] := by rw [e347]; exact hs348
            exact WL_nil ⟨rfl, _, rfl, hs349, v326, v327, v328, v329, v330, v331, v332, v333, v334, (fun _ => rfl), v336, v337, v338, v339, v340, v341, v342, v343, v344, trivial⟩
          ·
            rintro dN vL g350 w351 ⟨hs352, v358, v359, v360, v361, v362, v363, v364, v365, v366, v367, v368, v369, v370, v371, v372, v373, v374, v375, v376, _⟩ hD353 hd354 hu355 hg356 hk357
            have e377 : dN 9 = true := hd354 9 (by decide +kernel)
            have e378 : dN 19 = false := hu355 19 (by decide +kernel)
            rw [e378] at hs352
            have hs379 : Sep F w0 (fun _ => False) w351 [iOwn r 43 [.slice A_Lasts13 x.act.2.Lasts.length k_Lasts13, .slice A_At13 x.act.2.At.length k_At13, .slice A_Fresh13 x.act.2.Fresh.length k_Fresh13, .int .i64 x.act.2.Left, .bool x.act.2.Off] F, iAc dStr (.slice A_Lasts13 x.act.2.Lasts.length k_Lasts13) la s_Lasts13 F, iAc dInt (.slice A_At13 x.act.2.At.length k_At13) x.act.2.At s_At13 F, iAc dStr (.slice A_Fresh13 x.act.2.Fresh.length k_Fresh13) x.act.2.Fresh s_Fresh13 F] := hs352
            refine WL_at (L := [(25, .pointer (some (eA A_At13 ((Int.toNat i) * 1))))]) ⟨((hg356 9 25 e377 rfl).trans (v367 e377)), trivial⟩ ?_
            have o383 := cell_ac (q := (Int.toNat i) * 1) (sz := 1) (o := 0) (hs379.at 2 rfl) (Sub.self _) rfl (Nat.add_zero _).symm (show (0 : Int) ≤ i from by omega) (show i < ((x.act.2.At.length : Nat) : Int) from by omega)
            obtain ⟨c380, hc381, hr382⟩ := o383
            obtain ⟨rfl, r384⟩ := hr382
            have ⟨r385, r386⟩ := r384
            refine Z_load Try.isAgg3 rfl hc381 rfl ?_
            have hs387 : Sep F w0 (fun _ => False) w351 [iOwn r 43 [.slice A_Lasts13 x.act.2.Lasts.length k_Lasts13, .slice A_At13 x.act.2.At.length k_At13, .slice A_Fresh13 x.act.2.Fresh.length k_Fresh13, .int .i64 x.act.2.Left, .bool x.act.2.Off] F, (bif dN 19 then (iAc dStr (.slice A_Lasts13 x.act.2.Lasts.length k_Lasts13) (List.set la (Int.toNat (ix x.act.2.At i)) (ix x.act.2.Fresh i)) s_Lasts13 F) else (iAc dStr (.slice A_Lasts13 x.act.2.Lasts.length k_Lasts13) la s_Lasts13 F)), iAc dInt (.slice A_At13 x.act.2.At.length k_At13) x.act.2.At s_At13 F, iAc dStr (.slice A_Fresh13 x.act.2.Fresh.length k_Fresh13) x.act.2.Fresh s_Fresh13 F] := by rw [e378]; exact hs379
            exact WL_nil ⟨rfl, _, rfl, hs387, v358, v359, v360, v361, v362, v363, v364, v365, v366, v367, (fun _ => rfl), v369, v370, v371, v372, v373, v374, v375, v376, trivial⟩
          ·
            rintro dN vL g388 w389 ⟨hs390, v396, v397, v398, v399, v400, v401, v402, v403, v404, v405, v406, v407, v408, v409, v410, v411, v412, v413, v414, _⟩ hD391 hd392 hu393 hg394 hk395
            have e415 : dN 19 = false := hu393 19 (by decide +kernel)
            rw [e415] at hs390
            have hs416 : Sep F w0 (fun _ => False) w389 [iOwn r 43 [.slice A_Lasts13 x.act.2.Lasts.length k_Lasts13, .slice A_At13 x.act.2.At.length k_At13, .slice A_Fresh13 x.act.2.Fresh.length k_Fresh13, .int .i64 x.act.2.Left, .bool x.act.2.Off] F, iAc dStr (.slice A_Lasts13 x.act.2.Lasts.length k_Lasts13) la s_Lasts13 F, iAc dInt (.slice A_At13 x.act.2.At.length k_At13) x.act.2.At s_At13 F, iAc dStr (.slice A_Fresh13 x.act.2.Fresh.length k_Fresh13) x.act.2.Fresh s_Fresh13 F] := hs390
            refine WL_at (L := [(0, .pointer (some ⟨r, 0, none⟩))]) ⟨(hk395 0 (by decide +kernel)), trivial⟩ ?_
            refine S_move rfl ?_
            have hs417 : Sep F w0 (fun _ => False) w389 [iOwn r 43 [.slice A_Lasts13 x.act.2.Lasts.length k_Lasts13, .slice A_At13 x.act.2.At.length k_At13, .slice A_Fresh13 x.act.2.Fresh.length k_Fresh13, .int .i64 x.act.2.Left, .bool x.act.2.Off] F, (bif dN 19 then (iAc dStr (.slice A_Lasts13 x.act.2.Lasts.length k_Lasts13) (List.set la (Int.toNat (ix x.act.2.At i)) (ix x.act.2.Fresh i)) s_Lasts13 F) else (iAc dStr (.slice A_Lasts13 x.act.2.Lasts.length k_Lasts13) la s_Lasts13 F)), iAc dInt (.slice A_At13 x.act.2.At.length k_At13) x.act.2.At s_At13 F, iAc dStr (.slice A_Fresh13 x.act.2.Fresh.length k_Fresh13) x.act.2.Fresh s_Fresh13 F] := by rw [e415]; exact hs416
            exact WL_nil ⟨rfl, _, rfl, hs417, v396, v397, v398, v399, v400, v401, v402, v403, v404, v405, v406, (fun _ => rfl), v408, v409, v410, v411, v412, v413, v414, trivial⟩
          ·
            rintro dN vL g418 w419 ⟨hs420, v426, v427, v428, v429, v430, v431, v432, v433, v434, v435, v436, v437, v438, v439, v440, v441, v442, v443, v444, _⟩ hD421 hd422 hu423 hg424 hk425
            have e445 : dN 11 = true := hd422 11 (by decide +kernel)
            have e446 : dN 19 = false := hu423 19 (by decide +kernel)
            rw [e446] at hs420
            have hs447 : Sep F w0 (fun _ => False) w419 [iOwn r 43 [.slice A_Lasts13 x.act.2.Lasts.length k_Lasts13, .slice A_At13 x.act.2.At.length k_At13, .slice A_Fresh13 x.act.2.Fresh.length k_Fresh13, .int .i64 x.act.2.Left, .bool x.act.2.Off] F, iAc dStr (.slice A_Lasts13 x.act.2.Lasts.length k_Lasts13) la s_Lasts13 F, iAc dInt (.slice A_At13 x.act.2.At.length k_At13) x.act.2.At s_At13 F, iAc dStr (.slice A_Fresh13 x.act.2.Fresh.length k_Fresh13) x.act.2.Fresh s_Fresh13 F] := hs420
            refine WL_at (L := [(27, .pointer (some ⟨r, 0, none⟩))]) ⟨((hg424 11 27 e445 rfl).trans (v437 e445)), trivial⟩ ?_
            refine S_nilCheck rfl rfl ?_
            have hs448 : Sep F w0 (fun _ => False) w419 [iOwn r 43 [.slice A_Lasts13 x.act.2.Lasts.length k_Lasts13, .slice A_At13 x.act.2.At.length k_At13, .slice A_Fresh13 x.act.2.Fresh.length k_Fresh13, .int .i64 x.act.2.Left, .bool x.act.2.Off] F, (bif dN 19 then (iAc dStr (.slice A_Lasts13 x.act.2.Lasts.length k_Lasts13) (List.set la (Int.toNat (ix x.act.2.At i)) (ix x.act.2.Fresh i)) s_Lasts13 F) else (iAc dStr (.slice A_Lasts13 x.act.2.Lasts.length k_Lasts13) la s_Lasts13 F)), iAc dInt (.slice A_At13 x.act.2.At.length k_At13) x.act.2.At s_At13 F, iAc dStr (.slice A_Fresh13 x.act.2.Fresh.length k_Fresh13) x.act.2.Fresh s_Fresh13 F] := by rw [e446]; exact hs447
            exact WL_nil ⟨rfl, _, rfl, hs448, v426, v427, v428, v429, v430, v431, v432, v433, v434, v435, v436, v437, (fun _ => rfl), v439, v440, v441, v442, v443, v444, trivial⟩
          ·
            rintro dN vL g449 w450 ⟨hs451, v457, v458, v459, v460, v461, v462, v463, v464, v465, v466, v467, v468, v469, v470, v471, v472, v473, v474, v475, _⟩ hD452 hd453 hu454 hg455 hk456
            have e476 : dN 12 = true := hd453 12 (by decide +kernel)
            have e477 : dN 19 = false := hu454 19 (by decide +kernel)
            rw [e477] at hs451
            have hs478 : Sep F w0 (fun _ => False) w450 [iOwn r 43 [.slice A_Lasts13 x.act.2.Lasts.length k_Lasts13, .slice A_At13 x.act.2.At.length k_At13, .slice A_Fresh13 x.act.2.Fresh.length k_Fresh13, .int .i64 x.act.2.Left, .bool x.act.2.Off] F, iAc dStr (.slice A_Lasts13 x.act.2.Lasts.length k_Lasts13) la s_Lasts13 F, iAc dInt (.slice A_At13 x.act.2.At.length k_At13) x.act.2.At s_At13 F, iAc dStr (.slice A_Fresh13 x.act.2.Fresh.length k_Fresh13) x.act.2.Fresh s_Fresh13 F] := hs451
            refine WL_at (L := [(28, .pointer (some ⟨r, 0, none⟩))]) ⟨((hg455 12 28 e476 rfl).trans (v469 e476)), trivial⟩ ?_
            refine S_fieldAddr Try.runUnderlying43 rfl Try.sizeOf41 rfl rfl ?_
            have hs479 : Sep F w0 (fun _ => False) w450 [iOwn r 43 [.slice A_Lasts13 x.act.2.Lasts.length k_Lasts13, .slice A_At13 x.act.2.At.length k_At13, .slice A_Fresh13 x.act.2.Fresh.length k_Fresh13, .int .i64 x.act.2.Left, .bool x.act.2.Off] F, (bif dN 19 then (iAc dStr (.slice A_Lasts13 x.act.2.Lasts.length k_Lasts13) (List.set la (Int.toNat (ix x.act.2.At i)) (ix x.act.2.Fresh i)) s_Lasts13 F) else (iAc dStr (.slice A_Lasts13 x.act.2.Lasts.length k_Lasts13) la s_Lasts13 F)), iAc dInt (.slice A_At13 x.act.2.At.length k_At13) x.act.2.At s_At13 F, iAc dStr (.slice A_Fresh13 x.act.2.Fresh.length k_Fresh13) x.act.2.Fresh s_Fresh13 F] := by rw [e477]; exact hs478
            exact WL_nil ⟨rfl, _, rfl, hs479, v457, v458, v459, v460, v461, v462, v463, v464, v465, v466, v467, v468, v469, (fun _ => rfl), v471, v472, v473, v474, v475, trivial⟩
          ·
            rintro dN vL g480 w481 ⟨hs482, v488, v489, v490, v491, v492, v493, v494, v495, v496, v497, v498, v499, v500, v501, v502, v503, v504, v505, v506, _⟩ hD483 hd484 hu485 hg486 hk487
            have e507 : dN 13 = true := hd484 13 (by decide +kernel)
            have e508 : dN 19 = false := hu485 19 (by decide +kernel)
            rw [e508] at hs482
            have hs509 : Sep F w0 (fun _ => False) w481 [iOwn r 43 [.slice A_Lasts13 x.act.2.Lasts.length k_Lasts13, .slice A_At13 x.act.2.At.length k_At13, .slice A_Fresh13 x.act.2.Fresh.length k_Fresh13, .int .i64 x.act.2.Left, .bool x.act.2.Off] F, iAc dStr (.slice A_Lasts13 x.act.2.Lasts.length k_Lasts13) la s_Lasts13 F, iAc dInt (.slice A_At13 x.act.2.At.length k_At13) x.act.2.At s_At13 F, iAc dStr (.slice A_Fresh13 x.act.2.Fresh.length k_Fresh13) x.act.2.Fresh s_Fresh13 F] := hs482
            refine WL_at (L := [(29, .pointer (some ⟨r, 2, none⟩))]) ⟨((hg486 13 29 e507 rfl).trans (v501 e507)), trivial⟩ ?_
            refine S_load1 Try.isAgg41 rfl (Own.at (hs509.at 0 rfl) rfl) rfl ?_
            have hs510 : Sep F w0 (fun _ => False) w481 [iOwn r 43 [.slice A_Lasts13 x.act.2.Lasts.length k_Lasts13, .slice A_At13 x.act.2.At.length k_At13, .slice A_Fresh13 x.act.2.Fresh.length k_Fresh13, .int .i64 x.act.2.Left, .bool x.act.2.Off] F, (bif dN 19 then (iAc dStr (.slice A_Lasts13 x.act.2.Lasts.length k_Lasts13) (List.set la (Int.toNat (ix x.act.2.At i)) (ix x.act.2.Fresh i)) s_Lasts13 F) else (iAc dStr (.slice A_Lasts13 x.act.2.Lasts.length k_Lasts13) la s_Lasts13 F)), iAc dInt (.slice A_At13 x.act.2.At.length k_At13) x.act.2.At s_At13 F, iAc dStr (.slice A_Fresh13 x.act.2.Fresh.length k_Fresh13) x.act.2.Fresh s_Fresh13 F] := by rw [e508]; exact hs509
            exact WL_nil ⟨rfl, _, rfl, hs510, v488, v489, v490, v491, v492, v493, v494, v495, v496, v497, v498, v499, v500, v501, (fun _ => rfl), v503, v504, v505, v506, trivial⟩
          ·
            rintro dN vL g511 w512 ⟨hs513, v519, v520, v521, v522, v523, v524, v525, v526, v527, v528, v529, v530, v531, v532, v533, v534, v535, v536, v537, _⟩ hD514 hd515 hu516 hg517 hk518
            have e538 : dN 19 = false := hu516 19 (by decide +kernel)
            rw [e538] at hs513
            have hs539 : Sep F w0 (fun _ => False) w512 [iOwn r 43 [.slice A_Lasts13 x.act.2.Lasts.length k_Lasts13, .slice A_At13 x.act.2.At.length k_At13, .slice A_Fresh13 x.act.2.Fresh.length k_Fresh13, .int .i64 x.act.2.Left, .bool x.act.2.Off] F, iAc dStr (.slice A_Lasts13 x.act.2.Lasts.length k_Lasts13) la s_Lasts13 F, iAc dInt (.slice A_At13 x.act.2.At.length k_At13) x.act.2.At s_At13 F, iAc dStr (.slice A_Fresh13 x.act.2.Fresh.length k_Fresh13) x.act.2.Fresh s_Fresh13 F] := hs513
            refine WL_at (L := [(3, .int .i64 i)]) ⟨(hk518 3 (by decide +kernel)), trivial⟩ ?_
            refine S_move rfl ?_
            have hs540 : Sep F w0 (fun _ => False) w512 [iOwn r 43 [.slice A_Lasts13 x.act.2.Lasts.length k_Lasts13, .slice A_At13 x.act.2.At.length k_At13, .slice A_Fresh13 x.act.2.Fresh.length k_Fresh13, .int .i64 x.act.2.Left, .bool x.act.2.Off] F, (bif dN 19 then (iAc dStr (.slice A_Lasts13 x.act.2.Lasts.length k_Lasts13) (List.set la (Int.toNat (ix x.act.2.At i)) (ix x.act.2.Fresh i)) s_Lasts13 F) else (iAc dStr (.slice A_Lasts13 x.act.2.Lasts.length k_Lasts13) la s_Lasts13 F)), iAc dInt (.slice A_At13 x.act.2.At.length k_At13) x.act.2.At s_At13 F, iAc dStr (.slice A_Fresh13 x.act.2.Fresh.length k_Fresh13) x.act.2.Fresh s_Fresh13 F] := by rw [e538]; exact hs539
            exact WL_nil ⟨rfl, _, rfl, hs540, v519, v520, v521, v522, v523, v524, v525, v526, v527, v528, v529, v530, v531, v532, v533, (fun _ => rfl), v535, v536, v537, trivial⟩
          ·
            rintro dN vL g541 w542 ⟨hs543, v549, v550, v551, v552, v553, v554, v555, v556, v557, v558, v559, v560, v561, v562, v563, v564, v565, v566, v567, _⟩ hD544 hd545 hu546 hg547 hk548
            have e568 : dN 14 = true := hd545 14 (by decide +kernel)
            have e569 : dN 15 = true := hd545 15 (by decide +kernel)
            have e570 : dN 19 = false := hu546 19 (by decide +kernel)
            rw [e570] at hs543
            have hs571 : Sep F w0 (fun _ => False) w542 [iOwn r 43 [.slice A_Lasts13 x.act.2.Lasts.length k_Lasts13, .slice A_At13 x.act.2.At.length k_At13, .slice A_Fresh13 x.act.2.Fresh.length k_Fresh13, .int .i64 x.act.2.Left, .bool x.act.2.Off] F, iAc dStr (.slice A_Lasts13 x.act.2.Lasts.length k_Lasts13) la s_Lasts13 F, iAc dInt (.slice A_At13 x.act.2.At.length k_At13) x.act.2.At s_At13 F, iAc dStr (.slice A_Fresh13 x.act.2.Fresh.length k_Fresh13) x.act.2.Fresh s_Fresh13 F] := hs543
            refine WL_at (L := [(30, .slice A_Fresh13 x.act.2.Fresh.length k_Fresh13), (31, .int .i64 i)]) ⟨((hg547 14 30 e568 rfl).trans (v563 e568)), ((hg547 15 31 e569 rfl).trans (v564 e569)), trivial⟩ ?_
            refine Z_indexAc (hs571.at 3 rfl) Try.runUnderlying41 Try.sizeOf9 rfl rfl (show (0 : Int) ≤ i from by omega) (show i < ((x.act.2.Fresh.length : Nat) : Int) from by omega) rfl ?_
            have hs572 : Sep F w0 (fun _ => False) w542 [iOwn r 43 [.slice A_Lasts13 x.act.2.Lasts.length k_Lasts13, .slice A_At13 x.act.2.At.length k_At13, .slice A_Fresh13 x.act.2.Fresh.length k_Fresh13, .int .i64 x.act.2.Left, .bool x.act.2.Off] F, (bif dN 19 then (iAc dStr (.slice A_Lasts13 x.act.2.Lasts.length k_Lasts13) (List.set la (Int.toNat (ix x.act.2.At i)) (ix x.act.2.Fresh i)) s_Lasts13 F) else (iAc dStr (.slice A_Lasts13 x.act.2.Lasts.length k_Lasts13) la s_Lasts13 F)), iAc dInt (.slice A_At13 x.act.2.At.length k_At13) x.act.2.At s_At13 F, iAc dStr (.slice A_Fresh13 x.act.2.Fresh.length k_Fresh13) x.act.2.Fresh s_Fresh13 F] := by rw [e570]; exact hs571
            exact WL_nil ⟨rfl, _, rfl, hs572, v549, v550, v551, v552, v553, v554, v555, v556, v557, v558, v559, v560, v561, v562, v563, v564, (fun _ => rfl), v566, v567, trivial⟩
          ·
            rintro dN vL g573 w574 ⟨hs575, v581, v582, v583, v584, v585, v586, v587, v588, v589, v590, v591, v592, v593, v594, v595, v596, v597, v598, v599, _⟩ hD576 hd577 hu578 hg579 hk580
            have e600 : dN 16 = true := hd577 16 (by decide +kernel)
            have e601 : dN 19 = false := hu578 19 (by decide +kernel)
            rw [e601] at hs575
            have hs602 : Sep F w0 (fun _ => False) w574 [iOwn r 43 [.slice A_Lasts13 x.act.2.Lasts.length k_Lasts13, .slice A_At13 x.act.2.At.length k_At13, .slice A_Fresh13 x.act.2.Fresh.length k_Fresh13, .int .i64 x.act.2.Left, .bool x.act.2.Off] F, iAc dStr (.slice A_Lasts13 x.act.2.Lasts.length k_Lasts13) la s_Lasts13 F, iAc dInt (.slice A_At13 x.act.2.At.length k_At13) x.act.2.At s_At13 F, iAc dStr (.slice A_Fresh13 x.act.2.Fresh.length k_Fresh13) x.act.2.Fresh s_Fresh13 F] := hs575
            refine WL_at (L := [(32, .pointer (some (eA A_Fresh13 ((Int.toNat i) * 1))))]) ⟨((hg579 16 32 e600 rfl).trans (v597 e600)), trivial⟩ ?_
            have o606 := cell_ac (q := (Int.toNat i) * 1) (sz := 1) (o := 0) (hs602.at 3 rfl) (Sub.self _) rfl (Nat.add_zero _).symm (show (0 : Int) ≤ i from by omega) (show i < ((x.act.2.Fresh.length : Nat) : Int) from by omega)
            obtain ⟨c603, hc604, hr605⟩ := o606
            obtain ⟨rfl, r607⟩ := hr605
            refine Z_load Try.isAgg9 rfl hc604 rfl ?_
            have hs608 : Sep F w0 (fun _ => False) w574 [iOwn r 43 [.slice A_Lasts13 x.act.2.Lasts.length k_Lasts13, .slice A_At13 x.act.2.At.length k_At13, .slice A_Fresh13 x.act.2.Fresh.length k_Fresh13, .int .i64 x.act.2.Left, .bool x.act.2.Off] F, (bif dN 19 then (iAc dStr (.slice A_Lasts13 x.act.2.Lasts.length k_Lasts13) (List.set la (Int.toNat (ix x.act.2.At i)) (ix x.act.2.Fresh i)) s_Lasts13 F) else (iAc dStr (.slice A_Lasts13 x.act.2.Lasts.length k_Lasts13) la s_Lasts13 F)), iAc dInt (.slice A_At13 x.act.2.At.length k_At13) x.act.2.At s_At13 F, iAc dStr (.slice A_Fresh13 x.act.2.Fresh.length k_Fresh13) x.act.2.Fresh s_Fresh13 F] := by rw [e601]; exact hs602
            exact WL_nil ⟨rfl, _, rfl, hs608, v581, v582, v583, v584, v585, v586, v587, v588, v589, v590, v591, v592, v593, v594, v595, v596, v597, (fun _ => rfl), v599, trivial⟩
          ·
            rintro dN vL g609 w610 ⟨hs611, v617, v618, v619, v620, v621, v622, v623, v624, v625, v626, v627, v628, v629, v630, v631, v632, v633, v634, v635, _⟩ hD612 hd613 hu614 hg615 hk616
            have e636 : dN 3 = true := hd613 3 (by decide +kernel)
            have e637 : dN 10 = true := hd613 10 (by decide +kernel)
            have e638 : dN 19 = false := hu614 19 (by decide +kernel)
            rw [e638] at hs611
            have hs639 : Sep F w0 (fun _ => False) w610 [iOwn r 43 [.slice A_Lasts13 x.act.2.Lasts.length k_Lasts13, .slice A_At13 x.act.2.At.length k_At13, .slice A_Fresh13 x.act.2.Fresh.length k_Fresh13, .int .i64 x.act.2.Left, .bool x.act.2.Off] F, iAc dStr (.slice A_Lasts13 x.act.2.Lasts.length k_Lasts13) la s_Lasts13 F, iAc dInt (.slice A_At13 x.act.2.At.length k_At13) x.act.2.At s_At13 F, iAc dStr (.slice A_Fresh13 x.act.2.Fresh.length k_Fresh13) x.act.2.Fresh s_Fresh13 F] := hs611
            refine WL_at (L := [(19, .slice A_Lasts13 x.act.2.Lasts.length k_Lasts13), (26, .int .i64 (ix x.act.2.At i))]) ⟨((hg615 3 19 e636 rfl).trans (v620 e636)), ((hg615 10 26 e637 rfl).trans (v627 e637)), trivial⟩ ?_
            refine Z_indexAc (hs639.at 1 rfl) Try.runUnderlying41 Try.sizeOf9 rfl rfl (show (0 : Int) ≤ (ix x.act.2.At i) from hai.1) (show (ix x.act.2.At i) < ((x.act.2.Lasts.length : Nat) : Int) from hai.2) rfl ?_
            have hs640 : Sep F w0 (fun _ => False) w610 [iOwn r 43 [.slice A_Lasts13 x.act.2.Lasts.length k_Lasts13, .slice A_At13 x.act.2.At.length k_At13, .slice A_Fresh13 x.act.2.Fresh.length k_Fresh13, .int .i64 x.act.2.Left, .bool x.act.2.Off] F, (bif dN 19 then (iAc dStr (.slice A_Lasts13 x.act.2.Lasts.length k_Lasts13) (List.set la (Int.toNat (ix x.act.2.At i)) (ix x.act.2.Fresh i)) s_Lasts13 F) else (iAc dStr (.slice A_Lasts13 x.act.2.Lasts.length k_Lasts13) la s_Lasts13 F)), iAc dInt (.slice A_At13 x.act.2.At.length k_At13) x.act.2.At s_At13 F, iAc dStr (.slice A_Fresh13 x.act.2.Fresh.length k_Fresh13) x.act.2.Fresh s_Fresh13 F] := by rw [e638]; exact hs639
            exact WL_nil ⟨rfl, _, rfl, hs640, v617, v618, v619, v620, v621, v622, v623, v624, v625, v626, v627, v628, v629, v630, v631, v632, v633, v634, (fun _ => rfl), trivial⟩
          ·
            rintro dN vL g641 w642 ⟨hs643, v649, v650, v651, v652, v653, v654, v655, v656, v657, v658, v659, v660, v661, v662, v663, v664, v665, v666, v667, _⟩ hD644 hd645 hu646 hg647 hk648
            have e668 : dN 17 = true := hd645 17 (by decide +kernel)
            have e669 : dN 18 = true := hd645 18 (by decide +kernel)
            have e670 : dN 19 = false := hD644
            rw [e670] at hs643
            have hs671 : Sep F w0 (fun _ => False) w642 [iOwn r 43 [.slice A_Lasts13 x.act.2.Lasts.length k_Lasts13, .slice A_At13 x.act.2.At.length k_At13, .slice A_Fresh13 x.act.2.Fresh.length k_Fresh13, .int .i64 x.act.2.Left, .bool x.act.2.Off] F, iAc dStr (.slice A_Lasts13 x.act.2.Lasts.length k_Lasts13) la s_Lasts13 F, iAc dInt (.slice A_At13 x.act.2.At.length k_At13) x.act.2.At s_At13 F, iAc dStr (.slice A_Fresh13 x.act.2.Fresh.length k_Fresh13) x.act.2.Fresh s_Fresh13 F] := hs643
            refine WL_at (L := [(33, sv (ix x.act.2.Fresh i)), (34, .pointer (some (eA A_Lasts13 ((Int.toNat (ix x.act.2.At i)) * 1))))]) ⟨((hg647 17 33 e668 rfl).trans (v666 e668)), ((hg647 18 34 e669 rfl).trans (v667 e669)), trivial⟩ ?_
            refine Z_storeEl (o := 0) (sz := 1) hs671 1 rfl Try.sizeOf9 rfl rfl (Nat.add_zero _).symm rfl rfl (show (0 : Int) ≤ (ix x.act.2.At i) from hai.1) (show (ix x.act.2.At i) < ((x.act.2.Lasts.length : Nat) : Int) from hai.2) (fun c0 _ hc => st_str (by omega) c0 hc) rfl ?_
            intro w672 hs673
            have hs673 : Sep F w0 (fun _ => False) w672 [iOwn r 43 [.slice A_Lasts13 x.act.2.Lasts.length k_Lasts13, .slice A_At13 x.act.2.At.length k_At13, .slice A_Fresh13 x.act.2.Fresh.length k_Fresh13, .int .i64 x.act.2.Left, .bool x.act.2.Off] F, iAc dStr (.slice A_Lasts13 x.act.2.Lasts.length k_Lasts13) (List.set la (Int.toNat (ix x.act.2.At i)) (ix x.act.2.Fresh i)) s_Lasts13 F, iAc dInt (.slice A_At13 x.act.2.At.length k_At13) x.act.2.At s_At13 F, iAc dStr (.slice A_Fresh13 x.act.2.Fresh.length k_Fresh13) x.act.2.Fresh s_Fresh13 F] := hs673
            have hs674 : Sep F w0 (fun _ => False) w672 [iOwn r 43 [.slice A_Lasts13 x.act.2.Lasts.length k_Lasts13, .slice A_At13 x.act.2.At.length k_At13, .slice A_Fresh13 x.act.2.Fresh.length k_Fresh13, .int .i64 x.act.2.Left, .bool x.act.2.Off] F, iAc dStr (.slice A_Lasts13 x.act.2.Lasts.length k_Lasts13) (List.set la (Int.toNat (ix x.act.2.At i)) (ix x.act.2.Fresh i)) s_Lasts13 F, iAc dInt (.slice A_At13 x.act.2.At.length k_At13) x.act.2.At s_At13 F, iAc dStr (.slice A_Fresh13 x.act.2.Fresh.length k_Fresh13) x.act.2.Fresh s_Fresh13 F] := by exact hs673
            exact WL_nil ⟨rfl, undef, rfl, hs674, v649, v650, v651, v652, v653, v654, v655, v656, v657, v658, v659, v660, v661, v662, v663, v664, v665, v666, v667, trivial⟩
        ·
          rintro dN vL g675 w676 ha678 ⟨hs677, v681, v682, v683, v684, v685, v686, v687, v688, v689, v690, v691, v692, v693, v694, v695, v696, v697, v698, v699, _⟩ hg679 hk680
          rw [ha678 19 rfl] at hs677
          have hs700 : Sep F w0 (fun _ => False) w676 [iOwn r 43 [.slice A_Lasts13 x.act.2.Lasts.length k_Lasts13, .slice A_At13 x.act.2.At.length k_At13, .slice A_Fresh13 x.act.2.Fresh.length k_Fresh13, .int .i64 x.act.2.Left, .bool x.act.2.Off] F, iAc dStr (.slice A_Lasts13 x.act.2.Lasts.length k_Lasts13) (List.set la (Int.toNat (ix x.act.2.At i)) (ix x.act.2.Fresh i)) s_Lasts13 F, iAc dInt (.slice A_At13 x.act.2.At.length k_At13) x.act.2.At s_At13 F, iAc dStr (.slice A_Fresh13 x.act.2.Fresh.length k_Fresh13) x.act.2.Fresh s_Fresh13 F] := hs677
          refine ⟨[(0, .pointer (some ⟨r, 0, none⟩)), (3, .int .i64 i)], ⟨(hk680 0 rfl), (hk680 3 rfl), trivial⟩, fun g701 => ?_⟩
          refine W_region ?_
          refine S_move rfl ?_
          refine S_add rfl rfl (by omega) rfl ?_
          refine S_assign rfl ?_
          refine WL_nil ?_
          exact ⟨_, (by omega), i + 1, List.set la (Int.toNat (ix x.act.2.At i)) (ix x.act.2.Fresh i), rfl, (by omega), (by omega), (rflush_step hok.same q22 (by omega) (by omega)), hs700, ⟨rfl, rfl, trivial⟩⟩
      ·
        have p702 := of_decide_eq_false h24
        refine W_exit ?_
        refine W_seq ?_
        refine W_region ?_
        refine S_move rfl ?_
        refine S_nilCheck rfl rfl ?_
        refine S_fieldAddr Try.runUnderlying43 rfl Try.sizeOf37 rfl rfl ?_
        refine Z_store hs18 0 rfl Try.sizeOf37 rfl rfl rfl (Nat.le_of_ble_eq_true rfl) rfl ?_
        intro w703 hs704
        have hs704 : Sep F w0 (fun _ => False) w703 [iOwn r 43 [.slice A_Lasts13 x.act.2.Lasts.length k_Lasts13, .slice none 0 0, .slice A_Fresh13 x.act.2.Fresh.length k_Fresh13, .int .i64 x.act.2.Left, .bool x.act.2.Off] F, iAc dStr (.slice A_Lasts13 x.act.2.Lasts.length k_Lasts13) la s_Lasts13 F, iAc dInt (.slice A_At13 x.act.2.At.length k_At13) x.act.2.At s_At13 F, iAc dStr (.slice A_Fresh13 x.act.2.Fresh.length k_Fresh13) x.act.2.Fresh s_Fresh13 F] := hs704
        have hs705 : Sep F w0 (fun _ => False) w703 [iOwn r 43 [.slice A_Lasts13 x.act.2.Lasts.length k_Lasts13, .slice none 0 0, .slice A_Fresh13 x.act.2.Fresh.length k_Fresh13, .int .i64 x.act.2.Left, .bool x.act.2.Off] F, iAc dStr (.slice A_Lasts13 x.act.2.Lasts.length k_Lasts13) la s_Lasts13 F, iAc dInt (.slice none 0 0) [] [] F, iAc dStr (.slice A_Fresh13 x.act.2.Fresh.length k_Fresh13) x.act.2.Fresh s_Fresh13 F] := hs704.nilAc 2 rfl
        refine WL_nil ?_
        refine W_seq ?_
        refine W_region ?_
        refine S_move rfl ?_
        refine S_nilCheck rfl rfl ?_
        refine S_fieldAddr Try.runUnderlying43 rfl Try.sizeOf41 rfl rfl ?_
        refine Z_store hs705 0 rfl Try.sizeOf41 rfl rfl rfl (Nat.le_of_ble_eq_true rfl) rfl ?_
        intro w706 hs707
        have hs707 : Sep F w0 (fun _ => False) w706 [iOwn r 43 [.slice A_Lasts13 x.act.2.Lasts.length k_Lasts13, .slice none 0 0, .slice none 0 0, .int .i64 x.act.2.Left, .bool x.act.2.Off] F, iAc dStr (.slice A_Lasts13 x.act.2.Lasts.length k_Lasts13) la s_Lasts13 F, iAc dInt (.slice none 0 0) [] [] F, iAc dStr (.slice A_Fresh13 x.act.2.Fresh.length k_Fresh13) x.act.2.Fresh s_Fresh13 F] := hs707
        have hs708 : Sep F w0 (fun _ => False) w706 [iOwn r 43 [.slice A_Lasts13 x.act.2.Lasts.length k_Lasts13, .slice none 0 0, .slice none 0 0, .int .i64 x.act.2.Left, .bool x.act.2.Off] F, iAc dStr (.slice A_Lasts13 x.act.2.Lasts.length k_Lasts13) la s_Lasts13 F, iAc dInt (.slice none 0 0) [] [] F, iAc dStr (.slice none 0 0) [] [] F] := hs707.nilAc 3 rfl
        refine WL_nil ?_
        refine W_seq ?_
        refine W_live (L := []) trivial ?_
        intro g709
        refine W_region ?_
        refine S_assign rfl ?_
        refine WL_nil ?_
        refine W_ret ?_
        show (Value.int .i64 0) = .int .i64 x.flush.1 ∧ ∃ F', RkIs r w706 x.flush.2 F' ∧ Turn w0 w706 F F'
        have hc := (RkIs.close hs708)
        rw [rflush_fine ok ‹_› q22 (by omega)]
        exact ⟨rfl, _, hc⟩
theorem rdirty_ok {w0 : World} {r : Nat} {x : Rk} {F : List Nat} (h : RkIs r w0 x F) (ok : x.Ok) :
    CallR Try.prog 19 [.pointer (some ⟨r, 0, none⟩)] w0 (fun v w' => ∃ A cap bs, v = .slice A x.dirty.length cap ∧ Ac dInt (fun _ => False) w' (.slice A x.dirty.length cap) x.dirty bs ∧ Ext [] w0 w' ∧ ∀ b ∈ bs, w0.heap.size ≤ b) := by
  obtain ⟨A_Lasts, k_Lasts, s_Lasts, A_At, k_At, s_At, A_Fresh, k_Fresh, s_Fresh, hs1⟩ := h.fix (Z := fun b => b ∈ F) h.lt (fun b hb => hb)
  have hs0 := hs1.fact (t := iObF (obRk r) x F) ⟨fun b hb => hb, h⟩ sObF rfl rfl
  have ⟨hsame, hmax, hinn, hll, hfl, ⟨hi1, hi2⟩, hcnt⟩ := ok
  refine Call1 Try.func19 rfl rfl rfl rfl ?_
  refine W_seq ?_
  refine W_region ?_
  refine S_assign rfl ?_
  refine WL_nil ?_
  refine W_seq ?_
  refine W_region ?_
  refine S_assign rfl ?_
  have hs1 : Sep [] w0 (fun b => b ∈ F) w0 [iAc dInt (.slice none 0 0) [] [] [], iObF (obRk r) x F, iOwnF r 43 [.slice A_Lasts x.Lasts.length k_Lasts, .slice A_At x.At.length k_At, .slice A_Fresh x.Fresh.length k_Fresh, .int .i64 x.Left, .bool x.Off], iAcF dStr (.slice A_Lasts x.Lasts.length k_Lasts) x.Lasts, iAcF dInt (.slice A_At x.At.length k_At) x.At, iAcF dStr (.slice A_Fresh x.Fresh.length k_Fresh) x.Fresh] := hs0.fact (Ac.nil) sAc rfl rfl
  refine WL_nil ?_
  refine W_seq ?_
  refine W_seq ?_
  refine W_region ?_
  refine S_assign rfl ?_
  refine WL_nil ?_
  refine W_block ?_
  refine W_loopE (fun m f w => ∃ (i : Int) (out : List Int) (A2 : Option Addr) (cap3 : Nat) (bs4 : List Nat), m = ((x.Lasts.length : Int) - i).toNat ∧ (0 ≤ i) ∧ (i ≤ x.Lasts.length) ∧ (out = (upTo i.toNat).filter fun k => (x.now k).isSome) ∧ Sep [] w0 (fun b => b ∈ F) w [iAc dInt (.slice A2 out.length cap3) out bs4 [], iObF (obRk r) x F, iOwnF r 43 [.slice A_Lasts x.Lasts.length k_Lasts, .slice A_At x.At.length k_At, .slice A_Fresh x.Fresh.length k_Fresh, .int .i64 x.Left, .bool x.Off], iAcF dStr (.slice A_Lasts x.Lasts.length k_Lasts) x.Lasts, iAcF dInt (.slice A_At x.At.length k_At) x.At, iAcF dStr (.slice A_Fresh x.Fresh.length k_Fresh) x.Fresh] ∧ Live f [(0, .pointer (some ⟨r, 0, none⟩)), (3, .slice A2 out.length cap3), (4, .int .i64 i)]) ?_ ?_
  · exact ⟨_, 0, _, _, _, _, rfl, (by omega), (by omega), rfl, hs1, ⟨rfl, rfl, rfl, trivial⟩⟩
  ·
    rintro _ f7 w5 ⟨i, out, A2, cap3, bs4, rfl, q10, q11, q12, hs8, hl9⟩
    refine W_live hl9 ?_
    intro g13
    have hol : out.length ≤ i.toNat := by rw [q12]; exact filter_len
    refine W_seq ?_
    refine W_seq ?_
    refine W_region ?_
    refine S_move rfl ?_
    refine S_move rfl ?_
    refine S_nilCheck rfl rfl ?_
    refine S_fieldAddr Try.runUnderlying43 rfl Try.sizeOf41 rfl rfl ?_
    refine S_load1 Try.isAgg41 rfl (Own.at ((hs8.at 2 rfl)).2 rfl) rfl ?_
    refine S_len Try.runUnderlying41 rfl rfl ?_
    refine S_lss rfl rfl rfl ?_
    refine S_move rfl ?_
    refine WL_split (dj := 14) rfl (fun h14 => ?_) (fun h14 => ?_)
    ·
      have p15 := of_decide_eq_true h14
      refine WL_on rfl rfl (bT h14) ?_
      refine S_move rfl ?_
      refine WL_on rfl rfl (bT h14) ?_
      refine S_nilCheck rfl rfl ?_
      refine WL_on rfl rfl (bT h14) ?_
      refine S_fieldAddr Try.runUnderlying43 rfl Try.sizeOf37 rfl rfl ?_
      refine WL_on rfl rfl (bT h14) ?_
      refine S_load1 Try.isAgg37 rfl (Own.at ((hs8.at 2 rfl)).2 rfl) rfl ?_
      refine WL_on rfl rfl (bT h14) ?_
      refine S_len Try.runUnderlying37 rfl rfl ?_
      refine WL_on rfl rfl (bT h14) ?_
      refine S_gtr rfl rfl rfl ?_
      refine S_pick_t (bT h14) rfl ?_
      refine WL_nil ?_
      refine W_cond rfl (fun h16 => ?_) (fun h16 => ?_)
      ·
        have p17 := of_decide_eq_true h16
        refine W_skip ?_
        refine W_seq ?_
        refine W_block ?_
        refine W_seq ?_
        refine W_live (L := [(0, .pointer (some ⟨r, 0, none⟩)), (3, .slice A2 out.length cap3), (4, .int .i64 i)]) ⟨rfl, rfl, rfl, trivial⟩ ?_
        intro g18
        refine W_region ?_
        refine S_move rfl ?_
        refine S_move rfl ?_
        refine S_callQ Try.call35 rfl (rnow_ok ((hs8.at 1 rfl)).2 ok i) rfl ?_
        refine S_move rfl ?_
        refine S_extract rfl rfl rfl ?_
        refine S_extract rfl rfl rfl ?_
        refine S_assign rfl ?_
        refine S_assign rfl ?_
        refine WL_nil ?_
        refine W_seq ?_
        refine W_region ?_
        refine S_move rfl ?_
        refine WL_nil ?_
        refine W_cond rfl (fun h19 => ?_) (fun h19 => ?_)
        ·
          have p20 := h19
          try simp only [lrn] at p20
          refine W_region ?_
          refine S_move rfl ?_
          refine S_move rfl ?_
          refine Z_buildSlice (r := dInt) (css := [[.int .i64 i]]) (al := [i]) hs8 Try.runUnderlying37 Try.sizeOf3 Try.zeroValue3 rfl rfl rfl rfl rfl rfl rfl ⟨⟨rfl, (by simp only [InI]; omega)⟩, trivial⟩ rfl ?_
          intro b21 w22 hs23
          have hs23 : Sep [] w0 (fun b => b ∈ F) w22 [iAc dInt (.slice (some ⟨b21, 0, none⟩) 1 1) [i] [b21] [], iAc dInt (.slice A2 out.length cap3) out bs4 [], iObF (obRk r) x F, iOwnF r 43 [.slice A_Lasts x.Lasts.length k_Lasts, .slice A_At x.At.length k_At, .slice A_Fresh x.Fresh.length k_Fresh, .int .i64 x.Left, .bool x.Off], iAcF dStr (.slice A_Lasts x.Lasts.length k_Lasts) x.Lasts, iAcF dInt (.slice A_At x.At.length k_At) x.At, iAcF dStr (.slice A_Fresh x.Fresh.length k_Fresh) x.Fresh] := hs23
          refine Z_append (r := dInt) (al := out) (xs := [i]) hs23 1 rfl (Src.ac (hs23.at 0 rfl)) Try.runUnderlying37 Try.typeInfo3 Try.sizeOf3 Try.zeroValue3 rfl (by show _ * 8 ≤ _; simp only [List.length_cons, List.length_nil]; omega) (by decide) rfl ?_
          intro A26 cap27 bs28 w24 hs25
          have hs25 : Sep [] w0 (fun b => b ∈ F) w24 [iAc dInt (.slice (some ⟨b21, 0, none⟩) 1 1) [i] [b21] [], iAc dInt (.slice A26 ((out ++ [i]).length) cap27) (out ++ [i]) bs28 [], iObF (obRk r) x F, iOwnF r 43 [.slice A_Lasts x.Lasts.length k_Lasts, .slice A_At x.At.length k_At, .slice A_Fresh x.Fresh.length k_Fresh, .int .i64 x.Left, .bool x.Off], iAcF dStr (.slice A_Lasts x.Lasts.length k_Lasts) x.Lasts, iAcF dInt (.slice A_At x.At.length k_At) x.At, iAcF dStr (.slice A_Fresh x.Fresh.length k_Fresh) x.Fresh] := hs25
          refine S_assign rfl ?_
          refine WL_nil ?_
          refine W_live (L := [(0, .pointer (some ⟨r, 0, none⟩)), (3, .slice A26 ((out ++ [i]).length) cap27), (4, .int .i64 i)]) ⟨rfl, rfl, rfl, trivial⟩ ?_
          intro g29
          refine W_region ?_
          refine S_move rfl ?_
          refine S_add rfl rfl (by omega) rfl ?_
          refine S_assign rfl ?_
          refine WL_nil ?_
          exact ⟨_, (by omega), i + 1, out ++ [i], _, _, _, rfl, (by omega), (by omega), (by rw [← dirty_next q12 q10]; first | rw [if_pos ‹_›] | rw [if_neg (by simp [*])]), (hs25.pick [1, 2, 3, 4, 5, 6] rfl (by decide) rfl), ⟨rfl, rfl, rfl, trivial⟩⟩
        ·
          have p30 := h19
          try simp only [lrn] at p30
          refine W_skip ?_
          refine W_region ?_
          refine S_move rfl ?_
          refine S_add rfl rfl (by omega) rfl ?_
          refine S_assign rfl ?_
          refine WL_nil ?_
          exact ⟨_, (by omega), i + 1, out, _, _, _, rfl, (by omega), (by omega), (by rw [← dirty_next q12 q10]; first | rw [if_pos ‹_›] | rw [if_neg (by simp [*])]), hs8, ⟨rfl, rfl, rfl, trivial⟩⟩
      ·
        have p31 := of_decide_eq_false h16
        refine W_exit ?_
        refine W_seq ?_
        refine W_live (L := [(3, .slice A2 out.length cap3)]) ⟨rfl, trivial⟩ ?_
        intro g32
        refine W_region ?_
        refine S_move rfl ?_
        refine S_assign rfl ?_
        refine WL_nil ?_
        refine W_ret ?_
        show ∃ A cap bs, (Value.slice A2 out.length cap3) = .slice A x.dirty.length cap ∧ Ac dInt (fun _ => False) w5 (.slice A x.dirty.length cap) x.dirty bs ∧ Ext [] w0 w5 ∧ ∀ b ∈ bs, w0.heap.size ≤ b
        have e := rdirty_end q12 (by omega) (by omega) (by first | exact .inl ‹_› | exact .inr (List.eq_nil_of_length_eq_zero (by omega)))
        subst e
        exact ⟨_, _, _, rfl, hs8.at 0 rfl, hs8.ext, fun b hb => (hs8.org 0 rfl b hb).elim (fun h => by cases h) id⟩
    ·
      have p33 := of_decide_eq_false h14
      refine WL_off rfl rfl rfl (bF h14) ?_
      refine WL_off rfl rfl rfl (bF h14) ?_
      refine WL_off rfl rfl rfl (bF h14) ?_
      refine WL_off rfl rfl rfl (bF h14) ?_
      refine WL_off rfl rfl rfl (bF h14) ?_
      refine WL_off rfl rfl rfl (bF h14) ?_
      refine S_pick_f (bF h14) rfl ?_
      refine WL_nil ?_
      refine W_cond_false rfl ?_
      refine W_exit ?_
      refine W_seq ?_
      refine W_live (L := [(3, .slice A2 out.length cap3)]) ⟨rfl, trivial⟩ ?_
      intro g34
      refine W_region ?_
      refine S_move rfl ?_
      refine S_assign rfl ?_
      refine WL_nil ?_
      refine W_ret ?_
      show ∃ A cap bs, (Value.slice A2 out.length cap3) = .slice A x.dirty.length cap ∧ Ac dInt (fun _ => False) w5 (.slice A x.dirty.length cap) x.dirty bs ∧ Ext [] w0 w5 ∧ ∀ b ∈ bs, w0.heap.size ≤ b
      have e := rdirty_end q12 (by omega) (by omega) (by first | exact .inl ‹_› | exact .inr (List.eq_nil_of_length_eq_zero (by omega)))
      subst e
      exact ⟨_, _, _, rfl, hs8.at 0 rfl, hs8.ext, fun b hb => (hs8.org 0 rfl b hb).elim (fun h => by cases h) id⟩
end Go.Proofs.Ytdgcgifigkfeaaa
