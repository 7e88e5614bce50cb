/- Disks: walks, printed by program, and their plain law. -/
import Derived.Test.YtdgcgifigkfeaaaM6
import Derived.Test.YtdgcgifigkfeaaaL3
namespace Go.Proofs.Ytdgcgifigkfeaaa
open Go Go.Wk Go.Wl Classical
attribute [local irreducible] Dk.write Dk.crash Dk.read Dk.flush Dk.new ofs
set_option maxHeartbeats 8000000 in
theorem torn_ok {w0 : World} (was now : UInt8) (cut : Int) :
    CallR Try.prog 6 [bv was, bv now, .int .i64 cut] w0 (fun v w' => v = .bool true ∧ Ext [] w0 w') := by
  have hs0 := Sep.nil (B0 := []) (w0 := w0) (Z := fun _ => False) (fun _ h => h.elim)
  refine Call1 Try.func6 rfl rfl rfl rfl ?_
  refine W_seq ?_
  refine W_region ?_
  refine S_assign rfl ?_
  refine WL_nil ?_
  refine W_seq ?_
  refine W_region ?_
  have hz7 := new_ok (w0 := w0) (n := 2) (by decide) (by decide)
  refine S_call2 Try.call9 rfl hz7 rfl ?_
  rintro d1 F2 w3 ⟨h4, e5, hf6⟩
  have hs8 : Sep [] w0 (fun _ => False) w3 [iOb (obDk d1) (Dk.new 2) F2 []] := hs0.made (o := obDk d1) e5 h4 hf6
  refine S_move rfl ?_
  refine S_extract rfl rfl rfl ?_
  refine S_extract rfl rfl rfl ?_
  refine S_assign rfl ?_
  refine S_assign rfl ?_
  refine WL_nil ?_
  refine W_seq ?_
  refine W_seq ?_
  refine W_region ?_
  refine S_move rfl ?_
  refine S_callQ Try.call11 rfl no_ok0 rfl ?_
  refine S_neq rfl rfl rfl ?_
  refine WL_conv (congrArg Value.bool (decide_eq_false (by simp))) ?_
  refine S_move rfl ?_
  refine WL_on rfl rfl rfl ?_
  refine S_move rfl ?_
  refine WL_on rfl rfl rfl ?_
  refine S_move rfl ?_
  refine WL_on rfl rfl rfl ?_
  refine S_move rfl ?_
  refine WL_on rfl rfl rfl ?_
  have hz16 := of_ok (w0 := w3) was was
  refine S_call3 Try.call26 rfl hz16 rfl ?_
  rintro A9 cap10 bs11 w12 ⟨ha13, e14, hf15⟩
  have hs17 : Sep [] w0 (fun _ => False) w12 [iAc dByte (.slice A9 256 cap10) (ofs was was) bs11 [], iOb (obDk d1) (Dk.new 2) F2 []] := hs8.madeAc e14 ha13 hf15
  refine WL_on rfl rfl rfl ?_
  have hz22 := write_okn (hs17.at 1 rfl) (new_Ok (n := 2) (by decide) (by decide)) (fun b hb h => h.elim (hs17.nz 1 rfl b hb) (hs17.ap 1 0 rfl rfl rfl b hb)) (Ac.rd (hs17.at 0 rfl) (by rw [ofs_len]; decide)) 1
  refine S_callE Try.call25 rfl hz22 rfl ?_
  rintro w18 ⟨F19, h20, t21⟩
  have hs23 : Sep [] w0 (fun _ => False) w18 [iAc dByte (.slice A9 256 cap10) (ofs was was) bs11 [], iOb (obDk d1) (((Dk.new 2).write 1 (ofs was was)).2) F19 []] := hs17.turn 1 rfl h20 t21
  refine WL_conv ((congrArg (errv 64) (tn1_zero was)).trans errv_0.symm) ?_
  have hs25 : Sep [] w0 (fun _ => False) w18 [iAc dByte (.slice A9 256 cap10) (ofs was was) bs11 [], iOb (obDk d1) (tn1 was) F19 []] := hs23
  refine WL_on rfl rfl rfl ?_
  refine S_callQ Try.call11 rfl no_ok0 rfl ?_
  refine WL_on rfl rfl rfl ?_
  refine S_neq rfl rfl rfl ?_
  refine WL_conv (congrArg Value.bool (decide_eq_false (by simp))) ?_
  refine S_pick_f rfl rfl ?_
  refine S_move rfl ?_
  refine WL_on rfl rfl rfl ?_
  refine S_move rfl ?_
  refine WL_on rfl rfl rfl ?_
  have hz30 := flush_ok (hs25.at 1 rfl) (write_Ok (new_Ok (n := 2) (by decide) (by decide)) 1 (ofs was was))
  refine S_callE Try.call23 rfl hz30 rfl ?_
  rintro w26 ⟨F27, h28, t29⟩
  have hs31 : Sep [] w0 (fun _ => False) w26 [iAc dByte (.slice A9 256 cap10) (ofs was was) bs11 [], iOb (obDk d1) ((tn1 was).flush.2) F27 []] := hs25.turn 1 rfl h28 t29
  refine WL_conv ((congrArg (errv 64) (tn1_f was).1).trans errv_0.symm) ?_
  refine WL_on rfl rfl rfl ?_
  refine S_callQ Try.call11 rfl no_ok0 rfl ?_
  refine WL_on rfl rfl rfl ?_
  refine S_neq rfl rfl rfl ?_
  refine WL_conv (congrArg Value.bool (decide_eq_false (by simp))) ?_
  refine S_pick_f rfl rfl ?_
  refine WL_norm (L := [(0, bv was), (1, bv now), (2, .int .i64 cut), (7, .pointer (some ⟨d1, 0, none⟩)), (33, .bool false)]) ⟨rfl, rfl, rfl, rfl, rfl, trivial⟩ ?_
  intro g33
  refine S_move rfl ?_
  refine WL_on rfl rfl rfl ?_
  refine S_move rfl ?_
  refine WL_on rfl rfl rfl ?_
  refine S_move rfl ?_
  refine WL_on rfl rfl rfl ?_
  refine S_move rfl ?_
  refine WL_on rfl rfl rfl ?_
  have hz41 := of_ok (w0 := w26) now now
  refine S_call3 Try.call26 rfl hz41 rfl ?_
  rintro A34 cap35 bs36 w37 ⟨ha38, e39, hf40⟩
  have hs42 : Sep [] w0 (fun _ => False) w37 [iAc dByte (.slice A34 256 cap35) (ofs now now) bs36 [], iAc dByte (.slice A9 256 cap10) (ofs was was) bs11 [], iOb (obDk d1) ((tn1 was).flush.2) F27 []] := hs31.madeAc e39 ha38 hf40
  refine WL_on rfl rfl rfl ?_
  have hz47 := write_okn (hs42.at 2 rfl) (flush_Ok (write_Ok (new_Ok (n := 2) (by decide) (by decide)) 1 (ofs was was))) (fun b hb h => h.elim (hs42.nz 2 rfl b hb) (hs42.ap 2 0 rfl rfl rfl b hb)) (Ac.rd (hs42.at 0 rfl) (by rw [ofs_len]; decide)) 1
  refine S_callE Try.call25 rfl hz47 rfl ?_
  rintro w43 ⟨F44, h45, t46⟩
  have hs48 : Sep [] w0 (fun _ => False) w43 [iAc dByte (.slice A34 256 cap35) (ofs now now) bs36 [], iAc dByte (.slice A9 256 cap10) (ofs was was) bs11 [], iOb (obDk d1) ((((tn1 was).flush.2).write 1 (ofs now now)).2) F44 []] := hs42.turn 2 rfl h45 t46
  refine WL_conv ((congrArg (errv 64) (tn2_zero was now)).trans errv_0.symm) ?_
  have hs50 : Sep [] w0 (fun _ => False) w43 [iAc dByte (.slice A34 256 cap35) (ofs now now) bs36 [], iAc dByte (.slice A9 256 cap10) (ofs was was) bs11 [], iOb (obDk d1) (tn2 was now) F44 []] := hs48
  refine WL_on rfl rfl rfl ?_
  refine S_callQ Try.call11 rfl no_ok0 rfl ?_
  refine WL_on rfl rfl rfl ?_
  refine S_neq rfl rfl rfl ?_
  refine WL_conv (congrArg Value.bool (decide_eq_false (by simp))) ?_
  refine S_pick_f rfl rfl ?_
  refine WL_nil ?_
  refine W_cond_false rfl ?_
  refine W_skip ?_
  refine W_seq ?_
  refine W_region ?_
  refine S_move rfl ?_
  refine S_move rfl ?_
  have hz57 := crash_okn (D := fun _ => False)  (kept := ([] : List Int)) (hs50.at 2 rfl) (write_Ok (flush_Ok (write_Ok (new_Ok (n := 2) (by decide) (by decide)) 1 (ofs was was))) 1 (ofs now now)) dSlice_nil 1 cut
  refine S_call2 Try.call24 rfl hz57 rfl ?_
  rintro d51 F52 w53 ⟨h54, e55, hf56⟩
  have hs58 : Sep [] w0 (fun _ => False) w53 [iOb (obDk d51) ((tn2 was now).crash 1 cut ([] : List Int)) F52 [], iAc dByte (.slice A34 256 cap35) (ofs now now) bs36 [], iAc dByte (.slice A9 256 cap10) (ofs was was) bs11 [], iOb (obDk d1) (tn2 was now) F44 []] := hs50.made (o := obDk d51) e55 h54 hf56
  have hz66 := read_ok (hs58.at 0 rfl) (crash_Ok (write_Ok (flush_Ok (write_Ok (new_Ok (n := 2) (by decide) (by decide)) 1 (ofs was was))) 1 (ofs now now)) 1 cut ([] : List Int)) 1
  refine S_call3 Try.call20 rfl hz66 rfl ?_
  rintro A59 cap60 bs61 w62 ⟨ha63, e64, hf65⟩
  have hs67 : Sep [] w0 (fun _ => False) w62 [iAc dByte (.slice A59 ((((tn2 was now).crash 1 cut ([] : List Int)).read 1).1.length) cap60) ((((tn2 was now).crash 1 cut ([] : List Int)).read 1).1) bs61 [], iOb (obDk d51) ((tn2 was now).crash 1 cut ([] : List Int)) F52 [], iAc dByte (.slice A34 256 cap35) (ofs now now) bs36 [], iAc dByte (.slice A9 256 cap10) (ofs was was) bs11 [], iOb (obDk d1) (tn2 was now) F44 []] := hs58.madeAc e64 ha63 hf65
  refine S_move rfl ?_
  refine S_extract rfl rfl rfl ?_
  refine S_extract rfl rfl rfl ?_
  refine WL_conv ((congrArg (fun p => errv 64 (Prod.snd p)) (tn2_read was now cut)).trans errv_0.symm) ?_
  refine S_assign rfl ?_
  refine S_assign rfl ?_
  refine WL_nil ?_
  refine W_seq ?_
  refine W_seq ?_
  have hlen : (((tn2 was now).crash 1 cut ([] : List Int)).read 1).1.length = 256 := by rw [tn2_read, tnS_len]
  have hix : ∀ j : Int, 0 ≤ j → j < 256 → ix (((tn2 was now).crash 1 cut ([] : List Int)).read 1).1 j = if j < cut then now else was := fun j h0 h1 => by rw [tn2_read]; exact tnS_ix was now cut h0 h1
  refine W_live (L := [(0, bv was), (1, bv now), (2, .int .i64 cut), (9, .slice A59 ((((tn2 was now).crash 1 cut ([] : List Int)).read 1).1.length) cap60), (10, .nilIface)]) ⟨rfl, rfl, rfl, rfl, rfl, trivial⟩ ?_
  intro g68
  refine W_region ?_
  refine S_move rfl ?_
  refine S_callQ Try.call11 rfl no_ok0 rfl ?_
  refine S_neq rfl rfl rfl ?_
  refine WL_conv (congrArg Value.bool (decide_eq_false (by simp))) ?_
  refine S_move rfl ?_
  refine WL_on rfl rfl rfl ?_
  refine S_move rfl ?_
  refine WL_on rfl rfl rfl ?_
  refine S_len Try.runUnderlying47 rfl rfl ?_
  refine WL_on rfl rfl rfl ?_
  refine S_neq rfl rfl rfl ?_
  refine WL_conv (congrArg Value.bool (decide_eq_false (fun h => h (by rw [hlen]; rfl)))) ?_
  refine S_pick_f rfl rfl ?_
  refine WL_nil ?_
  refine W_cond_false rfl ?_
  refine W_skip ?_
  refine W_seq ?_
  refine W_seq ?_
  refine W_region ?_
  refine S_move rfl ?_
  refine S_len Try.runUnderlying47 rfl rfl ?_
  refine S_move rfl ?_
  refine WL_nil ?_
  refine W_block ?_
  refine W_loopE (fun m f w => ∃ (i : Int), m = (256 - i).toNat ∧ (0 ≤ i) ∧ (i ≤ 256) ∧ Sep [] w0 (fun _ => False) w [iAc dByte (.slice A59 ((((tn2 was now).crash 1 cut ([] : List Int)).read 1).1.length) cap60) ((((tn2 was now).crash 1 cut ([] : List Int)).read 1).1) bs61 []] ∧ Live f [(0, bv was), (1, bv now), (2, .int .i64 cut), (9, .slice A59 ((((tn2 was now).crash 1 cut ([] : List Int)).read 1).1.length) cap60), (59, .int .i64 ((((tn2 was now).crash 1 cut ([] : List Int)).read 1).1.length : Int)), (60, .int .i64 i)]) ?_ ?_
  · exact ⟨_, 0, rfl, (by omega), (by omega), (hs67.pick [0] rfl (by decide) rfl), ⟨rfl, rfl, rfl, rfl, rfl, rfl, trivial⟩⟩
  ·
    rintro _ f71 w69 ⟨i, rfl, q74, q75, hs72, hl73⟩
    refine W_live hl73 ?_
    intro g76
    refine W_seq ?_
    refine W_region ?_
    refine S_lss rfl rfl rfl ?_
    refine WL_nil ?_
    refine W_seq ?_
    refine W_cond rfl (fun h77 => ?_) (fun h77 => ?_)
    ·
      have p78 := of_decide_eq_true h77
      refine W_skip ?_
      refine W_seq ?_
      refine W_block ?_
      refine W_seq ?_
      refine W_region ?_
      refine S_move rfl ?_
      refine S_assign rfl ?_
      refine WL_nil ?_
      refine W_seq ?_
      refine W_region ?_
      refine S_move rfl ?_
      refine S_move rfl ?_
      refine S_lss rfl rfl rfl ?_
      refine S_move rfl ?_
      refine WL_split (dj := 66) rfl (fun h79 => ?_) (fun h79 => ?_)
      ·
        have p80 := of_decide_eq_true h79
        refine WL_on rfl rfl (bT h79) ?_
        refine S_move rfl ?_
        refine WL_on rfl rfl (bT h79) ?_
        refine S_move rfl ?_
        refine WL_on rfl rfl (bT h79) ?_
        refine Z_indexAc (hs72.at 0 rfl) Try.runUnderlying47 Try.sizeOf5 rfl rfl (show (0 : Int) ≤ i from by omega) (show i < (((((tn2 was now).crash 1 cut ([] : List Int)).read 1).1.length : Nat) : Int) from by omega) rfl ?_
        refine WL_on rfl rfl (bT h79) ?_
        have o84 := cell_ac (q := (Int.toNat i) * 1) (sz := 1) (o := 0) (hs72.at 0 rfl) (Sub.self _) rfl (Nat.add_zero _).symm (show (0 : Int) ≤ i from by omega) (show i < (((((tn2 was now).crash 1 cut ([] : List Int)).read 1).1.length : Nat) : Int) from by omega)
        obtain ⟨c81, hc82, hr83⟩ := o84
        obtain rfl : c81 = _ := hr83
        refine Z_load Try.isAgg5 rfl hc82 rfl ?_
        refine WL_on rfl rfl (bT h79) ?_
        refine S_move rfl ?_
        refine WL_on rfl rfl (bT h79) ?_
        refine S_neq rfl rfl rfl ?_
        refine WL_conv (congrArg Value.bool (decide_eq_false (fun h => h (by rw [hix i (by omega) (by omega), if_pos ‹_›])))) ?_
        refine S_pick_t (bT h79) rfl ?_
        refine S_move rfl ?_
        refine WL_on rfl rfl rfl ?_
        refine S_move rfl ?_
        refine WL_on rfl rfl rfl ?_
        refine S_move rfl ?_
        refine WL_on rfl rfl rfl ?_
        refine S_geq rfl rfl rfl ?_
        refine WL_on rfl rfl rfl ?_
        refine S_move rfl ?_
        refine WL_split (dj := 78) rfl (fun h85 => ?_) (fun h85 => ?_)
        ·
          have p86 := of_decide_eq_true h85
          refine WL_on rfl rfl (bT h85) ?_
          refine S_move rfl ?_
          refine WL_on rfl rfl (bT h85) ?_
          refine S_move rfl ?_
          refine WL_on rfl rfl (bT h85) ?_
          refine Z_indexAc (hs72.at 0 rfl) Try.runUnderlying47 Try.sizeOf5 rfl rfl (show (0 : Int) ≤ i from by omega) (show i < (((((tn2 was now).crash 1 cut ([] : List Int)).read 1).1.length : Nat) : Int) from by omega) rfl ?_
          refine WL_on rfl rfl (bT h85) ?_
          have o90 := cell_ac (q := (Int.toNat i) * 1) (sz := 1) (o := 0) (hs72.at 0 rfl) (Sub.self _) rfl (Nat.add_zero _).symm (show (0 : Int) ≤ i from by omega) (show i < (((((tn2 was now).crash 1 cut ([] : List Int)).read 1).1.length : Nat) : Int) from by omega)
          obtain ⟨c87, hc88, hr89⟩ := o90
          obtain rfl : c87 = _ := hr89
          refine Z_load Try.isAgg5 rfl hc88 rfl ?_
          refine WL_on rfl rfl (bT h85) ?_
          refine S_move rfl ?_
          refine WL_on rfl rfl (bT h85) ?_
          refine S_neq rfl rfl rfl ?_
          refine WL_conv (congrArg Value.bool (decide_eq_false (fun h => h (by rw [hix i (by omega) (by omega), if_neg (by omega)])))) ?_
          refine WL_on rfl rfl rfl ?_
          refine S_pick_t (bT h85) rfl ?_
          refine WL_norm (L := [(0, bv was), (1, bv now), (2, .int .i64 cut), (9, .slice A59 ((((tn2 was now).crash 1 cut ([] : List Int)).read 1).1.length) cap60), (59, .int .i64 ((((tn2 was now).crash 1 cut ([] : List Int)).read 1).1.length : Int)), (60, .int .i64 i), (74, .bool false), (85, .bool false)]) ⟨rfl, rfl, rfl, rfl, rfl, rfl, rfl, rfl, trivial⟩ ?_
          intro g91
          refine S_pick_f rfl rfl ?_
          refine WL_nil ?_
          refine W_cond_false rfl ?_
          refine W_skip ?_
          refine W_region ?_
          refine S_add rfl rfl (by omega) rfl ?_
          refine S_move rfl ?_
          refine WL_nil ?_
          exact ⟨_, (by omega), i + 1, rfl, (by omega), (by omega), hs72, ⟨rfl, rfl, rfl, rfl, rfl, rfl, trivial⟩⟩
        ·
          have p92 := of_decide_eq_false h85
          refine WL_off rfl rfl rfl (bF h85) ?_
          refine WL_off rfl rfl rfl (bF h85) ?_
          refine WL_off rfl rfl rfl (bF h85) ?_
          refine WL_off rfl rfl rfl (bF h85) ?_
          refine WL_off rfl rfl rfl (bF h85) ?_
          refine WL_off rfl rfl rfl (bF h85) ?_
          refine WL_on rfl rfl rfl ?_
          refine S_pick_f (bF h85) rfl ?_
          refine WL_norm (L := [(0, bv was), (1, bv now), (2, .int .i64 cut), (9, .slice A59 ((((tn2 was now).crash 1 cut ([] : List Int)).read 1).1.length) cap60), (59, .int .i64 ((((tn2 was now).crash 1 cut ([] : List Int)).read 1).1.length : Int)), (60, .int .i64 i), (74, .bool false), (85, .bool false)]) ⟨rfl, rfl, rfl, rfl, rfl, rfl, rfl, rfl, trivial⟩ ?_
          intro g93
          refine S_pick_f rfl rfl ?_
          refine WL_nil ?_
          refine W_cond_false rfl ?_
          refine W_skip ?_
          refine W_region ?_
          refine S_add rfl rfl (by omega) rfl ?_
          refine S_move rfl ?_
          refine WL_nil ?_
          exact ⟨_, (by omega), i + 1, rfl, (by omega), (by omega), hs72, ⟨rfl, rfl, rfl, rfl, rfl, rfl, trivial⟩⟩
      ·
        have p94 := of_decide_eq_false h79
        refine WL_off rfl rfl rfl (bF h79) ?_
        refine WL_off rfl rfl rfl (bF h79) ?_
        refine WL_off rfl rfl rfl (bF h79) ?_
        refine WL_off rfl rfl rfl (bF h79) ?_
        refine WL_off rfl rfl rfl (bF h79) ?_
        refine WL_off rfl rfl rfl (bF h79) ?_
        refine S_pick_f (bF h79) rfl ?_
        refine S_move rfl ?_
        refine WL_on rfl rfl rfl ?_
        refine S_move rfl ?_
        refine WL_on rfl rfl rfl ?_
        refine S_move rfl ?_
        refine WL_on rfl rfl rfl ?_
        refine S_geq rfl rfl rfl ?_
        refine WL_on rfl rfl rfl ?_
        refine S_move rfl ?_
        refine WL_split (dj := 78) rfl (fun h95 => ?_) (fun h95 => ?_)
        ·
          have p96 := of_decide_eq_true h95
          refine WL_on rfl rfl (bT h95) ?_
          refine S_move rfl ?_
          refine WL_on rfl rfl (bT h95) ?_
          refine S_move rfl ?_
          refine WL_on rfl rfl (bT h95) ?_
          refine Z_indexAc (hs72.at 0 rfl) Try.runUnderlying47 Try.sizeOf5 rfl rfl (show (0 : Int) ≤ i from by omega) (show i < (((((tn2 was now).crash 1 cut ([] : List Int)).read 1).1.length : Nat) : Int) from by omega) rfl ?_
          refine WL_on rfl rfl (bT h95) ?_
          have o100 := cell_ac (q := (Int.toNat i) * 1) (sz := 1) (o := 0) (hs72.at 0 rfl) (Sub.self _) rfl (Nat.add_zero _).symm (show (0 : Int) ≤ i from by omega) (show i < (((((tn2 was now).crash 1 cut ([] : List Int)).read 1).1.length : Nat) : Int) from by omega)
          obtain ⟨c97, hc98, hr99⟩ := o100
          obtain rfl : c97 = _ := hr99
          refine Z_load Try.isAgg5 rfl hc98 rfl ?_
          refine WL_on rfl rfl (bT h95) ?_
          refine S_move rfl ?_
          refine WL_on rfl rfl (bT h95) ?_
          refine S_neq rfl rfl rfl ?_
          refine WL_conv (congrArg Value.bool (decide_eq_false (fun h => h (by rw [hix i (by omega) (by omega), if_neg (by omega)])))) ?_
          refine WL_on rfl rfl rfl ?_
          refine S_pick_t (bT h95) rfl ?_
          refine WL_norm (L := [(0, bv was), (1, bv now), (2, .int .i64 cut), (9, .slice A59 ((((tn2 was now).crash 1 cut ([] : List Int)).read 1).1.length) cap60), (59, .int .i64 ((((tn2 was now).crash 1 cut ([] : List Int)).read 1).1.length : Int)), (60, .int .i64 i), (74, .bool false), (85, .bool false)]) ⟨rfl, rfl, rfl, rfl, rfl, rfl, rfl, rfl, trivial⟩ ?_
          intro g101
          refine S_pick_f rfl rfl ?_
          refine WL_nil ?_
          refine W_cond_false rfl ?_
          refine W_skip ?_
          refine W_region ?_
          refine S_add rfl rfl (by omega) rfl ?_
          refine S_move rfl ?_
          refine WL_nil ?_
          exact ⟨_, (by omega), i + 1, rfl, (by omega), (by omega), hs72, ⟨rfl, rfl, rfl, rfl, rfl, rfl, trivial⟩⟩
        ·
          have p102 := of_decide_eq_false h95
          refine WL_off rfl rfl rfl (bF h95) ?_
          refine WL_off rfl rfl rfl (bF h95) ?_
          refine WL_off rfl rfl rfl (bF h95) ?_
          refine WL_off rfl rfl rfl (bF h95) ?_
          refine WL_off rfl rfl rfl (bF h95) ?_
          refine WL_off rfl rfl rfl (bF h95) ?_
          refine WL_on rfl rfl rfl ?_
          refine S_pick_f (bF h95) rfl ?_
          refine WL_norm (L := [(0, bv was), (1, bv now), (2, .int .i64 cut), (9, .slice A59 ((((tn2 was now).crash 1 cut ([] : List Int)).read 1).1.length) cap60), (59, .int .i64 ((((tn2 was now).crash 1 cut ([] : List Int)).read 1).1.length : Int)), (60, .int .i64 i), (74, .bool false), (85, .bool false)]) ⟨rfl, rfl, rfl, rfl, rfl, rfl, rfl, rfl, trivial⟩ ?_
          intro g103
          refine S_pick_f rfl rfl ?_
          refine WL_nil ?_
          refine W_cond_false rfl ?_
          refine W_skip ?_
          refine W_region ?_
          refine S_add rfl rfl (by omega) rfl ?_
          refine S_move rfl ?_
          refine WL_nil ?_
          exact ⟨_, (by omega), i + 1, rfl, (by omega), (by omega), hs72, ⟨rfl, rfl, rfl, rfl, rfl, rfl, trivial⟩⟩
    ·
      have p104 := of_decide_eq_false h77
      refine W_exit ?_
      refine W_seq ?_
      refine W_region ?_
      refine S_callE Try.call12 rfl alive_ok rfl ?_
      intro w105 e106
      have hs107 : Sep [] w0 (fun _ => False) w105 [iAc dByte (.slice A59 ((((tn2 was now).crash 1 cut ([] : List Int)).read 1).1.length) cap60) ((((tn2 was now).crash 1 cut ([] : List Int)).read 1).1) bs61 []] := hs72.step e106
      refine S_assign rfl ?_
      refine WL_nil ?_
      refine W_ret ?_
      show (Value.bool true) = .bool true ∧ Ext [] w0 w105
      exact ⟨rfl, hs107.ext⟩
end Go.Proofs.Ytdgcgifigkfeaaa
