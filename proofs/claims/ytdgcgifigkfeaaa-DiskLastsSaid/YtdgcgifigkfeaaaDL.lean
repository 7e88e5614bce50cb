/- Disks: walks, printed by program, and their plain law. -/
import Derived.Test.YtdgcgifigkfeaaaPL
import Derived.Test.YtdgcgifigkfeaaaM7
namespace Go.Proofs.Ytdgcgifigkfeaaa
open Go Go.Wk Go.Wl Classical
set_option linter.unusedVariables false
set_option linter.unusedSimpArgs false

attribute [local irreducible] Dk.crash Dk.read Dk.write Dk.flush Dk.dirty ofs
set_option maxHeartbeats 8000000 in
theorem lasts_ok {w0 : World} {D : Nat → Prop} {A : Option Addr} {cap : Nat} {l : List Act} (h : (dSlice dAct).rd D w0 [.slice A l.length cap] l) {A2 : Option Addr} {cap2 : Nat} {again : List Int} (h2 : (dSlice dInt).rd D w0 [.slice A2 again.length cap2] again) {A3 : Option Addr} {cap3 : Nat} {kept : List Int} (h3 : (dSlice dInt).rd D w0 [.slice A3 kept.length cap3] kept) {n : Int} (torn cut : Int) :
    CallR Try.prog 4 [.int .i64 n, .slice A l.length cap, .slice A2 again.length cap2, .int .i64 torn, .int .i64 cut, .slice A3 kept.length cap3] w0 (fun v w' => v = .bool true ∧ Ext [] w0 w') := by
  have hs0 := (((Sep.nil (B0 := []) (w0 := w0) (Z := fun b => D b ∧ b < w0.heap.size) (fun _ h => h.2)).fact (t := iData (dSlice dInt) [.slice A3 kept.length cap3] kept) ((dSlice dInt).weak h3 (fun b h1 h2 => ⟨h1, h2⟩)) sData rfl rfl).fact (t := iData (dSlice dInt) [.slice A2 again.length cap2] again) ((dSlice dInt).weak h2 (fun b h1 h2 => ⟨h1, h2⟩)) sData rfl rfl).fact (t := iData (dSlice dAct) [.slice A l.length cap] l) ((dSlice dAct).weak h (fun b h1 h2 => ⟨h1, h2⟩)) sData rfl rfl
  have hll := dSlice_len h
  have hl2 := dSlice_len h2
  have hl3 := dSlice_len h3
  refine Call1 Try.func4 rfl rfl rfl rfl ?_
  refine W_seq ?_
  refine W_region ?_
  refine S_assign rfl ?_
  refine WL_nil ?_
  refine W_seq ?_
  refine W_region ?_
  refine S_move rfl ?_
  refine S_move rfl ?_
  refine S_callOr Try.call22 rfl (play_ok (n := n) (hs0.at 0 rfl)) rfl ?_ ?_
  rintro _ w1 e2
  have hs3 : Sep [] w0 (fun b => D b ∧ b < w0.heap.size) w1 [iData (dSlice dAct) [.slice A l.length cap] l, iData (dSlice dInt) [.slice A2 again.length cap2] again, iData (dSlice dInt) [.slice A3 kept.length cap3] kept] := hs0.step e2
  refine S_assign rfl ?_
  refine WL_nil ?_
  refine W_seq ?_
  refine W_seq ?_
  refine W_region ?_
  refine S_move rfl ?_
  refine S_eqlP0 Try.runUnderlying23 rfl rfl ?_
  refine S_move rfl ?_
  refine WL_off rfl rfl rfl rfl ?_
  refine WL_off rfl rfl rfl rfl ?_
  refine WL_off rfl rfl rfl rfl ?_
  refine S_pick_t rfl rfl ?_
  refine S_move rfl ?_
  refine WL_off rfl rfl rfl rfl ?_
  refine WL_off rfl rfl rfl rfl ?_
  refine WL_off rfl rfl rfl rfl ?_
  refine S_pick_t rfl rfl ?_
  refine WL_nil ?_
  refine W_cond_true rfl ?_
  refine W_seq ?_
  refine W_live (L := []) trivial ?_
  intro g4
  refine W_region ?_
  refine S_callE Try.call12 rfl alive_ok rfl ?_
  intro w5 e6
  have hs7 : Sep [] w0 (fun b => D b ∧ b < w0.heap.size) w5 [iData (dSlice dAct) [.slice A l.length cap] l, iData (dSlice dInt) [.slice A2 again.length cap2] again, iData (dSlice dInt) [.slice A3 kept.length cap3] kept] := hs3.step e6
  refine S_assign rfl ?_
  refine WL_nil ?_
  refine W_ret ?_
  show (Value.bool true) = .bool true ∧ Ext [] w0 w5
  exact ⟨rfl, hs7.ext⟩
  rintro ⟨d8, x9, F10⟩ w11 ⟨h12, ok13, hn14, e15, hf16⟩
  have hlen : (x9.lasts.length : Int) = n := hn14
  have ok13 : x9.Ok := ok13
  have hs17 : Sep [] w0 (fun b => D b ∧ b < w0.heap.size) w11 [iOb (obDk d8) x9 F10 [], iData (dSlice dAct) [.slice A l.length cap] l, iData (dSlice dInt) [.slice A2 again.length cap2] again, iData (dSlice dInt) [.slice A3 kept.length cap3] kept] := hs0.made (o := obDk d8) e15 h12 hf16
  refine S_assign rfl ?_
  refine WL_nil ?_
  refine W_seq ?_
  refine W_seq ?_
  refine W_region ?_
  refine S_move rfl ?_
  refine S_eqlP Try.runUnderlying23 rfl rfl ?_
  refine S_move rfl ?_
  refine WL_on rfl rfl rfl ?_
  refine S_move rfl ?_
  refine WL_on rfl rfl rfl ?_
  refine S_len Try.runUnderlying37 rfl rfl ?_
  refine WL_on rfl rfl rfl ?_
  refine S_gtr rfl rfl rfl ?_
  refine S_pick_f rfl rfl ?_
  refine S_move rfl ?_
  refine WL_split (dj := 34) rfl (fun h18 => ?_) (fun h18 => ?_)
  ·
    have p19 := of_decide_eq_true h18
    refine WL_off rfl rfl rfl (bT h18) ?_
    refine WL_off rfl rfl rfl (bT h18) ?_
    refine WL_off rfl rfl rfl (bT h18) ?_
    refine S_pick_t (bT h18) rfl ?_
    refine WL_nil ?_
    refine W_cond_true rfl ?_
    refine W_seq ?_
    refine W_live (L := []) trivial ?_
    intro g20
    refine W_region ?_
    refine S_callE Try.call12 rfl alive_ok rfl ?_
    intro w21 e22
    have hs23 : Sep [] w0 (fun b => D b ∧ b < w0.heap.size) w21 [iOb (obDk d8) x9 F10 [], iData (dSlice dAct) [.slice A l.length cap] l, iData (dSlice dInt) [.slice A2 again.length cap2] again, iData (dSlice dInt) [.slice A3 kept.length cap3] kept] := hs17.step e22
    refine S_assign rfl ?_
    refine WL_nil ?_
    refine W_ret ?_
    show (Value.bool true) = .bool true ∧ Ext [] w0 w21
    exact ⟨rfl, hs23.ext⟩
  ·
    have p24 := of_decide_eq_false h18
    refine WL_on rfl rfl (bF h18) ?_
    refine S_move rfl ?_
    refine WL_on rfl rfl (bF h18) ?_
    refine S_len Try.runUnderlying37 rfl rfl ?_
    refine WL_on rfl rfl (bF h18) ?_
    refine S_gtr rfl rfl rfl ?_
    refine S_pick_f (bF h18) rfl ?_
    refine WL_nil ?_
    refine W_cond rfl (fun h25 => ?_) (fun h25 => ?_)
    ·
      have p26 := of_decide_eq_true h25
      refine W_seq ?_
      refine W_live (L := []) trivial ?_
      intro g27
      refine W_region ?_
      refine S_callE Try.call12 rfl alive_ok rfl ?_
      intro w28 e29
      have hs30 : Sep [] w0 (fun b => D b ∧ b < w0.heap.size) w28 [iOb (obDk d8) x9 F10 [], iData (dSlice dAct) [.slice A l.length cap] l, iData (dSlice dInt) [.slice A2 again.length cap2] again, iData (dSlice dInt) [.slice A3 kept.length cap3] kept] := hs17.step e29
      refine S_assign rfl ?_
      refine WL_nil ?_
      refine W_ret ?_
      show (Value.bool true) = .bool true ∧ Ext [] w0 w28
      exact ⟨rfl, hs30.ext⟩
    ·
      have p31 := of_decide_eq_false h25
      refine W_skip ?_
      refine W_seq ?_
      refine W_seq ?_
      have hlen2 : (x9.flush.2.lasts.length : Int) = n := by rw [flush_len ok13]; exact hlen
      refine W_live (L := [(0, .int .i64 n), (2, .slice A2 again.length cap2), (3, .int .i64 torn), (4, .int .i64 cut), (5, .slice A3 kept.length cap3), (13, .pointer (some ⟨d8, 0, none⟩))]) ⟨rfl, rfl, rfl, rfl, rfl, rfl, trivial⟩ ?_
      intro g32
      refine W_region ?_
      refine S_move rfl ?_
      have hz37 := flush_ok (hs17.at 0 rfl) ok13
      refine S_callE Try.call23 rfl hz37 rfl ?_
      rintro w33 ⟨F34, h35, t36⟩
      have hs38 : Sep [] w0 (fun b => D b ∧ b < w0.heap.size) w33 [iOb (obDk d8) x9.flush.2 F34 [], iData (dSlice dAct) [.slice A l.length cap] l, iData (dSlice dInt) [.slice A2 again.length cap2] again, iData (dSlice dInt) [.slice A3 kept.length cap3] kept] := hs17.turn 0 rfl h35 t36
      have hr40 : 0 ≤ (x9.flush.1 : Int) ∧ (x9.flush.1 : Int) ≤ 16 := (by first | exact write_range _ _ | exact flush_range | exact read_range _ | decide)
      refine S_callQ Try.call11 rfl (no_ok hr40.1 hr40.2) rfl ?_
      refine S_neq rfl rfl rfl ?_
      refine WL_nil ?_
      refine W_cond rfl (fun h41 => ?_) (fun h41 => ?_)
      ·
        have p42 := of_decide_eq_true h41
        refine W_seq ?_
        refine W_region ?_
        refine S_move rfl ?_
        refine S_callQ Try.call15 rfl (off_ok (hs38.at 0 rfl) (flush_Ok ok13)) rfl ?_
        refine WL_conv (congrArg Value.bool (flush_off ‹_›)) ?_
        refine S_move rfl ?_
        refine WL_on rfl rfl rfl ?_
        refine S_callE Try.call12 rfl alive_ok rfl ?_
        intro w43 e44
        have hs45 : Sep [] w0 (fun b => D b ∧ b < w0.heap.size) w43 [iOb (obDk d8) x9.flush.2 F34 [], iData (dSlice dAct) [.slice A l.length cap] l, iData (dSlice dInt) [.slice A2 again.length cap2] again, iData (dSlice dInt) [.slice A3 kept.length cap3] kept] := hs38.step e44
        refine S_pick_t rfl rfl ?_
        refine S_assign rfl ?_
        refine WL_nil ?_
        refine W_ret ?_
        show (Value.bool true) = .bool true ∧ Ext [] w0 w43
        exact ⟨rfl, hs45.ext⟩
      ·
        have p46 := of_decide_eq_false h41
        refine W_skip ?_
        refine W_seq ?_
        refine W_region ?_
        refine S_move rfl ?_
        have hz53 := crash_okn (D := fun _ => False)  (kept := ([] : List Int)) (hs38.at 0 rfl) (flush_Ok ok13) dSlice_nil (-1) 0
        refine S_call2 Try.call24 rfl hz53 rfl ?_
        rintro d47 F48 w49 ⟨h50, e51, hf52⟩
        have hs54 : Sep [] w0 (fun b => D b ∧ b < w0.heap.size) w49 [iOb (obDk d47) (x9.flush.2.crash (-1) 0 ([] : List Int)) F48 [], iOb (obDk d8) x9.flush.2 F34 [], iData (dSlice dAct) [.slice A l.length cap] l, iData (dSlice dInt) [.slice A2 again.length cap2] again, iData (dSlice dInt) [.slice A3 kept.length cap3] kept] := hs38.made (o := obDk d47) e51 h50 hf52
        refine S_assign rfl ?_
        refine WL_nil ?_
        refine W_seq ?_
        refine W_region ?_
        refine Z_makeMap kInt Value.bool hs54 rfl ?_
        intro b55 w56 hs57
        have hs57 : Sep [] w0 (fun b => D b ∧ b < w0.heap.size) w56 [iMap kInt b55 (emap Value.bool []) [], iOb (obDk d47) (x9.flush.2.crash (-1) 0 ([] : List Int)) F48 [], iOb (obDk d8) x9.flush.2 F34 [], iData (dSlice dAct) [.slice A l.length cap] l, iData (dSlice dInt) [.slice A2 again.length cap2] again, iData (dSlice dInt) [.slice A3 kept.length cap3] kept] := hs57
        refine S_assign rfl ?_
        refine WL_nil ?_
        refine W_seq ?_
        refine W_seq ?_
        refine W_region ?_
        refine S_move rfl ?_
        refine S_len Try.runUnderlying37 rfl rfl ?_
        refine S_move rfl ?_
        refine WL_nil ?_
        refine W_block ?_
        refine W_loopE (fun m f w => ∃ (i : Int) (y : Dk) (dm : List (Int × Bool)) (F58 : List Nat), m = ((again.length : Int) - i).toNat ∧ (0 ≤ i) ∧ (i ≤ again.length) ∧ (y.Ok) ∧ (y.lasts = x9.flush.2.lasts) ∧ (Knows dm y) ∧ Sep [] w0 (fun b => D b ∧ b < w0.heap.size) w [iMap kInt b55 (emap Value.bool dm) [], iOb (obDk d47) (x9.flush.2.crash (-1) 0 ([] : List Int)) F48 [], iOb (obDk d8) y F58 [], iData (dSlice dAct) [.slice A l.length cap] l, iData (dSlice dInt) [.slice A2 again.length cap2] again, iData (dSlice dInt) [.slice A3 kept.length cap3] kept] ∧ Live f [(0, .int .i64 n), (3, .int .i64 torn), (4, .int .i64 cut), (5, .slice A3 kept.length cap3), (13, .pointer (some ⟨d8, 0, none⟩)), (14, .pointer (some ⟨d47, 0, none⟩)), (15, .map (some b55)), (52, .slice A2 again.length cap2), (53, .int .i64 (again.length : Int)), (54, .int .i64 i)]) ?_ ?_
        · exact ⟨_, 0, x9.flush.2, [], _, rfl, (by omega), (by omega), (flush_Ok ok13), rfl, (knows_new ok13 (Decidable.not_not.1 ‹_›)), hs57, ⟨rfl, rfl, rfl, rfl, rfl, rfl, rfl, rfl, rfl, rfl, trivial⟩⟩
        ·
          rintro _ f61 w59 ⟨i, y, dm, F58, rfl, q64, q65, q66, q67, q68, hs62, hl63⟩
          refine W_live hl63 ?_
          intro g69
          skip
          refine W_seq ?_
          refine W_region ?_
          refine S_lss rfl rfl rfl ?_
          refine WL_nil ?_
          refine W_seq ?_
          refine W_cond rfl (fun h70 => ?_) (fun h70 => ?_)
          ·
            have p71 := of_decide_eq_true h70
            refine W_skip ?_
            refine W_seq ?_
            refine W_block ?_
            refine W_seq ?_
            refine W_region ?_
            refine S_move rfl ?_
            refine Z_index (hs62.at 4 rfl) Try.runUnderlying37 Try.sizeOf3 rfl rfl rfl (show (0 : Int) ≤ i from by omega) (show i < ((again.length : Nat) : Int) from by omega) rfl ?_
            have o75 := cell_ix (q := (Int.toNat i) * 1) (sz := 1) (o := 0) (hs62.at 4 rfl) (Sub.self _) rfl (Nat.add_zero _).symm (show (0 : Int) ≤ i from by omega) (show i < ((again.length : Nat) : Int) from by omega)
            obtain ⟨c72, hc73, hr74⟩ := o75
            obtain ⟨rfl, r76⟩ := hr74
            have ⟨r77, r78⟩ := r76
            refine Z_load Try.isAgg3 rfl hc73 rfl ?_
            refine S_assign rfl ?_
            refine S_assign rfl ?_
            refine WL_nil ?_
            refine W_seq ?_
            refine W_region ?_
            refine S_move rfl ?_
            refine S_move rfl ?_
            refine S_move rfl ?_
            refine S_convB (k := .i64) Try.runUnderlying3 Try.runUnderlying5 rfl rfl ?_
            have hz86 := of_ok (w0 := w59) (UInt8.ofInt i) 119
            refine S_call3 Try.call26 rfl hz86 rfl ?_
            rintro A79 cap80 bs81 w82 ⟨ha83, e84, hf85⟩
            have hs87 : Sep [] w0 (fun b => D b ∧ b < w0.heap.size) w82 [iAc dByte (.slice A79 256 cap80) (ofs (UInt8.ofInt i) 119) bs81 [], iMap kInt b55 (emap Value.bool dm) [], iOb (obDk d47) (x9.flush.2.crash (-1) 0 ([] : List Int)) F48 [], iOb (obDk d8) y F58 [], iData (dSlice dAct) [.slice A l.length cap] l, iData (dSlice dInt) [.slice A2 again.length cap2] again, iData (dSlice dInt) [.slice A3 kept.length cap3] kept] := hs62.madeAc e84 ha83 hf85
            have hz92 := write_okn (hs87.at 3 rfl) q66 (fun b hb h => h.elim (hs87.nz 3 rfl b hb) (hs87.ap 3 0 rfl rfl rfl b hb)) (Ac.rd (hs87.at 0 rfl) (by rw [ofs_len]; decide)) (ix again i)
            refine S_callE Try.call25 rfl hz92 rfl ?_
            rintro w88 ⟨F89, h90, t91⟩
            have hs93 : Sep [] w0 (fun b => D b ∧ b < w0.heap.size) w88 [iAc dByte (.slice A79 256 cap80) (ofs (UInt8.ofInt i) 119) bs81 [], iMap kInt b55 (emap Value.bool dm) [], iOb (obDk d47) (x9.flush.2.crash (-1) 0 ([] : List Int)) F48 [], iOb (obDk d8) ((y.write (ix again i) (ofs (UInt8.ofInt i) 119)).2) F89 [], iData (dSlice dAct) [.slice A l.length cap] l, iData (dSlice dInt) [.slice A2 again.length cap2] again, iData (dSlice dInt) [.slice A3 kept.length cap3] kept] := hs87.turn 3 rfl h90 t91
            have hr95 : 0 ≤ ((y.write (ix again i) (ofs (UInt8.ofInt i) 119)).1 : Int) ∧ ((y.write (ix again i) (ofs (UInt8.ofInt i) 119)).1 : Int) ≤ 16 := (by first | exact write_range _ _ | exact flush_range | exact read_range _ | decide)
            refine S_callQ Try.call11 rfl (no_ok hr95.1 hr95.2) rfl ?_
            refine S_eql rfl rfl rfl ?_
            refine WL_nil ?_
            refine W_cond rfl (fun h96 => ?_) (fun h96 => ?_)
            ·
              have p97 := of_decide_eq_true h96
              refine W_live (L := [(0, .int .i64 n), (3, .int .i64 torn), (4, .int .i64 cut), (5, .slice A3 kept.length cap3), (13, .pointer (some ⟨d8, 0, none⟩)), (14, .pointer (some ⟨d47, 0, none⟩)), (15, .map (some b55)), (17, .int .i64 (ix again i)), (52, .slice A2 again.length cap2), (53, .int .i64 (again.length : Int)), (54, .int .i64 i)]) ⟨rfl, rfl, rfl, rfl, rfl, rfl, rfl, rfl, rfl, rfl, rfl, trivial⟩ ?_
              intro g98
              refine W_region ?_
              refine S_move rfl ?_
              refine S_move rfl ?_
              refine Z_mapUpdate (vv := true) hs93 1 rfl Try.runUnderlying56 Try.runUnderlying3 rfl rfl rfl ?_
              intro w99 hs100
              have hs100 : Sep [] w0 (fun b => D b ∧ b < w0.heap.size) w99 [iAc dByte (.slice A79 256 cap80) (ofs (UInt8.ofInt i) 119) bs81 [], iMap kInt b55 (emap Value.bool (aput dm (ix again i) true)) [], iOb (obDk d47) (x9.flush.2.crash (-1) 0 ([] : List Int)) F48 [], iOb (obDk d8) ((y.write (ix again i) (ofs (UInt8.ofInt i) 119)).2) F89 [], iData (dSlice dAct) [.slice A l.length cap] l, iData (dSlice dInt) [.slice A2 again.length cap2] again, iData (dSlice dInt) [.slice A3 kept.length cap3] kept] := hs100
              refine WL_nil ?_
              refine W_region ?_
              refine S_add rfl rfl (by omega) rfl ?_
              refine S_move rfl ?_
              refine WL_nil ?_
              exact ⟨_, (by omega), i + 1, (y.write (ix again i) (ofs (UInt8.ofInt i) 119)).2, aput dm (ix again i) true, _, rfl, (by omega), (by omega), (write_Ok q66 (ix again i) (ofs (UInt8.ofInt i) 119)), ((write_len _ _).trans q67), (knows_put q68), (hs100.pick [1, 2, 3, 4, 5, 6] rfl (by decide) rfl), ⟨rfl, rfl, rfl, rfl, rfl, rfl, rfl, rfl, rfl, rfl, trivial⟩⟩
            ·
              have p101 := of_decide_eq_false h96
              refine W_skip ?_
              refine W_live (L := [(0, .int .i64 n), (3, .int .i64 torn), (4, .int .i64 cut), (5, .slice A3 kept.length cap3), (13, .pointer (some ⟨d8, 0, none⟩)), (14, .pointer (some ⟨d47, 0, none⟩)), (15, .map (some b55)), (52, .slice A2 again.length cap2), (53, .int .i64 (again.length : Int)), (54, .int .i64 i)]) ⟨rfl, rfl, rfl, rfl, rfl, rfl, rfl, rfl, rfl, rfl, trivial⟩ ?_
              intro g102
              refine W_region ?_
              refine S_add rfl rfl (by omega) rfl ?_
              refine S_move rfl ?_
              refine WL_nil ?_
              exact ⟨_, (by omega), i + 1, (y.write (ix again i) (ofs (UInt8.ofInt i) 119)).2, dm, _, rfl, (by omega), (by omega), (write_Ok q66 (ix again i) (ofs (UInt8.ofInt i) 119)), ((write_len _ _).trans q67), (knows_err q68 ‹_›), (hs93.pick [1, 2, 3, 4, 5, 6] rfl (by decide) rfl), ⟨rfl, rfl, rfl, rfl, rfl, rfl, rfl, rfl, rfl, rfl, trivial⟩⟩
          ·
            have p103 := of_decide_eq_false h70
            refine W_exit ?_
            refine W_seq ?_
            refine W_region ?_
            refine S_move rfl ?_
            refine S_move rfl ?_
            refine S_move rfl ?_
            refine S_move rfl ?_
            have hz110 := crash_okn  (kept := kept) (hs62.at 2 rfl) q66 (hs62.at 5 rfl) torn cut
            refine S_call2 Try.call24 rfl hz110 rfl ?_
            rintro d104 F105 w106 ⟨h107, e108, hf109⟩
            have hs111 : Sep [] w0 (fun b => D b ∧ b < w0.heap.size) w106 [iOb (obDk d104) (y.crash torn cut kept) F105 [], iMap kInt b55 (emap Value.bool dm) [], iOb (obDk d47) (x9.flush.2.crash (-1) 0 ([] : List Int)) F48 [], iOb (obDk d8) y F58 [], iData (dSlice dAct) [.slice A l.length cap] l, iData (dSlice dInt) [.slice A2 again.length cap2] again, iData (dSlice dInt) [.slice A3 kept.length cap3] kept] := hs62.made (o := obDk d104) e108 h107 hf109
            refine S_assign rfl ?_
            refine WL_nil ?_
            refine W_seq ?_
            refine W_seq ?_
            refine W_region ?_
            refine S_assign rfl ?_
            refine WL_nil ?_
            refine W_block ?_
            refine W_loopE (fun m f w => ∃ (i : Int), m = (30 - i).toNat ∧ (0 ≤ i) ∧ Sep [] w0 (fun b => D b ∧ b < w0.heap.size) w [iOb (obDk d104) (y.crash torn cut kept) F105 [], iMap kInt b55 (emap Value.bool dm) [], iOb (obDk d47) (x9.flush.2.crash (-1) 0 ([] : List Int)) F48 [], iOb (obDk d8) y F58 [], iData (dSlice dAct) [.slice A l.length cap] l, iData (dSlice dInt) [.slice A2 again.length cap2] again, iData (dSlice dInt) [.slice A3 kept.length cap3] kept] ∧ Live f [(0, .int .i64 n), (14, .pointer (some ⟨d47, 0, none⟩)), (15, .map (some b55)), (18, .pointer (some ⟨d104, 0, none⟩)), (19, .int .i64 i)]) ?_ ?_
            · exact ⟨_, 0, rfl, (by omega), hs111, ⟨rfl, rfl, rfl, rfl, rfl, trivial⟩⟩
            ·
              rintro _ f114 w112 ⟨i, rfl, q117, hs115, hl116⟩
              refine W_live hl116 ?_
              intro g118
              refine W_seq ?_
              refine W_seq ?_
              refine W_region ?_
              refine S_move rfl ?_
              refine S_move rfl ?_
              refine S_lss rfl rfl rfl ?_
              refine S_move rfl ?_
              refine WL_split (dj := 78) rfl (fun h119 => ?_) (fun h119 => ?_)
              ·
                have p120 := of_decide_eq_true h119
                refine WL_on rfl rfl (bT h119) ?_
                refine S_move rfl ?_
                refine WL_on rfl rfl (bT h119) ?_
                refine S_lss rfl rfl rfl ?_
                refine S_pick_t (bT h119) rfl ?_
                refine WL_nil ?_
                refine W_cond rfl (fun h121 => ?_) (fun h121 => ?_)
                ·
                  have p122 := of_decide_eq_true h121
                  refine W_skip ?_
                  refine W_seq ?_
                  refine W_block ?_
                  refine W_seq ?_
                  have hrd := lasts_read (flush_Ok ok13) q66 q67 q68 (t := torn) (c := cut) (i := i) (kept := kept) (by omega) (by omega)
                  refine W_region ?_
                  refine S_move rfl ?_
                  refine S_move rfl ?_
                  have hz130 := read_ok (hs115.at 2 rfl) (crash_Ok (flush_Ok ok13) (-1) 0 ([] : List Int)) i
                  refine S_call3 Try.call20 rfl hz130 rfl ?_
                  rintro A123 cap124 bs125 w126 ⟨ha127, e128, hf129⟩
                  have hs131 : Sep [] w0 (fun b => D b ∧ b < w0.heap.size) w126 [iAc dByte (.slice A123 (((x9.flush.2.crash (-1) 0 ([] : List Int)).read i).1.length) cap124) (((x9.flush.2.crash (-1) 0 ([] : List Int)).read i).1) bs125 [], iOb (obDk d104) (y.crash torn cut kept) F105 [], iMap kInt b55 (emap Value.bool dm) [], iOb (obDk d47) (x9.flush.2.crash (-1) 0 ([] : List Int)) F48 [], iOb (obDk d8) y F58 [], iData (dSlice dAct) [.slice A l.length cap] l, iData (dSlice dInt) [.slice A2 again.length cap2] again, iData (dSlice dInt) [.slice A3 kept.length cap3] kept] := hs115.madeAc e128 ha127 hf129
                  refine S_move rfl ?_
                  refine S_extract rfl rfl rfl ?_
                  refine S_extract rfl rfl rfl ?_
                  refine WL_conv ((congrArg (errv 64) hrd.1).trans errv_0.symm) ?_
                  refine S_assign rfl ?_
                  refine S_assign rfl ?_
                  refine WL_nil ?_
                  refine W_seq ?_
                  refine W_live (L := [(0, .int .i64 n), (14, .pointer (some ⟨d47, 0, none⟩)), (15, .map (some b55)), (18, .pointer (some ⟨d104, 0, none⟩)), (19, .int .i64 i), (20, .slice A123 (((x9.flush.2.crash (-1) 0 ([] : List Int)).read i).1.length) cap124), (21, .nilIface)]) ⟨rfl, rfl, rfl, rfl, rfl, rfl, rfl, trivial⟩ ?_
                  intro g132
                  refine W_region ?_
                  refine S_move rfl ?_
                  refine S_move rfl ?_
                  have hz140 := read_ok (hs131.at 1 rfl) (crash_Ok q66 torn cut kept) i
                  refine S_call3 Try.call20 rfl hz140 rfl ?_
                  rintro A133 cap134 bs135 w136 ⟨ha137, e138, hf139⟩
                  have hs141 : Sep [] w0 (fun b => D b ∧ b < w0.heap.size) w136 [iAc dByte (.slice A133 (((y.crash torn cut kept).read i).1.length) cap134) (((y.crash torn cut kept).read i).1) bs135 [], iAc dByte (.slice A123 (((x9.flush.2.crash (-1) 0 ([] : List Int)).read i).1.length) cap124) (((x9.flush.2.crash (-1) 0 ([] : List Int)).read i).1) bs125 [], iOb (obDk d104) (y.crash torn cut kept) F105 [], iMap kInt b55 (emap Value.bool dm) [], iOb (obDk d47) (x9.flush.2.crash (-1) 0 ([] : List Int)) F48 [], iOb (obDk d8) y F58 [], iData (dSlice dAct) [.slice A l.length cap] l, iData (dSlice dInt) [.slice A2 again.length cap2] again, iData (dSlice dInt) [.slice A3 kept.length cap3] kept] := hs131.madeAc e138 ha137 hf139
                  refine S_move rfl ?_
                  refine S_extract rfl rfl rfl ?_
                  refine S_extract rfl rfl rfl ?_
                  refine WL_conv ((congrArg (errv 64) hrd.2.1).trans errv_0.symm) ?_
                  refine S_assign rfl ?_
                  refine S_assign rfl ?_
                  refine WL_nil ?_
                  refine W_seq ?_
                  refine W_region ?_
                  refine S_move rfl ?_
                  refine S_callQ Try.call11 rfl no_ok0 rfl ?_
                  refine S_move rfl ?_
                  refine S_callQ Try.call11 rfl no_ok0 rfl ?_
                  refine S_add rfl rfl (by omega) rfl ?_
                  refine S_neq rfl rfl rfl ?_
                  refine WL_conv (congrArg Value.bool (decide_eq_false (by decide))) ?_
                  refine S_move rfl ?_
                  refine WL_on rfl rfl rfl ?_
                  refine S_move rfl ?_
                  refine WL_on rfl rfl rfl ?_
                  refine S_move rfl ?_
                  refine WL_on rfl rfl rfl ?_
                  refine Z_lookup (z0 := false) (hs141.at 3 rfl) Try.runUnderlying56 Try.runUnderlying3 Try.zeroValue4 rfl rfl rfl rfl ?_
                  refine WL_on rfl rfl rfl ?_
                  refine S_not rfl rfl ?_
                  refine WL_on rfl rfl rfl ?_
                  refine S_move rfl ?_
                  refine WL_split (dj := 107) rfl (fun h142 => ?_) (fun h142 => ?_)
                  ·
                    have h143 := h142
                    simp only [lrnN] at h143
                    have p144 := h143
                    try simp only [lrn] at p144
                    refine WL_on rfl rfl (nF h143) ?_
                    refine S_move rfl ?_
                    refine WL_on rfl rfl (nF h143) ?_
                    refine S_bytesStr Try.runUnderlying47 Try.runUnderlying9 Try.runUnderlying5 (Src.ac (hs141.at 1 rfl)) rfl ?_
                    refine WL_on rfl rfl (nF h143) ?_
                    refine S_move rfl ?_
                    refine WL_on rfl rfl (nF h143) ?_
                    refine S_bytesStr Try.runUnderlying47 Try.runUnderlying9 Try.runUnderlying5 (Src.ac (hs141.at 0 rfl)) rfl ?_
                    refine WL_on rfl rfl (nF h143) ?_
                    refine S_neqS rfl rfl rfl ?_
                    refine WL_conv (congrArg Value.bool (decide_eq_false (fun h => h (hrd.2.2 ‹_›)))) ?_
                    refine WL_on rfl rfl rfl ?_
                    refine S_pick_t (nF h143) rfl ?_
                    refine WL_norm (L := [(0, .int .i64 n), (14, .pointer (some ⟨d47, 0, none⟩)), (15, .map (some b55)), (18, .pointer (some ⟨d104, 0, none⟩)), (19, .int .i64 i), (102, .bool false), (113, .bool false)]) ⟨rfl, rfl, rfl, rfl, rfl, rfl, rfl, trivial⟩ ?_
                    intro g145
                    refine S_pick_f rfl rfl ?_
                    refine WL_nil ?_
                    refine W_cond_false rfl ?_
                    refine W_skip ?_
                    refine W_region ?_
                    refine S_move rfl ?_
                    refine S_add rfl rfl (by omega) rfl ?_
                    refine S_assign rfl ?_
                    refine WL_nil ?_
                    exact ⟨_, (by omega), i + 1, rfl, (by omega), (hs141.pick [2, 3, 4, 5, 6, 7, 8] rfl (by decide) rfl), ⟨rfl, rfl, rfl, rfl, rfl, trivial⟩⟩
                  ·
                    have h146 := h142
                    simp only [lrnN] at h146
                    have p147 := h146
                    try simp only [lrn] at p147
                    refine WL_off rfl rfl rfl (nT h146) ?_
                    refine WL_off rfl rfl rfl (nT h146) ?_
                    refine WL_off rfl rfl rfl (nT h146) ?_
                    refine WL_off rfl rfl rfl (nT h146) ?_
                    refine WL_off rfl rfl rfl (nT h146) ?_
                    refine WL_on rfl rfl rfl ?_
                    refine S_pick_f (nT h146) rfl ?_
                    refine WL_norm (L := [(0, .int .i64 n), (14, .pointer (some ⟨d47, 0, none⟩)), (15, .map (some b55)), (18, .pointer (some ⟨d104, 0, none⟩)), (19, .int .i64 i), (102, .bool false), (113, .bool false)]) ⟨rfl, rfl, rfl, rfl, rfl, rfl, rfl, trivial⟩ ?_
                    intro g148
                    refine S_pick_f rfl rfl ?_
                    refine WL_nil ?_
                    refine W_cond_false rfl ?_
                    refine W_skip ?_
                    refine W_region ?_
                    refine S_move rfl ?_
                    refine S_add rfl rfl (by omega) rfl ?_
                    refine S_assign rfl ?_
                    refine WL_nil ?_
                    exact ⟨_, (by omega), i + 1, rfl, (by omega), (hs141.pick [2, 3, 4, 5, 6, 7, 8] rfl (by decide) rfl), ⟨rfl, rfl, rfl, rfl, rfl, trivial⟩⟩
                ·
                  have p149 := of_decide_eq_false h121
                  refine W_exit ?_
                  refine W_seq ?_
                  refine W_region ?_
                  refine S_callE Try.call12 rfl alive_ok rfl ?_
                  intro w150 e151
                  have hs152 : Sep [] w0 (fun b => D b ∧ b < w0.heap.size) w150 [iOb (obDk d104) (y.crash torn cut kept) F105 [], iMap kInt b55 (emap Value.bool dm) [], iOb (obDk d47) (x9.flush.2.crash (-1) 0 ([] : List Int)) F48 [], iOb (obDk d8) y F58 [], iData (dSlice dAct) [.slice A l.length cap] l, iData (dSlice dInt) [.slice A2 again.length cap2] again, iData (dSlice dInt) [.slice A3 kept.length cap3] kept] := hs115.step e151
                  refine S_assign rfl ?_
                  refine WL_nil ?_
                  refine W_ret ?_
                  show (Value.bool true) = .bool true ∧ Ext [] w0 w150
                  exact ⟨rfl, hs152.ext⟩
              ·
                have p153 := of_decide_eq_false h119
                refine WL_off rfl rfl rfl (bF h119) ?_
                refine WL_off rfl rfl rfl (bF h119) ?_
                refine S_pick_f (bF h119) rfl ?_
                refine WL_nil ?_
                refine W_cond_false rfl ?_
                refine W_exit ?_
                refine W_seq ?_
                refine W_region ?_
                refine S_callE Try.call12 rfl alive_ok rfl ?_
                intro w154 e155
                have hs156 : Sep [] w0 (fun b => D b ∧ b < w0.heap.size) w154 [iOb (obDk d104) (y.crash torn cut kept) F105 [], iMap kInt b55 (emap Value.bool dm) [], iOb (obDk d47) (x9.flush.2.crash (-1) 0 ([] : List Int)) F48 [], iOb (obDk d8) y F58 [], iData (dSlice dAct) [.slice A l.length cap] l, iData (dSlice dInt) [.slice A2 again.length cap2] again, iData (dSlice dInt) [.slice A3 kept.length cap3] kept] := hs115.step e155
                refine S_assign rfl ?_
                refine WL_nil ?_
                refine W_ret ?_
                show (Value.bool true) = .bool true ∧ Ext [] w0 w154
                exact ⟨rfl, hs156.ext⟩
end Go.Proofs.Ytdgcgifigkfeaaa
