/- Disks: walks, printed by program, and their plain law. -/
import Derived.Test.YtdgcgifigkfeaaaPL
namespace Go.Proofs.Ytdgcgifigkfeaaa
open Go Go.Wk Go.Wl Classical
set_option linter.unusedVariables false
set_option linter.unusedSimpArgs false

theorem crash_off {x : Dk} {t c : Int} {k : List Int} : (x.crash t c k).off = false := rfl
attribute [local irreducible] Dk.crash Dk.read Dk.dirty
set_option maxHeartbeats 8000000 in
theorem all_ok {w0 : World} {D : Nat → Prop} {A : Option Addr} {cap : Nat} {l : List Act} (h : (dSlice dAct).rd D w0 [.slice A l.length cap] l) {n : Int} :
    CallR Try.prog 5 [.int .i64 n, .slice A l.length cap] w0 (fun v w' => v = .bool true ∧ Ext [] w0 w') := by
  have hs0 := (Sep.nil (B0 := []) (w0 := w0) (Z := fun b => D b ∧ b < w0.heap.size) (fun _ h => h.2)).fact (t := iData (dSlice dAct) [.slice A l.length cap] l) ((dSlice dAct).weak h (fun b h1 h2 => ⟨h1, h2⟩)) sData rfl rfl
  have hll := dSlice_len h
  refine Call1 Try.func5 rfl rfl rfl rfl ?_
  refine W_seq ?_
  refine W_region ?_
  refine S_assign rfl ?_
  refine WL_nil ?_
  refine W_seq ?_
  refine W_region ?_
  refine S_move rfl ?_
  refine S_move rfl ?_
  refine S_callOr Try.call22 rfl (play_ok (n := n) (hs0.at 0 rfl)) rfl ?_ ?_
  rintro _ w1 e2
  have hs3 : Sep [] w0 (fun b => D b ∧ b < w0.heap.size) w1 [iData (dSlice dAct) [.slice A l.length cap] l] := hs0.step e2
  refine S_assign rfl ?_
  refine WL_nil ?_
  refine W_seq ?_
  refine W_seq ?_
  refine W_region ?_
  refine S_move rfl ?_
  refine S_eqlP0 Try.runUnderlying23 rfl rfl ?_
  refine WL_nil ?_
  refine W_cond_true rfl ?_
  refine W_seq ?_
  refine W_region ?_
  refine S_callE Try.call12 rfl alive_ok rfl ?_
  intro w4 e5
  have hs6 : Sep [] w0 (fun b => D b ∧ b < w0.heap.size) w4 [iData (dSlice dAct) [.slice A l.length cap] l] := hs3.step e5
  refine S_assign rfl ?_
  refine WL_nil ?_
  refine W_ret ?_
  show (Value.bool true) = .bool true ∧ Ext [] w0 w4
  exact ⟨rfl, hs6.ext⟩
  rintro ⟨d7, x8, F9⟩ w10 ⟨h11, ok12, hn13, e14, hf15⟩
  have hlen : (x8.lasts.length : Int) = n := hn13
  have ok12 : x8.Ok := ok12
  have hs16 : Sep [] w0 (fun b => D b ∧ b < w0.heap.size) w10 [iOb (obDk d7) x8 F9 [], iData (dSlice dAct) [.slice A l.length cap] l] := hs0.made (o := obDk d7) e14 h11 hf15
  refine S_assign rfl ?_
  refine WL_nil ?_
  refine W_seq ?_
  refine W_seq ?_
  refine W_region ?_
  refine S_move rfl ?_
  refine S_eqlP Try.runUnderlying23 rfl rfl ?_
  refine WL_nil ?_
  refine W_cond_false rfl ?_
  refine W_skip ?_
  refine W_seq ?_
  refine W_region ?_
  refine S_move rfl ?_
  refine S_move rfl ?_
  have hz24 := dirty_ok (hs16.at 0 rfl) ok12
  refine S_call3 Try.call18 rfl hz24 rfl ?_
  rintro A17 cap18 bs19 w20 ⟨ha21, e22, hf23⟩
  have hs25 : Sep [] w0 (fun b => D b ∧ b < w0.heap.size) w20 [iAc dInt (.slice A17 x8.dirty.length cap18) x8.dirty bs19 [], iOb (obDk d7) x8 F9 [], iData (dSlice dAct) [.slice A l.length cap] l] := hs16.madeAc e22 ha21 hf23
  have hz32 := crash_okn  (kept := x8.dirty) (hs25.at 1 rfl) ok12 (Ac.rd (hs25.at 0 rfl) (by have := dirty_len ok12; omega)) (-1) 0
  refine S_call2 Try.call24 rfl hz32 rfl ?_
  rintro d26 F27 w28 ⟨h29, e30, hf31⟩
  have hs33 : Sep [] w0 (fun b => D b ∧ b < w0.heap.size) w28 [iOb (obDk d26) (x8.crash (-1) 0 x8.dirty) F27 [], iAc dInt (.slice A17 x8.dirty.length cap18) x8.dirty bs19 [], iOb (obDk d7) x8 F9 [], iData (dSlice dAct) [.slice A l.length cap] l] := hs25.made (o := obDk d26) e30 h29 hf31
  refine S_assign rfl ?_
  refine WL_nil ?_
  refine W_seq ?_
  refine W_seq ?_
  refine W_live (L := [(0, .int .i64 n), (5, .pointer (some ⟨d7, 0, none⟩)), (6, .pointer (some ⟨d26, 0, none⟩))]) ⟨rfl, rfl, rfl, trivial⟩ ?_
  intro g34
  refine W_region ?_
  refine S_move rfl ?_
  refine S_eqlP Try.runUnderlying23 rfl rfl ?_
  refine S_move rfl ?_
  refine WL_on rfl rfl rfl ?_
  refine S_move rfl ?_
  refine WL_on rfl rfl rfl ?_
  have hz42 := dirty_ok (hs33.at 0 rfl) (crash_Ok ok12 (-1) 0 x8.dirty)
  refine S_call3 Try.call18 rfl hz42 rfl ?_
  rintro A35 cap36 bs37 w38 ⟨ha39, e40, hf41⟩
  have hs43 : Sep [] w0 (fun b => D b ∧ b < w0.heap.size) w38 [iAc dInt (.slice A35 ((x8.crash (-1) 0 x8.dirty).dirty.length) cap36) ((x8.crash (-1) 0 x8.dirty).dirty) bs37 [], iOb (obDk d26) (x8.crash (-1) 0 x8.dirty) F27 [], iAc dInt (.slice A17 x8.dirty.length cap18) x8.dirty bs19 [], iOb (obDk d7) x8 F9 [], iData (dSlice dAct) [.slice A l.length cap] l] := hs33.madeAc e40 ha39 hf41
  refine WL_on rfl rfl rfl ?_
  refine S_len Try.runUnderlying37 rfl rfl ?_
  refine WL_conv ((congrArg (fun l : List Int => Value.int .i64 ((l.length : Nat) : Int)) (crash_dirty _ _ _)).trans (rfl : _ = Value.int .i64 0)) ?_
  refine WL_on rfl rfl rfl ?_
  refine S_neq rfl rfl rfl ?_
  refine WL_conv (congrArg Value.bool (decide_eq_false (by simp))) ?_
  refine S_pick_f rfl rfl ?_
  refine S_move rfl ?_
  refine WL_on rfl rfl rfl ?_
  refine S_move rfl ?_
  refine WL_on rfl rfl rfl ?_
  refine S_callQ Try.call15 rfl (off_ok (hs43.at 1 rfl) (crash_Ok ok12 (-1) 0 x8.dirty)) rfl ?_
  refine WL_conv (congrArg Value.bool crash_off) ?_
  refine S_pick_f rfl rfl ?_
  refine WL_nil ?_
  refine W_cond_false rfl ?_
  refine W_skip ?_
  refine W_seq ?_
  refine W_seq ?_
  refine W_live (L := [(0, .int .i64 n), (5, .pointer (some ⟨d7, 0, none⟩)), (6, .pointer (some ⟨d26, 0, none⟩))]) ⟨rfl, rfl, rfl, trivial⟩ ?_
  intro g44
  refine W_region ?_
  refine S_assign rfl ?_
  refine WL_nil ?_
  refine W_block ?_
  refine W_loopE (fun m f w => ∃ (i : Int), m = (30 - i).toNat ∧ (0 ≤ i) ∧ Sep [] w0 (fun b => D b ∧ b < w0.heap.size) w [iOb (obDk d26) (x8.crash (-1) 0 x8.dirty) F27 [], iOb (obDk d7) x8 F9 [], iData (dSlice dAct) [.slice A l.length cap] l] ∧ Live f [(0, .int .i64 n), (5, .pointer (some ⟨d7, 0, none⟩)), (6, .pointer (some ⟨d26, 0, none⟩)), (7, .int .i64 i)]) ?_ ?_
  · exact ⟨_, 0, rfl, (by omega), (hs43.pick [1, 3, 4] rfl (by decide) rfl), ⟨rfl, rfl, rfl, rfl, trivial⟩⟩
  ·
    rintro _ f47 w45 ⟨i, rfl, q50, hs48, hl49⟩
    refine W_live hl49 ?_
    intro g51
    refine W_seq ?_
    refine W_seq ?_
    refine W_region ?_
    refine S_move rfl ?_
    refine S_move rfl ?_
    refine S_lss rfl rfl rfl ?_
    refine S_move rfl ?_
    refine WL_split (dj := 37) rfl (fun h52 => ?_) (fun h52 => ?_)
    ·
      have p53 := of_decide_eq_true h52
      refine WL_on rfl rfl (bT h52) ?_
      refine S_move rfl ?_
      refine WL_on rfl rfl (bT h52) ?_
      refine S_lss rfl rfl rfl ?_
      refine S_pick_t (bT h52) rfl ?_
      refine WL_nil ?_
      refine W_cond rfl (fun h54 => ?_) (fun h54 => ?_)
      ·
        have p55 := of_decide_eq_true h54
        refine W_skip ?_
        refine W_seq ?_
        refine W_block ?_
        refine W_seq ?_
        have hrd := read_all ok12 (i := i) (by omega) (by omega)
        refine W_region ?_
        refine S_move rfl ?_
        refine S_move rfl ?_
        have hz63 := read_ok (hs48.at 1 rfl) ok12 i
        refine S_call3 Try.call20 rfl hz63 rfl ?_
        rintro A56 cap57 bs58 w59 ⟨ha60, e61, hf62⟩
        have hs64 : Sep [] w0 (fun b => D b ∧ b < w0.heap.size) w59 [iAc dByte (.slice A56 ((x8.read i).1.length) cap57) ((x8.read i).1) bs58 [], iOb (obDk d26) (x8.crash (-1) 0 x8.dirty) F27 [], iOb (obDk d7) x8 F9 [], iData (dSlice dAct) [.slice A l.length cap] l] := hs48.madeAc e61 ha60 hf62
        refine S_move rfl ?_
        refine S_extract rfl rfl rfl ?_
        refine S_extract rfl rfl rfl ?_
        refine S_assign rfl ?_
        refine S_assign rfl ?_
        refine WL_nil ?_
        refine W_seq ?_
        refine W_live (L := [(0, .int .i64 n), (5, .pointer (some ⟨d7, 0, none⟩)), (6, .pointer (some ⟨d26, 0, none⟩)), (7, .int .i64 i), (8, .slice A56 ((x8.read i).1.length) cap57), (9, errv 64 ((x8.read i).2))]) ⟨rfl, rfl, rfl, rfl, rfl, rfl, trivial⟩ ?_
        intro g65
        refine W_region ?_
        refine S_move rfl ?_
        refine S_move rfl ?_
        have hz73 := read_ok (hs64.at 1 rfl) (crash_Ok ok12 (-1) 0 x8.dirty) i
        refine S_call3 Try.call20 rfl hz73 rfl ?_
        rintro A66 cap67 bs68 w69 ⟨ha70, e71, hf72⟩
        have hs74 : Sep [] w0 (fun b => D b ∧ b < w0.heap.size) w69 [iAc dByte (.slice A66 (((x8.crash (-1) 0 x8.dirty).read i).1.length) cap67) (((x8.crash (-1) 0 x8.dirty).read i).1) bs68 [], iAc dByte (.slice A56 ((x8.read i).1.length) cap57) ((x8.read i).1) bs58 [], iOb (obDk d26) (x8.crash (-1) 0 x8.dirty) F27 [], iOb (obDk d7) x8 F9 [], iData (dSlice dAct) [.slice A l.length cap] l] := hs64.madeAc e71 ha70 hf72
        refine S_move rfl ?_
        refine S_extract rfl rfl rfl ?_
        refine S_extract rfl rfl rfl ?_
        refine S_assign rfl ?_
        refine S_assign rfl ?_
        refine WL_nil ?_
        refine W_seq ?_
        refine W_region ?_
        refine S_move rfl ?_
        have hr75 : 0 ≤ (((x8.crash (-1) 0 x8.dirty).read i).2 : Int) ∧ (((x8.crash (-1) 0 x8.dirty).read i).2 : Int) ≤ 16 := (by first | exact write_range _ _ | exact flush_range | exact read_range _ | decide)
        refine S_callQ Try.call11 rfl (no_ok hr75.1 hr75.2) rfl ?_
        refine S_neq rfl rfl rfl ?_
        refine WL_conv (congrArg Value.bool (decide_eq_false (fun h => h hrd.1))) ?_
        refine S_move rfl ?_
        refine WL_on rfl rfl rfl ?_
        refine S_move rfl ?_
        refine WL_on rfl rfl rfl ?_
        have hr76 : 0 ≤ ((x8.read i).2 : Int) ∧ ((x8.read i).2 : Int) ≤ 16 := (by first | exact write_range _ _ | exact flush_range | exact read_range _ | decide)
        refine S_callQ Try.call11 rfl (no_ok hr76.1 hr76.2) rfl ?_
        refine WL_on rfl rfl rfl ?_
        refine S_eql rfl rfl rfl ?_
        refine WL_on rfl rfl rfl ?_
        refine S_move rfl ?_
        refine WL_split (dj := 62) rfl (fun h77 => ?_) (fun h77 => ?_)
        ·
          have p78 := of_decide_eq_true h77
          refine WL_on rfl rfl (bT h77) ?_
          refine S_move rfl ?_
          refine WL_on rfl rfl (bT h77) ?_
          refine S_bytesStr Try.runUnderlying47 Try.runUnderlying9 Try.runUnderlying5 (Src.ac (hs74.at 1 rfl)) rfl ?_
          refine WL_on rfl rfl (bT h77) ?_
          refine S_move rfl ?_
          refine WL_on rfl rfl (bT h77) ?_
          refine S_bytesStr Try.runUnderlying47 Try.runUnderlying9 Try.runUnderlying5 (Src.ac (hs74.at 0 rfl)) rfl ?_
          refine WL_on rfl rfl (bT h77) ?_
          refine S_neqS rfl rfl rfl ?_
          refine WL_conv (congrArg Value.bool (decide_eq_false (fun h => h (hrd.2.1 ‹_›)))) ?_
          refine WL_on rfl rfl rfl ?_
          refine S_pick_t (bT h77) rfl ?_
          refine S_pick_f rfl rfl ?_
          refine S_move rfl ?_
          refine WL_on rfl rfl rfl ?_
          refine S_move rfl ?_
          refine WL_on rfl rfl rfl ?_
          have hr79 : 0 ≤ ((x8.read i).2 : Int) ∧ ((x8.read i).2 : Int) ≤ 16 := (by first | exact write_range _ _ | exact flush_range | exact read_range _ | decide)
          refine S_callQ Try.call11 rfl (no_ok hr79.1 hr79.2) rfl ?_
          refine WL_on rfl rfl rfl ?_
          refine S_neq rfl rfl rfl ?_
          refine WL_on rfl rfl rfl ?_
          refine S_move rfl ?_
          refine WL_split (dj := 74) rfl (fun h80 => ?_) (fun h80 => ?_)
          ·
            have p81 := of_decide_eq_true h80
            refine WL_on rfl rfl (bT h80) ?_
            refine S_move rfl ?_
            refine WL_on rfl rfl (bT h80) ?_
            refine S_callQ Try.call15 rfl (off_ok (hs74.at 3 rfl) ok12) rfl ?_
            refine WL_on rfl rfl (bT h80) ?_
            refine S_not rfl rfl ?_
            refine WL_conv (congrArg (fun b => Value.bool (!b)) (hrd.2.2 ‹_›)) ?_
            refine WL_on rfl rfl rfl ?_
            refine S_pick_t (bT h80) rfl ?_
            refine WL_norm (L := [(0, .int .i64 n), (5, .pointer (some ⟨d7, 0, none⟩)), (6, .pointer (some ⟨d26, 0, none⟩)), (7, .int .i64 i), (70, .bool false), (78, .bool false)]) ⟨rfl, rfl, rfl, rfl, rfl, rfl, trivial⟩ ?_
            intro g82
            refine S_pick_f rfl rfl ?_
            refine WL_nil ?_
            refine W_cond_false rfl ?_
            refine W_skip ?_
            refine W_region ?_
            refine S_move rfl ?_
            refine S_add rfl rfl (by omega) rfl ?_
            refine S_assign rfl ?_
            refine WL_nil ?_
            exact ⟨_, (by omega), i + 1, rfl, (by omega), (hs74.pick [2, 3, 4] rfl (by decide) rfl), ⟨rfl, rfl, rfl, rfl, trivial⟩⟩
          ·
            have p83 := of_decide_eq_false h80
            refine WL_off rfl rfl rfl (bF h80) ?_
            refine WL_off rfl rfl rfl (bF h80) ?_
            refine WL_off rfl rfl rfl (bF h80) ?_
            refine WL_on rfl rfl rfl ?_
            refine S_pick_f (bF h80) rfl ?_
            refine WL_norm (L := [(0, .int .i64 n), (5, .pointer (some ⟨d7, 0, none⟩)), (6, .pointer (some ⟨d26, 0, none⟩)), (7, .int .i64 i), (70, .bool false), (78, .bool false)]) ⟨rfl, rfl, rfl, rfl, rfl, rfl, trivial⟩ ?_
            intro g84
            refine S_pick_f rfl rfl ?_
            refine WL_nil ?_
            refine W_cond_false rfl ?_
            refine W_skip ?_
            refine W_region ?_
            refine S_move rfl ?_
            refine S_add rfl rfl (by omega) rfl ?_
            refine S_assign rfl ?_
            refine WL_nil ?_
            exact ⟨_, (by omega), i + 1, rfl, (by omega), (hs74.pick [2, 3, 4] rfl (by decide) rfl), ⟨rfl, rfl, rfl, rfl, trivial⟩⟩
        ·
          have p85 := of_decide_eq_false h77
          refine WL_off rfl rfl rfl (bF h77) ?_
          refine WL_off rfl rfl rfl (bF h77) ?_
          refine WL_off rfl rfl rfl (bF h77) ?_
          refine WL_off rfl rfl rfl (bF h77) ?_
          refine WL_off rfl rfl rfl (bF h77) ?_
          refine WL_on rfl rfl rfl ?_
          refine S_pick_f (bF h77) rfl ?_
          refine S_pick_f rfl rfl ?_
          refine S_move rfl ?_
          refine WL_on rfl rfl rfl ?_
          refine S_move rfl ?_
          refine WL_on rfl rfl rfl ?_
          have hr86 : 0 ≤ ((x8.read i).2 : Int) ∧ ((x8.read i).2 : Int) ≤ 16 := (by first | exact write_range _ _ | exact flush_range | exact read_range _ | decide)
          refine S_callQ Try.call11 rfl (no_ok hr86.1 hr86.2) rfl ?_
          refine WL_on rfl rfl rfl ?_
          refine S_neq rfl rfl rfl ?_
          refine WL_on rfl rfl rfl ?_
          refine S_move rfl ?_
          refine WL_split (dj := 74) rfl (fun h87 => ?_) (fun h87 => ?_)
          ·
            have p88 := of_decide_eq_true h87
            refine WL_on rfl rfl (bT h87) ?_
            refine S_move rfl ?_
            refine WL_on rfl rfl (bT h87) ?_
            refine S_callQ Try.call15 rfl (off_ok (hs74.at 3 rfl) ok12) rfl ?_
            refine WL_on rfl rfl (bT h87) ?_
            refine S_not rfl rfl ?_
            refine WL_conv (congrArg (fun b => Value.bool (!b)) (hrd.2.2 ‹_›)) ?_
            refine WL_on rfl rfl rfl ?_
            refine S_pick_t (bT h87) rfl ?_
            refine WL_norm (L := [(0, .int .i64 n), (5, .pointer (some ⟨d7, 0, none⟩)), (6, .pointer (some ⟨d26, 0, none⟩)), (7, .int .i64 i), (70, .bool false), (78, .bool false)]) ⟨rfl, rfl, rfl, rfl, rfl, rfl, trivial⟩ ?_
            intro g89
            refine S_pick_f rfl rfl ?_
            refine WL_nil ?_
            refine W_cond_false rfl ?_
            refine W_skip ?_
            refine W_region ?_
            refine S_move rfl ?_
            refine S_add rfl rfl (by omega) rfl ?_
            refine S_assign rfl ?_
            refine WL_nil ?_
            exact ⟨_, (by omega), i + 1, rfl, (by omega), (hs74.pick [2, 3, 4] rfl (by decide) rfl), ⟨rfl, rfl, rfl, rfl, trivial⟩⟩
          ·
            have p90 := of_decide_eq_false h87
            refine WL_off rfl rfl rfl (bF h87) ?_
            refine WL_off rfl rfl rfl (bF h87) ?_
            refine WL_off rfl rfl rfl (bF h87) ?_
            refine WL_on rfl rfl rfl ?_
            refine S_pick_f (bF h87) rfl ?_
            refine WL_norm (L := [(0, .int .i64 n), (5, .pointer (some ⟨d7, 0, none⟩)), (6, .pointer (some ⟨d26, 0, none⟩)), (7, .int .i64 i), (70, .bool false), (78, .bool false)]) ⟨rfl, rfl, rfl, rfl, rfl, rfl, trivial⟩ ?_
            intro g91
            refine S_pick_f rfl rfl ?_
            refine WL_nil ?_
            refine W_cond_false rfl ?_
            refine W_skip ?_
            refine W_region ?_
            refine S_move rfl ?_
            refine S_add rfl rfl (by omega) rfl ?_
            refine S_assign rfl ?_
            refine WL_nil ?_
            exact ⟨_, (by omega), i + 1, rfl, (by omega), (hs74.pick [2, 3, 4] rfl (by decide) rfl), ⟨rfl, rfl, rfl, rfl, trivial⟩⟩
      ·
        have p92 := of_decide_eq_false h54
        refine W_exit ?_
        refine W_seq ?_
        refine W_region ?_
        refine S_callE Try.call12 rfl alive_ok rfl ?_
        intro w93 e94
        have hs95 : Sep [] w0 (fun b => D b ∧ b < w0.heap.size) w93 [iOb (obDk d26) (x8.crash (-1) 0 x8.dirty) F27 [], iOb (obDk d7) x8 F9 [], iData (dSlice dAct) [.slice A l.length cap] l] := hs48.step e94
        refine S_assign rfl ?_
        refine WL_nil ?_
        refine W_ret ?_
        show (Value.bool true) = .bool true ∧ Ext [] w0 w93
        exact ⟨rfl, hs95.ext⟩
    ·
      have p96 := of_decide_eq_false h52
      refine WL_off rfl rfl rfl (bF h52) ?_
      refine WL_off rfl rfl rfl (bF h52) ?_
      refine S_pick_f (bF h52) rfl ?_
      refine WL_nil ?_
      refine W_cond_false rfl ?_
      refine W_exit ?_
      refine W_seq ?_
      refine W_region ?_
      refine S_callE Try.call12 rfl alive_ok rfl ?_
      intro w97 e98
      have hs99 : Sep [] w0 (fun b => D b ∧ b < w0.heap.size) w97 [iOb (obDk d26) (x8.crash (-1) 0 x8.dirty) F27 [], iOb (obDk d7) x8 F9 [], iData (dSlice dAct) [.slice A l.length cap] l] := hs48.step e98
      refine S_assign rfl ?_
      refine WL_nil ?_
      refine W_ret ?_
      show (Value.bool true) = .bool true ∧ Ext [] w0 w97
      exact ⟨rfl, hs99.ext⟩
end Go.Proofs.Ytdgcgifigkfeaaa
