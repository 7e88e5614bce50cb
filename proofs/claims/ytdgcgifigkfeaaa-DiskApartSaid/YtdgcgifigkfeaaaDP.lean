/- Disks: walks, printed by program, and their plain law. -/
import Derived.Test.YtdgcgifigkfeaaaPL
namespace Go.Proofs.Ytdgcgifigkfeaaa
open Go Go.Wk Go.Wl Classical
set_option linter.unusedVariables false
set_option linter.unusedSimpArgs false

attribute [local irreducible] Dk.crash Dk.read Dk.write Dk.flush Dk.dirty ofs
set_option maxHeartbeats 8000000 in
theorem apart_ok {w0 : World} {D : Nat → Prop} {A : Option Addr} {cap : Nat} {l : List Act} (h : (dSlice dAct).rd D w0 [.slice A l.length cap] l) {n : Int} (a b : UInt8) :
    CallR Try.prog 7 [.int .i64 n, .slice A l.length cap, bv a, bv b] w0 (fun v w' => v = .bool true ∧ Ext [] w0 w') := by
  have hs0 := (Sep.nil (B0 := []) (w0 := w0) (Z := fun b => D b ∧ b < w0.heap.size) (fun _ h => h.2)).fact (t := iData (dSlice dAct) [.slice A l.length cap] l) ((dSlice dAct).weak h (fun b h1 h2 => ⟨h1, h2⟩)) sData rfl rfl
  have hll := dSlice_len h
  refine Call1 Try.func7 rfl rfl rfl rfl ?_
  refine W_seq ?_
  refine W_region ?_
  refine S_assign rfl ?_
  refine WL_nil ?_
  refine W_seq ?_
  refine W_region ?_
  refine S_move rfl ?_
  refine S_move rfl ?_
  refine S_callOr Try.call22 rfl (play_ok (n := n) (hs0.at 0 rfl)) rfl ?_ ?_
  rintro _ w1 e2
  have hs3 : Sep [] w0 (fun b => D b ∧ b < w0.heap.size) w1 [iData (dSlice dAct) [.slice A l.length cap] l] := hs0.step e2
  refine S_assign rfl ?_
  refine WL_nil ?_
  refine W_seq ?_
  refine W_seq ?_
  refine W_region ?_
  refine S_move rfl ?_
  refine S_eqlP0 Try.runUnderlying23 rfl rfl ?_
  refine WL_nil ?_
  refine W_cond_true rfl ?_
  refine W_seq ?_
  refine W_region ?_
  refine S_callE Try.call12 rfl alive_ok rfl ?_
  intro w4 e5
  have hs6 : Sep [] w0 (fun b => D b ∧ b < w0.heap.size) w4 [iData (dSlice dAct) [.slice A l.length cap] l] := hs3.step e5
  refine S_assign rfl ?_
  refine WL_nil ?_
  refine W_ret ?_
  show (Value.bool true) = .bool true ∧ Ext [] w0 w4
  exact ⟨rfl, hs6.ext⟩
  rintro ⟨d7, x8, F9⟩ w10 ⟨h11, ok12, hn13, e14, hf15⟩
  have hlen : (x8.lasts.length : Int) = n := hn13
  have ok12 : x8.Ok := ok12
  have hs16 : Sep [] w0 (fun b => D b ∧ b < w0.heap.size) w10 [iOb (obDk d7) x8 F9 [], iData (dSlice dAct) [.slice A l.length cap] l] := hs0.made (o := obDk d7) e14 h11 hf15
  refine S_assign rfl ?_
  refine WL_nil ?_
  refine W_seq ?_
  refine W_seq ?_
  refine W_region ?_
  refine S_move rfl ?_
  refine S_eqlP Try.runUnderlying23 rfl rfl ?_
  refine WL_nil ?_
  refine W_cond_false rfl ?_
  refine W_skip ?_
  refine W_seq ?_
  have hr : (x8.crash 0 9 ([] : List Int)).read 0 = _ := crash_read ok12 0 9 [] (i := 0) (by decide) (by have := (ok12).pos; omega)
  have hl8 : ((x8.crash 0 9 ([] : List Int)).read 0).1.length = 256 := by rw [hr]; exact last_len (crash_Ok ok12 _ _ _) (by decide) (by rw [crash_len ok12]; have := (ok12).pos; omega)
  refine W_region ?_
  refine S_move rfl ?_
  have hz23 := crash_okn (D := fun _ => False)  (kept := ([] : List Int)) (hs16.at 0 rfl) ok12 dSlice_nil 0 9
  refine S_call2 Try.call24 rfl hz23 rfl ?_
  rintro d17 F18 w19 ⟨h20, e21, hf22⟩
  have hs24 : Sep [] w0 (fun b => D b ∧ b < w0.heap.size) w19 [iOb (obDk d17) (x8.crash 0 9 ([] : List Int)) F18 [], iOb (obDk d7) x8 F9 [], iData (dSlice dAct) [.slice A l.length cap] l] := hs16.made (o := obDk d17) e21 h20 hf22
  refine S_move rfl ?_
  have hz31 := crash_okn (D := fun _ => False)  (kept := ([] : List Int)) (hs24.at 1 rfl) ok12 dSlice_nil 0 9
  refine S_call2 Try.call24 rfl hz31 rfl ?_
  rintro d25 F26 w27 ⟨h28, e29, hf30⟩
  have hs32 : Sep [] w0 (fun b => D b ∧ b < w0.heap.size) w27 [iOb (obDk d25) (x8.crash 0 9 ([] : List Int)) F26 [], iOb (obDk d17) (x8.crash 0 9 ([] : List Int)) F18 [], iOb (obDk d7) x8 F9 [], iData (dSlice dAct) [.slice A l.length cap] l] := hs24.made (o := obDk d25) e29 h28 hf30
  refine S_assign rfl ?_
  refine S_assign rfl ?_
  refine WL_nil ?_
  refine W_seq ?_
  refine W_live (L := [(2, bv a), (3, bv b), (9, .pointer (some ⟨d7, 0, none⟩)), (10, .pointer (some ⟨d17, 0, none⟩)), (11, .pointer (some ⟨d25, 0, none⟩))]) ⟨rfl, rfl, rfl, rfl, rfl, trivial⟩ ?_
  intro g33
  refine W_region ?_
  refine S_move rfl ?_
  have hz41 := read_ok (hs32.at 0 rfl) (crash_Ok ok12 0 9 ([] : List Int)) 0
  refine S_call3 Try.call20 rfl hz41 rfl ?_
  rintro A34 cap35 bs36 w37 ⟨ha38, e39, hf40⟩
  have hs42 : Sep [] w0 (fun b => D b ∧ b < w0.heap.size) w37 [iAc dByte (.slice A34 (((x8.crash 0 9 ([] : List Int)).read 0).1.length) cap35) (((x8.crash 0 9 ([] : List Int)).read 0).1) bs36 [], iOb (obDk d25) (x8.crash 0 9 ([] : List Int)) F26 [], iOb (obDk d17) (x8.crash 0 9 ([] : List Int)) F18 [], iOb (obDk d7) x8 F9 [], iData (dSlice dAct) [.slice A l.length cap] l] := hs32.madeAc e39 ha38 hf40
  refine S_move rfl ?_
  refine S_extract rfl rfl rfl ?_
  refine S_extract rfl rfl rfl ?_
  refine WL_conv ((congrArg (fun p => errv 64 (Prod.snd p)) hr).trans errv_0.symm) ?_
  refine S_assign rfl ?_
  refine S_assign rfl ?_
  refine WL_nil ?_
  refine W_seq ?_
  refine W_region ?_
  refine S_move rfl ?_
  refine S_move rfl ?_
  refine S_move rfl ?_
  have hz50 := of_ok (w0 := w37) a b
  refine S_call3 Try.call26 rfl hz50 rfl ?_
  rintro A43 cap44 bs45 w46 ⟨ha47, e48, hf49⟩
  have hs51 : Sep [] w0 (fun b => D b ∧ b < w0.heap.size) w46 [iAc dByte (.slice A43 256 cap44) (ofs a b) bs45 [], iAc dByte (.slice A34 (((x8.crash 0 9 ([] : List Int)).read 0).1.length) cap35) (((x8.crash 0 9 ([] : List Int)).read 0).1) bs36 [], iOb (obDk d25) (x8.crash 0 9 ([] : List Int)) F26 [], iOb (obDk d17) (x8.crash 0 9 ([] : List Int)) F18 [], iOb (obDk d7) x8 F9 [], iData (dSlice dAct) [.slice A l.length cap] l] := hs42.madeAc e48 ha47 hf49
  have hz56 := write_okn (hs51.at 3 rfl) (crash_Ok ok12 0 9 ([] : List Int)) (fun b hb h => h.elim (hs51.nz 3 rfl b hb) (hs51.ap 3 0 rfl rfl rfl b hb)) (Ac.rd (hs51.at 0 rfl) (by rw [ofs_len]; decide)) 0
  refine S_callE Try.call25 rfl hz56 rfl ?_
  rintro w52 ⟨F53, h54, t55⟩
  have hs57 : Sep [] w0 (fun b => D b ∧ b < w0.heap.size) w52 [iAc dByte (.slice A43 256 cap44) (ofs a b) bs45 [], iAc dByte (.slice A34 (((x8.crash 0 9 ([] : List Int)).read 0).1.length) cap35) (((x8.crash 0 9 ([] : List Int)).read 0).1) bs36 [], iOb (obDk d25) (x8.crash 0 9 ([] : List Int)) F26 [], iOb (obDk d17) (((x8.crash 0 9 ([] : List Int)).write 0 (ofs a b)).2) F53 [], iOb (obDk d7) x8 F9 [], iData (dSlice dAct) [.slice A l.length cap] l] := hs51.turn 3 rfl h54 t55
  refine WL_nil ?_
  refine W_seq ?_
  refine W_live (L := [(2, bv a), (3, bv b), (9, .pointer (some ⟨d7, 0, none⟩)), (10, .pointer (some ⟨d17, 0, none⟩)), (11, .pointer (some ⟨d25, 0, none⟩)), (12, .slice A34 (((x8.crash 0 9 ([] : List Int)).read 0).1.length) cap35)]) ⟨rfl, rfl, rfl, rfl, rfl, rfl, trivial⟩ ?_
  intro g59
  refine W_region ?_
  refine S_move rfl ?_
  have hz64 := flush_ok (hs57.at 3 rfl) (write_Ok (crash_Ok ok12 0 9 ([] : List Int)) 0 (ofs a b))
  refine S_callE Try.call23 rfl hz64 rfl ?_
  rintro w60 ⟨F61, h62, t63⟩
  have hs65 : Sep [] w0 (fun b => D b ∧ b < w0.heap.size) w60 [iAc dByte (.slice A43 256 cap44) (ofs a b) bs45 [], iAc dByte (.slice A34 (((x8.crash 0 9 ([] : List Int)).read 0).1.length) cap35) (((x8.crash 0 9 ([] : List Int)).read 0).1) bs36 [], iOb (obDk d25) (x8.crash 0 9 ([] : List Int)) F26 [], iOb (obDk d17) ((((x8.crash 0 9 ([] : List Int)).write 0 (ofs a b)).2).flush.2) F61 [], iOb (obDk d7) x8 F9 [], iData (dSlice dAct) [.slice A l.length cap] l] := hs57.turn 3 rfl h62 t63
  refine WL_nil ?_
  refine W_seq ?_
  refine W_region ?_
  refine S_move rfl ?_
  refine S_move rfl ?_
  refine S_move rfl ?_
  have hz74 := of_ok (w0 := w60) b a
  refine S_call3 Try.call26 rfl hz74 rfl ?_
  rintro A67 cap68 bs69 w70 ⟨ha71, e72, hf73⟩
  have hs75 : Sep [] w0 (fun b => D b ∧ b < w0.heap.size) w70 [iAc dByte (.slice A67 256 cap68) (ofs b a) bs69 [], iAc dByte (.slice A43 256 cap44) (ofs a b) bs45 [], iAc dByte (.slice A34 (((x8.crash 0 9 ([] : List Int)).read 0).1.length) cap35) (((x8.crash 0 9 ([] : List Int)).read 0).1) bs36 [], iOb (obDk d25) (x8.crash 0 9 ([] : List Int)) F26 [], iOb (obDk d17) ((((x8.crash 0 9 ([] : List Int)).write 0 (ofs a b)).2).flush.2) F61 [], iOb (obDk d7) x8 F9 [], iData (dSlice dAct) [.slice A l.length cap] l] := hs65.madeAc e72 ha71 hf73
  have hz80 := write_okn (hs75.at 5 rfl) ok12 (fun b hb h => h.elim (hs75.nz 5 rfl b hb) (hs75.ap 5 0 rfl rfl rfl b hb)) (Ac.rd (hs75.at 0 rfl) (by rw [ofs_len]; decide)) 0
  refine S_callE Try.call25 rfl hz80 rfl ?_
  rintro w76 ⟨F77, h78, t79⟩
  have hs81 : Sep [] w0 (fun b => D b ∧ b < w0.heap.size) w76 [iAc dByte (.slice A67 256 cap68) (ofs b a) bs69 [], iAc dByte (.slice A43 256 cap44) (ofs a b) bs45 [], iAc dByte (.slice A34 (((x8.crash 0 9 ([] : List Int)).read 0).1.length) cap35) (((x8.crash 0 9 ([] : List Int)).read 0).1) bs36 [], iOb (obDk d25) (x8.crash 0 9 ([] : List Int)) F26 [], iOb (obDk d17) ((((x8.crash 0 9 ([] : List Int)).write 0 (ofs a b)).2).flush.2) F61 [], iOb (obDk d7) ((x8.write 0 (ofs b a)).2) F77 [], iData (dSlice dAct) [.slice A l.length cap] l] := hs75.turn 5 rfl h78 t79
  refine WL_nil ?_
  refine W_seq ?_
  refine W_region ?_
  refine S_move rfl ?_
  have hz90 := read_ok (hs81.at 3 rfl) (crash_Ok ok12 0 9 ([] : List Int)) 0
  refine S_call3 Try.call20 rfl hz90 rfl ?_
  rintro A83 cap84 bs85 w86 ⟨ha87, e88, hf89⟩
  have hs91 : Sep [] w0 (fun b => D b ∧ b < w0.heap.size) w86 [iAc dByte (.slice A83 (((x8.crash 0 9 ([] : List Int)).read 0).1.length) cap84) (((x8.crash 0 9 ([] : List Int)).read 0).1) bs85 [], iAc dByte (.slice A67 256 cap68) (ofs b a) bs69 [], iAc dByte (.slice A43 256 cap44) (ofs a b) bs45 [], iAc dByte (.slice A34 (((x8.crash 0 9 ([] : List Int)).read 0).1.length) cap35) (((x8.crash 0 9 ([] : List Int)).read 0).1) bs36 [], iOb (obDk d25) (x8.crash 0 9 ([] : List Int)) F26 [], iOb (obDk d17) ((((x8.crash 0 9 ([] : List Int)).write 0 (ofs a b)).2).flush.2) F61 [], iOb (obDk d7) ((x8.write 0 (ofs b a)).2) F77 [], iData (dSlice dAct) [.slice A l.length cap] l] := hs81.madeAc e88 ha87 hf89
  refine S_move rfl ?_
  refine S_extract rfl rfl rfl ?_
  refine S_extract rfl rfl rfl ?_
  refine WL_conv ((congrArg (fun p => errv 64 (Prod.snd p)) hr).trans errv_0.symm) ?_
  refine S_assign rfl ?_
  refine S_assign rfl ?_
  refine WL_nil ?_
  refine W_seq ?_
  refine W_seq ?_
  refine W_live (L := [(11, .pointer (some ⟨d25, 0, none⟩)), (12, .slice A34 (((x8.crash 0 9 ([] : List Int)).read 0).1.length) cap35), (14, .slice A83 (((x8.crash 0 9 ([] : List Int)).read 0).1.length) cap84), (15, .nilIface)]) ⟨rfl, rfl, rfl, rfl, trivial⟩ ?_
  intro g92
  refine W_region ?_
  refine S_move rfl ?_
  refine S_callQ Try.call11 rfl no_ok0 rfl ?_
  refine S_neq rfl rfl rfl ?_
  refine WL_conv (congrArg Value.bool (decide_eq_false (by simp))) ?_
  refine S_move rfl ?_
  refine WL_on rfl rfl rfl ?_
  refine S_move rfl ?_
  refine WL_on rfl rfl rfl ?_
  refine S_bytesStr Try.runUnderlying47 Try.runUnderlying9 Try.runUnderlying5 (Src.ac (hs91.at 3 rfl)) rfl ?_
  refine WL_on rfl rfl rfl ?_
  refine S_move rfl ?_
  refine WL_on rfl rfl rfl ?_
  refine S_bytesStr Try.runUnderlying47 Try.runUnderlying9 Try.runUnderlying5 (Src.ac (hs91.at 0 rfl)) rfl ?_
  refine WL_on rfl rfl rfl ?_
  refine S_neqS rfl rfl rfl ?_
  refine WL_conv (congrArg Value.bool (decide_eq_false (fun h => h rfl))) ?_
  refine S_pick_f rfl rfl ?_
  refine WL_nil ?_
  refine W_cond_false rfl ?_
  refine W_skip ?_
  refine W_seq ?_
  refine W_seq ?_
  refine W_region ?_
  refine S_move rfl ?_
  refine S_len Try.runUnderlying47 rfl rfl ?_
  refine S_move rfl ?_
  refine WL_nil ?_
  refine W_block ?_
  refine W_loopE (fun m f w => ∃ (i : Int) (l2 : Str), m = ((((x8.crash 0 9 ([] : List Int)).read 0).1.length : Int) - i).toNat ∧ (0 ≤ i) ∧ (l2.length = ((x8.crash 0 9 ([] : List Int)).read 0).1.length) ∧ Sep [] w0 (fun b => D b ∧ b < w0.heap.size) w [iAc dByte (.slice A83 (((x8.crash 0 9 ([] : List Int)).read 0).1.length) cap84) l2 bs85 [], iAc dByte (.slice A67 256 cap68) (ofs b a) bs69 [], iAc dByte (.slice A43 256 cap44) (ofs a b) bs45 [], iAc dByte (.slice A34 (((x8.crash 0 9 ([] : List Int)).read 0).1.length) cap35) (((x8.crash 0 9 ([] : List Int)).read 0).1) bs36 [], iOb (obDk d25) (x8.crash 0 9 ([] : List Int)) F26 [], iOb (obDk d17) ((((x8.crash 0 9 ([] : List Int)).write 0 (ofs a b)).2).flush.2) F61 [], iOb (obDk d7) ((x8.write 0 (ofs b a)).2) F77 [], iData (dSlice dAct) [.slice A l.length cap] l] ∧ Live f [(11, .pointer (some ⟨d25, 0, none⟩)), (12, .slice A34 (((x8.crash 0 9 ([] : List Int)).read 0).1.length) cap35), (14, .slice A83 (((x8.crash 0 9 ([] : List Int)).read 0).1.length) cap84), (62, .int .i64 (((x8.crash 0 9 ([] : List Int)).read 0).1.length : Int)), (63, .int .i64 i)]) ?_ ?_
  · exact ⟨_, 0, _, rfl, (by omega), rfl, hs91, ⟨rfl, rfl, rfl, rfl, rfl, trivial⟩⟩
  ·
    rintro _ f95 w93 ⟨i, l2, rfl, q98, q99, hs96, hl97⟩
    refine W_live hl97 ?_
    intro g100
    refine W_seq ?_
    refine W_region ?_
    refine S_lss rfl rfl rfl ?_
    refine WL_nil ?_
    refine W_seq ?_
    refine W_cond rfl (fun h101 => ?_) (fun h101 => ?_)
    ·
      have p102 := of_decide_eq_true h101
      refine W_skip ?_
      refine W_seq ?_
      refine W_block ?_
      refine W_seq ?_
      refine W_region ?_
      refine S_move rfl ?_
      refine S_assign rfl ?_
      refine WL_nil ?_
      refine W_region ?_
      refine S_move rfl ?_
      refine S_move rfl ?_
      refine Z_indexAc (hs96.at 0 rfl) Try.runUnderlying47 Try.sizeOf5 rfl rfl (show (0 : Int) ≤ i from by omega) (show i < ((((x8.crash 0 9 ([] : List Int)).read 0).1.length : Nat) : Int) from by omega) rfl ?_
      refine Z_storeEl (o := 0) (sz := 1) hs96 0 rfl Try.sizeOf5 rfl rfl (Nat.add_zero _).symm rfl rfl (show (0 : Int) ≤ i from by omega) (show i < ((((x8.crash 0 9 ([] : List Int)).read 0).1.length : Nat) : Int) from by omega) (fun c0 _ hc => st_byte (x := 1) c0 hc) rfl ?_
      intro w103 hs104
      have hs104 : Sep [] w0 (fun b => D b ∧ b < w0.heap.size) w103 [iAc dByte (.slice A83 (((x8.crash 0 9 ([] : List Int)).read 0).1.length) cap84) (List.set l2 (Int.toNat i) 1) bs85 [], iAc dByte (.slice A67 256 cap68) (ofs b a) bs69 [], iAc dByte (.slice A43 256 cap44) (ofs a b) bs45 [], iAc dByte (.slice A34 (((x8.crash 0 9 ([] : List Int)).read 0).1.length) cap35) (((x8.crash 0 9 ([] : List Int)).read 0).1) bs36 [], iOb (obDk d25) (x8.crash 0 9 ([] : List Int)) F26 [], iOb (obDk d17) ((((x8.crash 0 9 ([] : List Int)).write 0 (ofs a b)).2).flush.2) F61 [], iOb (obDk d7) ((x8.write 0 (ofs b a)).2) F77 [], iData (dSlice dAct) [.slice A l.length cap] l] := hs104
      refine WL_nil ?_
      refine W_region ?_
      refine S_add rfl rfl (by omega) rfl ?_
      refine S_move rfl ?_
      refine WL_nil ?_
      exact ⟨_, (by omega), i + 1, List.set l2 (Int.toNat i) 1, rfl, (by omega), (by rw [List.length_set]; exact q99), hs104, ⟨rfl, rfl, rfl, rfl, rfl, trivial⟩⟩
    ·
      have p105 := of_decide_eq_false h101
      refine W_exit ?_
      refine W_seq ?_
      refine W_region ?_
      refine S_move rfl ?_
      have hz113 := read_ok (hs96.at 4 rfl) (crash_Ok ok12 0 9 ([] : List Int)) 0
      refine S_call3 Try.call20 rfl hz113 rfl ?_
      rintro A106 cap107 bs108 w109 ⟨ha110, e111, hf112⟩
      have hs114 : Sep [] w0 (fun b => D b ∧ b < w0.heap.size) w109 [iAc dByte (.slice A106 (((x8.crash 0 9 ([] : List Int)).read 0).1.length) cap107) (((x8.crash 0 9 ([] : List Int)).read 0).1) bs108 [], iAc dByte (.slice A83 (((x8.crash 0 9 ([] : List Int)).read 0).1.length) cap84) l2 bs85 [], iAc dByte (.slice A67 256 cap68) (ofs b a) bs69 [], iAc dByte (.slice A43 256 cap44) (ofs a b) bs45 [], iAc dByte (.slice A34 (((x8.crash 0 9 ([] : List Int)).read 0).1.length) cap35) (((x8.crash 0 9 ([] : List Int)).read 0).1) bs36 [], iOb (obDk d25) (x8.crash 0 9 ([] : List Int)) F26 [], iOb (obDk d17) ((((x8.crash 0 9 ([] : List Int)).write 0 (ofs a b)).2).flush.2) F61 [], iOb (obDk d7) ((x8.write 0 (ofs b a)).2) F77 [], iData (dSlice dAct) [.slice A l.length cap] l] := hs96.madeAc e111 ha110 hf112
      refine S_move rfl ?_
      refine S_extract rfl rfl rfl ?_
      refine S_extract rfl rfl rfl ?_
      refine WL_conv ((congrArg (fun p => errv 64 (Prod.snd p)) hr).trans errv_0.symm) ?_
      refine S_assign rfl ?_
      refine S_assign rfl ?_
      refine WL_nil ?_
      refine W_seq ?_
      refine W_region ?_
      refine S_move rfl ?_
      refine S_bytesStr Try.runUnderlying47 Try.runUnderlying9 Try.runUnderlying5 (Src.ac (hs114.at 0 rfl)) rfl ?_
      refine S_move rfl ?_
      refine S_bytesStr Try.runUnderlying47 Try.runUnderlying9 Try.runUnderlying5 (Src.ac (hs114.at 4 rfl)) rfl ?_
      refine S_eqlS rfl rfl rfl ?_
      refine WL_conv (congrArg Value.bool (decide_eq_true rfl)) ?_
      refine S_move rfl ?_
      refine WL_on rfl rfl rfl ?_
      refine S_callE Try.call12 rfl alive_ok rfl ?_
      intro w115 e116
      have hs117 : Sep [] w0 (fun b => D b ∧ b < w0.heap.size) w115 [iAc dByte (.slice A106 (((x8.crash 0 9 ([] : List Int)).read 0).1.length) cap107) (((x8.crash 0 9 ([] : List Int)).read 0).1) bs108 [], iAc dByte (.slice A83 (((x8.crash 0 9 ([] : List Int)).read 0).1.length) cap84) l2 bs85 [], iAc dByte (.slice A67 256 cap68) (ofs b a) bs69 [], iAc dByte (.slice A43 256 cap44) (ofs a b) bs45 [], iAc dByte (.slice A34 (((x8.crash 0 9 ([] : List Int)).read 0).1.length) cap35) (((x8.crash 0 9 ([] : List Int)).read 0).1) bs36 [], iOb (obDk d25) (x8.crash 0 9 ([] : List Int)) F26 [], iOb (obDk d17) ((((x8.crash 0 9 ([] : List Int)).write 0 (ofs a b)).2).flush.2) F61 [], iOb (obDk d7) ((x8.write 0 (ofs b a)).2) F77 [], iData (dSlice dAct) [.slice A l.length cap] l] := hs114.step e116
      refine S_pick_t rfl rfl ?_
      refine S_assign rfl ?_
      refine WL_nil ?_
      refine W_ret ?_
      show (Value.bool true) = .bool true ∧ Ext [] w0 w115
      exact ⟨rfl, hs117.ext⟩
end Go.Proofs.Ytdgcgifigkfeaaa
