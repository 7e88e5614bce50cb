/- The chapter's example. -/
import Derived.Test.YtdgcgifigkfeaaaV0
namespace Go.Proofs.Ytdgcgifigkfeaaa
open Go Go.Wk Go.Wl Classical
theorem x1_def : ((Dk.new 3).write 1 (ofs 120 120)).2 = x1 := rfl
attribute [local irreducible] Dk.write Dk.crash Dk.read Dk.flush Dk.limit Dk.new Dk.dirty ofs
set_option maxHeartbeats 40000000 in
theorem alive_ok {w0 : World} :
    CallR Try.prog 12 [] w0 (fun v w' => v = .bool true ∧ Ext [] w0 w') := by
  have hs0 := Sep.nil (B0 := []) (w0 := w0) (Z := fun _ => False) (fun _ h => h.elim)
  refine Call1 Try.func12 rfl rfl rfl rfl ?_
  refine W_seq ?_
  refine W_region ?_
  refine S_assign rfl ?_
  refine WL_nil ?_
  refine W_seq ?_
  refine W_region ?_
  have hz7 := new_ok (w0 := w0) (n := 3) (by decide) (by decide)
  refine S_call2 Try.call9 rfl hz7 rfl ?_
  rintro d1 F2 w3 ⟨h4, e5, hf6⟩
  have hs8 : Sep [] w0 (fun _ => False) w3 [iOb (obDk d1) (Dk.new 3) F2 []] := hs0.made (o := obDk d1) e5 h4 hf6
  refine S_move rfl ?_
  refine S_extract rfl rfl rfl ?_
  refine S_extract rfl rfl rfl ?_
  refine S_assign rfl ?_
  refine S_assign rfl ?_
  refine WL_nil ?_
  refine W_seq ?_
  refine W_seq ?_
  refine W_region ?_
  refine S_move rfl ?_
  refine S_callQ Try.call11 rfl no_ok0 rfl ?_
  refine S_neq rfl rfl rfl ?_
  refine WL_conv (congrArg Value.bool (decide_eq_false (by simp))) ?_
  refine S_move rfl ?_
  refine WL_on rfl rfl rfl ?_
  refine S_move rfl ?_
  refine WL_on rfl rfl rfl ?_
  refine S_eqlP Try.runUnderlying23 rfl rfl ?_
  refine S_pick_f rfl rfl ?_
  refine S_move rfl ?_
  refine WL_on rfl rfl rfl ?_
  refine S_move rfl ?_
  refine WL_on rfl rfl rfl ?_
  have hz16 := of_ok (w0 := w3) 120 120
  refine S_call3 Try.call26 rfl hz16 rfl ?_
  rintro A9 cap10 bs11 w12 ⟨ha13, e14, hf15⟩
  have hs17 : Sep [] w0 (fun _ => False) w12 [iAc dByte (.slice A9 256 cap10) (ofs 120 120) bs11 [], iOb (obDk d1) (Dk.new 3) F2 []] := hs8.madeAc e14 ha13 hf15
  refine WL_on rfl rfl rfl ?_
  have hz22 := write_okn (hs17.at 1 rfl) (new_Ok (n := 3) (by decide) (by decide)) (fun b hb h => h.elim (hs17.nz 1 rfl b hb) (hs17.ap 1 0 rfl rfl rfl b hb)) (Ac.rd (hs17.at 0 rfl) (by rw [ofs_len]; decide)) 1
  refine S_callE Try.call25 rfl hz22 rfl ?_
  rintro w18 ⟨F19, h20, t21⟩
  have hs23 : Sep [] w0 (fun _ => False) w18 [iAc dByte (.slice A9 256 cap10) (ofs 120 120) bs11 [], iOb (obDk d1) (((Dk.new 3).write 1 (ofs 120 120)).2) F19 []] := hs17.turn 1 rfl h20 t21
  refine WL_conv ((congrArg (errv 64) w1_eq).trans errv_0.symm) ?_
  have hs25 : Sep [] w0 (fun _ => False) w18 [iAc dByte (.slice A9 256 cap10) (ofs 120 120) bs11 [], iOb (obDk d1) x1 F19 []] := hs23
  refine WL_on rfl rfl rfl ?_
  refine S_callQ Try.call11 rfl no_ok0 rfl ?_
  refine WL_on rfl rfl rfl ?_
  refine S_neq rfl rfl rfl ?_
  refine WL_conv (congrArg Value.bool (decide_eq_false (by simp))) ?_
  refine S_pick_f rfl rfl ?_
  refine S_move rfl ?_
  refine WL_on rfl rfl rfl ?_
  refine S_move rfl ?_
  refine WL_on rfl rfl rfl ?_
  have hz33 := dirty_ok (hs25.at 1 rfl) (write_Ok (new_Ok (n := 3) (by decide) (by decide)) 1 (ofs 120 120))
  refine S_call3 Try.call18 rfl hz33 rfl ?_
  rintro A26 cap27 bs28 w29 ⟨ha30, e31, hf32⟩
  have hs34 : Sep [] w0 (fun _ => False) w29 [iAc dInt (.slice A26 x1.dirty.length cap27) x1.dirty bs28 [], iAc dByte (.slice A9 256 cap10) (ofs 120 120) bs11 [], iOb (obDk d1) x1 F19 []] := hs25.madeAc e31 ha30 hf32
  refine WL_on rfl rfl rfl ?_
  refine Z_buildSlice (r := dInt) (css := [[.int .i64 1]]) (al := [1]) hs34 Try.runUnderlying37 Try.sizeOf3 Try.zeroValue3 rfl rfl rfl rfl rfl rfl rfl ⟨⟨rfl, (by simp only [InI]; omega)⟩, trivial⟩ rfl ?_
  intro b35 w36 hs37
  have hs37 : Sep [] w0 (fun _ => False) w36 [iAc dInt (.slice (some ⟨b35, 0, none⟩) 1 1) [1] [b35] [], iAc dInt (.slice A26 x1.dirty.length cap27) x1.dirty bs28 [], iAc dByte (.slice A9 256 cap10) (ofs 120 120) bs11 [], iOb (obDk d1) x1 F19 []] := hs37
  refine WL_on rfl rfl rfl ?_
  refine S_callQ Try.call17 rfl (ints_okn (Ac.rd (hs37.at 1 rfl) (by rw [d1_eq]; decide)) (Ac.rd (hs37.at 0 rfl) (by decide))) rfl ?_
  refine WL_conv (congrArg Value.bool (decide_eq_true d1_eq)) ?_
  refine WL_on rfl rfl rfl ?_
  refine S_not rfl rfl ?_
  refine WL_norm (L := [(1, .pointer (some ⟨d1, 0, none⟩)), (25, .bool false), (30, .bool false)]) ⟨rfl, rfl, rfl, trivial⟩ ?_
  intro g38
  refine S_pick_f rfl rfl ?_
  refine WL_nil ?_
  refine W_cond_false rfl ?_
  refine W_skip ?_
  refine W_seq ?_
  refine W_region ?_
  refine S_move rfl ?_
  have hz45 := crash_okn (D := fun _ => False)  (kept := ([] : List Int)) (hs37.at 3 rfl) (write_Ok (new_Ok (n := 3) (by decide) (by decide)) 1 (ofs 120 120)) dSlice_nil 1 2
  refine S_call2 Try.call24 rfl hz45 rfl ?_
  rintro d39 F40 w41 ⟨h42, e43, hf44⟩
  have hs46 : Sep [] w0 (fun _ => False) w41 [iOb (obDk d39) (x1.crash 1 2 ([] : List Int)) F40 [], iAc dInt (.slice (some ⟨b35, 0, none⟩) 1 1) [1] [b35] [], iAc dInt (.slice A26 x1.dirty.length cap27) x1.dirty bs28 [], iAc dByte (.slice A9 256 cap10) (ofs 120 120) bs11 [], iOb (obDk d1) x1 F19 []] := hs37.made (o := obDk d39) e43 h42 hf44
  have hz54 := read_ok (hs46.at 0 rfl) (crash_Ok (write_Ok (new_Ok (n := 3) (by decide) (by decide)) 1 (ofs 120 120)) 1 2 ([] : List Int)) 1
  refine S_call3 Try.call20 rfl hz54 rfl ?_
  rintro A47 cap48 bs49 w50 ⟨ha51, e52, hf53⟩
  have hs55 : Sep [] w0 (fun _ => False) w50 [iAc dByte (.slice A47 (((x1.crash 1 2 ([] : List Int)).read 1).1.length) cap48) (((x1.crash 1 2 ([] : List Int)).read 1).1) bs49 [], iOb (obDk d39) (x1.crash 1 2 ([] : List Int)) F40 [], iAc dInt (.slice (some ⟨b35, 0, none⟩) 1 1) [1] [b35] [], iAc dInt (.slice A26 x1.dirty.length cap27) x1.dirty bs28 [], iAc dByte (.slice A9 256 cap10) (ofs 120 120) bs11 [], iOb (obDk d1) x1 F19 []] := hs46.madeAc e52 ha51 hf53
  refine S_move rfl ?_
  refine S_extract rfl rfl rfl ?_
  refine S_extract rfl rfl rfl ?_
  refine S_assign rfl ?_
  refine S_assign rfl ?_
  refine WL_nil ?_
  refine W_seq ?_
  refine W_region ?_
  refine S_move rfl ?_
  refine Z_buildSlice (r := dInt) (css := [[.int .i64 1]]) (al := [1]) hs55 Try.runUnderlying37 Try.sizeOf3 Try.zeroValue3 rfl rfl rfl rfl rfl rfl rfl ⟨⟨rfl, (by simp only [InI]; omega)⟩, trivial⟩ rfl ?_
  intro b56 w57 hs58
  have hs58 : Sep [] w0 (fun _ => False) w57 [iAc dInt (.slice (some ⟨b56, 0, none⟩) 1 1) [1] [b56] [], iAc dByte (.slice A47 (((x1.crash 1 2 ([] : List Int)).read 1).1.length) cap48) (((x1.crash 1 2 ([] : List Int)).read 1).1) bs49 [], iOb (obDk d39) (x1.crash 1 2 ([] : List Int)) F40 [], iAc dInt (.slice (some ⟨b35, 0, none⟩) 1 1) [1] [b35] [], iAc dInt (.slice A26 x1.dirty.length cap27) x1.dirty bs28 [], iAc dByte (.slice A9 256 cap10) (ofs 120 120) bs11 [], iOb (obDk d1) x1 F19 []] := hs58
  have hz65 := crash_okn  (kept := [1]) (hs58.at 6 rfl) (write_Ok (new_Ok (n := 3) (by decide) (by decide)) 1 (ofs 120 120)) (Ac.rd (hs58.at 0 rfl) (by decide)) 0 0
  refine S_call2 Try.call24 rfl hz65 rfl ?_
  rintro d59 F60 w61 ⟨h62, e63, hf64⟩
  have hs66 : Sep [] w0 (fun _ => False) w61 [iOb (obDk d59) (x1.crash 0 0 [1]) F60 [], iAc dInt (.slice (some ⟨b56, 0, none⟩) 1 1) [1] [b56] [], iAc dByte (.slice A47 (((x1.crash 1 2 ([] : List Int)).read 1).1.length) cap48) (((x1.crash 1 2 ([] : List Int)).read 1).1) bs49 [], iOb (obDk d39) (x1.crash 1 2 ([] : List Int)) F40 [], iAc dInt (.slice (some ⟨b35, 0, none⟩) 1 1) [1] [b35] [], iAc dInt (.slice A26 x1.dirty.length cap27) x1.dirty bs28 [], iAc dByte (.slice A9 256 cap10) (ofs 120 120) bs11 [], iOb (obDk d1) x1 F19 []] := hs58.made (o := obDk d59) e63 h62 hf64
  have hz74 := read_ok (hs66.at 0 rfl) (crash_Ok (write_Ok (new_Ok (n := 3) (by decide) (by decide)) 1 (ofs 120 120)) 0 0 [1]) 1
  refine S_call3 Try.call20 rfl hz74 rfl ?_
  rintro A67 cap68 bs69 w70 ⟨ha71, e72, hf73⟩
  have hs75 : Sep [] w0 (fun _ => False) w70 [iAc dByte (.slice A67 (((x1.crash 0 0 [1]).read 1).1.length) cap68) (((x1.crash 0 0 [1]).read 1).1) bs69 [], iOb (obDk d59) (x1.crash 0 0 [1]) F60 [], iAc dInt (.slice (some ⟨b56, 0, none⟩) 1 1) [1] [b56] [], iAc dByte (.slice A47 (((x1.crash 1 2 ([] : List Int)).read 1).1.length) cap48) (((x1.crash 1 2 ([] : List Int)).read 1).1) bs49 [], iOb (obDk d39) (x1.crash 1 2 ([] : List Int)) F40 [], iAc dInt (.slice (some ⟨b35, 0, none⟩) 1 1) [1] [b35] [], iAc dInt (.slice A26 x1.dirty.length cap27) x1.dirty bs28 [], iAc dByte (.slice A9 256 cap10) (ofs 120 120) bs11 [], iOb (obDk d1) x1 F19 []] := hs66.madeAc e72 ha71 hf73
  refine S_move rfl ?_
  refine S_extract rfl rfl rfl ?_
  refine S_extract rfl rfl rfl ?_
  refine S_assign rfl ?_
  refine S_assign rfl ?_
  refine WL_nil ?_
  refine W_seq ?_
  refine W_live (L := [(1, .pointer (some ⟨d1, 0, none⟩)), (3, .slice A47 (((x1.crash 1 2 ([] : List Int)).read 1).1.length) cap48), (4, errv 64 (((x1.crash 1 2 ([] : List Int)).read 1).2)), (5, .slice A67 (((x1.crash 0 0 [1]).read 1).1.length) cap68), (6, errv 64 (((x1.crash 0 0 [1]).read 1).2))]) ⟨rfl, rfl, rfl, rfl, rfl, trivial⟩ ?_
  intro g76
  refine W_region ?_
  refine S_move rfl ?_
  have hz81 := limit_ok (hs75.at 8 rfl) (write_Ok (new_Ok (n := 3) (by decide) (by decide)) 1 (ofs 120 120)) 0
  refine S_call Try.call27 rfl hz81 rfl ?_
  rintro _ w77 ⟨F78, h79, t80⟩
  have hs82 : Sep [] w0 (fun _ => False) w77 [iAc dByte (.slice A67 (((x1.crash 0 0 [1]).read 1).1.length) cap68) (((x1.crash 0 0 [1]).read 1).1) bs69 [], iOb (obDk d59) (x1.crash 0 0 [1]) F60 [], iAc dInt (.slice (some ⟨b56, 0, none⟩) 1 1) [1] [b56] [], iAc dByte (.slice A47 (((x1.crash 1 2 ([] : List Int)).read 1).1.length) cap48) (((x1.crash 1 2 ([] : List Int)).read 1).1) bs49 [], iOb (obDk d39) (x1.crash 1 2 ([] : List Int)) F40 [], iAc dInt (.slice (some ⟨b35, 0, none⟩) 1 1) [1] [b35] [], iAc dInt (.slice A26 x1.dirty.length cap27) x1.dirty bs28 [], iAc dByte (.slice A9 256 cap10) (ofs 120 120) bs11 [], iOb (obDk d1) (x1.limit 0) F78 []] := hs75.turn 8 rfl h79 t80
  refine WL_nil ?_
  refine W_seq ?_
  refine W_live (L := [(1, .pointer (some ⟨d1, 0, none⟩)), (3, .slice A47 (((x1.crash 1 2 ([] : List Int)).read 1).1.length) cap48), (4, errv 64 (((x1.crash 1 2 ([] : List Int)).read 1).2)), (5, .slice A67 (((x1.crash 0 0 [1]).read 1).1.length) cap68), (6, errv 64 (((x1.crash 0 0 [1]).read 1).2))]) ⟨rfl, rfl, rfl, rfl, rfl, trivial⟩ ?_
  intro g84
  refine W_region_J (fun dN vL w => ∃ (b87 : Nat) (A90 : Option Addr) (cap91 : Nat) (bs92 : List Nat) (F100 : List Nat), Sep [] w0 (fun _ => False) w [(bif dN 17 then (iAc dByte (.slice A90 256 cap91) (ofs 120 120) bs92 []) else iNil), (bif dN 9 then (iAc dByte (.slice (some ⟨b87, 0, none⟩) 254 254) (List.replicate 254 (0)) [b87] []) else iNil), iAc dByte (.slice A67 (((x1.crash 0 0 [1]).read 1).1.length) cap68) (((x1.crash 0 0 [1]).read 1).1) bs69 [], iOb (obDk d59) (x1.crash 0 0 [1]) F60 [], iAc dInt (.slice (some ⟨b56, 0, none⟩) 1 1) [1] [b56] [], iAc dByte (.slice A47 (((x1.crash 1 2 ([] : List Int)).read 1).1.length) cap48) (((x1.crash 1 2 ([] : List Int)).read 1).1) bs49 [], iOb (obDk d39) (x1.crash 1 2 ([] : List Int)) F40 [], iAc dInt (.slice (some ⟨b35, 0, none⟩) 1 1) [1] [b35] [], iAc dInt (.slice A26 x1.dirty.length cap27) x1.dirty bs28 [], iAc dByte (.slice A9 256 cap10) (ofs 120 120) bs11 [], (bif dN 23 then (iOb (obDk d1) ((x1.limit 0).flush.2) F100 []) else (iOb (obDk d1) (x1.limit 0) F78 []))] ∧ (dN 0 = true → vL 0 = errv 64 (((x1.crash 1 2 ([] : List Int)).read 1).2)) ∧ (dN 1 = true → vL 1 = .int .i64 (((x1.crash 1 2 ([] : List Int)).read 1).2)) ∧ (dN 2 = true → vL 2 = errv 64 (((x1.crash 0 0 [1]).read 1).2)) ∧ (dN 3 = true → vL 3 = .int .i64 (((x1.crash 0 0 [1]).read 1).2)) ∧ (dN 4 = true → vL 4 = .int .i64 (((x1.crash 1 2 ([] : List Int)).read 1).2 + (((x1.crash 0 0 [1]).read 1).2))) ∧ (dN 5 = true → vL 5 = .bool true) ∧ (dN 6 = true → vL 6 = .bool true) ∧ (dN 7 = true → vL 7 = .slice A47 (((x1.crash 1 2 ([] : List Int)).read 1).1.length) cap48) ∧ (dN 8 = true → vL 8 = sv (((x1.crash 1 2 ([] : List Int)).read 1).1)) ∧ (dN 9 = true → vL 9 = .slice (some ⟨b87, 0, none⟩) 254 254) ∧ (dN 10 = true → vL 10 = sv (List.replicate 254 (0))) ∧ (dN 11 = true → vL 11 = sv ([120, 120] ++ (List.replicate 254 (0)))) ∧ (dN 12 = true → vL 12 = .bool true) ∧ (dN 13 = true → vL 13 = .bool true) ∧ (dN 14 = true → vL 14 = .bool true) ∧ (dN 15 = true → vL 15 = .slice A67 (((x1.crash 0 0 [1]).read 1).1.length) cap68) ∧ (dN 16 = true → vL 16 = sv (((x1.crash 0 0 [1]).read 1).1)) ∧ (dN 17 = true → vL 17 = .slice A90 256 cap91) ∧ (dN 18 = true → vL 18 = sv (ofs 120 120)) ∧ (dN 19 = true → vL 19 = .bool true) ∧ (dN 20 = true → vL 20 = .bool true) ∧ (dN 21 = true → vL 21 = .bool true) ∧ (dN 22 = true → vL 22 = .pointer (some ⟨d1, 0, none⟩)) ∧ (dN 23 = true → vL 23 = errv 64 ((x1.limit 0).flush.1)) ∧ (dN 24 = true → vL 24 = .int .i64 ((x1.limit 0).flush.1)) ∧ (dN 25 = true → vL 25 = .bool true) ∧ (dN 26 = true → vL 26 = .bool true) ∧ (dN 27 = true → vL 27 = .bool true) ∧ (dN 28 = true → vL 28 = .pointer (some ⟨d1, 0, none⟩)) ∧ (dN 29 = true → vL 29 = .bool true) ∧ (dN 30 = true → vL 30 = .bool true) ∧ (dN 31 = true → vL 31 = .bool true) ∧ True) [0, 47, 48, 49, 50, 51, 52, 53, 54, 55, 56, 57, 58, 59, 60, 61, 62, 63, 64, 65, 66, 67, 68, 69, 70, 71, 72, 73, 74, 75, 76, 77] rfl (by decide +kernel) _ rfl ?_ ?_ ?_
  · exact fun V => ⟨0, none, 0, [], [], (Sep.nilA (Sep.nilA hs82)), (fun h => by cases h), (fun h => by cases h), (fun h => by cases h), (fun h => by cases h), (fun h => by cases h), (fun h => by cases h), (fun h => by cases h), (fun h => by cases h), (fun h => by cases h), (fun h => by cases h), (fun h => by cases h), (fun h => by cases h), (fun h => by cases h), (fun h => by cases h), (fun h => by cases h), (fun h => by cases h), (fun h => by cases h), (fun h => by cases h), (fun h => by cases h), (fun h => by cases h), (fun h => by cases h), (fun h => by cases h), (fun h => by cases h), (fun h => by cases h), (fun h => by cases h), (fun h => by cases h), (fun h => by cases h), (fun h => by cases h), (fun h => by cases h), (fun h => by cases h), (fun h => by cases h), (fun h => by cases h), trivial⟩
  · refine (.cons ?_ (.cons ?_ (.cons ?_ (.cons ?_ (.cons ?_ (.cons ?_ (.cons ?_ (.cons ?_ (.cons ?_ (.cons ?_ (.cons ?_ (.cons ?_ (.cons ?_ (.cons ?_ (.cons ?_ (.cons ?_ (.cons ?_ (.cons ?_ (.cons ?_ (.cons ?_ (.cons ?_ (.cons ?_ (.cons ?_ (.cons ?_ (.cons ?_ (.cons ?_ (.cons ?_ (.cons ?_ (.cons ?_ (.cons ?_ (.cons ?_ (.cons ?_ .nil))))))))))))))))))))))))))))))))
    ·
      rintro dN vL g108 w109 ⟨b87, A90, cap91, bs92, F100, hs110, v116, v117, v118, v119, v120, v121, v122, v123, v124, v125, v126, v127, v128, v129, v130, v131, v132, v133, v134, v135, v136, v137, v138, v139, v140, v141, v142, v143, v144, v145, v146, v147, _⟩ hD111 hd112 hu113 hg114 hk115
      have e148 : dN 9 = false := hu113 9 (by decide +kernel)
      have e149 : dN 17 = false := hu113 17 (by decide +kernel)
      have e150 : dN 23 = false := hu113 23 (by decide +kernel)
      rw [e149, e148, e150] at hs110
      have hs151 : Sep [] w0 (fun _ => False) w109 [iNil, iNil, iAc dByte (.slice A67 (((x1.crash 0 0 [1]).read 1).1.length) cap68) (((x1.crash 0 0 [1]).read 1).1) bs69 [], iOb (obDk d59) (x1.crash 0 0 [1]) F60 [], iAc dInt (.slice (some ⟨b56, 0, none⟩) 1 1) [1] [b56] [], iAc dByte (.slice A47 (((x1.crash 1 2 ([] : List Int)).read 1).1.length) cap48) (((x1.crash 1 2 ([] : List Int)).read 1).1) bs49 [], iOb (obDk d39) (x1.crash 1 2 ([] : List Int)) F40 [], iAc dInt (.slice (some ⟨b35, 0, none⟩) 1 1) [1] [b35] [], iAc dInt (.slice A26 x1.dirty.length cap27) x1.dirty bs28 [], iAc dByte (.slice A9 256 cap10) (ofs 120 120) bs11 [], iOb (obDk d1) (x1.limit 0) F78 []] := hs110
      refine WL_at (L := [(4, errv 64 (((x1.crash 1 2 ([] : List Int)).read 1).2))]) ⟨(hk115 4 (by decide +kernel)), trivial⟩ ?_
      refine S_move rfl ?_
      have hs152 : Sep [] w0 (fun _ => False) w109 [(bif dN 17 then (iAc dByte (.slice A90 256 cap91) (ofs 120 120) bs92 []) else iNil), (bif dN 9 then (iAc dByte (.slice (some ⟨b87, 0, none⟩) 254 254) (List.replicate 254 (0)) [b87] []) else iNil), iAc dByte (.slice A67 (((x1.crash 0 0 [1]).read 1).1.length) cap68) (((x1.crash 0 0 [1]).read 1).1) bs69 [], iOb (obDk d59) (x1.crash 0 0 [1]) F60 [], iAc dInt (.slice (some ⟨b56, 0, none⟩) 1 1) [1] [b56] [], iAc dByte (.slice A47 (((x1.crash 1 2 ([] : List Int)).read 1).1.length) cap48) (((x1.crash 1 2 ([] : List Int)).read 1).1) bs49 [], iOb (obDk d39) (x1.crash 1 2 ([] : List Int)) F40 [], iAc dInt (.slice (some ⟨b35, 0, none⟩) 1 1) [1] [b35] [], iAc dInt (.slice A26 x1.dirty.length cap27) x1.dirty bs28 [], iAc dByte (.slice A9 256 cap10) (ofs 120 120) bs11 [], (bif dN 23 then (iOb (obDk d1) ((x1.limit 0).flush.2) F100 []) else (iOb (obDk d1) (x1.limit 0) F78 []))] := by rw [e149, e148, e150]; exact hs151
      exact WL_nil ⟨rfl, _, rfl, b87, A90, cap91, bs92, F100, hs152, (fun _ => rfl), v117, v118, v119, v120, v121, v122, v123, v124, v125, v126, v127, v128, v129, v130, v131, v132, v133, v134, v135, v136, v137, v138, v139, v140, v141, v142, v143, v144, v145, v146, v147, trivial⟩
    ·
      rintro dN vL g153 w154 ⟨b87, A90, cap91, bs92, F100, hs155, v161, v162, v163, v164, v165, v166, v167, v168, v169, v170, v171, v172, v173, v174, v175, v176, v177, v178, v179, v180, v181, v182, v183, v184, v185, v186, v187, v188, v189, v190, v191, v192, _⟩ hD156 hd157 hu158 hg159 hk160
      have e193 : dN 0 = true := hd157 0 (by decide +kernel)
      have e194 : dN 9 = false := hu158 9 (by decide +kernel)
      have e195 : dN 17 = false := hu158 17 (by decide +kernel)
      have e196 : dN 23 = false := hu158 23 (by decide +kernel)
      rw [e195, e194, e196] at hs155
      have hs197 : Sep [] w0 (fun _ => False) w154 [iNil, iNil, iAc dByte (.slice A67 (((x1.crash 0 0 [1]).read 1).1.length) cap68) (((x1.crash 0 0 [1]).read 1).1) bs69 [], iOb (obDk d59) (x1.crash 0 0 [1]) F60 [], iAc dInt (.slice (some ⟨b56, 0, none⟩) 1 1) [1] [b56] [], iAc dByte (.slice A47 (((x1.crash 1 2 ([] : List Int)).read 1).1.length) cap48) (((x1.crash 1 2 ([] : List Int)).read 1).1) bs49 [], iOb (obDk d39) (x1.crash 1 2 ([] : List Int)) F40 [], iAc dInt (.slice (some ⟨b35, 0, none⟩) 1 1) [1] [b35] [], iAc dInt (.slice A26 x1.dirty.length cap27) x1.dirty bs28 [], iAc dByte (.slice A9 256 cap10) (ofs 120 120) bs11 [], iOb (obDk d1) (x1.limit 0) F78 []] := hs155
      refine WL_at (L := [(47, errv 64 (((x1.crash 1 2 ([] : List Int)).read 1).2))]) ⟨((hg159 0 47 e193 rfl).trans (v161 e193)), trivial⟩ ?_
      have hr198 : 0 ≤ (((x1.crash 1 2 ([] : List Int)).read 1).2 : Int) ∧ (((x1.crash 1 2 ([] : List Int)).read 1).2 : Int) ≤ 16 := (by rw [r1_eq]; decide)
      refine S_callQ Try.call11 rfl (no_ok hr198.1 hr198.2) rfl ?_
      have hs199 : Sep [] w0 (fun _ => False) w154 [(bif dN 17 then (iAc dByte (.slice A90 256 cap91) (ofs 120 120) bs92 []) else iNil), (bif dN 9 then (iAc dByte (.slice (some ⟨b87, 0, none⟩) 254 254) (List.replicate 254 (0)) [b87] []) else iNil), iAc dByte (.slice A67 (((x1.crash 0 0 [1]).read 1).1.length) cap68) (((x1.crash 0 0 [1]).read 1).1) bs69 [], iOb (obDk d59) (x1.crash 0 0 [1]) F60 [], iAc dInt (.slice (some ⟨b56, 0, none⟩) 1 1) [1] [b56] [], iAc dByte (.slice A47 (((x1.crash 1 2 ([] : List Int)).read 1).1.length) cap48) (((x1.crash 1 2 ([] : List Int)).read 1).1) bs49 [], iOb (obDk d39) (x1.crash 1 2 ([] : List Int)) F40 [], iAc dInt (.slice (some ⟨b35, 0, none⟩) 1 1) [1] [b35] [], iAc dInt (.slice A26 x1.dirty.length cap27) x1.dirty bs28 [], iAc dByte (.slice A9 256 cap10) (ofs 120 120) bs11 [], (bif dN 23 then (iOb (obDk d1) ((x1.limit 0).flush.2) F100 []) else (iOb (obDk d1) (x1.limit 0) F78 []))] := by rw [e195, e194, e196]; exact hs197
      exact WL_nil ⟨rfl, _, rfl, b87, A90, cap91, bs92, F100, hs199, v161, (fun _ => rfl), v163, v164, v165, v166, v167, v168, v169, v170, v171, v172, v173, v174, v175, v176, v177, v178, v179, v180, v181, v182, v183, v184, v185, v186, v187, v188, v189, v190, v191, v192, trivial⟩
    ·
      rintro dN vL g200 w201 ⟨b87, A90, cap91, bs92, F100, hs202, v208, v209, v210, v211, v212, v213, v214, v215, v216, v217, v218, v219, v220, v221, v222, v223, v224, v225, v226, v227, v228, v229, v230, v231, v232, v233, v234, v235, v236, v237, v238, v239, _⟩ hD203 hd204 hu205 hg206 hk207
      have e240 : dN 9 = false := hu205 9 (by decide +kernel)
      have e241 : dN 17 = false := hu205 17 (by decide +kernel)
      have e242 : dN 23 = false := hu205 23 (by decide +kernel)
      rw [e241, e240, e242] at hs202
      have hs243 : Sep [] w0 (fun _ => False) w201 [iNil, iNil, iAc dByte (.slice A67 (((x1.crash 0 0 [1]).read 1).1.length) cap68) (((x1.crash 0 0 [1]).read 1).1) bs69 [], iOb (obDk d59) (x1.crash 0 0 [1]) F60 [], iAc dInt (.slice (some ⟨b56, 0, none⟩) 1 1) [1] [b56] [], iAc dByte (.slice A47 (((x1.crash 1 2 ([] : List Int)).read 1).1.length) cap48) (((x1.crash 1 2 ([] : List Int)).read 1).1) bs49 [], iOb (obDk d39) (x1.crash 1 2 ([] : List Int)) F40 [], iAc dInt (.slice (some ⟨b35, 0, none⟩) 1 1) [1] [b35] [], iAc dInt (.slice A26 x1.dirty.length cap27) x1.dirty bs28 [], iAc dByte (.slice A9 256 cap10) (ofs 120 120) bs11 [], iOb (obDk d1) (x1.limit 0) F78 []] := hs202
      refine WL_at (L := [(6, errv 64 (((x1.crash 0 0 [1]).read 1).2))]) ⟨(hk207 6 (by decide +kernel)), trivial⟩ ?_
      refine S_move rfl ?_
      have hs244 : Sep [] w0 (fun _ => False) w201 [(bif dN 17 then (iAc dByte (.slice A90 256 cap91) (ofs 120 120) bs92 []) else iNil), (bif dN 9 then (iAc dByte (.slice (some ⟨b87, 0, none⟩) 254 254) (List.replicate 254 (0)) [b87] []) else iNil), iAc dByte (.slice A67 (((x1.crash 0 0 [1]).read 1).1.length) cap68) (((x1.crash 0 0 [1]).read 1).1) bs69 [], iOb (obDk d59) (x1.crash 0 0 [1]) F60 [], iAc dInt (.slice (some ⟨b56, 0, none⟩) 1 1) [1] [b56] [], iAc dByte (.slice A47 (((x1.crash 1 2 ([] : List Int)).read 1).1.length) cap48) (((x1.crash 1 2 ([] : List Int)).read 1).1) bs49 [], iOb (obDk d39) (x1.crash 1 2 ([] : List Int)) F40 [], iAc dInt (.slice (some ⟨b35, 0, none⟩) 1 1) [1] [b35] [], iAc dInt (.slice A26 x1.dirty.length cap27) x1.dirty bs28 [], iAc dByte (.slice A9 256 cap10) (ofs 120 120) bs11 [], (bif dN 23 then (iOb (obDk d1) ((x1.limit 0).flush.2) F100 []) else (iOb (obDk d1) (x1.limit 0) F78 []))] := by rw [e241, e240, e242]; exact hs243
      exact WL_nil ⟨rfl, _, rfl, b87, A90, cap91, bs92, F100, hs244, v208, v209, (fun _ => rfl), v211, v212, v213, v214, v215, v216, v217, v218, v219, v220, v221, v222, v223, v224, v225, v226, v227, v228, v229, v230, v231, v232, v233, v234, v235, v236, v237, v238, v239, trivial⟩
    ·
      rintro dN vL g245 w246 ⟨b87, A90, cap91, bs92, F100, hs247, v253, v254, v255, v256, v257, v258, v259, v260, v261, v262, v263, v264, v265, v266, v267, v268, v269, v270, v271, v272, v273, v274, v275, v276, v277, v278, v279, v280, v281, v282, v283, v284, _⟩ hD248 hd249 hu250 hg251 hk252
      have e285 : dN 2 = true := hd249 2 (by decide +kernel)
      have e286 : dN 9 = false := hu250 9 (by decide +kernel)
      have e287 : dN 17 = false := hu250 17 (by decide +kernel)
      have e288 : dN 23 = false := hu250 23 (by decide +kernel)
      rw [e287, e286, e288] at hs247
      have hs289 : Sep [] w0 (fun _ => False) w246 [iNil, iNil, iAc dByte (.slice A67 (((x1.crash 0 0 [1]).read 1).1.length) cap68) (((x1.crash 0 0 [1]).read 1).1) bs69 [], iOb (obDk d59) (x1.crash 0 0 [1]) F60 [], iAc dInt (.slice (some ⟨b56, 0, none⟩) 1 1) [1] [b56] [], iAc dByte (.slice A47 (((x1.crash 1 2 ([] : List Int)).read 1).1.length) cap48) (((x1.crash 1 2 ([] : List Int)).read 1).1) bs49 [], iOb (obDk d39) (x1.crash 1 2 ([] : List Int)) F40 [], iAc dInt (.slice (some ⟨b35, 0, none⟩) 1 1) [1] [b35] [], iAc dInt (.slice A26 x1.dirty.length cap27) x1.dirty bs28 [], iAc dByte (.slice A9 256 cap10) (ofs 120 120) bs11 [], iOb (obDk d1) (x1.limit 0) F78 []] := hs247
      refine WL_at (L := [(49, errv 64 (((x1.crash 0 0 [1]).read 1).2))]) ⟨((hg251 2 49 e285 rfl).trans (v255 e285)), trivial⟩ ?_
      have hr290 : 0 ≤ (((x1.crash 0 0 [1]).read 1).2 : Int) ∧ (((x1.crash 0 0 [1]).read 1).2 : Int) ≤ 16 := (by rw [r2_eq]; decide)
      refine S_callQ Try.call11 rfl (no_ok hr290.1 hr290.2) rfl ?_
      have hs291 : Sep [] w0 (fun _ => False) w246 [(bif dN 17 then (iAc dByte (.slice A90 256 cap91) (ofs 120 120) bs92 []) else iNil), (bif dN 9 then (iAc dByte (.slice (some ⟨b87, 0, none⟩) 254 254) (List.replicate 254 (0)) [b87] []) else iNil), iAc dByte (.slice A67 (((x1.crash 0 0 [1]).read 1).1.length) cap68) (((x1.crash 0 0 [1]).read 1).1) bs69 [], iOb (obDk d59) (x1.crash 0 0 [1]) F60 [], iAc dInt (.slice (some ⟨b56, 0, none⟩) 1 1) [1] [b56] [], iAc dByte (.slice A47 (((x1.crash 1 2 ([] : List Int)).read 1).1.length) cap48) (((x1.crash 1 2 ([] : List Int)).read 1).1) bs49 [], iOb (obDk d39) (x1.crash 1 2 ([] : List Int)) F40 [], iAc dInt (.slice (some ⟨b35, 0, none⟩) 1 1) [1] [b35] [], iAc dInt (.slice A26 x1.dirty.length cap27) x1.dirty bs28 [], iAc dByte (.slice A9 256 cap10) (ofs 120 120) bs11 [], (bif dN 23 then (iOb (obDk d1) ((x1.limit 0).flush.2) F100 []) else (iOb (obDk d1) (x1.limit 0) F78 []))] := by rw [e287, e286, e288]; exact hs289
      exact WL_nil ⟨rfl, _, rfl, b87, A90, cap91, bs92, F100, hs291, v253, v254, v255, (fun _ => rfl), v257, v258, v259, v260, v261, v262, v263, v264, v265, v266, v267, v268, v269, v270, v271, v272, v273, v274, v275, v276, v277, v278, v279, v280, v281, v282, v283, v284, trivial⟩
    ·
      rintro dN vL g292 w293 ⟨b87, A90, cap91, bs92, F100, hs294, v300, v301, v302, v303, v304, v305, v306, v307, v308, v309, v310, v311, v312, v313, v314, v315, v316, v317, v318, v319, v320, v321, v322, v323, v324, v325, v326, v327, v328, v329, v330, v331, _⟩ hD295 hd296 hu297 hg298 hk299
      have e332 : dN 1 = true := hd296 1 (by decide +kernel)
      have e333 : dN 3 = true := hd296 3 (by decide +kernel)
      have e334 : dN 9 = false := hu297 9 (by decide +kernel)
      have e335 : dN 17 = false := hu297 17 (by decide +kernel)
      have e336 : dN 23 = false := hu297 23 (by decide +kernel)
      rw [e335, e334, e336] at hs294
      have hs337 : Sep [] w0 (fun _ => False) w293 [iNil, iNil, iAc dByte (.slice A67 (((x1.crash 0 0 [1]).read 1).1.length) cap68) (((x1.crash 0 0 [1]).read 1).1) bs69 [], iOb (obDk d59) (x1.crash 0 0 [1]) F60 [], iAc dInt (.slice (some ⟨b56, 0, none⟩) 1 1) [1] [b56] [], iAc dByte (.slice A47 (((x1.crash 1 2 ([] : List Int)).read 1).1.length) cap48) (((x1.crash 1 2 ([] : List Int)).read 1).1) bs49 [], iOb (obDk d39) (x1.crash 1 2 ([] : List Int)) F40 [], iAc dInt (.slice (some ⟨b35, 0, none⟩) 1 1) [1] [b35] [], iAc dInt (.slice A26 x1.dirty.length cap27) x1.dirty bs28 [], iAc dByte (.slice A9 256 cap10) (ofs 120 120) bs11 [], iOb (obDk d1) (x1.limit 0) F78 []] := hs294
      refine WL_at (L := [(48, .int .i64 (((x1.crash 1 2 ([] : List Int)).read 1).2)), (50, .int .i64 (((x1.crash 0 0 [1]).read 1).2))]) ⟨((hg298 1 48 e332 rfl).trans (v301 e332)), ((hg298 3 50 e333 rfl).trans (v303 e333)), trivial⟩ ?_
      refine S_add rfl rfl (by have h1 : ((x1.crash 1 2 []).read 1).2 = 0 := congrArg Prod.snd r1_eq; have h2 : ((x1.crash 0 0 [1]).read 1).2 = 0 := congrArg Prod.snd r2_eq; rw [h1, h2]; decide) rfl ?_
      have hs338 : Sep [] w0 (fun _ => False) w293 [(bif dN 17 then (iAc dByte (.slice A90 256 cap91) (ofs 120 120) bs92 []) else iNil), (bif dN 9 then (iAc dByte (.slice (some ⟨b87, 0, none⟩) 254 254) (List.replicate 254 (0)) [b87] []) else iNil), iAc dByte (.slice A67 (((x1.crash 0 0 [1]).read 1).1.length) cap68) (((x1.crash 0 0 [1]).read 1).1) bs69 [], iOb (obDk d59) (x1.crash 0 0 [1]) F60 [], iAc dInt (.slice (some ⟨b56, 0, none⟩) 1 1) [1] [b56] [], iAc dByte (.slice A47 (((x1.crash 1 2 ([] : List Int)).read 1).1.length) cap48) (((x1.crash 1 2 ([] : List Int)).read 1).1) bs49 [], iOb (obDk d39) (x1.crash 1 2 ([] : List Int)) F40 [], iAc dInt (.slice (some ⟨b35, 0, none⟩) 1 1) [1] [b35] [], iAc dInt (.slice A26 x1.dirty.length cap27) x1.dirty bs28 [], iAc dByte (.slice A9 256 cap10) (ofs 120 120) bs11 [], (bif dN 23 then (iOb (obDk d1) ((x1.limit 0).flush.2) F100 []) else (iOb (obDk d1) (x1.limit 0) F78 []))] := by rw [e335, e334, e336]; exact hs337
      exact WL_nil ⟨rfl, _, rfl, b87, A90, cap91, bs92, F100, hs338, v300, v301, v302, v303, (fun _ => rfl), v305, v306, v307, v308, v309, v310, v311, v312, v313, v314, v315, v316, v317, v318, v319, v320, v321, v322, v323, v324, v325, v326, v327, v328, v329, v330, v331, trivial⟩
    ·
      rintro dN vL g339 w340 ⟨b87, A90, cap91, bs92, F100, hs341, v347, v348, v349, v350, v351, v352, v353, v354, v355, v356, v357, v358, v359, v360, v361, v362, v363, v364, v365, v366, v367, v368, v369, v370, v371, v372, v373, v374, v375, v376, v377, v378, _⟩ hD342 hd343 hu344 hg345 hk346
      have e379 : dN 4 = true := hd343 4 (by decide +kernel)
      have e380 : dN 9 = false := hu344 9 (by decide +kernel)
      have e381 : dN 17 = false := hu344 17 (by decide +kernel)
      have e382 : dN 23 = false := hu344 23 (by decide +kernel)
      rw [e381, e380, e382] at hs341
      have hs383 : Sep [] w0 (fun _ => False) w340 [iNil, iNil, iAc dByte (.slice A67 (((x1.crash 0 0 [1]).read 1).1.length) cap68) (((x1.crash 0 0 [1]).read 1).1) bs69 [], iOb (obDk d59) (x1.crash 0 0 [1]) F60 [], iAc dInt (.slice (some ⟨b56, 0, none⟩) 1 1) [1] [b56] [], iAc dByte (.slice A47 (((x1.crash 1 2 ([] : List Int)).read 1).1.length) cap48) (((x1.crash 1 2 ([] : List Int)).read 1).1) bs49 [], iOb (obDk d39) (x1.crash 1 2 ([] : List Int)) F40 [], iAc dInt (.slice (some ⟨b35, 0, none⟩) 1 1) [1] [b35] [], iAc dInt (.slice A26 x1.dirty.length cap27) x1.dirty bs28 [], iAc dByte (.slice A9 256 cap10) (ofs 120 120) bs11 [], iOb (obDk d1) (x1.limit 0) F78 []] := hs341
      refine WL_at (L := [(51, .int .i64 (((x1.crash 1 2 ([] : List Int)).read 1).2 + (((x1.crash 0 0 [1]).read 1).2)))]) ⟨((hg345 4 51 e379 rfl).trans (v351 e379)), trivial⟩ ?_
      refine S_eql rfl rfl rfl ?_
      refine WL_conv (congrArg Value.bool (decide_eq_true (by rw [r1_eq, r2_eq]; rfl))) ?_
      have hs384 : Sep [] w0 (fun _ => False) w340 [(bif dN 17 then (iAc dByte (.slice A90 256 cap91) (ofs 120 120) bs92 []) else iNil), (bif dN 9 then (iAc dByte (.slice (some ⟨b87, 0, none⟩) 254 254) (List.replicate 254 (0)) [b87] []) else iNil), iAc dByte (.slice A67 (((x1.crash 0 0 [1]).read 1).1.length) cap68) (((x1.crash 0 0 [1]).read 1).1) bs69 [], iOb (obDk d59) (x1.crash 0 0 [1]) F60 [], iAc dInt (.slice (some ⟨b56, 0, none⟩) 1 1) [1] [b56] [], iAc dByte (.slice A47 (((x1.crash 1 2 ([] : List Int)).read 1).1.length) cap48) (((x1.crash 1 2 ([] : List Int)).read 1).1) bs49 [], iOb (obDk d39) (x1.crash 1 2 ([] : List Int)) F40 [], iAc dInt (.slice (some ⟨b35, 0, none⟩) 1 1) [1] [b35] [], iAc dInt (.slice A26 x1.dirty.length cap27) x1.dirty bs28 [], iAc dByte (.slice A9 256 cap10) (ofs 120 120) bs11 [], (bif dN 23 then (iOb (obDk d1) ((x1.limit 0).flush.2) F100 []) else (iOb (obDk d1) (x1.limit 0) F78 []))] := by rw [e381, e380, e382]; exact hs383
      exact WL_nil ⟨rfl, _, rfl, b87, A90, cap91, bs92, F100, hs384, v347, v348, v349, v350, v351, (fun _ => rfl), v353, v354, v355, v356, v357, v358, v359, v360, v361, v362, v363, v364, v365, v366, v367, v368, v369, v370, v371, v372, v373, v374, v375, v376, v377, v378, trivial⟩
    ·
      rintro dN vL g385 w386 ⟨b87, A90, cap91, bs92, F100, hs387, v393, v394, v395, v396, v397, v398, v399, v400, v401, v402, v403, v404, v405, v406, v407, v408, v409, v410, v411, v412, v413, v414, v415, v416, v417, v418, v419, v420, v421, v422, v423, v424, _⟩ hD388 hd389 hu390 hg391 hk392
      have e425 : dN 5 = true := hd389 5 (by decide +kernel)
      have e426 : dN 9 = false := hu390 9 (by decide +kernel)
      have e427 : dN 17 = false := hu390 17 (by decide +kernel)
      have e428 : dN 23 = false := hu390 23 (by decide +kernel)
      rw [e427, e426, e428] at hs387
      have hs429 : Sep [] w0 (fun _ => False) w386 [iNil, iNil, iAc dByte (.slice A67 (((x1.crash 0 0 [1]).read 1).1.length) cap68) (((x1.crash 0 0 [1]).read 1).1) bs69 [], iOb (obDk d59) (x1.crash 0 0 [1]) F60 [], iAc dInt (.slice (some ⟨b56, 0, none⟩) 1 1) [1] [b56] [], iAc dByte (.slice A47 (((x1.crash 1 2 ([] : List Int)).read 1).1.length) cap48) (((x1.crash 1 2 ([] : List Int)).read 1).1) bs49 [], iOb (obDk d39) (x1.crash 1 2 ([] : List Int)) F40 [], iAc dInt (.slice (some ⟨b35, 0, none⟩) 1 1) [1] [b35] [], iAc dInt (.slice A26 x1.dirty.length cap27) x1.dirty bs28 [], iAc dByte (.slice A9 256 cap10) (ofs 120 120) bs11 [], iOb (obDk d1) (x1.limit 0) F78 []] := hs387
      refine WL_at (L := [(52, .bool true)]) ⟨((hg391 5 52 e425 rfl).trans (v398 e425)), trivial⟩ ?_
      refine S_move rfl ?_
      have hs430 : Sep [] w0 (fun _ => False) w386 [(bif dN 17 then (iAc dByte (.slice A90 256 cap91) (ofs 120 120) bs92 []) else iNil), (bif dN 9 then (iAc dByte (.slice (some ⟨b87, 0, none⟩) 254 254) (List.replicate 254 (0)) [b87] []) else iNil), iAc dByte (.slice A67 (((x1.crash 0 0 [1]).read 1).1.length) cap68) (((x1.crash 0 0 [1]).read 1).1) bs69 [], iOb (obDk d59) (x1.crash 0 0 [1]) F60 [], iAc dInt (.slice (some ⟨b56, 0, none⟩) 1 1) [1] [b56] [], iAc dByte (.slice A47 (((x1.crash 1 2 ([] : List Int)).read 1).1.length) cap48) (((x1.crash 1 2 ([] : List Int)).read 1).1) bs49 [], iOb (obDk d39) (x1.crash 1 2 ([] : List Int)) F40 [], iAc dInt (.slice (some ⟨b35, 0, none⟩) 1 1) [1] [b35] [], iAc dInt (.slice A26 x1.dirty.length cap27) x1.dirty bs28 [], iAc dByte (.slice A9 256 cap10) (ofs 120 120) bs11 [], (bif dN 23 then (iOb (obDk d1) ((x1.limit 0).flush.2) F100 []) else (iOb (obDk d1) (x1.limit 0) F78 []))] := by rw [e427, e426, e428]; exact hs429
      exact WL_nil ⟨rfl, _, rfl, b87, A90, cap91, bs92, F100, hs430, v393, v394, v395, v396, v397, v398, (fun _ => rfl), v400, v401, v402, v403, v404, v405, v406, v407, v408, v409, v410, v411, v412, v413, v414, v415, v416, v417, v418, v419, v420, v421, v422, v423, v424, trivial⟩
    ·
      rintro dN vL g431 w432 ⟨b87, A90, cap91, bs92, F100, hs433, v439, v440, v441, v442, v443, v444, v445, v446, v447, v448, v449, v450, v451, v452, v453, v454, v455, v456, v457, v458, v459, v460, v461, v462, v463, v464, v465, v466, v467, v468, v469, v470, _⟩ hD434 hd435 hu436 hg437 hk438
      have e471 : dN 6 = true := hd435 6 (by decide +kernel)
      have e472 : dN 17 = false := hu436 17 (by decide +kernel)
      have e473 : dN 23 = false := hu436 23 (by decide +kernel)
      rw [e472, e473] at hs433
      have hs474 : Sep [] w0 (fun _ => False) w432 [iNil, (bif dN 9 then (iAc dByte (.slice (some ⟨b87, 0, none⟩) 254 254) (List.replicate 254 (0)) [b87] []) else iNil), iAc dByte (.slice A67 (((x1.crash 0 0 [1]).read 1).1.length) cap68) (((x1.crash 0 0 [1]).read 1).1) bs69 [], iOb (obDk d59) (x1.crash 0 0 [1]) F60 [], iAc dInt (.slice (some ⟨b56, 0, none⟩) 1 1) [1] [b56] [], iAc dByte (.slice A47 (((x1.crash 1 2 ([] : List Int)).read 1).1.length) cap48) (((x1.crash 1 2 ([] : List Int)).read 1).1) bs49 [], iOb (obDk d39) (x1.crash 1 2 ([] : List Int)) F40 [], iAc dInt (.slice (some ⟨b35, 0, none⟩) 1 1) [1] [b35] [], iAc dInt (.slice A26 x1.dirty.length cap27) x1.dirty bs28 [], iAc dByte (.slice A9 256 cap10) (ofs 120 120) bs11 [], iOb (obDk d1) (x1.limit 0) F78 []] := hs433
      refine WL_at (L := [(3, .slice A47 (((x1.crash 1 2 ([] : List Int)).read 1).1.length) cap48), (53, .bool true)]) ⟨(hk438 3 (by decide +kernel)), ((hg437 6 53 e471 rfl).trans (v445 e471)), trivial⟩ ?_
      refine WL_on rfl rfl rfl ?_
      refine S_move rfl ?_
      have hs475 : Sep [] w0 (fun _ => False) w432 [(bif dN 17 then (iAc dByte (.slice A90 256 cap91) (ofs 120 120) bs92 []) else iNil), (bif dN 9 then (iAc dByte (.slice (some ⟨b87, 0, none⟩) 254 254) (List.replicate 254 (0)) [b87] []) else iNil), iAc dByte (.slice A67 (((x1.crash 0 0 [1]).read 1).1.length) cap68) (((x1.crash 0 0 [1]).read 1).1) bs69 [], iOb (obDk d59) (x1.crash 0 0 [1]) F60 [], iAc dInt (.slice (some ⟨b56, 0, none⟩) 1 1) [1] [b56] [], iAc dByte (.slice A47 (((x1.crash 1 2 ([] : List Int)).read 1).1.length) cap48) (((x1.crash 1 2 ([] : List Int)).read 1).1) bs49 [], iOb (obDk d39) (x1.crash 1 2 ([] : List Int)) F40 [], iAc dInt (.slice (some ⟨b35, 0, none⟩) 1 1) [1] [b35] [], iAc dInt (.slice A26 x1.dirty.length cap27) x1.dirty bs28 [], iAc dByte (.slice A9 256 cap10) (ofs 120 120) bs11 [], (bif dN 23 then (iOb (obDk d1) ((x1.limit 0).flush.2) F100 []) else (iOb (obDk d1) (x1.limit 0) F78 []))] := by rw [e472, e473]; exact hs474
      exact WL_nil ⟨rfl, _, rfl, b87, A90, cap91, bs92, F100, hs475, v439, v440, v441, v442, v443, v444, v445, (fun _ => rfl), v447, v448, v449, v450, v451, v452, v453, v454, v455, v456, v457, v458, v459, v460, v461, v462, v463, v464, v465, v466, v467, v468, v469, v470, trivial⟩
    ·
      rintro dN vL g476 w477 ⟨b87, A90, cap91, bs92, F100, hs478, v484, v485, v486, v487, v488, v489, v490, v491, v492, v493, v494, v495, v496, v497, v498, v499, v500, v501, v502, v503, v504, v505, v506, v507, v508, v509, v510, v511, v512, v513, v514, v515, _⟩ hD479 hd480 hu481 hg482 hk483
      have e516 : dN 6 = true := hd480 6 (by decide +kernel)
      have e517 : dN 7 = true := hd480 7 (by decide +kernel)
      have e518 : dN 17 = false := hu481 17 (by decide +kernel)
      have e519 : dN 23 = false := hu481 23 (by decide +kernel)
      rw [e518, e519] at hs478
      have hs520 : Sep [] w0 (fun _ => False) w477 [iNil, (bif dN 9 then (iAc dByte (.slice (some ⟨b87, 0, none⟩) 254 254) (List.replicate 254 (0)) [b87] []) else iNil), iAc dByte (.slice A67 (((x1.crash 0 0 [1]).read 1).1.length) cap68) (((x1.crash 0 0 [1]).read 1).1) bs69 [], iOb (obDk d59) (x1.crash 0 0 [1]) F60 [], iAc dInt (.slice (some ⟨b56, 0, none⟩) 1 1) [1] [b56] [], iAc dByte (.slice A47 (((x1.crash 1 2 ([] : List Int)).read 1).1.length) cap48) (((x1.crash 1 2 ([] : List Int)).read 1).1) bs49 [], iOb (obDk d39) (x1.crash 1 2 ([] : List Int)) F40 [], iAc dInt (.slice (some ⟨b35, 0, none⟩) 1 1) [1] [b35] [], iAc dInt (.slice A26 x1.dirty.length cap27) x1.dirty bs28 [], iAc dByte (.slice A9 256 cap10) (ofs 120 120) bs11 [], iOb (obDk d1) (x1.limit 0) F78 []] := hs478
      refine WL_at (L := [(53, .bool true), (54, .slice A47 (((x1.crash 1 2 ([] : List Int)).read 1).1.length) cap48)]) ⟨((hg482 6 53 e516 rfl).trans (v490 e516)), ((hg482 7 54 e517 rfl).trans (v491 e517)), trivial⟩ ?_
      refine WL_on rfl rfl rfl ?_
      refine S_bytesStr Try.runUnderlying47 Try.runUnderlying9 Try.runUnderlying5 (Src.ac (hs520.at 5 rfl)) rfl ?_
      have hs521 : Sep [] w0 (fun _ => False) w477 [(bif dN 17 then (iAc dByte (.slice A90 256 cap91) (ofs 120 120) bs92 []) else iNil), (bif dN 9 then (iAc dByte (.slice (some ⟨b87, 0, none⟩) 254 254) (List.replicate 254 (0)) [b87] []) else iNil), iAc dByte (.slice A67 (((x1.crash 0 0 [1]).read 1).1.length) cap68) (((x1.crash 0 0 [1]).read 1).1) bs69 [], iOb (obDk d59) (x1.crash 0 0 [1]) F60 [], iAc dInt (.slice (some ⟨b56, 0, none⟩) 1 1) [1] [b56] [], iAc dByte (.slice A47 (((x1.crash 1 2 ([] : List Int)).read 1).1.length) cap48) (((x1.crash 1 2 ([] : List Int)).read 1).1) bs49 [], iOb (obDk d39) (x1.crash 1 2 ([] : List Int)) F40 [], iAc dInt (.slice (some ⟨b35, 0, none⟩) 1 1) [1] [b35] [], iAc dInt (.slice A26 x1.dirty.length cap27) x1.dirty bs28 [], iAc dByte (.slice A9 256 cap10) (ofs 120 120) bs11 [], (bif dN 23 then (iOb (obDk d1) ((x1.limit 0).flush.2) F100 []) else (iOb (obDk d1) (x1.limit 0) F78 []))] := by rw [e518, e519]; exact hs520
      exact WL_nil ⟨rfl, _, rfl, b87, A90, cap91, bs92, F100, hs521, v484, v485, v486, v487, v488, v489, v490, v491, (fun _ => rfl), v493, v494, v495, v496, v497, v498, v499, v500, v501, v502, v503, v504, v505, v506, v507, v508, v509, v510, v511, v512, v513, v514, v515, trivial⟩
    ·
      rintro dN vL g522 w523 ⟨b87, A90, cap91, bs92, F100, hs524, v530, v531, v532, v533, v534, v535, v536, v537, v538, v539, v540, v541, v542, v543, v544, v545, v546, v547, v548, v549, v550, v551, v552, v553, v554, v555, v556, v557, v558, v559, v560, v561, _⟩ hD525 hd526 hu527 hg528 hk529
      have e562 : dN 6 = true := hd526 6 (by decide +kernel)
      have e563 : dN 9 = false := hD525
      have e564 : dN 17 = false := hu527 17 (by decide +kernel)
      have e565 : dN 23 = false := hu527 23 (by decide +kernel)
      rw [e564, e563, e565] at hs524
      have hs566 : Sep [] w0 (fun _ => False) w523 [iNil, iNil, iAc dByte (.slice A67 (((x1.crash 0 0 [1]).read 1).1.length) cap68) (((x1.crash 0 0 [1]).read 1).1) bs69 [], iOb (obDk d59) (x1.crash 0 0 [1]) F60 [], iAc dInt (.slice (some ⟨b56, 0, none⟩) 1 1) [1] [b56] [], iAc dByte (.slice A47 (((x1.crash 1 2 ([] : List Int)).read 1).1.length) cap48) (((x1.crash 1 2 ([] : List Int)).read 1).1) bs49 [], iOb (obDk d39) (x1.crash 1 2 ([] : List Int)) F40 [], iAc dInt (.slice (some ⟨b35, 0, none⟩) 1 1) [1] [b35] [], iAc dInt (.slice A26 x1.dirty.length cap27) x1.dirty bs28 [], iAc dByte (.slice A9 256 cap10) (ofs 120 120) bs11 [], iOb (obDk d1) (x1.limit 0) F78 []] := hs524
      refine WL_at (L := [(53, .bool true)]) ⟨((hg528 6 53 e562 rfl).trans (v536 e562)), trivial⟩ ?_
      refine WL_on rfl rfl rfl ?_
      refine Z_makeSlice (r := dByte) (zc := [bv 0]) (zx := 0) hs566 Try.runUnderlying47 Try.typeInfo5 Try.sizeOf5 Try.zeroValue5 rfl rfl (by decide) (fun _ _ => rfl) rfl rfl (by omega) (by decide) (by omega) rfl ?_
      intro b567 w568 hs569
      have hs569 : Sep [] w0 (fun _ => False) w568 [iAc dByte (.slice (some ⟨b567, 0, none⟩) 254 254) (List.replicate 254 (0)) [b567] [], iNil, iNil, iAc dByte (.slice A67 (((x1.crash 0 0 [1]).read 1).1.length) cap68) (((x1.crash 0 0 [1]).read 1).1) bs69 [], iOb (obDk d59) (x1.crash 0 0 [1]) F60 [], iAc dInt (.slice (some ⟨b56, 0, none⟩) 1 1) [1] [b56] [], iAc dByte (.slice A47 (((x1.crash 1 2 ([] : List Int)).read 1).1.length) cap48) (((x1.crash 1 2 ([] : List Int)).read 1).1) bs49 [], iOb (obDk d39) (x1.crash 1 2 ([] : List Int)) F40 [], iAc dInt (.slice (some ⟨b35, 0, none⟩) 1 1) [1] [b35] [], iAc dInt (.slice A26 x1.dirty.length cap27) x1.dirty bs28 [], iAc dByte (.slice A9 256 cap10) (ofs 120 120) bs11 [], iOb (obDk d1) (x1.limit 0) F78 []] := hs569
      have hs570 : Sep [] w0 (fun _ => False) w568 [(bif dN 17 then (iAc dByte (.slice A90 256 cap91) (ofs 120 120) bs92 []) else iNil), iAc dByte (.slice (some ⟨b567, 0, none⟩) 254 254) (List.replicate 254 (0)) [b567] [], iAc dByte (.slice A67 (((x1.crash 0 0 [1]).read 1).1.length) cap68) (((x1.crash 0 0 [1]).read 1).1) bs69 [], iOb (obDk d59) (x1.crash 0 0 [1]) F60 [], iAc dInt (.slice (some ⟨b56, 0, none⟩) 1 1) [1] [b56] [], iAc dByte (.slice A47 (((x1.crash 1 2 ([] : List Int)).read 1).1.length) cap48) (((x1.crash 1 2 ([] : List Int)).read 1).1) bs49 [], iOb (obDk d39) (x1.crash 1 2 ([] : List Int)) F40 [], iAc dInt (.slice (some ⟨b35, 0, none⟩) 1 1) [1] [b35] [], iAc dInt (.slice A26 x1.dirty.length cap27) x1.dirty bs28 [], iAc dByte (.slice A9 256 cap10) (ofs 120 120) bs11 [], (bif dN 23 then (iOb (obDk d1) ((x1.limit 0).flush.2) F100 []) else (iOb (obDk d1) (x1.limit 0) F78 []))] := by rw [e564, e565]; exact (hs569.pick [1, 0, 3, 4, 5, 6, 7, 8, 9, 10, 11] rfl (by decide) rfl)
      exact WL_nil ⟨rfl, _, rfl, b567, A90, cap91, bs92, F100, hs570, v530, v531, v532, v533, v534, v535, v536, v537, v538, (fun _ => rfl), v540, v541, v542, v543, v544, v545, v546, v547, v548, v549, v550, v551, v552, v553, v554, v555, v556, v557, v558, v559, v560, v561, trivial⟩
    ·
      rintro dN vL g571 w572 ⟨b87, A90, cap91, bs92, F100, hs573, v579, v580, v581, v582, v583, v584, v585, v586, v587, v588, v589, v590, v591, v592, v593, v594, v595, v596, v597, v598, v599, v600, v601, v602, v603, v604, v605, v606, v607, v608, v609, v610, _⟩ hD574 hd575 hu576 hg577 hk578
      have e611 : dN 6 = true := hd575 6 (by decide +kernel)
      have e612 : dN 9 = true := hd575 9 (by decide +kernel)
      have e613 : dN 17 = false := hu576 17 (by decide +kernel)
      have e614 : dN 23 = false := hu576 23 (by decide +kernel)
      rw [e613, e612, e614] at hs573
      have hs615 : Sep [] w0 (fun _ => False) w572 [iNil, iAc dByte (.slice (some ⟨b87, 0, none⟩) 254 254) (List.replicate 254 (0)) [b87] [], iAc dByte (.slice A67 (((x1.crash 0 0 [1]).read 1).1.length) cap68) (((x1.crash 0 0 [1]).read 1).1) bs69 [], iOb (obDk d59) (x1.crash 0 0 [1]) F60 [], iAc dInt (.slice (some ⟨b56, 0, none⟩) 1 1) [1] [b56] [], iAc dByte (.slice A47 (((x1.crash 1 2 ([] : List Int)).read 1).1.length) cap48) (((x1.crash 1 2 ([] : List Int)).read 1).1) bs49 [], iOb (obDk d39) (x1.crash 1 2 ([] : List Int)) F40 [], iAc dInt (.slice (some ⟨b35, 0, none⟩) 1 1) [1] [b35] [], iAc dInt (.slice A26 x1.dirty.length cap27) x1.dirty bs28 [], iAc dByte (.slice A9 256 cap10) (ofs 120 120) bs11 [], iOb (obDk d1) (x1.limit 0) F78 []] := hs573
      refine WL_at (L := [(53, .bool true), (56, .slice (some ⟨b87, 0, none⟩) 254 254)]) ⟨((hg577 6 53 e611 rfl).trans (v585 e611)), ((hg577 9 56 e612 rfl).trans (v588 e612)), trivial⟩ ?_
      refine WL_on rfl rfl rfl ?_
      refine S_bytesStr Try.runUnderlying47 Try.runUnderlying9 Try.runUnderlying5 (Src.ac (hs615.at 1 rfl)) rfl ?_
      have hs616 : Sep [] w0 (fun _ => False) w572 [(bif dN 17 then (iAc dByte (.slice A90 256 cap91) (ofs 120 120) bs92 []) else iNil), (bif dN 9 then (iAc dByte (.slice (some ⟨b87, 0, none⟩) 254 254) (List.replicate 254 (0)) [b87] []) else iNil), iAc dByte (.slice A67 (((x1.crash 0 0 [1]).read 1).1.length) cap68) (((x1.crash 0 0 [1]).read 1).1) bs69 [], iOb (obDk d59) (x1.crash 0 0 [1]) F60 [], iAc dInt (.slice (some ⟨b56, 0, none⟩) 1 1) [1] [b56] [], iAc dByte (.slice A47 (((x1.crash 1 2 ([] : List Int)).read 1).1.length) cap48) (((x1.crash 1 2 ([] : List Int)).read 1).1) bs49 [], iOb (obDk d39) (x1.crash 1 2 ([] : List Int)) F40 [], iAc dInt (.slice (some ⟨b35, 0, none⟩) 1 1) [1] [b35] [], iAc dInt (.slice A26 x1.dirty.length cap27) x1.dirty bs28 [], iAc dByte (.slice A9 256 cap10) (ofs 120 120) bs11 [], (bif dN 23 then (iOb (obDk d1) ((x1.limit 0).flush.2) F100 []) else (iOb (obDk d1) (x1.limit 0) F78 []))] := by rw [e613, e612, e614]; exact hs615
      exact WL_nil ⟨rfl, _, rfl, b87, A90, cap91, bs92, F100, hs616, v579, v580, v581, v582, v583, v584, v585, v586, v587, v588, (fun _ => rfl), v590, v591, v592, v593, v594, v595, v596, v597, v598, v599, v600, v601, v602, v603, v604, v605, v606, v607, v608, v609, v610, trivial⟩
    ·
      rintro dN vL g617 w618 ⟨b87, A90, cap91, bs92, F100, hs619, v625, v626, v627, v628, v629, v630, v631, v632, v633, v634, v635, v636, v637, v638, v639, v640, v641, v642, v643, v644, v645, v646, v647, v648, v649, v650, v651, v652, v653, v654, v655, v656, _⟩ hD620 hd621 hu622 hg623 hk624
      have e657 : dN 6 = true := hd621 6 (by decide +kernel)
      have e658 : dN 9 = true := hd621 9 (by decide +kernel)
      have e659 : dN 10 = true := hd621 10 (by decide +kernel)
      have e660 : dN 17 = false := hu622 17 (by decide +kernel)
      have e661 : dN 23 = false := hu622 23 (by decide +kernel)
      rw [e660, e658, e661] at hs619
      have hs662 : Sep [] w0 (fun _ => False) w618 [iNil, iAc dByte (.slice (some ⟨b87, 0, none⟩) 254 254) (List.replicate 254 (0)) [b87] [], iAc dByte (.slice A67 (((x1.crash 0 0 [1]).read 1).1.length) cap68) (((x1.crash 0 0 [1]).read 1).1) bs69 [], iOb (obDk d59) (x1.crash 0 0 [1]) F60 [], iAc dInt (.slice (some ⟨b56, 0, none⟩) 1 1) [1] [b56] [], iAc dByte (.slice A47 (((x1.crash 1 2 ([] : List Int)).read 1).1.length) cap48) (((x1.crash 1 2 ([] : List Int)).read 1).1) bs49 [], iOb (obDk d39) (x1.crash 1 2 ([] : List Int)) F40 [], iAc dInt (.slice (some ⟨b35, 0, none⟩) 1 1) [1] [b35] [], iAc dInt (.slice A26 x1.dirty.length cap27) x1.dirty bs28 [], iAc dByte (.slice A9 256 cap10) (ofs 120 120) bs11 [], iOb (obDk d1) (x1.limit 0) F78 []] := hs619
      refine WL_at (L := [(53, .bool true), (57, sv (List.replicate 254 (0)))]) ⟨((hg623 6 53 e657 rfl).trans (v631 e657)), ((hg623 10 57 e659 rfl).trans (v635 e659)), trivial⟩ ?_
      refine WL_on rfl rfl rfl ?_
      refine S_addS rfl rfl (by rw [List.length_replicate]; decide) rfl ?_
      have hs663 : Sep [] w0 (fun _ => False) w618 [(bif dN 17 then (iAc dByte (.slice A90 256 cap91) (ofs 120 120) bs92 []) else iNil), (bif dN 9 then (iAc dByte (.slice (some ⟨b87, 0, none⟩) 254 254) (List.replicate 254 (0)) [b87] []) else iNil), iAc dByte (.slice A67 (((x1.crash 0 0 [1]).read 1).1.length) cap68) (((x1.crash 0 0 [1]).read 1).1) bs69 [], iOb (obDk d59) (x1.crash 0 0 [1]) F60 [], iAc dInt (.slice (some ⟨b56, 0, none⟩) 1 1) [1] [b56] [], iAc dByte (.slice A47 (((x1.crash 1 2 ([] : List Int)).read 1).1.length) cap48) (((x1.crash 1 2 ([] : List Int)).read 1).1) bs49 [], iOb (obDk d39) (x1.crash 1 2 ([] : List Int)) F40 [], iAc dInt (.slice (some ⟨b35, 0, none⟩) 1 1) [1] [b35] [], iAc dInt (.slice A26 x1.dirty.length cap27) x1.dirty bs28 [], iAc dByte (.slice A9 256 cap10) (ofs 120 120) bs11 [], (bif dN 23 then (iOb (obDk d1) ((x1.limit 0).flush.2) F100 []) else (iOb (obDk d1) (x1.limit 0) F78 []))] := by rw [e660, e658, e661]; exact hs662
      exact WL_nil ⟨rfl, _, rfl, b87, A90, cap91, bs92, F100, hs663, v625, v626, v627, v628, v629, v630, v631, v632, v633, v634, v635, (fun _ => rfl), v637, v638, v639, v640, v641, v642, v643, v644, v645, v646, v647, v648, v649, v650, v651, v652, v653, v654, v655, v656, trivial⟩
    ·
      rintro dN vL g664 w665 ⟨b87, A90, cap91, bs92, F100, hs666, v672, v673, v674, v675, v676, v677, v678, v679, v680, v681, v682, v683, v684, v685, v686, v687, v688, v689, v690, v691, v692, v693, v694, v695, v696, v697, v698, v699, v700, v701, v702, v703, _⟩ hD667 hd668 hu669 hg670 hk671
      have e704 : dN 6 = true := hd668 6 (by decide +kernel)
      have e705 : dN 8 = true := hd668 8 (by decide +kernel)
      have e706 : dN 9 = true := hd668 9 (by decide +kernel)
      have e707 : dN 11 = true := hd668 11 (by decide +kernel)
      have e708 : dN 17 = false := hu669 17 (by decide +kernel)
      have e709 : dN 23 = false := hu669 23 (by decide +kernel)
      rw [e708, e706, e709] at hs666
      have hs710 : Sep [] w0 (fun _ => False) w665 [iNil, iAc dByte (.slice (some ⟨b87, 0, none⟩) 254 254) (List.replicate 254 (0)) [b87] [], iAc dByte (.slice A67 (((x1.crash 0 0 [1]).read 1).1.length) cap68) (((x1.crash 0 0 [1]).read 1).1) bs69 [], iOb (obDk d59) (x1.crash 0 0 [1]) F60 [], iAc dInt (.slice (some ⟨b56, 0, none⟩) 1 1) [1] [b56] [], iAc dByte (.slice A47 (((x1.crash 1 2 ([] : List Int)).read 1).1.length) cap48) (((x1.crash 1 2 ([] : List Int)).read 1).1) bs49 [], iOb (obDk d39) (x1.crash 1 2 ([] : List Int)) F40 [], iAc dInt (.slice (some ⟨b35, 0, none⟩) 1 1) [1] [b35] [], iAc dInt (.slice A26 x1.dirty.length cap27) x1.dirty bs28 [], iAc dByte (.slice A9 256 cap10) (ofs 120 120) bs11 [], iOb (obDk d1) (x1.limit 0) F78 []] := hs666
      refine WL_at (L := [(53, .bool true), (55, sv (((x1.crash 1 2 ([] : List Int)).read 1).1)), (58, sv ([120, 120] ++ (List.replicate 254 (0))))]) ⟨((hg670 6 53 e704 rfl).trans (v678 e704)), ((hg670 8 55 e705 rfl).trans (v680 e705)), ((hg670 11 58 e707 rfl).trans (v683 e707)), trivial⟩ ?_
      refine WL_on rfl rfl rfl ?_
      refine S_eqlS rfl rfl rfl ?_
      refine WL_conv (congrArg Value.bool (decide_eq_true (by rw [r1_eq]))) ?_
      have hs711 : Sep [] w0 (fun _ => False) w665 [(bif dN 17 then (iAc dByte (.slice A90 256 cap91) (ofs 120 120) bs92 []) else iNil), (bif dN 9 then (iAc dByte (.slice (some ⟨b87, 0, none⟩) 254 254) (List.replicate 254 (0)) [b87] []) else iNil), iAc dByte (.slice A67 (((x1.crash 0 0 [1]).read 1).1.length) cap68) (((x1.crash 0 0 [1]).read 1).1) bs69 [], iOb (obDk d59) (x1.crash 0 0 [1]) F60 [], iAc dInt (.slice (some ⟨b56, 0, none⟩) 1 1) [1] [b56] [], iAc dByte (.slice A47 (((x1.crash 1 2 ([] : List Int)).read 1).1.length) cap48) (((x1.crash 1 2 ([] : List Int)).read 1).1) bs49 [], iOb (obDk d39) (x1.crash 1 2 ([] : List Int)) F40 [], iAc dInt (.slice (some ⟨b35, 0, none⟩) 1 1) [1] [b35] [], iAc dInt (.slice A26 x1.dirty.length cap27) x1.dirty bs28 [], iAc dByte (.slice A9 256 cap10) (ofs 120 120) bs11 [], (bif dN 23 then (iOb (obDk d1) ((x1.limit 0).flush.2) F100 []) else (iOb (obDk d1) (x1.limit 0) F78 []))] := by rw [e708, e706, e709]; exact hs710
      exact WL_nil ⟨rfl, _, rfl, b87, A90, cap91, bs92, F100, hs711, v672, v673, v674, v675, v676, v677, v678, v679, v680, v681, v682, v683, (fun _ => rfl), v685, v686, v687, v688, v689, v690, v691, v692, v693, v694, v695, v696, v697, v698, v699, v700, v701, v702, v703, trivial⟩
    ·
      rintro dN vL g712 w713 ⟨b87, A90, cap91, bs92, F100, hs714, v720, v721, v722, v723, v724, v725, v726, v727, v728, v729, v730, v731, v732, v733, v734, v735, v736, v737, v738, v739, v740, v741, v742, v743, v744, v745, v746, v747, v748, v749, v750, v751, _⟩ hD715 hd716 hu717 hg718 hk719
      have e752 : dN 6 = true := hd716 6 (by decide +kernel)
      have e753 : dN 9 = true := hd716 9 (by decide +kernel)
      have e754 : dN 12 = true := hd716 12 (by decide +kernel)
      have e755 : dN 17 = false := hu717 17 (by decide +kernel)
      have e756 : dN 23 = false := hu717 23 (by decide +kernel)
      rw [e755, e753, e756] at hs714
      have hs757 : Sep [] w0 (fun _ => False) w713 [iNil, iAc dByte (.slice (some ⟨b87, 0, none⟩) 254 254) (List.replicate 254 (0)) [b87] [], iAc dByte (.slice A67 (((x1.crash 0 0 [1]).read 1).1.length) cap68) (((x1.crash 0 0 [1]).read 1).1) bs69 [], iOb (obDk d59) (x1.crash 0 0 [1]) F60 [], iAc dInt (.slice (some ⟨b56, 0, none⟩) 1 1) [1] [b56] [], iAc dByte (.slice A47 (((x1.crash 1 2 ([] : List Int)).read 1).1.length) cap48) (((x1.crash 1 2 ([] : List Int)).read 1).1) bs49 [], iOb (obDk d39) (x1.crash 1 2 ([] : List Int)) F40 [], iAc dInt (.slice (some ⟨b35, 0, none⟩) 1 1) [1] [b35] [], iAc dInt (.slice A26 x1.dirty.length cap27) x1.dirty bs28 [], iAc dByte (.slice A9 256 cap10) (ofs 120 120) bs11 [], iOb (obDk d1) (x1.limit 0) F78 []] := hs714
      refine WL_at (L := [(53, .bool true), (59, .bool true)]) ⟨((hg718 6 53 e752 rfl).trans (v726 e752)), ((hg718 12 59 e754 rfl).trans (v732 e754)), trivial⟩ ?_
      refine S_pick_t rfl rfl ?_
      have hs758 : Sep [] w0 (fun _ => False) w713 [(bif dN 17 then (iAc dByte (.slice A90 256 cap91) (ofs 120 120) bs92 []) else iNil), (bif dN 9 then (iAc dByte (.slice (some ⟨b87, 0, none⟩) 254 254) (List.replicate 254 (0)) [b87] []) else iNil), iAc dByte (.slice A67 (((x1.crash 0 0 [1]).read 1).1.length) cap68) (((x1.crash 0 0 [1]).read 1).1) bs69 [], iOb (obDk d59) (x1.crash 0 0 [1]) F60 [], iAc dInt (.slice (some ⟨b56, 0, none⟩) 1 1) [1] [b56] [], iAc dByte (.slice A47 (((x1.crash 1 2 ([] : List Int)).read 1).1.length) cap48) (((x1.crash 1 2 ([] : List Int)).read 1).1) bs49 [], iOb (obDk d39) (x1.crash 1 2 ([] : List Int)) F40 [], iAc dInt (.slice (some ⟨b35, 0, none⟩) 1 1) [1] [b35] [], iAc dInt (.slice A26 x1.dirty.length cap27) x1.dirty bs28 [], iAc dByte (.slice A9 256 cap10) (ofs 120 120) bs11 [], (bif dN 23 then (iOb (obDk d1) ((x1.limit 0).flush.2) F100 []) else (iOb (obDk d1) (x1.limit 0) F78 []))] := by rw [e755, e753, e756]; exact hs757
      exact WL_nil ⟨rfl, _, rfl, b87, A90, cap91, bs92, F100, hs758, v720, v721, v722, v723, v724, v725, v726, v727, v728, v729, v730, v731, v732, (fun _ => rfl), v734, v735, v736, v737, v738, v739, v740, v741, v742, v743, v744, v745, v746, v747, v748, v749, v750, v751, trivial⟩
    ·
      rintro dN vL g759 w760 ⟨b87, A90, cap91, bs92, F100, hs761, v767, v768, v769, v770, v771, v772, v773, v774, v775, v776, v777, v778, v779, v780, v781, v782, v783, v784, v785, v786, v787, v788, v789, v790, v791, v792, v793, v794, v795, v796, v797, v798, _⟩ hD762 hd763 hu764 hg765 hk766
      have e799 : dN 9 = true := hd763 9 (by decide +kernel)
      have e800 : dN 13 = true := hd763 13 (by decide +kernel)
      have e801 : dN 17 = false := hu764 17 (by decide +kernel)
      have e802 : dN 23 = false := hu764 23 (by decide +kernel)
      rw [e801, e799, e802] at hs761
      have hs803 : Sep [] w0 (fun _ => False) w760 [iNil, iAc dByte (.slice (some ⟨b87, 0, none⟩) 254 254) (List.replicate 254 (0)) [b87] [], iAc dByte (.slice A67 (((x1.crash 0 0 [1]).read 1).1.length) cap68) (((x1.crash 0 0 [1]).read 1).1) bs69 [], iOb (obDk d59) (x1.crash 0 0 [1]) F60 [], iAc dInt (.slice (some ⟨b56, 0, none⟩) 1 1) [1] [b56] [], iAc dByte (.slice A47 (((x1.crash 1 2 ([] : List Int)).read 1).1.length) cap48) (((x1.crash 1 2 ([] : List Int)).read 1).1) bs49 [], iOb (obDk d39) (x1.crash 1 2 ([] : List Int)) F40 [], iAc dInt (.slice (some ⟨b35, 0, none⟩) 1 1) [1] [b35] [], iAc dInt (.slice A26 x1.dirty.length cap27) x1.dirty bs28 [], iAc dByte (.slice A9 256 cap10) (ofs 120 120) bs11 [], iOb (obDk d1) (x1.limit 0) F78 []] := hs761
      refine WL_at (L := [(60, .bool true)]) ⟨((hg765 13 60 e800 rfl).trans (v780 e800)), trivial⟩ ?_
      refine S_move rfl ?_
      have hs804 : Sep [] w0 (fun _ => False) w760 [(bif dN 17 then (iAc dByte (.slice A90 256 cap91) (ofs 120 120) bs92 []) else iNil), (bif dN 9 then (iAc dByte (.slice (some ⟨b87, 0, none⟩) 254 254) (List.replicate 254 (0)) [b87] []) else iNil), iAc dByte (.slice A67 (((x1.crash 0 0 [1]).read 1).1.length) cap68) (((x1.crash 0 0 [1]).read 1).1) bs69 [], iOb (obDk d59) (x1.crash 0 0 [1]) F60 [], iAc dInt (.slice (some ⟨b56, 0, none⟩) 1 1) [1] [b56] [], iAc dByte (.slice A47 (((x1.crash 1 2 ([] : List Int)).read 1).1.length) cap48) (((x1.crash 1 2 ([] : List Int)).read 1).1) bs49 [], iOb (obDk d39) (x1.crash 1 2 ([] : List Int)) F40 [], iAc dInt (.slice (some ⟨b35, 0, none⟩) 1 1) [1] [b35] [], iAc dInt (.slice A26 x1.dirty.length cap27) x1.dirty bs28 [], iAc dByte (.slice A9 256 cap10) (ofs 120 120) bs11 [], (bif dN 23 then (iOb (obDk d1) ((x1.limit 0).flush.2) F100 []) else (iOb (obDk d1) (x1.limit 0) F78 []))] := by rw [e801, e799, e802]; exact hs803
      exact WL_nil ⟨rfl, _, rfl, b87, A90, cap91, bs92, F100, hs804, v767, v768, v769, v770, v771, v772, v773, v774, v775, v776, v777, v778, v779, v780, (fun _ => rfl), v782, v783, v784, v785, v786, v787, v788, v789, v790, v791, v792, v793, v794, v795, v796, v797, v798, trivial⟩
    ·
      rintro dN vL g805 w806 ⟨b87, A90, cap91, bs92, F100, hs807, v813, v814, v815, v816, v817, v818, v819, v820, v821, v822, v823, v824, v825, v826, v827, v828, v829, v830, v831, v832, v833, v834, v835, v836, v837, v838, v839, v840, v841, v842, v843, v844, _⟩ hD808 hd809 hu810 hg811 hk812
      have e845 : dN 9 = true := hd809 9 (by decide +kernel)
      have e846 : dN 14 = true := hd809 14 (by decide +kernel)
      have e847 : dN 23 = false := hu810 23 (by decide +kernel)
      rw [e845, e847] at hs807
      have hs848 : Sep [] w0 (fun _ => False) w806 [(bif dN 17 then (iAc dByte (.slice A90 256 cap91) (ofs 120 120) bs92 []) else iNil), iAc dByte (.slice (some ⟨b87, 0, none⟩) 254 254) (List.replicate 254 (0)) [b87] [], iAc dByte (.slice A67 (((x1.crash 0 0 [1]).read 1).1.length) cap68) (((x1.crash 0 0 [1]).read 1).1) bs69 [], iOb (obDk d59) (x1.crash 0 0 [1]) F60 [], iAc dInt (.slice (some ⟨b56, 0, none⟩) 1 1) [1] [b56] [], iAc dByte (.slice A47 (((x1.crash 1 2 ([] : List Int)).read 1).1.length) cap48) (((x1.crash 1 2 ([] : List Int)).read 1).1) bs49 [], iOb (obDk d39) (x1.crash 1 2 ([] : List Int)) F40 [], iAc dInt (.slice (some ⟨b35, 0, none⟩) 1 1) [1] [b35] [], iAc dInt (.slice A26 x1.dirty.length cap27) x1.dirty bs28 [], iAc dByte (.slice A9 256 cap10) (ofs 120 120) bs11 [], iOb (obDk d1) (x1.limit 0) F78 []] := hs807
      refine WL_at (L := [(5, .slice A67 (((x1.crash 0 0 [1]).read 1).1.length) cap68), (61, .bool true)]) ⟨(hk812 5 (by decide +kernel)), ((hg811 14 61 e846 rfl).trans (v827 e846)), trivial⟩ ?_
      refine WL_on rfl rfl rfl ?_
      refine S_move rfl ?_
      have hs849 : Sep [] w0 (fun _ => False) w806 [(bif dN 17 then (iAc dByte (.slice A90 256 cap91) (ofs 120 120) bs92 []) else iNil), (bif dN 9 then (iAc dByte (.slice (some ⟨b87, 0, none⟩) 254 254) (List.replicate 254 (0)) [b87] []) else iNil), iAc dByte (.slice A67 (((x1.crash 0 0 [1]).read 1).1.length) cap68) (((x1.crash 0 0 [1]).read 1).1) bs69 [], iOb (obDk d59) (x1.crash 0 0 [1]) F60 [], iAc dInt (.slice (some ⟨b56, 0, none⟩) 1 1) [1] [b56] [], iAc dByte (.slice A47 (((x1.crash 1 2 ([] : List Int)).read 1).1.length) cap48) (((x1.crash 1 2 ([] : List Int)).read 1).1) bs49 [], iOb (obDk d39) (x1.crash 1 2 ([] : List Int)) F40 [], iAc dInt (.slice (some ⟨b35, 0, none⟩) 1 1) [1] [b35] [], iAc dInt (.slice A26 x1.dirty.length cap27) x1.dirty bs28 [], iAc dByte (.slice A9 256 cap10) (ofs 120 120) bs11 [], (bif dN 23 then (iOb (obDk d1) ((x1.limit 0).flush.2) F100 []) else (iOb (obDk d1) (x1.limit 0) F78 []))] := by rw [e845, e847]; exact hs848
      exact WL_nil ⟨rfl, _, rfl, b87, A90, cap91, bs92, F100, hs849, v813, v814, v815, v816, v817, v818, v819, v820, v821, v822, v823, v824, v825, v826, v827, (fun _ => rfl), v829, v830, v831, v832, v833, v834, v835, v836, v837, v838, v839, v840, v841, v842, v843, v844, trivial⟩
    ·
      rintro dN vL g850 w851 ⟨b87, A90, cap91, bs92, F100, hs852, v858, v859, v860, v861, v862, v863, v864, v865, v866, v867, v868, v869, v870, v871, v872, v873, v874, v875, v876, v877, v878, v879, v880, v881, v882, v883, v884, v885, v886, v887, v888, v889, _⟩ hD853 hd854 hu855 hg856 hk857
      have e890 : dN 9 = true := hd854 9 (by decide +kernel)
      have e891 : dN 14 = true := hd854 14 (by decide +kernel)
      have e892 : dN 15 = true := hd854 15 (by decide +kernel)
      have e893 : dN 23 = false := hu855 23 (by decide +kernel)
      rw [e890, e893] at hs852
      have hs894 : Sep [] w0 (fun _ => False) w851 [(bif dN 17 then (iAc dByte (.slice A90 256 cap91) (ofs 120 120) bs92 []) else iNil), iAc dByte (.slice (some ⟨b87, 0, none⟩) 254 254) (List.replicate 254 (0)) [b87] [], iAc dByte (.slice A67 (((x1.crash 0 0 [1]).read 1).1.length) cap68) (((x1.crash 0 0 [1]).read 1).1) bs69 [], iOb (obDk d59) (x1.crash 0 0 [1]) F60 [], iAc dInt (.slice (some ⟨b56, 0, none⟩) 1 1) [1] [b56] [], iAc dByte (.slice A47 (((x1.crash 1 2 ([] : List Int)).read 1).1.length) cap48) (((x1.crash 1 2 ([] : List Int)).read 1).1) bs49 [], iOb (obDk d39) (x1.crash 1 2 ([] : List Int)) F40 [], iAc dInt (.slice (some ⟨b35, 0, none⟩) 1 1) [1] [b35] [], iAc dInt (.slice A26 x1.dirty.length cap27) x1.dirty bs28 [], iAc dByte (.slice A9 256 cap10) (ofs 120 120) bs11 [], iOb (obDk d1) (x1.limit 0) F78 []] := hs852
      refine WL_at (L := [(61, .bool true), (62, .slice A67 (((x1.crash 0 0 [1]).read 1).1.length) cap68)]) ⟨((hg856 14 61 e891 rfl).trans (v872 e891)), ((hg856 15 62 e892 rfl).trans (v873 e892)), trivial⟩ ?_
      refine WL_on rfl rfl rfl ?_
      refine S_bytesStr Try.runUnderlying47 Try.runUnderlying9 Try.runUnderlying5 (Src.ac (hs894.at 2 rfl)) rfl ?_
      have hs895 : Sep [] w0 (fun _ => False) w851 [(bif dN 17 then (iAc dByte (.slice A90 256 cap91) (ofs 120 120) bs92 []) else iNil), (bif dN 9 then (iAc dByte (.slice (some ⟨b87, 0, none⟩) 254 254) (List.replicate 254 (0)) [b87] []) else iNil), iAc dByte (.slice A67 (((x1.crash 0 0 [1]).read 1).1.length) cap68) (((x1.crash 0 0 [1]).read 1).1) bs69 [], iOb (obDk d59) (x1.crash 0 0 [1]) F60 [], iAc dInt (.slice (some ⟨b56, 0, none⟩) 1 1) [1] [b56] [], iAc dByte (.slice A47 (((x1.crash 1 2 ([] : List Int)).read 1).1.length) cap48) (((x1.crash 1 2 ([] : List Int)).read 1).1) bs49 [], iOb (obDk d39) (x1.crash 1 2 ([] : List Int)) F40 [], iAc dInt (.slice (some ⟨b35, 0, none⟩) 1 1) [1] [b35] [], iAc dInt (.slice A26 x1.dirty.length cap27) x1.dirty bs28 [], iAc dByte (.slice A9 256 cap10) (ofs 120 120) bs11 [], (bif dN 23 then (iOb (obDk d1) ((x1.limit 0).flush.2) F100 []) else (iOb (obDk d1) (x1.limit 0) F78 []))] := by rw [e890, e893]; exact hs894
      exact WL_nil ⟨rfl, _, rfl, b87, A90, cap91, bs92, F100, hs895, v858, v859, v860, v861, v862, v863, v864, v865, v866, v867, v868, v869, v870, v871, v872, v873, (fun _ => rfl), v875, v876, v877, v878, v879, v880, v881, v882, v883, v884, v885, v886, v887, v888, v889, trivial⟩
    ·
      rintro dN vL g896 w897 ⟨b87, A90, cap91, bs92, F100, hs898, v904, v905, v906, v907, v908, v909, v910, v911, v912, v913, v914, v915, v916, v917, v918, v919, v920, v921, v922, v923, v924, v925, v926, v927, v928, v929, v930, v931, v932, v933, v934, v935, _⟩ hD899 hd900 hu901 hg902 hk903
      have e936 : dN 9 = true := hd900 9 (by decide +kernel)
      have e937 : dN 14 = true := hd900 14 (by decide +kernel)
      have e938 : dN 17 = false := hD899
      have e939 : dN 23 = false := hu901 23 (by decide +kernel)
      rw [e938, e936, e939] at hs898
      have hs940 : Sep [] w0 (fun _ => False) w897 [iNil, iAc dByte (.slice (some ⟨b87, 0, none⟩) 254 254) (List.replicate 254 (0)) [b87] [], iAc dByte (.slice A67 (((x1.crash 0 0 [1]).read 1).1.length) cap68) (((x1.crash 0 0 [1]).read 1).1) bs69 [], iOb (obDk d59) (x1.crash 0 0 [1]) F60 [], iAc dInt (.slice (some ⟨b56, 0, none⟩) 1 1) [1] [b56] [], iAc dByte (.slice A47 (((x1.crash 1 2 ([] : List Int)).read 1).1.length) cap48) (((x1.crash 1 2 ([] : List Int)).read 1).1) bs49 [], iOb (obDk d39) (x1.crash 1 2 ([] : List Int)) F40 [], iAc dInt (.slice (some ⟨b35, 0, none⟩) 1 1) [1] [b35] [], iAc dInt (.slice A26 x1.dirty.length cap27) x1.dirty bs28 [], iAc dByte (.slice A9 256 cap10) (ofs 120 120) bs11 [], iOb (obDk d1) (x1.limit 0) F78 []] := hs898
      refine WL_at (L := [(61, .bool true)]) ⟨((hg902 14 61 e937 rfl).trans (v918 e937)), trivial⟩ ?_
      refine WL_on rfl rfl rfl ?_
      have hz948 := of_ok (w0 := w897) 120 120
      refine S_call3 Try.call26 rfl hz948 rfl ?_
      rintro A941 cap942 bs943 w944 ⟨ha945, e946, hf947⟩
      have hs949 : Sep [] w0 (fun _ => False) w944 [iAc dByte (.slice A941 256 cap942) (ofs 120 120) bs943 [], iNil, iAc dByte (.slice (some ⟨b87, 0, none⟩) 254 254) (List.replicate 254 (0)) [b87] [], iAc dByte (.slice A67 (((x1.crash 0 0 [1]).read 1).1.length) cap68) (((x1.crash 0 0 [1]).read 1).1) bs69 [], iOb (obDk d59) (x1.crash 0 0 [1]) F60 [], iAc dInt (.slice (some ⟨b56, 0, none⟩) 1 1) [1] [b56] [], iAc dByte (.slice A47 (((x1.crash 1 2 ([] : List Int)).read 1).1.length) cap48) (((x1.crash 1 2 ([] : List Int)).read 1).1) bs49 [], iOb (obDk d39) (x1.crash 1 2 ([] : List Int)) F40 [], iAc dInt (.slice (some ⟨b35, 0, none⟩) 1 1) [1] [b35] [], iAc dInt (.slice A26 x1.dirty.length cap27) x1.dirty bs28 [], iAc dByte (.slice A9 256 cap10) (ofs 120 120) bs11 [], iOb (obDk d1) (x1.limit 0) F78 []] := hs940.madeAc e946 ha945 hf947
      have hs950 : Sep [] w0 (fun _ => False) w944 [iAc dByte (.slice A941 256 cap942) (ofs 120 120) bs943 [], (bif dN 9 then (iAc dByte (.slice (some ⟨b87, 0, none⟩) 254 254) (List.replicate 254 (0)) [b87] []) else iNil), iAc dByte (.slice A67 (((x1.crash 0 0 [1]).read 1).1.length) cap68) (((x1.crash 0 0 [1]).read 1).1) bs69 [], iOb (obDk d59) (x1.crash 0 0 [1]) F60 [], iAc dInt (.slice (some ⟨b56, 0, none⟩) 1 1) [1] [b56] [], iAc dByte (.slice A47 (((x1.crash 1 2 ([] : List Int)).read 1).1.length) cap48) (((x1.crash 1 2 ([] : List Int)).read 1).1) bs49 [], iOb (obDk d39) (x1.crash 1 2 ([] : List Int)) F40 [], iAc dInt (.slice (some ⟨b35, 0, none⟩) 1 1) [1] [b35] [], iAc dInt (.slice A26 x1.dirty.length cap27) x1.dirty bs28 [], iAc dByte (.slice A9 256 cap10) (ofs 120 120) bs11 [], (bif dN 23 then (iOb (obDk d1) ((x1.limit 0).flush.2) F100 []) else (iOb (obDk d1) (x1.limit 0) F78 []))] := by rw [e936, e939]; exact (hs949.pick [0, 2, 3, 4, 5, 6, 7, 8, 9, 10, 11] rfl (by decide) rfl)
      exact WL_nil ⟨rfl, _, rfl, b87, A941, cap942, bs943, F100, hs950, v904, v905, v906, v907, v908, v909, v910, v911, v912, v913, v914, v915, v916, v917, v918, v919, v920, (fun _ => rfl), v922, v923, v924, v925, v926, v927, v928, v929, v930, v931, v932, v933, v934, v935, trivial⟩
    ·
      rintro dN vL g951 w952 ⟨b87, A90, cap91, bs92, F100, hs953, v959, v960, v961, v962, v963, v964, v965, v966, v967, v968, v969, v970, v971, v972, v973, v974, v975, v976, v977, v978, v979, v980, v981, v982, v983, v984, v985, v986, v987, v988, v989, v990, _⟩ hD954 hd955 hu956 hg957 hk958
      have e991 : dN 9 = true := hd955 9 (by decide +kernel)
      have e992 : dN 14 = true := hd955 14 (by decide +kernel)
      have e993 : dN 17 = true := hd955 17 (by decide +kernel)
      have e994 : dN 23 = false := hu956 23 (by decide +kernel)
      rw [e993, e991, e994] at hs953
      have hs995 : Sep [] w0 (fun _ => False) w952 [iAc dByte (.slice A90 256 cap91) (ofs 120 120) bs92 [], iAc dByte (.slice (some ⟨b87, 0, none⟩) 254 254) (List.replicate 254 (0)) [b87] [], iAc dByte (.slice A67 (((x1.crash 0 0 [1]).read 1).1.length) cap68) (((x1.crash 0 0 [1]).read 1).1) bs69 [], iOb (obDk d59) (x1.crash 0 0 [1]) F60 [], iAc dInt (.slice (some ⟨b56, 0, none⟩) 1 1) [1] [b56] [], iAc dByte (.slice A47 (((x1.crash 1 2 ([] : List Int)).read 1).1.length) cap48) (((x1.crash 1 2 ([] : List Int)).read 1).1) bs49 [], iOb (obDk d39) (x1.crash 1 2 ([] : List Int)) F40 [], iAc dInt (.slice (some ⟨b35, 0, none⟩) 1 1) [1] [b35] [], iAc dInt (.slice A26 x1.dirty.length cap27) x1.dirty bs28 [], iAc dByte (.slice A9 256 cap10) (ofs 120 120) bs11 [], iOb (obDk d1) (x1.limit 0) F78 []] := hs953
      refine WL_at (L := [(61, .bool true), (64, .slice A90 256 cap91)]) ⟨((hg957 14 61 e992 rfl).trans (v973 e992)), ((hg957 17 64 e993 rfl).trans (v976 e993)), trivial⟩ ?_
      refine WL_on rfl rfl rfl ?_
      refine S_bytesStr Try.runUnderlying47 Try.runUnderlying9 Try.runUnderlying5 (Src.ac (hs995.at 0 rfl)) rfl ?_
      have hs996 : Sep [] w0 (fun _ => False) w952 [(bif dN 17 then (iAc dByte (.slice A90 256 cap91) (ofs 120 120) bs92 []) else iNil), (bif dN 9 then (iAc dByte (.slice (some ⟨b87, 0, none⟩) 254 254) (List.replicate 254 (0)) [b87] []) else iNil), iAc dByte (.slice A67 (((x1.crash 0 0 [1]).read 1).1.length) cap68) (((x1.crash 0 0 [1]).read 1).1) bs69 [], iOb (obDk d59) (x1.crash 0 0 [1]) F60 [], iAc dInt (.slice (some ⟨b56, 0, none⟩) 1 1) [1] [b56] [], iAc dByte (.slice A47 (((x1.crash 1 2 ([] : List Int)).read 1).1.length) cap48) (((x1.crash 1 2 ([] : List Int)).read 1).1) bs49 [], iOb (obDk d39) (x1.crash 1 2 ([] : List Int)) F40 [], iAc dInt (.slice (some ⟨b35, 0, none⟩) 1 1) [1] [b35] [], iAc dInt (.slice A26 x1.dirty.length cap27) x1.dirty bs28 [], iAc dByte (.slice A9 256 cap10) (ofs 120 120) bs11 [], (bif dN 23 then (iOb (obDk d1) ((x1.limit 0).flush.2) F100 []) else (iOb (obDk d1) (x1.limit 0) F78 []))] := by rw [e993, e991, e994]; exact hs995
      exact WL_nil ⟨rfl, _, rfl, b87, A90, cap91, bs92, F100, hs996, v959, v960, v961, v962, v963, v964, v965, v966, v967, v968, v969, v970, v971, v972, v973, v974, v975, v976, (fun _ => rfl), v978, v979, v980, v981, v982, v983, v984, v985, v986, v987, v988, v989, v990, trivial⟩
    ·
      rintro dN vL g997 w998 ⟨b87, A90, cap91, bs92, F100, hs999, v1005, v1006, v1007, v1008, v1009, v1010, v1011, v1012, v1013, v1014, v1015, v1016, v1017, v1018, v1019, v1020, v1021, v1022, v1023, v1024, v1025, v1026, v1027, v1028, v1029, v1030, v1031, v1032, v1033, v1034, v1035, v1036, _⟩ hD1000 hd1001 hu1002 hg1003 hk1004
      have e1037 : dN 9 = true := hd1001 9 (by decide +kernel)
      have e1038 : dN 14 = true := hd1001 14 (by decide +kernel)
      have e1039 : dN 16 = true := hd1001 16 (by decide +kernel)
      have e1040 : dN 17 = true := hd1001 17 (by decide +kernel)
      have e1041 : dN 18 = true := hd1001 18 (by decide +kernel)
      have e1042 : dN 23 = false := hu1002 23 (by decide +kernel)
      rw [e1040, e1037, e1042] at hs999
      have hs1043 : Sep [] w0 (fun _ => False) w998 [iAc dByte (.slice A90 256 cap91) (ofs 120 120) bs92 [], iAc dByte (.slice (some ⟨b87, 0, none⟩) 254 254) (List.replicate 254 (0)) [b87] [], iAc dByte (.slice A67 (((x1.crash 0 0 [1]).read 1).1.length) cap68) (((x1.crash 0 0 [1]).read 1).1) bs69 [], iOb (obDk d59) (x1.crash 0 0 [1]) F60 [], iAc dInt (.slice (some ⟨b56, 0, none⟩) 1 1) [1] [b56] [], iAc dByte (.slice A47 (((x1.crash 1 2 ([] : List Int)).read 1).1.length) cap48) (((x1.crash 1 2 ([] : List Int)).read 1).1) bs49 [], iOb (obDk d39) (x1.crash 1 2 ([] : List Int)) F40 [], iAc dInt (.slice (some ⟨b35, 0, none⟩) 1 1) [1] [b35] [], iAc dInt (.slice A26 x1.dirty.length cap27) x1.dirty bs28 [], iAc dByte (.slice A9 256 cap10) (ofs 120 120) bs11 [], iOb (obDk d1) (x1.limit 0) F78 []] := hs999
      refine WL_at (L := [(61, .bool true), (63, sv (((x1.crash 0 0 [1]).read 1).1)), (65, sv (ofs 120 120))]) ⟨((hg1003 14 61 e1038 rfl).trans (v1019 e1038)), ((hg1003 16 63 e1039 rfl).trans (v1021 e1039)), ((hg1003 18 65 e1041 rfl).trans (v1023 e1041)), trivial⟩ ?_
      refine WL_on rfl rfl rfl ?_
      refine S_eqlS rfl rfl rfl ?_
      refine WL_conv (congrArg Value.bool (decide_eq_true (by rw [r2_eq]))) ?_
      have hs1044 : Sep [] w0 (fun _ => False) w998 [(bif dN 17 then (iAc dByte (.slice A90 256 cap91) (ofs 120 120) bs92 []) else iNil), (bif dN 9 then (iAc dByte (.slice (some ⟨b87, 0, none⟩) 254 254) (List.replicate 254 (0)) [b87] []) else iNil), iAc dByte (.slice A67 (((x1.crash 0 0 [1]).read 1).1.length) cap68) (((x1.crash 0 0 [1]).read 1).1) bs69 [], iOb (obDk d59) (x1.crash 0 0 [1]) F60 [], iAc dInt (.slice (some ⟨b56, 0, none⟩) 1 1) [1] [b56] [], iAc dByte (.slice A47 (((x1.crash 1 2 ([] : List Int)).read 1).1.length) cap48) (((x1.crash 1 2 ([] : List Int)).read 1).1) bs49 [], iOb (obDk d39) (x1.crash 1 2 ([] : List Int)) F40 [], iAc dInt (.slice (some ⟨b35, 0, none⟩) 1 1) [1] [b35] [], iAc dInt (.slice A26 x1.dirty.length cap27) x1.dirty bs28 [], iAc dByte (.slice A9 256 cap10) (ofs 120 120) bs11 [], (bif dN 23 then (iOb (obDk d1) ((x1.limit 0).flush.2) F100 []) else (iOb (obDk d1) (x1.limit 0) F78 []))] := by rw [e1040, e1037, e1042]; exact hs1043
      exact WL_nil ⟨rfl, _, rfl, b87, A90, cap91, bs92, F100, hs1044, v1005, v1006, v1007, v1008, v1009, v1010, v1011, v1012, v1013, v1014, v1015, v1016, v1017, v1018, v1019, v1020, v1021, v1022, v1023, (fun _ => rfl), v1025, v1026, v1027, v1028, v1029, v1030, v1031, v1032, v1033, v1034, v1035, v1036, trivial⟩
    ·
      rintro dN vL g1045 w1046 ⟨b87, A90, cap91, bs92, F100, hs1047, v1053, v1054, v1055, v1056, v1057, v1058, v1059, v1060, v1061, v1062, v1063, v1064, v1065, v1066, v1067, v1068, v1069, v1070, v1071, v1072, v1073, v1074, v1075, v1076, v1077, v1078, v1079, v1080, v1081, v1082, v1083, v1084, _⟩ hD1048 hd1049 hu1050 hg1051 hk1052
      have e1085 : dN 9 = true := hd1049 9 (by decide +kernel)
      have e1086 : dN 14 = true := hd1049 14 (by decide +kernel)
      have e1087 : dN 17 = true := hd1049 17 (by decide +kernel)
      have e1088 : dN 19 = true := hd1049 19 (by decide +kernel)
      have e1089 : dN 23 = false := hu1050 23 (by decide +kernel)
      rw [e1087, e1085, e1089] at hs1047
      have hs1090 : Sep [] w0 (fun _ => False) w1046 [iAc dByte (.slice A90 256 cap91) (ofs 120 120) bs92 [], iAc dByte (.slice (some ⟨b87, 0, none⟩) 254 254) (List.replicate 254 (0)) [b87] [], iAc dByte (.slice A67 (((x1.crash 0 0 [1]).read 1).1.length) cap68) (((x1.crash 0 0 [1]).read 1).1) bs69 [], iOb (obDk d59) (x1.crash 0 0 [1]) F60 [], iAc dInt (.slice (some ⟨b56, 0, none⟩) 1 1) [1] [b56] [], iAc dByte (.slice A47 (((x1.crash 1 2 ([] : List Int)).read 1).1.length) cap48) (((x1.crash 1 2 ([] : List Int)).read 1).1) bs49 [], iOb (obDk d39) (x1.crash 1 2 ([] : List Int)) F40 [], iAc dInt (.slice (some ⟨b35, 0, none⟩) 1 1) [1] [b35] [], iAc dInt (.slice A26 x1.dirty.length cap27) x1.dirty bs28 [], iAc dByte (.slice A9 256 cap10) (ofs 120 120) bs11 [], iOb (obDk d1) (x1.limit 0) F78 []] := hs1047
      refine WL_at (L := [(61, .bool true), (66, .bool true)]) ⟨((hg1051 14 61 e1086 rfl).trans (v1067 e1086)), ((hg1051 19 66 e1088 rfl).trans (v1072 e1088)), trivial⟩ ?_
      refine S_pick_t rfl rfl ?_
      have hs1091 : Sep [] w0 (fun _ => False) w1046 [(bif dN 17 then (iAc dByte (.slice A90 256 cap91) (ofs 120 120) bs92 []) else iNil), (bif dN 9 then (iAc dByte (.slice (some ⟨b87, 0, none⟩) 254 254) (List.replicate 254 (0)) [b87] []) else iNil), iAc dByte (.slice A67 (((x1.crash 0 0 [1]).read 1).1.length) cap68) (((x1.crash 0 0 [1]).read 1).1) bs69 [], iOb (obDk d59) (x1.crash 0 0 [1]) F60 [], iAc dInt (.slice (some ⟨b56, 0, none⟩) 1 1) [1] [b56] [], iAc dByte (.slice A47 (((x1.crash 1 2 ([] : List Int)).read 1).1.length) cap48) (((x1.crash 1 2 ([] : List Int)).read 1).1) bs49 [], iOb (obDk d39) (x1.crash 1 2 ([] : List Int)) F40 [], iAc dInt (.slice (some ⟨b35, 0, none⟩) 1 1) [1] [b35] [], iAc dInt (.slice A26 x1.dirty.length cap27) x1.dirty bs28 [], iAc dByte (.slice A9 256 cap10) (ofs 120 120) bs11 [], (bif dN 23 then (iOb (obDk d1) ((x1.limit 0).flush.2) F100 []) else (iOb (obDk d1) (x1.limit 0) F78 []))] := by rw [e1087, e1085, e1089]; exact hs1090
      exact WL_nil ⟨rfl, _, rfl, b87, A90, cap91, bs92, F100, hs1091, v1053, v1054, v1055, v1056, v1057, v1058, v1059, v1060, v1061, v1062, v1063, v1064, v1065, v1066, v1067, v1068, v1069, v1070, v1071, v1072, (fun _ => rfl), v1074, v1075, v1076, v1077, v1078, v1079, v1080, v1081, v1082, v1083, v1084, trivial⟩
    ·
      rintro dN vL g1092 w1093 ⟨b87, A90, cap91, bs92, F100, hs1094, v1100, v1101, v1102, v1103, v1104, v1105, v1106, v1107, v1108, v1109, v1110, v1111, v1112, v1113, v1114, v1115, v1116, v1117, v1118, v1119, v1120, v1121, v1122, v1123, v1124, v1125, v1126, v1127, v1128, v1129, v1130, v1131, _⟩ hD1095 hd1096 hu1097 hg1098 hk1099
      have e1132 : dN 9 = true := hd1096 9 (by decide +kernel)
      have e1133 : dN 17 = true := hd1096 17 (by decide +kernel)
      have e1134 : dN 20 = true := hd1096 20 (by decide +kernel)
      have e1135 : dN 23 = false := hu1097 23 (by decide +kernel)
      rw [e1133, e1132, e1135] at hs1094
      have hs1136 : Sep [] w0 (fun _ => False) w1093 [iAc dByte (.slice A90 256 cap91) (ofs 120 120) bs92 [], iAc dByte (.slice (some ⟨b87, 0, none⟩) 254 254) (List.replicate 254 (0)) [b87] [], iAc dByte (.slice A67 (((x1.crash 0 0 [1]).read 1).1.length) cap68) (((x1.crash 0 0 [1]).read 1).1) bs69 [], iOb (obDk d59) (x1.crash 0 0 [1]) F60 [], iAc dInt (.slice (some ⟨b56, 0, none⟩) 1 1) [1] [b56] [], iAc dByte (.slice A47 (((x1.crash 1 2 ([] : List Int)).read 1).1.length) cap48) (((x1.crash 1 2 ([] : List Int)).read 1).1) bs49 [], iOb (obDk d39) (x1.crash 1 2 ([] : List Int)) F40 [], iAc dInt (.slice (some ⟨b35, 0, none⟩) 1 1) [1] [b35] [], iAc dInt (.slice A26 x1.dirty.length cap27) x1.dirty bs28 [], iAc dByte (.slice A9 256 cap10) (ofs 120 120) bs11 [], iOb (obDk d1) (x1.limit 0) F78 []] := hs1094
      refine WL_at (L := [(67, .bool true)]) ⟨((hg1098 20 67 e1134 rfl).trans (v1120 e1134)), trivial⟩ ?_
      refine S_move rfl ?_
      have hs1137 : Sep [] w0 (fun _ => False) w1093 [(bif dN 17 then (iAc dByte (.slice A90 256 cap91) (ofs 120 120) bs92 []) else iNil), (bif dN 9 then (iAc dByte (.slice (some ⟨b87, 0, none⟩) 254 254) (List.replicate 254 (0)) [b87] []) else iNil), iAc dByte (.slice A67 (((x1.crash 0 0 [1]).read 1).1.length) cap68) (((x1.crash 0 0 [1]).read 1).1) bs69 [], iOb (obDk d59) (x1.crash 0 0 [1]) F60 [], iAc dInt (.slice (some ⟨b56, 0, none⟩) 1 1) [1] [b56] [], iAc dByte (.slice A47 (((x1.crash 1 2 ([] : List Int)).read 1).1.length) cap48) (((x1.crash 1 2 ([] : List Int)).read 1).1) bs49 [], iOb (obDk d39) (x1.crash 1 2 ([] : List Int)) F40 [], iAc dInt (.slice (some ⟨b35, 0, none⟩) 1 1) [1] [b35] [], iAc dInt (.slice A26 x1.dirty.length cap27) x1.dirty bs28 [], iAc dByte (.slice A9 256 cap10) (ofs 120 120) bs11 [], (bif dN 23 then (iOb (obDk d1) ((x1.limit 0).flush.2) F100 []) else (iOb (obDk d1) (x1.limit 0) F78 []))] := by rw [e1133, e1132, e1135]; exact hs1136
      exact WL_nil ⟨rfl, _, rfl, b87, A90, cap91, bs92, F100, hs1137, v1100, v1101, v1102, v1103, v1104, v1105, v1106, v1107, v1108, v1109, v1110, v1111, v1112, v1113, v1114, v1115, v1116, v1117, v1118, v1119, v1120, (fun _ => rfl), v1122, v1123, v1124, v1125, v1126, v1127, v1128, v1129, v1130, v1131, trivial⟩
    ·
      rintro dN vL g1138 w1139 ⟨b87, A90, cap91, bs92, F100, hs1140, v1146, v1147, v1148, v1149, v1150, v1151, v1152, v1153, v1154, v1155, v1156, v1157, v1158, v1159, v1160, v1161, v1162, v1163, v1164, v1165, v1166, v1167, v1168, v1169, v1170, v1171, v1172, v1173, v1174, v1175, v1176, v1177, _⟩ hD1141 hd1142 hu1143 hg1144 hk1145
      have e1178 : dN 9 = true := hd1142 9 (by decide +kernel)
      have e1179 : dN 17 = true := hd1142 17 (by decide +kernel)
      have e1180 : dN 21 = true := hd1142 21 (by decide +kernel)
      have e1181 : dN 23 = false := hu1143 23 (by decide +kernel)
      rw [e1179, e1178, e1181] at hs1140
      have hs1182 : Sep [] w0 (fun _ => False) w1139 [iAc dByte (.slice A90 256 cap91) (ofs 120 120) bs92 [], iAc dByte (.slice (some ⟨b87, 0, none⟩) 254 254) (List.replicate 254 (0)) [b87] [], iAc dByte (.slice A67 (((x1.crash 0 0 [1]).read 1).1.length) cap68) (((x1.crash 0 0 [1]).read 1).1) bs69 [], iOb (obDk d59) (x1.crash 0 0 [1]) F60 [], iAc dInt (.slice (some ⟨b56, 0, none⟩) 1 1) [1] [b56] [], iAc dByte (.slice A47 (((x1.crash 1 2 ([] : List Int)).read 1).1.length) cap48) (((x1.crash 1 2 ([] : List Int)).read 1).1) bs49 [], iOb (obDk d39) (x1.crash 1 2 ([] : List Int)) F40 [], iAc dInt (.slice (some ⟨b35, 0, none⟩) 1 1) [1] [b35] [], iAc dInt (.slice A26 x1.dirty.length cap27) x1.dirty bs28 [], iAc dByte (.slice A9 256 cap10) (ofs 120 120) bs11 [], iOb (obDk d1) (x1.limit 0) F78 []] := hs1140
      refine WL_at (L := [(1, .pointer (some ⟨d1, 0, none⟩)), (68, .bool true)]) ⟨(hk1145 1 (by decide +kernel)), ((hg1144 21 68 e1180 rfl).trans (v1167 e1180)), trivial⟩ ?_
      refine WL_on rfl rfl rfl ?_
      refine S_move rfl ?_
      have hs1183 : Sep [] w0 (fun _ => False) w1139 [(bif dN 17 then (iAc dByte (.slice A90 256 cap91) (ofs 120 120) bs92 []) else iNil), (bif dN 9 then (iAc dByte (.slice (some ⟨b87, 0, none⟩) 254 254) (List.replicate 254 (0)) [b87] []) else iNil), iAc dByte (.slice A67 (((x1.crash 0 0 [1]).read 1).1.length) cap68) (((x1.crash 0 0 [1]).read 1).1) bs69 [], iOb (obDk d59) (x1.crash 0 0 [1]) F60 [], iAc dInt (.slice (some ⟨b56, 0, none⟩) 1 1) [1] [b56] [], iAc dByte (.slice A47 (((x1.crash 1 2 ([] : List Int)).read 1).1.length) cap48) (((x1.crash 1 2 ([] : List Int)).read 1).1) bs49 [], iOb (obDk d39) (x1.crash 1 2 ([] : List Int)) F40 [], iAc dInt (.slice (some ⟨b35, 0, none⟩) 1 1) [1] [b35] [], iAc dInt (.slice A26 x1.dirty.length cap27) x1.dirty bs28 [], iAc dByte (.slice A9 256 cap10) (ofs 120 120) bs11 [], (bif dN 23 then (iOb (obDk d1) ((x1.limit 0).flush.2) F100 []) else (iOb (obDk d1) (x1.limit 0) F78 []))] := by rw [e1179, e1178, e1181]; exact hs1182
      exact WL_nil ⟨rfl, _, rfl, b87, A90, cap91, bs92, F100, hs1183, v1146, v1147, v1148, v1149, v1150, v1151, v1152, v1153, v1154, v1155, v1156, v1157, v1158, v1159, v1160, v1161, v1162, v1163, v1164, v1165, v1166, v1167, (fun _ => rfl), v1169, v1170, v1171, v1172, v1173, v1174, v1175, v1176, v1177, trivial⟩
    ·
      rintro dN vL g1184 w1185 ⟨b87, A90, cap91, bs92, F100, hs1186, v1192, v1193, v1194, v1195, v1196, v1197, v1198, v1199, v1200, v1201, v1202, v1203, v1204, v1205, v1206, v1207, v1208, v1209, v1210, v1211, v1212, v1213, v1214, v1215, v1216, v1217, v1218, v1219, v1220, v1221, v1222, v1223, _⟩ hD1187 hd1188 hu1189 hg1190 hk1191
      have e1224 : dN 9 = true := hd1188 9 (by decide +kernel)
      have e1225 : dN 17 = true := hd1188 17 (by decide +kernel)
      have e1226 : dN 21 = true := hd1188 21 (by decide +kernel)
      have e1227 : dN 22 = true := hd1188 22 (by decide +kernel)
      have e1228 : dN 23 = false := hD1187
      rw [e1225, e1224, e1228] at hs1186
      have hs1229 : Sep [] w0 (fun _ => False) w1185 [iAc dByte (.slice A90 256 cap91) (ofs 120 120) bs92 [], iAc dByte (.slice (some ⟨b87, 0, none⟩) 254 254) (List.replicate 254 (0)) [b87] [], iAc dByte (.slice A67 (((x1.crash 0 0 [1]).read 1).1.length) cap68) (((x1.crash 0 0 [1]).read 1).1) bs69 [], iOb (obDk d59) (x1.crash 0 0 [1]) F60 [], iAc dInt (.slice (some ⟨b56, 0, none⟩) 1 1) [1] [b56] [], iAc dByte (.slice A47 (((x1.crash 1 2 ([] : List Int)).read 1).1.length) cap48) (((x1.crash 1 2 ([] : List Int)).read 1).1) bs49 [], iOb (obDk d39) (x1.crash 1 2 ([] : List Int)) F40 [], iAc dInt (.slice (some ⟨b35, 0, none⟩) 1 1) [1] [b35] [], iAc dInt (.slice A26 x1.dirty.length cap27) x1.dirty bs28 [], iAc dByte (.slice A9 256 cap10) (ofs 120 120) bs11 [], iOb (obDk d1) (x1.limit 0) F78 []] := hs1186
      refine WL_at (L := [(68, .bool true), (69, .pointer (some ⟨d1, 0, none⟩))]) ⟨((hg1190 21 68 e1226 rfl).trans (v1213 e1226)), ((hg1190 22 69 e1227 rfl).trans (v1214 e1227)), trivial⟩ ?_
      refine WL_on rfl rfl rfl ?_
      have hz1234 := flush_ok (hs1229.at 10 rfl) (limit_Ok (write_Ok (new_Ok (n := 3) (by decide) (by decide)) 1 (ofs 120 120)) (n := 0) (by simp only [InI]; omega))
      refine S_callE Try.call23 rfl hz1234 rfl ?_
      rintro w1230 ⟨F1231, h1232, t1233⟩
      have hs1235 : Sep [] w0 (fun _ => False) w1230 [iAc dByte (.slice A90 256 cap91) (ofs 120 120) bs92 [], iAc dByte (.slice (some ⟨b87, 0, none⟩) 254 254) (List.replicate 254 (0)) [b87] [], iAc dByte (.slice A67 (((x1.crash 0 0 [1]).read 1).1.length) cap68) (((x1.crash 0 0 [1]).read 1).1) bs69 [], iOb (obDk d59) (x1.crash 0 0 [1]) F60 [], iAc dInt (.slice (some ⟨b56, 0, none⟩) 1 1) [1] [b56] [], iAc dByte (.slice A47 (((x1.crash 1 2 ([] : List Int)).read 1).1.length) cap48) (((x1.crash 1 2 ([] : List Int)).read 1).1) bs49 [], iOb (obDk d39) (x1.crash 1 2 ([] : List Int)) F40 [], iAc dInt (.slice (some ⟨b35, 0, none⟩) 1 1) [1] [b35] [], iAc dInt (.slice A26 x1.dirty.length cap27) x1.dirty bs28 [], iAc dByte (.slice A9 256 cap10) (ofs 120 120) bs11 [], iOb (obDk d1) ((x1.limit 0).flush.2) F1231 []] := hs1229.turn 10 rfl h1232 t1233
      have hs1237 : Sep [] w0 (fun _ => False) w1230 [(bif dN 17 then (iAc dByte (.slice A90 256 cap91) (ofs 120 120) bs92 []) else iNil), (bif dN 9 then (iAc dByte (.slice (some ⟨b87, 0, none⟩) 254 254) (List.replicate 254 (0)) [b87] []) else iNil), iAc dByte (.slice A67 (((x1.crash 0 0 [1]).read 1).1.length) cap68) (((x1.crash 0 0 [1]).read 1).1) bs69 [], iOb (obDk d59) (x1.crash 0 0 [1]) F60 [], iAc dInt (.slice (some ⟨b56, 0, none⟩) 1 1) [1] [b56] [], iAc dByte (.slice A47 (((x1.crash 1 2 ([] : List Int)).read 1).1.length) cap48) (((x1.crash 1 2 ([] : List Int)).read 1).1) bs49 [], iOb (obDk d39) (x1.crash 1 2 ([] : List Int)) F40 [], iAc dInt (.slice (some ⟨b35, 0, none⟩) 1 1) [1] [b35] [], iAc dInt (.slice A26 x1.dirty.length cap27) x1.dirty bs28 [], iAc dByte (.slice A9 256 cap10) (ofs 120 120) bs11 [], iOb (obDk d1) ((x1.limit 0).flush.2) F1231 []] := by rw [e1225, e1224]; exact hs1235
      exact WL_nil ⟨rfl, _, rfl, b87, A90, cap91, bs92, F1231, hs1237, v1192, v1193, v1194, v1195, v1196, v1197, v1198, v1199, v1200, v1201, v1202, v1203, v1204, v1205, v1206, v1207, v1208, v1209, v1210, v1211, v1212, v1213, v1214, (fun _ => rfl), v1216, v1217, v1218, v1219, v1220, v1221, v1222, v1223, trivial⟩
    ·
      rintro dN vL g1238 w1239 ⟨b87, A90, cap91, bs92, F100, hs1240, v1246, v1247, v1248, v1249, v1250, v1251, v1252, v1253, v1254, v1255, v1256, v1257, v1258, v1259, v1260, v1261, v1262, v1263, v1264, v1265, v1266, v1267, v1268, v1269, v1270, v1271, v1272, v1273, v1274, v1275, v1276, v1277, _⟩ hD1241 hd1242 hu1243 hg1244 hk1245
      have e1278 : dN 9 = true := hd1242 9 (by decide +kernel)
      have e1279 : dN 17 = true := hd1242 17 (by decide +kernel)
      have e1280 : dN 21 = true := hd1242 21 (by decide +kernel)
      have e1281 : dN 23 = true := hd1242 23 (by decide +kernel)
      rw [e1279, e1278, e1281] at hs1240
      have hs1282 : Sep [] w0 (fun _ => False) w1239 [iAc dByte (.slice A90 256 cap91) (ofs 120 120) bs92 [], iAc dByte (.slice (some ⟨b87, 0, none⟩) 254 254) (List.replicate 254 (0)) [b87] [], iAc dByte (.slice A67 (((x1.crash 0 0 [1]).read 1).1.length) cap68) (((x1.crash 0 0 [1]).read 1).1) bs69 [], iOb (obDk d59) (x1.crash 0 0 [1]) F60 [], iAc dInt (.slice (some ⟨b56, 0, none⟩) 1 1) [1] [b56] [], iAc dByte (.slice A47 (((x1.crash 1 2 ([] : List Int)).read 1).1.length) cap48) (((x1.crash 1 2 ([] : List Int)).read 1).1) bs49 [], iOb (obDk d39) (x1.crash 1 2 ([] : List Int)) F40 [], iAc dInt (.slice (some ⟨b35, 0, none⟩) 1 1) [1] [b35] [], iAc dInt (.slice A26 x1.dirty.length cap27) x1.dirty bs28 [], iAc dByte (.slice A9 256 cap10) (ofs 120 120) bs11 [], iOb (obDk d1) ((x1.limit 0).flush.2) F100 []] := hs1240
      refine WL_at (L := [(68, .bool true), (70, errv 64 ((x1.limit 0).flush.1))]) ⟨((hg1244 21 68 e1280 rfl).trans (v1267 e1280)), ((hg1244 23 70 e1281 rfl).trans (v1269 e1281)), trivial⟩ ?_
      refine WL_on rfl rfl rfl ?_
      have hr1283 : 0 ≤ ((x1.limit 0).flush.1 : Int) ∧ ((x1.limit 0).flush.1 : Int) ≤ 16 := (by first | exact write_range _ _ | exact flush_range | exact read_range _ | decide)
      refine S_callQ Try.call11 rfl (no_ok hr1283.1 hr1283.2) rfl ?_
      have hs1284 : Sep [] w0 (fun _ => False) w1239 [(bif dN 17 then (iAc dByte (.slice A90 256 cap91) (ofs 120 120) bs92 []) else iNil), (bif dN 9 then (iAc dByte (.slice (some ⟨b87, 0, none⟩) 254 254) (List.replicate 254 (0)) [b87] []) else iNil), iAc dByte (.slice A67 (((x1.crash 0 0 [1]).read 1).1.length) cap68) (((x1.crash 0 0 [1]).read 1).1) bs69 [], iOb (obDk d59) (x1.crash 0 0 [1]) F60 [], iAc dInt (.slice (some ⟨b56, 0, none⟩) 1 1) [1] [b56] [], iAc dByte (.slice A47 (((x1.crash 1 2 ([] : List Int)).read 1).1.length) cap48) (((x1.crash 1 2 ([] : List Int)).read 1).1) bs49 [], iOb (obDk d39) (x1.crash 1 2 ([] : List Int)) F40 [], iAc dInt (.slice (some ⟨b35, 0, none⟩) 1 1) [1] [b35] [], iAc dInt (.slice A26 x1.dirty.length cap27) x1.dirty bs28 [], iAc dByte (.slice A9 256 cap10) (ofs 120 120) bs11 [], (bif dN 23 then (iOb (obDk d1) ((x1.limit 0).flush.2) F100 []) else (iOb (obDk d1) (x1.limit 0) F78 []))] := by rw [e1279, e1278, e1281]; exact hs1282
      exact WL_nil ⟨rfl, _, rfl, b87, A90, cap91, bs92, F100, hs1284, v1246, v1247, v1248, v1249, v1250, v1251, v1252, v1253, v1254, v1255, v1256, v1257, v1258, v1259, v1260, v1261, v1262, v1263, v1264, v1265, v1266, v1267, v1268, v1269, (fun _ => rfl), v1271, v1272, v1273, v1274, v1275, v1276, v1277, trivial⟩
    ·
      rintro dN vL g1285 w1286 ⟨b87, A90, cap91, bs92, F100, hs1287, v1293, v1294, v1295, v1296, v1297, v1298, v1299, v1300, v1301, v1302, v1303, v1304, v1305, v1306, v1307, v1308, v1309, v1310, v1311, v1312, v1313, v1314, v1315, v1316, v1317, v1318, v1319, v1320, v1321, v1322, v1323, v1324, _⟩ hD1288 hd1289 hu1290 hg1291 hk1292
      have e1325 : dN 9 = true := hd1289 9 (by decide +kernel)
      have e1326 : dN 17 = true := hd1289 17 (by decide +kernel)
      have e1327 : dN 21 = true := hd1289 21 (by decide +kernel)
      have e1328 : dN 23 = true := hd1289 23 (by decide +kernel)
      have e1329 : dN 24 = true := hd1289 24 (by decide +kernel)
      rw [e1326, e1325, e1328] at hs1287
      have hs1330 : Sep [] w0 (fun _ => False) w1286 [iAc dByte (.slice A90 256 cap91) (ofs 120 120) bs92 [], iAc dByte (.slice (some ⟨b87, 0, none⟩) 254 254) (List.replicate 254 (0)) [b87] [], iAc dByte (.slice A67 (((x1.crash 0 0 [1]).read 1).1.length) cap68) (((x1.crash 0 0 [1]).read 1).1) bs69 [], iOb (obDk d59) (x1.crash 0 0 [1]) F60 [], iAc dInt (.slice (some ⟨b56, 0, none⟩) 1 1) [1] [b56] [], iAc dByte (.slice A47 (((x1.crash 1 2 ([] : List Int)).read 1).1.length) cap48) (((x1.crash 1 2 ([] : List Int)).read 1).1) bs49 [], iOb (obDk d39) (x1.crash 1 2 ([] : List Int)) F40 [], iAc dInt (.slice (some ⟨b35, 0, none⟩) 1 1) [1] [b35] [], iAc dInt (.slice A26 x1.dirty.length cap27) x1.dirty bs28 [], iAc dByte (.slice A9 256 cap10) (ofs 120 120) bs11 [], iOb (obDk d1) ((x1.limit 0).flush.2) F100 []] := hs1287
      refine WL_at (L := [(68, .bool true), (71, .int .i64 ((x1.limit 0).flush.1))]) ⟨((hg1291 21 68 e1327 rfl).trans (v1314 e1327)), ((hg1291 24 71 e1329 rfl).trans (v1317 e1329)), trivial⟩ ?_
      refine WL_on rfl rfl rfl ?_
      refine S_eql rfl rfl rfl ?_
      refine WL_conv (congrArg Value.bool (decide_eq_true f1_eq)) ?_
      have hs1331 : Sep [] w0 (fun _ => False) w1286 [(bif dN 17 then (iAc dByte (.slice A90 256 cap91) (ofs 120 120) bs92 []) else iNil), (bif dN 9 then (iAc dByte (.slice (some ⟨b87, 0, none⟩) 254 254) (List.replicate 254 (0)) [b87] []) else iNil), iAc dByte (.slice A67 (((x1.crash 0 0 [1]).read 1).1.length) cap68) (((x1.crash 0 0 [1]).read 1).1) bs69 [], iOb (obDk d59) (x1.crash 0 0 [1]) F60 [], iAc dInt (.slice (some ⟨b56, 0, none⟩) 1 1) [1] [b56] [], iAc dByte (.slice A47 (((x1.crash 1 2 ([] : List Int)).read 1).1.length) cap48) (((x1.crash 1 2 ([] : List Int)).read 1).1) bs49 [], iOb (obDk d39) (x1.crash 1 2 ([] : List Int)) F40 [], iAc dInt (.slice (some ⟨b35, 0, none⟩) 1 1) [1] [b35] [], iAc dInt (.slice A26 x1.dirty.length cap27) x1.dirty bs28 [], iAc dByte (.slice A9 256 cap10) (ofs 120 120) bs11 [], (bif dN 23 then (iOb (obDk d1) ((x1.limit 0).flush.2) F100 []) else (iOb (obDk d1) (x1.limit 0) F78 []))] := by rw [e1326, e1325, e1328]; exact hs1330
      exact WL_nil ⟨rfl, _, rfl, b87, A90, cap91, bs92, F100, hs1331, v1293, v1294, v1295, v1296, v1297, v1298, v1299, v1300, v1301, v1302, v1303, v1304, v1305, v1306, v1307, v1308, v1309, v1310, v1311, v1312, v1313, v1314, v1315, v1316, v1317, (fun _ => rfl), v1319, v1320, v1321, v1322, v1323, v1324, trivial⟩
    ·
      rintro dN vL g1332 w1333 ⟨b87, A90, cap91, bs92, F100, hs1334, v1340, v1341, v1342, v1343, v1344, v1345, v1346, v1347, v1348, v1349, v1350, v1351, v1352, v1353, v1354, v1355, v1356, v1357, v1358, v1359, v1360, v1361, v1362, v1363, v1364, v1365, v1366, v1367, v1368, v1369, v1370, v1371, _⟩ hD1335 hd1336 hu1337 hg1338 hk1339
      have e1372 : dN 9 = true := hd1336 9 (by decide +kernel)
      have e1373 : dN 17 = true := hd1336 17 (by decide +kernel)
      have e1374 : dN 21 = true := hd1336 21 (by decide +kernel)
      have e1375 : dN 23 = true := hd1336 23 (by decide +kernel)
      have e1376 : dN 25 = true := hd1336 25 (by decide +kernel)
      rw [e1373, e1372, e1375] at hs1334
      have hs1377 : Sep [] w0 (fun _ => False) w1333 [iAc dByte (.slice A90 256 cap91) (ofs 120 120) bs92 [], iAc dByte (.slice (some ⟨b87, 0, none⟩) 254 254) (List.replicate 254 (0)) [b87] [], iAc dByte (.slice A67 (((x1.crash 0 0 [1]).read 1).1.length) cap68) (((x1.crash 0 0 [1]).read 1).1) bs69 [], iOb (obDk d59) (x1.crash 0 0 [1]) F60 [], iAc dInt (.slice (some ⟨b56, 0, none⟩) 1 1) [1] [b56] [], iAc dByte (.slice A47 (((x1.crash 1 2 ([] : List Int)).read 1).1.length) cap48) (((x1.crash 1 2 ([] : List Int)).read 1).1) bs49 [], iOb (obDk d39) (x1.crash 1 2 ([] : List Int)) F40 [], iAc dInt (.slice (some ⟨b35, 0, none⟩) 1 1) [1] [b35] [], iAc dInt (.slice A26 x1.dirty.length cap27) x1.dirty bs28 [], iAc dByte (.slice A9 256 cap10) (ofs 120 120) bs11 [], iOb (obDk d1) ((x1.limit 0).flush.2) F100 []] := hs1334
      refine WL_at (L := [(68, .bool true), (72, .bool true)]) ⟨((hg1338 21 68 e1374 rfl).trans (v1361 e1374)), ((hg1338 25 72 e1376 rfl).trans (v1365 e1376)), trivial⟩ ?_
      refine S_pick_t rfl rfl ?_
      have hs1378 : Sep [] w0 (fun _ => False) w1333 [(bif dN 17 then (iAc dByte (.slice A90 256 cap91) (ofs 120 120) bs92 []) else iNil), (bif dN 9 then (iAc dByte (.slice (some ⟨b87, 0, none⟩) 254 254) (List.replicate 254 (0)) [b87] []) else iNil), iAc dByte (.slice A67 (((x1.crash 0 0 [1]).read 1).1.length) cap68) (((x1.crash 0 0 [1]).read 1).1) bs69 [], iOb (obDk d59) (x1.crash 0 0 [1]) F60 [], iAc dInt (.slice (some ⟨b56, 0, none⟩) 1 1) [1] [b56] [], iAc dByte (.slice A47 (((x1.crash 1 2 ([] : List Int)).read 1).1.length) cap48) (((x1.crash 1 2 ([] : List Int)).read 1).1) bs49 [], iOb (obDk d39) (x1.crash 1 2 ([] : List Int)) F40 [], iAc dInt (.slice (some ⟨b35, 0, none⟩) 1 1) [1] [b35] [], iAc dInt (.slice A26 x1.dirty.length cap27) x1.dirty bs28 [], iAc dByte (.slice A9 256 cap10) (ofs 120 120) bs11 [], (bif dN 23 then (iOb (obDk d1) ((x1.limit 0).flush.2) F100 []) else (iOb (obDk d1) (x1.limit 0) F78 []))] := by rw [e1373, e1372, e1375]; exact hs1377
      exact WL_nil ⟨rfl, _, rfl, b87, A90, cap91, bs92, F100, hs1378, v1340, v1341, v1342, v1343, v1344, v1345, v1346, v1347, v1348, v1349, v1350, v1351, v1352, v1353, v1354, v1355, v1356, v1357, v1358, v1359, v1360, v1361, v1362, v1363, v1364, v1365, (fun _ => rfl), v1367, v1368, v1369, v1370, v1371, trivial⟩
    ·
      rintro dN vL g1379 w1380 ⟨b87, A90, cap91, bs92, F100, hs1381, v1387, v1388, v1389, v1390, v1391, v1392, v1393, v1394, v1395, v1396, v1397, v1398, v1399, v1400, v1401, v1402, v1403, v1404, v1405, v1406, v1407, v1408, v1409, v1410, v1411, v1412, v1413, v1414, v1415, v1416, v1417, v1418, _⟩ hD1382 hd1383 hu1384 hg1385 hk1386
      have e1419 : dN 9 = true := hd1383 9 (by decide +kernel)
      have e1420 : dN 17 = true := hd1383 17 (by decide +kernel)
      have e1421 : dN 23 = true := hd1383 23 (by decide +kernel)
      have e1422 : dN 26 = true := hd1383 26 (by decide +kernel)
      rw [e1420, e1419, e1421] at hs1381
      have hs1423 : Sep [] w0 (fun _ => False) w1380 [iAc dByte (.slice A90 256 cap91) (ofs 120 120) bs92 [], iAc dByte (.slice (some ⟨b87, 0, none⟩) 254 254) (List.replicate 254 (0)) [b87] [], iAc dByte (.slice A67 (((x1.crash 0 0 [1]).read 1).1.length) cap68) (((x1.crash 0 0 [1]).read 1).1) bs69 [], iOb (obDk d59) (x1.crash 0 0 [1]) F60 [], iAc dInt (.slice (some ⟨b56, 0, none⟩) 1 1) [1] [b56] [], iAc dByte (.slice A47 (((x1.crash 1 2 ([] : List Int)).read 1).1.length) cap48) (((x1.crash 1 2 ([] : List Int)).read 1).1) bs49 [], iOb (obDk d39) (x1.crash 1 2 ([] : List Int)) F40 [], iAc dInt (.slice (some ⟨b35, 0, none⟩) 1 1) [1] [b35] [], iAc dInt (.slice A26 x1.dirty.length cap27) x1.dirty bs28 [], iAc dByte (.slice A9 256 cap10) (ofs 120 120) bs11 [], iOb (obDk d1) ((x1.limit 0).flush.2) F100 []] := hs1381
      refine WL_at (L := [(73, .bool true)]) ⟨((hg1385 26 73 e1422 rfl).trans (v1413 e1422)), trivial⟩ ?_
      refine S_move rfl ?_
      have hs1424 : Sep [] w0 (fun _ => False) w1380 [(bif dN 17 then (iAc dByte (.slice A90 256 cap91) (ofs 120 120) bs92 []) else iNil), (bif dN 9 then (iAc dByte (.slice (some ⟨b87, 0, none⟩) 254 254) (List.replicate 254 (0)) [b87] []) else iNil), iAc dByte (.slice A67 (((x1.crash 0 0 [1]).read 1).1.length) cap68) (((x1.crash 0 0 [1]).read 1).1) bs69 [], iOb (obDk d59) (x1.crash 0 0 [1]) F60 [], iAc dInt (.slice (some ⟨b56, 0, none⟩) 1 1) [1] [b56] [], iAc dByte (.slice A47 (((x1.crash 1 2 ([] : List Int)).read 1).1.length) cap48) (((x1.crash 1 2 ([] : List Int)).read 1).1) bs49 [], iOb (obDk d39) (x1.crash 1 2 ([] : List Int)) F40 [], iAc dInt (.slice (some ⟨b35, 0, none⟩) 1 1) [1] [b35] [], iAc dInt (.slice A26 x1.dirty.length cap27) x1.dirty bs28 [], iAc dByte (.slice A9 256 cap10) (ofs 120 120) bs11 [], (bif dN 23 then (iOb (obDk d1) ((x1.limit 0).flush.2) F100 []) else (iOb (obDk d1) (x1.limit 0) F78 []))] := by rw [e1420, e1419, e1421]; exact hs1423
      exact WL_nil ⟨rfl, _, rfl, b87, A90, cap91, bs92, F100, hs1424, v1387, v1388, v1389, v1390, v1391, v1392, v1393, v1394, v1395, v1396, v1397, v1398, v1399, v1400, v1401, v1402, v1403, v1404, v1405, v1406, v1407, v1408, v1409, v1410, v1411, v1412, v1413, (fun _ => rfl), v1415, v1416, v1417, v1418, trivial⟩
    ·
      rintro dN vL g1425 w1426 ⟨b87, A90, cap91, bs92, F100, hs1427, v1433, v1434, v1435, v1436, v1437, v1438, v1439, v1440, v1441, v1442, v1443, v1444, v1445, v1446, v1447, v1448, v1449, v1450, v1451, v1452, v1453, v1454, v1455, v1456, v1457, v1458, v1459, v1460, v1461, v1462, v1463, v1464, _⟩ hD1428 hd1429 hu1430 hg1431 hk1432
      have e1465 : dN 9 = true := hd1429 9 (by decide +kernel)
      have e1466 : dN 17 = true := hd1429 17 (by decide +kernel)
      have e1467 : dN 23 = true := hd1429 23 (by decide +kernel)
      have e1468 : dN 27 = true := hd1429 27 (by decide +kernel)
      rw [e1466, e1465, e1467] at hs1427
      have hs1469 : Sep [] w0 (fun _ => False) w1426 [iAc dByte (.slice A90 256 cap91) (ofs 120 120) bs92 [], iAc dByte (.slice (some ⟨b87, 0, none⟩) 254 254) (List.replicate 254 (0)) [b87] [], iAc dByte (.slice A67 (((x1.crash 0 0 [1]).read 1).1.length) cap68) (((x1.crash 0 0 [1]).read 1).1) bs69 [], iOb (obDk d59) (x1.crash 0 0 [1]) F60 [], iAc dInt (.slice (some ⟨b56, 0, none⟩) 1 1) [1] [b56] [], iAc dByte (.slice A47 (((x1.crash 1 2 ([] : List Int)).read 1).1.length) cap48) (((x1.crash 1 2 ([] : List Int)).read 1).1) bs49 [], iOb (obDk d39) (x1.crash 1 2 ([] : List Int)) F40 [], iAc dInt (.slice (some ⟨b35, 0, none⟩) 1 1) [1] [b35] [], iAc dInt (.slice A26 x1.dirty.length cap27) x1.dirty bs28 [], iAc dByte (.slice A9 256 cap10) (ofs 120 120) bs11 [], iOb (obDk d1) ((x1.limit 0).flush.2) F100 []] := hs1427
      refine WL_at (L := [(1, .pointer (some ⟨d1, 0, none⟩)), (74, .bool true)]) ⟨(hk1432 1 (by decide +kernel)), ((hg1431 27 74 e1468 rfl).trans (v1460 e1468)), trivial⟩ ?_
      refine WL_on rfl rfl rfl ?_
      refine S_move rfl ?_
      have hs1470 : Sep [] w0 (fun _ => False) w1426 [(bif dN 17 then (iAc dByte (.slice A90 256 cap91) (ofs 120 120) bs92 []) else iNil), (bif dN 9 then (iAc dByte (.slice (some ⟨b87, 0, none⟩) 254 254) (List.replicate 254 (0)) [b87] []) else iNil), iAc dByte (.slice A67 (((x1.crash 0 0 [1]).read 1).1.length) cap68) (((x1.crash 0 0 [1]).read 1).1) bs69 [], iOb (obDk d59) (x1.crash 0 0 [1]) F60 [], iAc dInt (.slice (some ⟨b56, 0, none⟩) 1 1) [1] [b56] [], iAc dByte (.slice A47 (((x1.crash 1 2 ([] : List Int)).read 1).1.length) cap48) (((x1.crash 1 2 ([] : List Int)).read 1).1) bs49 [], iOb (obDk d39) (x1.crash 1 2 ([] : List Int)) F40 [], iAc dInt (.slice (some ⟨b35, 0, none⟩) 1 1) [1] [b35] [], iAc dInt (.slice A26 x1.dirty.length cap27) x1.dirty bs28 [], iAc dByte (.slice A9 256 cap10) (ofs 120 120) bs11 [], (bif dN 23 then (iOb (obDk d1) ((x1.limit 0).flush.2) F100 []) else (iOb (obDk d1) (x1.limit 0) F78 []))] := by rw [e1466, e1465, e1467]; exact hs1469
      exact WL_nil ⟨rfl, _, rfl, b87, A90, cap91, bs92, F100, hs1470, v1433, v1434, v1435, v1436, v1437, v1438, v1439, v1440, v1441, v1442, v1443, v1444, v1445, v1446, v1447, v1448, v1449, v1450, v1451, v1452, v1453, v1454, v1455, v1456, v1457, v1458, v1459, v1460, (fun _ => rfl), v1462, v1463, v1464, trivial⟩
    ·
      rintro dN vL g1471 w1472 ⟨b87, A90, cap91, bs92, F100, hs1473, v1479, v1480, v1481, v1482, v1483, v1484, v1485, v1486, v1487, v1488, v1489, v1490, v1491, v1492, v1493, v1494, v1495, v1496, v1497, v1498, v1499, v1500, v1501, v1502, v1503, v1504, v1505, v1506, v1507, v1508, v1509, v1510, _⟩ hD1474 hd1475 hu1476 hg1477 hk1478
      have e1511 : dN 9 = true := hd1475 9 (by decide +kernel)
      have e1512 : dN 17 = true := hd1475 17 (by decide +kernel)
      have e1513 : dN 23 = true := hd1475 23 (by decide +kernel)
      have e1514 : dN 27 = true := hd1475 27 (by decide +kernel)
      have e1515 : dN 28 = true := hd1475 28 (by decide +kernel)
      rw [e1512, e1511, e1513] at hs1473
      have hs1516 : Sep [] w0 (fun _ => False) w1472 [iAc dByte (.slice A90 256 cap91) (ofs 120 120) bs92 [], iAc dByte (.slice (some ⟨b87, 0, none⟩) 254 254) (List.replicate 254 (0)) [b87] [], iAc dByte (.slice A67 (((x1.crash 0 0 [1]).read 1).1.length) cap68) (((x1.crash 0 0 [1]).read 1).1) bs69 [], iOb (obDk d59) (x1.crash 0 0 [1]) F60 [], iAc dInt (.slice (some ⟨b56, 0, none⟩) 1 1) [1] [b56] [], iAc dByte (.slice A47 (((x1.crash 1 2 ([] : List Int)).read 1).1.length) cap48) (((x1.crash 1 2 ([] : List Int)).read 1).1) bs49 [], iOb (obDk d39) (x1.crash 1 2 ([] : List Int)) F40 [], iAc dInt (.slice (some ⟨b35, 0, none⟩) 1 1) [1] [b35] [], iAc dInt (.slice A26 x1.dirty.length cap27) x1.dirty bs28 [], iAc dByte (.slice A9 256 cap10) (ofs 120 120) bs11 [], iOb (obDk d1) ((x1.limit 0).flush.2) F100 []] := hs1473
      refine WL_at (L := [(74, .bool true), (75, .pointer (some ⟨d1, 0, none⟩))]) ⟨((hg1477 27 74 e1514 rfl).trans (v1506 e1514)), ((hg1477 28 75 e1515 rfl).trans (v1507 e1515)), trivial⟩ ?_
      refine WL_on rfl rfl rfl ?_
      refine S_callQ Try.call15 rfl (off_ok (hs1516.at 10 rfl) (flush_Ok (limit_Ok (write_Ok (new_Ok (n := 3) (by decide) (by decide)) 1 (ofs 120 120)) (n := 0) (by simp only [InI]; omega)))) rfl ?_
      refine WL_conv (congrArg Value.bool f2_eq) ?_
      have hs1517 : Sep [] w0 (fun _ => False) w1472 [(bif dN 17 then (iAc dByte (.slice A90 256 cap91) (ofs 120 120) bs92 []) else iNil), (bif dN 9 then (iAc dByte (.slice (some ⟨b87, 0, none⟩) 254 254) (List.replicate 254 (0)) [b87] []) else iNil), iAc dByte (.slice A67 (((x1.crash 0 0 [1]).read 1).1.length) cap68) (((x1.crash 0 0 [1]).read 1).1) bs69 [], iOb (obDk d59) (x1.crash 0 0 [1]) F60 [], iAc dInt (.slice (some ⟨b56, 0, none⟩) 1 1) [1] [b56] [], iAc dByte (.slice A47 (((x1.crash 1 2 ([] : List Int)).read 1).1.length) cap48) (((x1.crash 1 2 ([] : List Int)).read 1).1) bs49 [], iOb (obDk d39) (x1.crash 1 2 ([] : List Int)) F40 [], iAc dInt (.slice (some ⟨b35, 0, none⟩) 1 1) [1] [b35] [], iAc dInt (.slice A26 x1.dirty.length cap27) x1.dirty bs28 [], iAc dByte (.slice A9 256 cap10) (ofs 120 120) bs11 [], (bif dN 23 then (iOb (obDk d1) ((x1.limit 0).flush.2) F100 []) else (iOb (obDk d1) (x1.limit 0) F78 []))] := by rw [e1512, e1511, e1513]; exact hs1516
      exact WL_nil ⟨rfl, _, rfl, b87, A90, cap91, bs92, F100, hs1517, v1479, v1480, v1481, v1482, v1483, v1484, v1485, v1486, v1487, v1488, v1489, v1490, v1491, v1492, v1493, v1494, v1495, v1496, v1497, v1498, v1499, v1500, v1501, v1502, v1503, v1504, v1505, v1506, v1507, (fun _ => rfl), v1509, v1510, trivial⟩
    ·
      rintro dN vL g1518 w1519 ⟨b87, A90, cap91, bs92, F100, hs1520, v1526, v1527, v1528, v1529, v1530, v1531, v1532, v1533, v1534, v1535, v1536, v1537, v1538, v1539, v1540, v1541, v1542, v1543, v1544, v1545, v1546, v1547, v1548, v1549, v1550, v1551, v1552, v1553, v1554, v1555, v1556, v1557, _⟩ hD1521 hd1522 hu1523 hg1524 hk1525
      have e1558 : dN 9 = true := hd1522 9 (by decide +kernel)
      have e1559 : dN 17 = true := hd1522 17 (by decide +kernel)
      have e1560 : dN 23 = true := hd1522 23 (by decide +kernel)
      have e1561 : dN 27 = true := hd1522 27 (by decide +kernel)
      have e1562 : dN 29 = true := hd1522 29 (by decide +kernel)
      rw [e1559, e1558, e1560] at hs1520
      have hs1563 : Sep [] w0 (fun _ => False) w1519 [iAc dByte (.slice A90 256 cap91) (ofs 120 120) bs92 [], iAc dByte (.slice (some ⟨b87, 0, none⟩) 254 254) (List.replicate 254 (0)) [b87] [], iAc dByte (.slice A67 (((x1.crash 0 0 [1]).read 1).1.length) cap68) (((x1.crash 0 0 [1]).read 1).1) bs69 [], iOb (obDk d59) (x1.crash 0 0 [1]) F60 [], iAc dInt (.slice (some ⟨b56, 0, none⟩) 1 1) [1] [b56] [], iAc dByte (.slice A47 (((x1.crash 1 2 ([] : List Int)).read 1).1.length) cap48) (((x1.crash 1 2 ([] : List Int)).read 1).1) bs49 [], iOb (obDk d39) (x1.crash 1 2 ([] : List Int)) F40 [], iAc dInt (.slice (some ⟨b35, 0, none⟩) 1 1) [1] [b35] [], iAc dInt (.slice A26 x1.dirty.length cap27) x1.dirty bs28 [], iAc dByte (.slice A9 256 cap10) (ofs 120 120) bs11 [], iOb (obDk d1) ((x1.limit 0).flush.2) F100 []] := hs1520
      refine WL_at (L := [(74, .bool true), (76, .bool true)]) ⟨((hg1524 27 74 e1561 rfl).trans (v1553 e1561)), ((hg1524 29 76 e1562 rfl).trans (v1555 e1562)), trivial⟩ ?_
      refine S_pick_t rfl rfl ?_
      have hs1564 : Sep [] w0 (fun _ => False) w1519 [(bif dN 17 then (iAc dByte (.slice A90 256 cap91) (ofs 120 120) bs92 []) else iNil), (bif dN 9 then (iAc dByte (.slice (some ⟨b87, 0, none⟩) 254 254) (List.replicate 254 (0)) [b87] []) else iNil), iAc dByte (.slice A67 (((x1.crash 0 0 [1]).read 1).1.length) cap68) (((x1.crash 0 0 [1]).read 1).1) bs69 [], iOb (obDk d59) (x1.crash 0 0 [1]) F60 [], iAc dInt (.slice (some ⟨b56, 0, none⟩) 1 1) [1] [b56] [], iAc dByte (.slice A47 (((x1.crash 1 2 ([] : List Int)).read 1).1.length) cap48) (((x1.crash 1 2 ([] : List Int)).read 1).1) bs49 [], iOb (obDk d39) (x1.crash 1 2 ([] : List Int)) F40 [], iAc dInt (.slice (some ⟨b35, 0, none⟩) 1 1) [1] [b35] [], iAc dInt (.slice A26 x1.dirty.length cap27) x1.dirty bs28 [], iAc dByte (.slice A9 256 cap10) (ofs 120 120) bs11 [], (bif dN 23 then (iOb (obDk d1) ((x1.limit 0).flush.2) F100 []) else (iOb (obDk d1) (x1.limit 0) F78 []))] := by rw [e1559, e1558, e1560]; exact hs1563
      exact WL_nil ⟨rfl, _, rfl, b87, A90, cap91, bs92, F100, hs1564, v1526, v1527, v1528, v1529, v1530, v1531, v1532, v1533, v1534, v1535, v1536, v1537, v1538, v1539, v1540, v1541, v1542, v1543, v1544, v1545, v1546, v1547, v1548, v1549, v1550, v1551, v1552, v1553, v1554, v1555, (fun _ => rfl), v1557, trivial⟩
    ·
      rintro dN vL g1565 w1566 ⟨b87, A90, cap91, bs92, F100, hs1567, v1573, v1574, v1575, v1576, v1577, v1578, v1579, v1580, v1581, v1582, v1583, v1584, v1585, v1586, v1587, v1588, v1589, v1590, v1591, v1592, v1593, v1594, v1595, v1596, v1597, v1598, v1599, v1600, v1601, v1602, v1603, v1604, _⟩ hD1568 hd1569 hu1570 hg1571 hk1572
      have e1605 : dN 9 = true := hd1569 9 (by decide +kernel)
      have e1606 : dN 17 = true := hd1569 17 (by decide +kernel)
      have e1607 : dN 23 = true := hd1569 23 (by decide +kernel)
      have e1608 : dN 30 = true := hd1569 30 (by decide +kernel)
      rw [e1606, e1605, e1607] at hs1567
      have hs1609 : Sep [] w0 (fun _ => False) w1566 [iAc dByte (.slice A90 256 cap91) (ofs 120 120) bs92 [], iAc dByte (.slice (some ⟨b87, 0, none⟩) 254 254) (List.replicate 254 (0)) [b87] [], iAc dByte (.slice A67 (((x1.crash 0 0 [1]).read 1).1.length) cap68) (((x1.crash 0 0 [1]).read 1).1) bs69 [], iOb (obDk d59) (x1.crash 0 0 [1]) F60 [], iAc dInt (.slice (some ⟨b56, 0, none⟩) 1 1) [1] [b56] [], iAc dByte (.slice A47 (((x1.crash 1 2 ([] : List Int)).read 1).1.length) cap48) (((x1.crash 1 2 ([] : List Int)).read 1).1) bs49 [], iOb (obDk d39) (x1.crash 1 2 ([] : List Int)) F40 [], iAc dInt (.slice (some ⟨b35, 0, none⟩) 1 1) [1] [b35] [], iAc dInt (.slice A26 x1.dirty.length cap27) x1.dirty bs28 [], iAc dByte (.slice A9 256 cap10) (ofs 120 120) bs11 [], iOb (obDk d1) ((x1.limit 0).flush.2) F100 []] := hs1567
      refine WL_at (L := [(77, .bool true)]) ⟨((hg1571 30 77 e1608 rfl).trans (v1603 e1608)), trivial⟩ ?_
      refine S_assign rfl ?_
      have hs1610 : Sep [] w0 (fun _ => False) w1566 [(bif dN 17 then (iAc dByte (.slice A90 256 cap91) (ofs 120 120) bs92 []) else iNil), (bif dN 9 then (iAc dByte (.slice (some ⟨b87, 0, none⟩) 254 254) (List.replicate 254 (0)) [b87] []) else iNil), iAc dByte (.slice A67 (((x1.crash 0 0 [1]).read 1).1.length) cap68) (((x1.crash 0 0 [1]).read 1).1) bs69 [], iOb (obDk d59) (x1.crash 0 0 [1]) F60 [], iAc dInt (.slice (some ⟨b56, 0, none⟩) 1 1) [1] [b56] [], iAc dByte (.slice A47 (((x1.crash 1 2 ([] : List Int)).read 1).1.length) cap48) (((x1.crash 1 2 ([] : List Int)).read 1).1) bs49 [], iOb (obDk d39) (x1.crash 1 2 ([] : List Int)) F40 [], iAc dInt (.slice (some ⟨b35, 0, none⟩) 1 1) [1] [b35] [], iAc dInt (.slice A26 x1.dirty.length cap27) x1.dirty bs28 [], iAc dByte (.slice A9 256 cap10) (ofs 120 120) bs11 [], (bif dN 23 then (iOb (obDk d1) ((x1.limit 0).flush.2) F100 []) else (iOb (obDk d1) (x1.limit 0) F78 []))] := by rw [e1606, e1605, e1607]; exact hs1609
      exact WL_nil ⟨rfl, _, rfl, b87, A90, cap91, bs92, F100, hs1610, v1573, v1574, v1575, v1576, v1577, v1578, v1579, v1580, v1581, v1582, v1583, v1584, v1585, v1586, v1587, v1588, v1589, v1590, v1591, v1592, v1593, v1594, v1595, v1596, v1597, v1598, v1599, v1600, v1601, v1602, v1603, (fun _ => rfl), trivial⟩
  ·
    rintro dN vL g1611 w1612 ha1614 ⟨b87, A90, cap91, bs92, F100, hs1613, v1617, v1618, v1619, v1620, v1621, v1622, v1623, v1624, v1625, v1626, v1627, v1628, v1629, v1630, v1631, v1632, v1633, v1634, v1635, v1636, v1637, v1638, v1639, v1640, v1641, v1642, v1643, v1644, v1645, v1646, v1647, v1648, _⟩ hg1615 hk1616
    rw [ha1614 9 rfl, ha1614 17 rfl, ha1614 23 rfl] at hs1613
    have hs1649 : Sep [] w0 (fun _ => False) w1612 [iAc dByte (.slice A90 256 cap91) (ofs 120 120) bs92 [], iAc dByte (.slice (some ⟨b87, 0, none⟩) 254 254) (List.replicate 254 (0)) [b87] [], iAc dByte (.slice A67 (((x1.crash 0 0 [1]).read 1).1.length) cap68) (((x1.crash 0 0 [1]).read 1).1) bs69 [], iOb (obDk d59) (x1.crash 0 0 [1]) F60 [], iAc dInt (.slice (some ⟨b56, 0, none⟩) 1 1) [1] [b56] [], iAc dByte (.slice A47 (((x1.crash 1 2 ([] : List Int)).read 1).1.length) cap48) (((x1.crash 1 2 ([] : List Int)).read 1).1) bs49 [], iOb (obDk d39) (x1.crash 1 2 ([] : List Int)) F40 [], iAc dInt (.slice (some ⟨b35, 0, none⟩) 1 1) [1] [b35] [], iAc dInt (.slice A26 x1.dirty.length cap27) x1.dirty bs28 [], iAc dByte (.slice A9 256 cap10) (ofs 120 120) bs11 [], iOb (obDk d1) ((x1.limit 0).flush.2) F100 []] := hs1613
    refine ⟨[(0, .bool true)], ⟨((hg1615 31 0 rfl rfl).trans (v1648 (ha1614 31 rfl))), trivial⟩, fun g1650 => ?_⟩
    refine W_ret ?_
    show (Value.bool true) = .bool true ∧ Ext [] w0 w1612
    exact ⟨rfl, hs1649.ext⟩
end Go.Proofs.Ytdgcgifigkfeaaa
