/- Disks: walks, printed by program, and their plain law. -/
import Derived.Test.YtdgcgifigkfeaaaL
namespace Go.Proofs.Ytdgcgifigkfeaaa
open Go Go.Wk Go.Wl Classical
theorem no_ok {w0 : World} {z : Int} (h0 : 0 ≤ z) (h1 : z ≤ 16) :
    CallR Try.prog 11 [errv 64 z] w0 (fun v w' => v = .int .i64 z ∧ w' = w0) := by
  refine Call1 Try.func11 rfl rfl rfl rfl ?_
  refine W_seq ?_
  refine W_region ?_
  refine S_assign rfl ?_
  refine WL_nil ?_
  refine W_seq ?_
  refine W_seq ?_
  refine W_region ?_
  refine S_move rfl ?_
  refine S_eqlE (Te := 64) (e := z) Try.runUnderlying25 rfl rfl ?_
  refine WL_nil ?_
  refine W_cond rfl (fun h1 => ?_) (fun h1 => ?_)
  ·
    have p2 := of_decide_eq_true h1
    refine W_seq ?_
    refine W_region ?_
    refine S_assign rfl ?_
    refine WL_nil ?_
    refine W_ret ?_
    show (Value.int .i64 0) = .int .i64 z ∧ w0 = w0
    exact ⟨by rw [‹z = 0›], rfl⟩
  ·
    have p3 := of_decide_eq_false h1
    refine W_skip ?_
    refine W_seq ?_
    refine W_seq ?_
    refine W_region ?_
    refine S_assign rfl ?_
    refine WL_nil ?_
    refine W_block ?_
    refine W_loopE (fun m f w => ∃ (k : Int), m = (17 - k).toNat ∧ (1 ≤ k) ∧ (k ≤ 17) ∧ (∀ j : Int, 1 ≤ j → j < k → ¬ z = j) ∧ w0 = w ∧ Live f [(0, errv 64 z), (3, .int .i64 k)]) ?_ ?_
    · exact ⟨_, 1, rfl, (by omega), (by omega), (fun j h1 h2 => by omega), rfl, ⟨rfl, rfl, trivial⟩⟩
    ·
      rintro _ f5 _ ⟨k, rfl, q8, q9, q10, rfl, hl7⟩
      refine W_live hl7 ?_
      intro g11
      refine W_seq ?_
      refine W_seq ?_
      refine W_region ?_
      refine S_move rfl ?_
      refine S_leq rfl rfl rfl ?_
      refine WL_nil ?_
      refine W_cond rfl (fun h12 => ?_) (fun h12 => ?_)
      ·
        have p13 := of_decide_eq_true h12
        refine W_skip ?_
        refine W_seq ?_
        refine W_block ?_
        refine W_seq ?_
        refine W_region ?_
        refine S_move rfl ?_
        refine S_move rfl ?_
        refine S_makeI Try.runUnderlying64 rfl rfl rfl ?_
        refine S_callQ Try.call28 rfl (is_ok ‹_›) rfl ?_
        refine WL_nil ?_
        refine W_cond rfl (fun h14 => ?_) (fun h14 => ?_)
        ·
          have p15 := of_decide_eq_true h14
          refine W_seq ?_
          refine W_region ?_
          refine S_move rfl ?_
          refine S_assign rfl ?_
          refine WL_nil ?_
          refine W_ret ?_
          show (Value.int .i64 k) = .int .i64 z ∧ w0 = w0
          exact ⟨by rw [‹z = _›], rfl⟩
        ·
          have p16 := of_decide_eq_false h14
          refine W_skip ?_
          refine W_region ?_
          refine S_move rfl ?_
          refine S_add rfl rfl (by omega) rfl ?_
          refine S_assign rfl ?_
          refine WL_nil ?_
          exact ⟨_, (by omega), k + 1, rfl, (by omega), (by omega), (fun j h1 h2 => by by_cases e : j = k; (subst e; assumption); exact q10 j h1 (by omega)), rfl, ⟨rfl, rfl, trivial⟩⟩
      ·
        have p17 := of_decide_eq_false h12
        refine W_exit ?_
        refine W_seq ?_
        refine W_region ?_
        refine S_assign rfl ?_
        refine WL_nil ?_
        refine W_ret ?_
        show (Value.int .i64 (-1)) = .int .i64 z ∧ w0 = w0
        exact (q10 z (by omega) (by omega) rfl).elim
theorem of_ok {w0 : World} (c e : UInt8) :
    CallR Try.prog 26 [bv c, bv e] w0 (fun v w' => ∃ A cap bs, v = .slice A 256 cap ∧ Ac dByte (fun _ => False) w' (.slice A 256 cap) (ofs c e) bs ∧ Ext [] w0 w' ∧ ∀ b ∈ bs, w0.heap.size ≤ b) := by
  have hs0 := Sep.nil (B0 := []) (w0 := w0) (Z := fun _ => False) (fun _ h => h.elim)
  refine Call1 Try.func26 rfl rfl rfl rfl ?_
  refine W_seq ?_
  refine W_region ?_
  refine S_assign rfl ?_
  refine WL_nil ?_
  refine W_seq ?_
  refine W_region ?_
  refine Z_makeSlice (r := dByte) (zc := [bv 0]) (zx := 0) hs0 Try.runUnderlying47 Try.typeInfo5 Try.sizeOf5 Try.zeroValue5 rfl rfl (by decide) (fun _ _ => rfl) rfl rfl (by omega) (by decide) (by omega) rfl ?_
  intro b1 w2 hs3
  have hs3 : Sep [] w0 (fun _ => False) w2 [iAc dByte (.slice (some ⟨b1, 0, none⟩) 256 256) (List.replicate 256 (0)) [b1] []] := hs3
  refine S_assign rfl ?_
  refine WL_nil ?_
  refine W_seq ?_
  refine W_seq ?_
  refine W_region ?_
  refine S_move rfl ?_
  refine S_len Try.runUnderlying47 rfl rfl ?_
  refine S_move rfl ?_
  refine WL_nil ?_
  refine W_block ?_
  refine W_loopE (fun m f w => ∃ (i : Int) (l : Str), m = (256 - i).toNat ∧ (0 ≤ i) ∧ (i ≤ 256) ∧ (l.length = 256) ∧ (∀ j : Int, 0 ≤ j → j < i → ix l j = c) ∧ Sep [] w0 (fun _ => False) w [iAc dByte (.slice (some ⟨b1, 0, none⟩) 256 256) l [b1] []] ∧ Live f [(0, bv c), (1, bv e), (5, .slice (some ⟨b1, 0, none⟩) 256 256), (9, .int .i64 256), (10, .int .i64 i)]) ?_ ?_
  · exact ⟨_, 0, _, rfl, (by omega), (by omega), List.length_replicate, (fun j h1 h2 => by omega), hs3, ⟨rfl, rfl, rfl, rfl, rfl, trivial⟩⟩
  ·
    rintro _ f6 w4 ⟨i, l, rfl, q9, q10, q11, q12, hs7, hl8⟩
    refine W_live hl8 ?_
    intro g13
    refine W_seq ?_
    refine W_region ?_
    refine S_lss rfl rfl rfl ?_
    refine WL_nil ?_
    refine W_seq ?_
    refine W_cond rfl (fun h14 => ?_) (fun h14 => ?_)
    ·
      have p15 := of_decide_eq_true h14
      refine W_skip ?_
      refine W_seq ?_
      refine W_block ?_
      refine W_seq ?_
      refine W_region ?_
      refine S_move rfl ?_
      refine S_assign rfl ?_
      refine WL_nil ?_
      refine W_region ?_
      refine S_move rfl ?_
      refine S_move rfl ?_
      refine S_move rfl ?_
      refine Z_indexAc (hs7.at 0 rfl) Try.runUnderlying47 Try.sizeOf5 rfl rfl (show (0 : Int) ≤ i from by omega) (show i < ((256 : Nat) : Int) from by omega) rfl ?_
      refine Z_storeEl (o := 0) (sz := 1) hs7 0 rfl Try.sizeOf5 rfl rfl (Nat.add_zero _).symm rfl rfl (show (0 : Int) ≤ i from by omega) (show i < ((256 : Nat) : Int) from by omega) (fun c0 _ hc => st_byte c0 hc) rfl ?_
      intro w16 hs17
      have hs17 : Sep [] w0 (fun _ => False) w16 [iAc dByte (.slice (some ⟨b1, 0, none⟩) 256 256) (List.set l (Int.toNat i) c) [b1] []] := hs17
      refine WL_nil ?_
      refine W_region ?_
      refine S_add rfl rfl (by omega) rfl ?_
      refine S_move rfl ?_
      refine WL_nil ?_
      exact ⟨_, (by omega), i + 1, List.set l (Int.toNat i) c, rfl, (by omega), (by omega), (by rw [List.length_set]; exact q11), (ofs_next q11 (by omega) (by omega) q12), hs17, ⟨rfl, rfl, rfl, rfl, rfl, trivial⟩⟩
    ·
      have p18 := of_decide_eq_false h14
      refine W_exit ?_
      refine W_seq ?_
      refine W_region ?_
      refine S_move rfl ?_
      refine S_move rfl ?_
      refine S_len Try.runUnderlying47 rfl rfl ?_
      refine S_sub rfl rfl (by omega) rfl ?_
      refine S_move rfl ?_
      refine Z_indexAc (hs7.at 0 rfl) Try.runUnderlying47 Try.sizeOf5 rfl rfl (show (0 : Int) ≤ 256 - 1 from by omega) (show 256 - 1 < ((256 : Nat) : Int) from by omega) rfl ?_
      refine Z_storeEl (o := 0) (sz := 1) hs7 0 rfl Try.sizeOf5 rfl rfl (Nat.add_zero _).symm rfl rfl (show (0 : Int) ≤ 256 - 1 from by omega) (show 256 - 1 < ((256 : Nat) : Int) from by omega) (fun c0 _ hc => st_byte c0 hc) rfl ?_
      intro w19 hs20
      have hs20 : Sep [] w0 (fun _ => False) w19 [iAc dByte (.slice (some ⟨b1, 0, none⟩) 256 256) (List.set l (Int.toNat (256 - 1)) e) [b1] []] := hs20
      refine WL_nil ?_
      refine W_seq ?_
      refine W_region ?_
      refine S_move rfl ?_
      refine S_assign rfl ?_
      refine WL_nil ?_
      refine W_ret ?_
      show ∃ A cap bs, (Value.slice (some ⟨b1, 0, none⟩) 256 256) = .slice A 256 cap ∧ Ac dByte (fun _ => False) w19 (.slice A 256 cap) (ofs c e) bs ∧ Ext [] w0 w19 ∧ ∀ b ∈ bs, w0.heap.size ≤ b
      have ha := hs20.at 0 rfl
      have e1 : List.set l 255 e = ofs c e := ofs_eq q11 (fun j h1 h2 => q12 j h1 (by omega))
      rw [show ((256 : Int) - 1).toNat = 255 from rfl, e1] at ha
      exact ⟨_, _, _, rfl, ha, hs20.ext, fun b hb => (hs20.org 0 rfl b hb).elim (fun h => by cases h) id⟩
theorem bytes_ok {w0 : World} (a : Act) {A : Option Addr} {cap : Nat} :
    CallR Try.prog 29 [.agg #[.int .i64 a.Kind, .int .i64 a.At, .int .i64 a.N, bv a.By, .slice A a.Kept.length cap]] w0 (fun v w' => ∃ A cap bs, v = .slice A a.bytes.length cap ∧ Ac dByte (fun _ => False) w' (.slice A a.bytes.length cap) a.bytes bs ∧ Ext [] w0 w' ∧ ∀ b ∈ bs, w0.heap.size ≤ b) := by
  have hs0 := Sep.nil (B0 := []) (w0 := w0) (Z := fun _ => False) (fun _ h => h.elim)
  refine Call1 Try.func29 rfl rfl rfl rfl ?_
  refine W_seq ?_
  refine W_region ?_
  refine Z_box hs0 rfl ?_
  intro b1 w2 hs3
  have hs3 : Sep [] w0 (fun _ => False) w2 [iOwn b1 39 [.int .i64 a.Kind, .int .i64 a.At, .int .i64 a.N, bv a.By, .slice A a.Kept.length cap] []] := hs3
  refine S_assign rfl ?_
  refine WL_nil ?_
  refine W_seq ?_
  refine W_seq ?_
  refine W_region ?_
  refine S_fieldAddr Try.runUnderlying39 rfl Try.sizeOf3 rfl rfl ?_
  refine S_load1 Try.isAgg3 rfl (Own.at (hs3.at 0 rfl) rfl) rfl ?_
  refine S_geq rfl rfl rfl ?_
  refine WL_nil ?_
  refine W_cond rfl (fun h4 => ?_) (fun h4 => ?_)
  ·
    have p5 := of_decide_eq_true h4
    refine W_seq ?_
    refine W_region ?_
    refine S_fieldAddr Try.runUnderlying39 rfl Try.sizeOf3 rfl rfl ?_
    refine S_load1 Try.isAgg3 rfl (Own.at (hs3.at 0 rfl) rfl) rfl ?_
    refine S_min rfl rfl rfl ?_
    refine Z_makeSlice (r := dByte) (zc := [bv 0]) (zx := 0) hs3 Try.runUnderlying47 Try.typeInfo5 Try.sizeOf5 Try.zeroValue5 rfl rfl (by decide) (fun _ _ => rfl) rfl rfl (by omega) (by show (1 : Int) * _ ≤ _; omega) (by omega) rfl ?_
    intro b6 w7 hs8
    have hs8 : Sep [] w0 (fun _ => False) w7 [iAc dByte (.slice (some ⟨b6, 0, none⟩) (Int.toNat (min a.N 300)) (Int.toNat (min a.N 300))) (List.replicate (Int.toNat (min a.N 300)) (0)) [b6] [], iOwn b1 39 [.int .i64 a.Kind, .int .i64 a.At, .int .i64 a.N, bv a.By, .slice A a.Kept.length cap] []] := hs8
    refine S_assign rfl ?_
    refine WL_nil ?_
    refine W_ret ?_
    show ∃ A cap bs, (Value.slice (some ⟨b6, 0, none⟩) (Int.toNat (min a.N 300)) (Int.toNat (min a.N 300))) = .slice A a.bytes.length cap ∧ Ac dByte (fun _ => False) w7 (.slice A a.bytes.length cap) a.bytes bs ∧ Ext [] w0 w7 ∧ ∀ b ∈ bs, w0.heap.size ≤ b
    have e : a.bytes = List.replicate (min a.N 300).toNat 0 := if_pos ‹_›
    have ha := hs8.at 0 rfl
    have hl := Ac.len ha
    rw [e, hl]
    exact ⟨_, _, _, rfl, ha, hs8.ext, fun b hb => (hs8.org 0 rfl b hb).elim (fun h => by cases h) id⟩
  ·
    have p9 := of_decide_eq_false h4
    refine W_skip ?_
    refine W_seq ?_
    refine W_region ?_
    refine S_fieldAddr Try.runUnderlying39 rfl Try.sizeOf5 rfl rfl ?_
    refine S_load1 Try.isAgg5 rfl (Own.at (hs3.at 0 rfl) rfl) rfl ?_
    refine S_fieldAddr Try.runUnderlying39 rfl Try.sizeOf5 rfl rfl ?_
    refine S_load1 Try.isAgg5 rfl (Own.at (hs3.at 0 rfl) rfl) rfl ?_
    refine S_addB (a := a.By) (b := (1 : UInt8)) rfl rfl rfl ?_
    have hz17 := of_ok (w0 := w2) a.By (a.By + (1 : UInt8))
    refine S_call3 Try.call26 rfl hz17 rfl ?_
    rintro A10 cap11 bs12 w13 ⟨ha14, e15, hf16⟩
    have hs18 : Sep [] w0 (fun _ => False) w13 [iAc dByte (.slice A10 256 cap11) (ofs a.By (a.By + (1 : UInt8))) bs12 [], iOwn b1 39 [.int .i64 a.Kind, .int .i64 a.At, .int .i64 a.N, bv a.By, .slice A a.Kept.length cap] []] := hs3.madeAc e15 ha14 hf16
    refine S_assign rfl ?_
    refine WL_nil ?_
    refine W_ret ?_
    show ∃ A cap bs, (Value.slice A10 256 cap11) = .slice A a.bytes.length cap ∧ Ac dByte (fun _ => False) w13 (.slice A a.bytes.length cap) a.bytes bs ∧ Ext [] w0 w13 ∧ ∀ b ∈ bs, w0.heap.size ≤ b
    have e : a.bytes = ofs a.By (a.By + 1) := if_neg ‹_›
    have ha := hs18.at 0 rfl
    have hl := Ac.len ha
    rw [e, hl]
    exact ⟨_, _, _, rfl, ha, hs18.ext, fun b hb => (hs18.org 0 rfl b hb).elim (fun h => by cases h) id⟩
theorem rnew_ok {w0 : World} {n : Int} (h0 : 1 ≤ n) (h1 : n ≤ 8192) :
    CallR Try.prog 10 [.int .i64 n] w0 (fun v w' => ∃ d F2, v = .tuple #[.pointer (some ⟨d, 0, none⟩), .int .i64 0] ∧ RkIs d w' (Rk.new n) F2 ∧ Ext [] w0 w' ∧ ∀ b ∈ F2, w0.heap.size ≤ b) := by
  have hs0 := Sep.nil (B0 := []) (w0 := w0) (Z := fun _ => False) (fun _ h => h.elim)
  refine Call2 Try.func10 rfl rfl rfl rfl ?_
  refine W_seq ?_
  refine W_region ?_
  refine S_assign rfl ?_
  refine S_assign rfl ?_
  refine WL_nil ?_
  refine W_seq ?_
  refine W_seq ?_
  refine W_region ?_
  refine S_move rfl ?_
  refine S_lss rfl rfl rfl ?_
  refine S_move rfl ?_
  refine WL_split (dj := 8) rfl (fun h1 => ?_) (fun h1 => ?_)
  ·
    have p2 := of_decide_eq_true h1
    exfalso; omega
  ·
    have p3 := of_decide_eq_false h1
    refine WL_on rfl rfl (bF h1) ?_
    refine S_move rfl ?_
    refine WL_on rfl rfl (bF h1) ?_
    refine S_gtr rfl rfl rfl ?_
    refine S_pick_f (bF h1) rfl ?_
    refine WL_nil ?_
    refine W_cond rfl (fun h4 => ?_) (fun h4 => ?_)
    ·
      have p5 := of_decide_eq_true h4
      exfalso; omega
    ·
      have p6 := of_decide_eq_false h4
      refine W_skip ?_
      refine W_seq ?_
      refine W_region ?_
      refine S_build (pl := #[(0, 1), (1, 1), (2, 1), (3, 1), (4, 1)]) (cs := [.slice none 0 0, .slice none 0 0, .slice none 0 0, .int .i64 (-1), .bool false]) Try.runUnderlying43 Try.zeroValue43 (by intro w; kernel_rfl) rfl rfl rfl ?_
      refine Z_box hs0 rfl ?_
      intro b7 w8 hs9
      have hs9 : Sep [] w0 (fun _ => False) w8 [iOwn b7 43 [.slice none 0 0, .slice none 0 0, .slice none 0 0, .int .i64 (-1), .bool false] []] := hs9
      refine S_assign rfl ?_
      have hs10 : Sep [] w0 (fun _ => False) w8 [iAc dStr (.slice none 0 0) [] [] [], iAc dInt (.slice none 0 0) [] [] [], iAc dStr (.slice none 0 0) [] [] [], iOwn b7 43 [.slice none 0 0, .slice none 0 0, .slice none 0 0, .int .i64 (-1), .bool false] []] := ((hs9.fact Ac.nil sAc rfl rfl).fact Ac.nil sAc rfl rfl).fact Ac.nil sAc rfl rfl
      refine WL_nil ?_
      refine W_seq ?_
      refine W_seq ?_
      refine W_live (L := [(0, .int .i64 n), (4, .pointer (some ⟨b7, 0, none⟩))]) ⟨rfl, rfl, trivial⟩ ?_
      intro g11
      refine W_region ?_
      refine S_assign rfl ?_
      refine WL_nil ?_
      refine W_block ?_
      refine W_loopE (fun m f w => ∃ (i : Int) (la : List Str) (A12 : Option Addr) (cap13 : Nat) (bs14 : List Nat), m = (n - i).toNat ∧ (0 ≤ i) ∧ (i ≤ n) ∧ (la = List.replicate i.toNat (List.replicate 256 0)) ∧ Sep [] w0 (fun _ => False) w [iAc dStr (.slice A12 la.length cap13) la bs14 [], iAc dInt (.slice none 0 0) [] [] [], iAc dStr (.slice none 0 0) [] [] [], iOwn b7 43 [.slice A12 la.length cap13, .slice none 0 0, .slice none 0 0, .int .i64 (-1), .bool false] []] ∧ Live f [(0, .int .i64 n), (4, .pointer (some ⟨b7, 0, none⟩)), (5, .int .i64 i)]) ?_ ?_
      · exact ⟨_, 0, [], _, _, _, rfl, (by omega), (by omega), rfl, hs10, ⟨rfl, rfl, rfl, trivial⟩⟩
      ·
        rintro _ f17 w15 ⟨i, la, A12, cap13, bs14, rfl, q20, q21, q22, hs18, hl19⟩
        refine W_live hl19 ?_
        intro g23
        have hla : la.length = i.toNat := by rw [q22, List.length_replicate]
        refine W_seq ?_
        refine W_seq ?_
        refine W_region ?_
        refine S_move rfl ?_
        refine S_move rfl ?_
        refine S_lss rfl rfl rfl ?_
        refine WL_nil ?_
        refine W_cond rfl (fun h24 => ?_) (fun h24 => ?_)
        ·
          have p25 := of_decide_eq_true h24
          refine W_skip ?_
          refine W_seq ?_
          refine W_block ?_
          refine W_live (L := [(0, .int .i64 n), (4, .pointer (some ⟨b7, 0, none⟩)), (5, .int .i64 i)]) ⟨rfl, rfl, rfl, trivial⟩ ?_
          intro g26
          refine W_region_J (fun dN vL w => ∃ (b27 : Nat) (b30 : Nat) (A35 : Option Addr) (cap36 : Nat) (bs37 : List Nat), Sep [] w0 (fun _ => False) w [(bif dN 7 then (iAc dStr (.slice (some ⟨b30, 0, none⟩) 1 1) [List.replicate 256 (0)] [b30] []) else iNil), (bif dN 5 then (iAc dByte (.slice (some ⟨b27, 0, none⟩) 256 256) (List.replicate 256 (0)) [b27] []) else iNil), (bif dN 8 then (iAc dStr (.slice A35 ((la ++ [List.replicate 256 (0)]).length) cap36) (la ++ [List.replicate 256 (0)]) bs37 []) else (iAc dStr (.slice A12 la.length cap13) la bs14 [])), iAc dInt (.slice none 0 0) [] [] [], iAc dStr (.slice none 0 0) [] [] [], (bif dN 11 then (iOwn b7 43 [.slice A35 ((la ++ [List.replicate 256 (0)]).length) cap36, .slice none 0 0, .slice none 0 0, .int .i64 (-1), .bool false] []) else (iOwn b7 43 [.slice A12 la.length cap13, .slice none 0 0, .slice none 0 0, .int .i64 (-1), .bool false] []))] ∧ (dN 0 = true → vL 0 = .pointer (some ⟨b7, 0, none⟩)) ∧ (dN 1 = true → vL 1 = .pointer (some ⟨b7, 0, none⟩)) ∧ (dN 2 = true → vL 2 = .pointer (some ⟨b7, 0, none⟩)) ∧ (dN 3 = true → vL 3 = .pointer (some ⟨b7, 0, none⟩)) ∧ (dN 4 = true → vL 4 = .slice A12 la.length cap13) ∧ (dN 5 = true → vL 5 = .slice (some ⟨b27, 0, none⟩) 256 256) ∧ (dN 6 = true → vL 6 = sv (List.replicate 256 (0))) ∧ (dN 7 = true → vL 7 = .slice (some ⟨b30, 0, none⟩) 1 1) ∧ (dN 8 = true → vL 8 = .slice A35 ((la ++ [List.replicate 256 (0)]).length) cap36) ∧ (dN 9 = true → vL 9 = .pointer (some ⟨b7, 0, none⟩)) ∧ (dN 10 = true → vL 10 = .pointer (some ⟨b7, 0, none⟩)) ∧ True) [19, 20, 21, 22, 23, 24, 25, 26, 27, 28, 29] rfl (by decide +kernel) _ rfl ?_ ?_ ?_
          · exact fun V => ⟨0, 0, none, 0, [], (Sep.nilA (Sep.nilA hs18)), (fun h => by cases h), (fun h => by cases h), (fun h => by cases h), (fun h => by cases h), (fun h => by cases h), (fun h => by cases h), (fun h => by cases h), (fun h => by cases h), (fun h => by cases h), (fun h => by cases h), (fun h => by cases h), trivial⟩
          · refine (.cons ?_ (.cons ?_ (.cons ?_ (.cons ?_ (.cons ?_ (.cons ?_ (.cons ?_ (.cons ?_ (.cons ?_ (.cons ?_ (.cons ?_ (.cons ?_ .nil))))))))))))
            ·
              rintro dN vL g41 w42 ⟨b27, b30, A35, cap36, bs37, hs43, v49, v50, v51, v52, v53, v54, v55, v56, v57, v58, v59, _⟩ hD44 hd45 hu46 hg47 hk48
              have e60 : dN 11 = false := hu46 11 (by decide +kernel)
              rw [e60] at hs43
              have hs61 : Sep [] w0 (fun _ => False) w42 [(bif dN 7 then (iAc dStr (.slice (some ⟨b30, 0, none⟩) 1 1) [List.replicate 256 (0)] [b30] []) else iNil), (bif dN 5 then (iAc dByte (.slice (some ⟨b27, 0, none⟩) 256 256) (List.replicate 256 (0)) [b27] []) else iNil), (bif dN 8 then (iAc dStr (.slice A35 ((la ++ [List.replicate 256 (0)]).length) cap36) (la ++ [List.replicate 256 (0)]) bs37 []) else (iAc dStr (.slice A12 la.length cap13) la bs14 [])), iAc dInt (.slice none 0 0) [] [] [], iAc dStr (.slice none 0 0) [] [] [], iOwn b7 43 [.slice A12 la.length cap13, .slice none 0 0, .slice none 0 0, .int .i64 (-1), .bool false] []] := hs43
              refine WL_at (L := [(4, .pointer (some ⟨b7, 0, none⟩))]) ⟨(hk48 4 (by decide +kernel)), trivial⟩ ?_
              refine S_move rfl ?_
              have hs62 : Sep [] w0 (fun _ => False) w42 [(bif dN 7 then (iAc dStr (.slice (some ⟨b30, 0, none⟩) 1 1) [List.replicate 256 (0)] [b30] []) else iNil), (bif dN 5 then (iAc dByte (.slice (some ⟨b27, 0, none⟩) 256 256) (List.replicate 256 (0)) [b27] []) else iNil), (bif dN 8 then (iAc dStr (.slice A35 ((la ++ [List.replicate 256 (0)]).length) cap36) (la ++ [List.replicate 256 (0)]) bs37 []) else (iAc dStr (.slice A12 la.length cap13) la bs14 [])), iAc dInt (.slice none 0 0) [] [] [], iAc dStr (.slice none 0 0) [] [] [], (bif dN 11 then (iOwn b7 43 [.slice A35 ((la ++ [List.replicate 256 (0)]).length) cap36, .slice none 0 0, .slice none 0 0, .int .i64 (-1), .bool false] []) else (iOwn b7 43 [.slice A12 la.length cap13, .slice none 0 0, .slice none 0 0, .int .i64 (-1), .bool false] []))] := by rw [e60]; exact hs61
              exact WL_nil ⟨rfl, _, rfl, b27, b30, A35, cap36, bs37, hs62, (fun _ => rfl), v50, v51, v52, v53, v54, v55, v56, v57, v58, v59, trivial⟩
            ·
              rintro dN vL g63 w64 ⟨b27, b30, A35, cap36, bs37, hs65, v71, v72, v73, v74, v75, v76, v77, v78, v79, v80, v81, _⟩ hD66 hd67 hu68 hg69 hk70
              have e82 : dN 8 = false := hu68 8 (by decide +kernel)
              have e83 : dN 11 = false := hu68 11 (by decide +kernel)
              rw [e82, e83] at hs65
              have hs84 : Sep [] w0 (fun _ => False) w64 [(bif dN 7 then (iAc dStr (.slice (some ⟨b30, 0, none⟩) 1 1) [List.replicate 256 (0)] [b30] []) else iNil), (bif dN 5 then (iAc dByte (.slice (some ⟨b27, 0, none⟩) 256 256) (List.replicate 256 (0)) [b27] []) else iNil), iAc dStr (.slice A12 la.length cap13) la bs14 [], iAc dInt (.slice none 0 0) [] [] [], iAc dStr (.slice none 0 0) [] [] [], iOwn b7 43 [.slice A12 la.length cap13, .slice none 0 0, .slice none 0 0, .int .i64 (-1), .bool false] []] := hs65
              refine WL_at (L := [(4, .pointer (some ⟨b7, 0, none⟩))]) ⟨(hk70 4 (by decide +kernel)), trivial⟩ ?_
              refine S_move rfl ?_
              have hs85 : Sep [] w0 (fun _ => False) w64 [(bif dN 7 then (iAc dStr (.slice (some ⟨b30, 0, none⟩) 1 1) [List.replicate 256 (0)] [b30] []) else iNil), (bif dN 5 then (iAc dByte (.slice (some ⟨b27, 0, none⟩) 256 256) (List.replicate 256 (0)) [b27] []) else iNil), (bif dN 8 then (iAc dStr (.slice A35 ((la ++ [List.replicate 256 (0)]).length) cap36) (la ++ [List.replicate 256 (0)]) bs37 []) else (iAc dStr (.slice A12 la.length cap13) la bs14 [])), iAc dInt (.slice none 0 0) [] [] [], iAc dStr (.slice none 0 0) [] [] [], (bif dN 11 then (iOwn b7 43 [.slice A35 ((la ++ [List.replicate 256 (0)]).length) cap36, .slice none 0 0, .slice none 0 0, .int .i64 (-1), .bool false] []) else (iOwn b7 43 [.slice A12 la.length cap13, .slice none 0 0, .slice none 0 0, .int .i64 (-1), .bool false] []))] := by rw [e82, e83]; exact hs84
              exact WL_nil ⟨rfl, _, rfl, b27, b30, A35, cap36, bs37, hs85, v71, (fun _ => rfl), v73, v74, v75, v76, v77, v78, v79, v80, v81, trivial⟩
            ·
              rintro dN vL g86 w87 ⟨b27, b30, A35, cap36, bs37, hs88, v94, v95, v96, v97, v98, v99, v100, v101, v102, v103, v104, _⟩ hD89 hd90 hu91 hg92 hk93
              have e105 : dN 1 = true := hd90 1 (by decide +kernel)
              have e106 : dN 8 = false := hu91 8 (by decide +kernel)
              have e107 : dN 11 = false := hu91 11 (by decide +kernel)
              rw [e106, e107] at hs88
              have hs108 : Sep [] w0 (fun _ => False) w87 [(bif dN 7 then (iAc dStr (.slice (some ⟨b30, 0, none⟩) 1 1) [List.replicate 256 (0)] [b30] []) else iNil), (bif dN 5 then (iAc dByte (.slice (some ⟨b27, 0, none⟩) 256 256) (List.replicate 256 (0)) [b27] []) else iNil), iAc dStr (.slice A12 la.length cap13) la bs14 [], iAc dInt (.slice none 0 0) [] [] [], iAc dStr (.slice none 0 0) [] [] [], iOwn b7 43 [.slice A12 la.length cap13, .slice none 0 0, .slice none 0 0, .int .i64 (-1), .bool false] []] := hs88
              refine WL_at (L := [(20, .pointer (some ⟨b7, 0, none⟩))]) ⟨((hg92 1 20 e105 rfl).trans (v95 e105)), trivial⟩ ?_
              refine S_nilCheck rfl rfl ?_
              have hs109 : Sep [] w0 (fun _ => False) w87 [(bif dN 7 then (iAc dStr (.slice (some ⟨b30, 0, none⟩) 1 1) [List.replicate 256 (0)] [b30] []) else iNil), (bif dN 5 then (iAc dByte (.slice (some ⟨b27, 0, none⟩) 256 256) (List.replicate 256 (0)) [b27] []) else iNil), (bif dN 8 then (iAc dStr (.slice A35 ((la ++ [List.replicate 256 (0)]).length) cap36) (la ++ [List.replicate 256 (0)]) bs37 []) else (iAc dStr (.slice A12 la.length cap13) la bs14 [])), iAc dInt (.slice none 0 0) [] [] [], iAc dStr (.slice none 0 0) [] [] [], (bif dN 11 then (iOwn b7 43 [.slice A35 ((la ++ [List.replicate 256 (0)]).length) cap36, .slice none 0 0, .slice none 0 0, .int .i64 (-1), .bool false] []) else (iOwn b7 43 [.slice A12 la.length cap13, .slice none 0 0, .slice none 0 0, .int .i64 (-1), .bool false] []))] := by rw [e106, e107]; exact hs108
              exact WL_nil ⟨rfl, _, rfl, b27, b30, A35, cap36, bs37, hs109, v94, v95, (fun _ => rfl), v97, v98, v99, v100, v101, v102, v103, v104, trivial⟩
            ·
              rintro dN vL g110 w111 ⟨b27, b30, A35, cap36, bs37, hs112, v118, v119, v120, v121, v122, v123, v124, v125, v126, v127, v128, _⟩ hD113 hd114 hu115 hg116 hk117
              have e129 : dN 2 = true := hd114 2 (by decide +kernel)
              have e130 : dN 8 = false := hu115 8 (by decide +kernel)
              have e131 : dN 11 = false := hu115 11 (by decide +kernel)
              rw [e130, e131] at hs112
              have hs132 : Sep [] w0 (fun _ => False) w111 [(bif dN 7 then (iAc dStr (.slice (some ⟨b30, 0, none⟩) 1 1) [List.replicate 256 (0)] [b30] []) else iNil), (bif dN 5 then (iAc dByte (.slice (some ⟨b27, 0, none⟩) 256 256) (List.replicate 256 (0)) [b27] []) else iNil), iAc dStr (.slice A12 la.length cap13) la bs14 [], iAc dInt (.slice none 0 0) [] [] [], iAc dStr (.slice none 0 0) [] [] [], iOwn b7 43 [.slice A12 la.length cap13, .slice none 0 0, .slice none 0 0, .int .i64 (-1), .bool false] []] := hs112
              refine WL_at (L := [(21, .pointer (some ⟨b7, 0, none⟩))]) ⟨((hg116 2 21 e129 rfl).trans (v120 e129)), trivial⟩ ?_
              refine S_fieldAddr Try.runUnderlying43 rfl Try.sizeOf41 rfl rfl ?_
              have hs133 : Sep [] w0 (fun _ => False) w111 [(bif dN 7 then (iAc dStr (.slice (some ⟨b30, 0, none⟩) 1 1) [List.replicate 256 (0)] [b30] []) else iNil), (bif dN 5 then (iAc dByte (.slice (some ⟨b27, 0, none⟩) 256 256) (List.replicate 256 (0)) [b27] []) else iNil), (bif dN 8 then (iAc dStr (.slice A35 ((la ++ [List.replicate 256 (0)]).length) cap36) (la ++ [List.replicate 256 (0)]) bs37 []) else (iAc dStr (.slice A12 la.length cap13) la bs14 [])), iAc dInt (.slice none 0 0) [] [] [], iAc dStr (.slice none 0 0) [] [] [], (bif dN 11 then (iOwn b7 43 [.slice A35 ((la ++ [List.replicate 256 (0)]).length) cap36, .slice none 0 0, .slice none 0 0, .int .i64 (-1), .bool false] []) else (iOwn b7 43 [.slice A12 la.length cap13, .slice none 0 0, .slice none 0 0, .int .i64 (-1), .bool false] []))] := by rw [e130, e131]; exact hs132
              exact WL_nil ⟨rfl, _, rfl, b27, b30, A35, cap36, bs37, hs133, v118, v119, v120, (fun _ => rfl), v122, v123, v124, v125, v126, v127, v128, trivial⟩
            ·
              rintro dN vL g134 w135 ⟨b27, b30, A35, cap36, bs37, hs136, v142, v143, v144, v145, v146, v147, v148, v149, v150, v151, v152, _⟩ hD137 hd138 hu139 hg140 hk141
              have e153 : dN 3 = true := hd138 3 (by decide +kernel)
              have e154 : dN 8 = false := hu139 8 (by decide +kernel)
              have e155 : dN 11 = false := hu139 11 (by decide +kernel)
              rw [e154, e155] at hs136
              have hs156 : Sep [] w0 (fun _ => False) w135 [(bif dN 7 then (iAc dStr (.slice (some ⟨b30, 0, none⟩) 1 1) [List.replicate 256 (0)] [b30] []) else iNil), (bif dN 5 then (iAc dByte (.slice (some ⟨b27, 0, none⟩) 256 256) (List.replicate 256 (0)) [b27] []) else iNil), iAc dStr (.slice A12 la.length cap13) la bs14 [], iAc dInt (.slice none 0 0) [] [] [], iAc dStr (.slice none 0 0) [] [] [], iOwn b7 43 [.slice A12 la.length cap13, .slice none 0 0, .slice none 0 0, .int .i64 (-1), .bool false] []] := hs136
              refine WL_at (L := [(22, .pointer (some ⟨b7, 0, none⟩))]) ⟨((hg140 3 22 e153 rfl).trans (v145 e153)), trivial⟩ ?_
              refine S_load1 Try.isAgg41 rfl (Own.at (hs156.at 5 rfl) rfl) rfl ?_
              have hs157 : Sep [] w0 (fun _ => False) w135 [(bif dN 7 then (iAc dStr (.slice (some ⟨b30, 0, none⟩) 1 1) [List.replicate 256 (0)] [b30] []) else iNil), (bif dN 5 then (iAc dByte (.slice (some ⟨b27, 0, none⟩) 256 256) (List.replicate 256 (0)) [b27] []) else iNil), (bif dN 8 then (iAc dStr (.slice A35 ((la ++ [List.replicate 256 (0)]).length) cap36) (la ++ [List.replicate 256 (0)]) bs37 []) else (iAc dStr (.slice A12 la.length cap13) la bs14 [])), iAc dInt (.slice none 0 0) [] [] [], iAc dStr (.slice none 0 0) [] [] [], (bif dN 11 then (iOwn b7 43 [.slice A35 ((la ++ [List.replicate 256 (0)]).length) cap36, .slice none 0 0, .slice none 0 0, .int .i64 (-1), .bool false] []) else (iOwn b7 43 [.slice A12 la.length cap13, .slice none 0 0, .slice none 0 0, .int .i64 (-1), .bool false] []))] := by rw [e154, e155]; exact hs156
              exact WL_nil ⟨rfl, _, rfl, b27, b30, A35, cap36, bs37, hs157, v142, v143, v144, v145, (fun _ => rfl), v147, v148, v149, v150, v151, v152, trivial⟩
            ·
              rintro dN vL g158 w159 ⟨b27, b30, A35, cap36, bs37, hs160, v166, v167, v168, v169, v170, v171, v172, v173, v174, v175, v176, _⟩ hD161 hd162 hu163 hg164 hk165
              have e177 : dN 5 = false := hD161
              have e178 : dN 7 = false := hu163 7 (by decide +kernel)
              have e179 : dN 8 = false := hu163 8 (by decide +kernel)
              have e180 : dN 11 = false := hu163 11 (by decide +kernel)
              rw [e179, e180, e177, e178] at hs160
              have hs181 : Sep [] w0 (fun _ => False) w159 [iNil, iNil, iAc dStr (.slice A12 la.length cap13) la bs14 [], iAc dInt (.slice none 0 0) [] [] [], iAc dStr (.slice none 0 0) [] [] [], iOwn b7 43 [.slice A12 la.length cap13, .slice none 0 0, .slice none 0 0, .int .i64 (-1), .bool false] []] := hs160
              refine WL_at (L := []) trivial ?_
              refine Z_makeSlice (r := dByte) (zc := [bv 0]) (zx := 0) hs181 Try.runUnderlying47 Try.typeInfo5 Try.sizeOf5 Try.zeroValue5 rfl rfl (by decide) (fun _ _ => rfl) rfl rfl (by omega) (by decide) (by omega) rfl ?_
              intro b182 w183 hs184
              have hs184 : Sep [] w0 (fun _ => False) w183 [iAc dByte (.slice (some ⟨b182, 0, none⟩) 256 256) (List.replicate 256 (0)) [b182] [], iNil, iNil, iAc dStr (.slice A12 la.length cap13) la bs14 [], iAc dInt (.slice none 0 0) [] [] [], iAc dStr (.slice none 0 0) [] [] [], iOwn b7 43 [.slice A12 la.length cap13, .slice none 0 0, .slice none 0 0, .int .i64 (-1), .bool false] []] := hs184
              have hs185 : Sep [] w0 (fun _ => False) w183 [(bif dN 7 then (iAc dStr (.slice (some ⟨b30, 0, none⟩) 1 1) [List.replicate 256 (0)] [b30] []) else iNil), iAc dByte (.slice (some ⟨b182, 0, none⟩) 256 256) (List.replicate 256 (0)) [b182] [], (bif dN 8 then (iAc dStr (.slice A35 ((la ++ [List.replicate 256 (0)]).length) cap36) (la ++ [List.replicate 256 (0)]) bs37 []) else (iAc dStr (.slice A12 la.length cap13) la bs14 [])), iAc dInt (.slice none 0 0) [] [] [], iAc dStr (.slice none 0 0) [] [] [], (bif dN 11 then (iOwn b7 43 [.slice A35 ((la ++ [List.replicate 256 (0)]).length) cap36, .slice none 0 0, .slice none 0 0, .int .i64 (-1), .bool false] []) else (iOwn b7 43 [.slice A12 la.length cap13, .slice none 0 0, .slice none 0 0, .int .i64 (-1), .bool false] []))] := by rw [e179, e180, e178]; exact (hs184.pick [1, 0, 3, 4, 5, 6] rfl (by decide) rfl)
              exact WL_nil ⟨rfl, _, rfl, b182, b30, A35, cap36, bs37, hs185, v166, v167, v168, v169, v170, (fun _ => rfl), v172, v173, v174, v175, v176, trivial⟩
            ·
              rintro dN vL g186 w187 ⟨b27, b30, A35, cap36, bs37, hs188, v194, v195, v196, v197, v198, v199, v200, v201, v202, v203, v204, _⟩ hD189 hd190 hu191 hg192 hk193
              have e205 : dN 5 = true := hd190 5 (by decide +kernel)
              have e206 : dN 7 = false := hu191 7 (by decide +kernel)
              have e207 : dN 8 = false := hu191 8 (by decide +kernel)
              have e208 : dN 11 = false := hu191 11 (by decide +kernel)
              rw [e207, e208, e205, e206] at hs188
              have hs209 : Sep [] w0 (fun _ => False) w187 [iNil, iAc dByte (.slice (some ⟨b27, 0, none⟩) 256 256) (List.replicate 256 (0)) [b27] [], iAc dStr (.slice A12 la.length cap13) la bs14 [], iAc dInt (.slice none 0 0) [] [] [], iAc dStr (.slice none 0 0) [] [] [], iOwn b7 43 [.slice A12 la.length cap13, .slice none 0 0, .slice none 0 0, .int .i64 (-1), .bool false] []] := hs188
              refine WL_at (L := [(24, .slice (some ⟨b27, 0, none⟩) 256 256)]) ⟨((hg192 5 24 e205 rfl).trans (v199 e205)), trivial⟩ ?_
              refine S_bytesStr Try.runUnderlying47 Try.runUnderlying9 Try.runUnderlying5 (Src.ac (hs209.at 1 rfl)) rfl ?_
              have hs210 : Sep [] w0 (fun _ => False) w187 [(bif dN 7 then (iAc dStr (.slice (some ⟨b30, 0, none⟩) 1 1) [List.replicate 256 (0)] [b30] []) else iNil), (bif dN 5 then (iAc dByte (.slice (some ⟨b27, 0, none⟩) 256 256) (List.replicate 256 (0)) [b27] []) else iNil), (bif dN 8 then (iAc dStr (.slice A35 ((la ++ [List.replicate 256 (0)]).length) cap36) (la ++ [List.replicate 256 (0)]) bs37 []) else (iAc dStr (.slice A12 la.length cap13) la bs14 [])), iAc dInt (.slice none 0 0) [] [] [], iAc dStr (.slice none 0 0) [] [] [], (bif dN 11 then (iOwn b7 43 [.slice A35 ((la ++ [List.replicate 256 (0)]).length) cap36, .slice none 0 0, .slice none 0 0, .int .i64 (-1), .bool false] []) else (iOwn b7 43 [.slice A12 la.length cap13, .slice none 0 0, .slice none 0 0, .int .i64 (-1), .bool false] []))] := by rw [e207, e208, e205, e206]; exact hs209
              exact WL_nil ⟨rfl, _, rfl, b27, b30, A35, cap36, bs37, hs210, v194, v195, v196, v197, v198, v199, (fun _ => rfl), v201, v202, v203, v204, trivial⟩
            ·
              rintro dN vL g211 w212 ⟨b27, b30, A35, cap36, bs37, hs213, v219, v220, v221, v222, v223, v224, v225, v226, v227, v228, v229, _⟩ hD214 hd215 hu216 hg217 hk218
              have e230 : dN 5 = true := hd215 5 (by decide +kernel)
              have e231 : dN 6 = true := hd215 6 (by decide +kernel)
              have e232 : dN 7 = false := hD214
              have e233 : dN 8 = false := hu216 8 (by decide +kernel)
              have e234 : dN 11 = false := hu216 11 (by decide +kernel)
              rw [e233, e234, e230, e232] at hs213
              have hs235 : Sep [] w0 (fun _ => False) w212 [iNil, iAc dByte (.slice (some ⟨b27, 0, none⟩) 256 256) (List.replicate 256 (0)) [b27] [], iAc dStr (.slice A12 la.length cap13) la bs14 [], iAc dInt (.slice none 0 0) [] [] [], iAc dStr (.slice none 0 0) [] [] [], iOwn b7 43 [.slice A12 la.length cap13, .slice none 0 0, .slice none 0 0, .int .i64 (-1), .bool false] []] := hs213
              refine WL_at (L := [(25, sv (List.replicate 256 (0)))]) ⟨((hg217 6 25 e231 rfl).trans (v225 e231)), trivial⟩ ?_
              refine Z_buildSlice (r := dStr) (css := [[sv (List.replicate 256 (0))]]) (al := [List.replicate 256 (0)]) hs235 Try.runUnderlying41 Try.sizeOf9 Try.zeroValue9 rfl rfl rfl rfl rfl rfl rfl ⟨⟨rfl, (by rw [List.length_replicate]; decide)⟩, trivial⟩ rfl ?_
              intro b236 w237 hs238
              have hs238 : Sep [] w0 (fun _ => False) w237 [iAc dStr (.slice (some ⟨b236, 0, none⟩) 1 1) [List.replicate 256 (0)] [b236] [], iNil, iAc dByte (.slice (some ⟨b27, 0, none⟩) 256 256) (List.replicate 256 (0)) [b27] [], iAc dStr (.slice A12 la.length cap13) la bs14 [], iAc dInt (.slice none 0 0) [] [] [], iAc dStr (.slice none 0 0) [] [] [], iOwn b7 43 [.slice A12 la.length cap13, .slice none 0 0, .slice none 0 0, .int .i64 (-1), .bool false] []] := hs238
              have hs239 : Sep [] w0 (fun _ => False) w237 [iAc dStr (.slice (some ⟨b236, 0, none⟩) 1 1) [List.replicate 256 (0)] [b236] [], (bif dN 5 then (iAc dByte (.slice (some ⟨b27, 0, none⟩) 256 256) (List.replicate 256 (0)) [b27] []) else iNil), (bif dN 8 then (iAc dStr (.slice A35 ((la ++ [List.replicate 256 (0)]).length) cap36) (la ++ [List.replicate 256 (0)]) bs37 []) else (iAc dStr (.slice A12 la.length cap13) la bs14 [])), iAc dInt (.slice none 0 0) [] [] [], iAc dStr (.slice none 0 0) [] [] [], (bif dN 11 then (iOwn b7 43 [.slice A35 ((la ++ [List.replicate 256 (0)]).length) cap36, .slice none 0 0, .slice none 0 0, .int .i64 (-1), .bool false] []) else (iOwn b7 43 [.slice A12 la.length cap13, .slice none 0 0, .slice none 0 0, .int .i64 (-1), .bool false] []))] := by rw [e233, e234, e230]; exact (hs238.pick [0, 2, 3, 4, 5, 6] rfl (by decide) rfl)
              exact WL_nil ⟨rfl, _, rfl, b27, b236, A35, cap36, bs37, hs239, v219, v220, v221, v222, v223, v224, v225, (fun _ => rfl), v227, v228, v229, trivial⟩
            ·
              rintro dN vL g240 w241 ⟨b27, b30, A35, cap36, bs37, hs242, v248, v249, v250, v251, v252, v253, v254, v255, v256, v257, v258, _⟩ hD243 hd244 hu245 hg246 hk247
              have e259 : dN 4 = true := hd244 4 (by decide +kernel)
              have e260 : dN 5 = true := hd244 5 (by decide +kernel)
              have e261 : dN 7 = true := hd244 7 (by decide +kernel)
              have e262 : dN 8 = false := hD243
              have e263 : dN 11 = false := hu245 11 (by decide +kernel)
              rw [e262, e263, e260, e261] at hs242
              have hs264 : Sep [] w0 (fun _ => False) w241 [iAc dStr (.slice (some ⟨b30, 0, none⟩) 1 1) [List.replicate 256 (0)] [b30] [], iAc dByte (.slice (some ⟨b27, 0, none⟩) 256 256) (List.replicate 256 (0)) [b27] [], iAc dStr (.slice A12 la.length cap13) la bs14 [], iAc dInt (.slice none 0 0) [] [] [], iAc dStr (.slice none 0 0) [] [] [], iOwn b7 43 [.slice A12 la.length cap13, .slice none 0 0, .slice none 0 0, .int .i64 (-1), .bool false] []] := hs242
              refine WL_at (L := [(23, .slice A12 la.length cap13), (26, .slice (some ⟨b30, 0, none⟩) 1 1)]) ⟨((hg246 4 23 e259 rfl).trans (v252 e259)), ((hg246 7 26 e261 rfl).trans (v255 e261)), trivial⟩ ?_
              refine Z_append (r := dStr) (al := la) (xs := [List.replicate 256 (0)]) hs264 2 rfl (Src.ac (hs264.at 0 rfl)) Try.runUnderlying41 Try.typeInfo9 Try.sizeOf9 Try.zeroValue9 rfl (by show _ * 16 ≤ _; simp only [List.length_cons, List.length_nil]; rw [hla]; omega) (by decide) rfl ?_
              intro A267 cap268 bs269 w265 hs266
              have hs266 : Sep [] w0 (fun _ => False) w265 [iAc dStr (.slice (some ⟨b30, 0, none⟩) 1 1) [List.replicate 256 (0)] [b30] [], iAc dByte (.slice (some ⟨b27, 0, none⟩) 256 256) (List.replicate 256 (0)) [b27] [], iAc dStr (.slice A267 ((la ++ [List.replicate 256 (0)]).length) cap268) (la ++ [List.replicate 256 (0)]) bs269 [], iAc dInt (.slice none 0 0) [] [] [], iAc dStr (.slice none 0 0) [] [] [], iOwn b7 43 [.slice A12 la.length cap13, .slice none 0 0, .slice none 0 0, .int .i64 (-1), .bool false] []] := hs266
              have hs270 : Sep [] w0 (fun _ => False) w265 [(bif dN 7 then (iAc dStr (.slice (some ⟨b30, 0, none⟩) 1 1) [List.replicate 256 (0)] [b30] []) else iNil), (bif dN 5 then (iAc dByte (.slice (some ⟨b27, 0, none⟩) 256 256) (List.replicate 256 (0)) [b27] []) else iNil), iAc dStr (.slice A267 ((la ++ [List.replicate 256 (0)]).length) cap268) (la ++ [List.replicate 256 (0)]) bs269 [], iAc dInt (.slice none 0 0) [] [] [], iAc dStr (.slice none 0 0) [] [] [], (bif dN 11 then (iOwn b7 43 [.slice A267 ((la ++ [List.replicate 256 (0)]).length) cap268, .slice none 0 0, .slice none 0 0, .int .i64 (-1), .bool false] []) else (iOwn b7 43 [.slice A12 la.length cap13, .slice none 0 0, .slice none 0 0, .int .i64 (-1), .bool false] []))] := by rw [e263, e260, e261]; exact hs266
              exact WL_nil ⟨rfl, _, rfl, b27, b30, A267, cap268, bs269, hs270, v248, v249, v250, v251, v252, v253, v254, v255, (fun _ => rfl), v257, v258, trivial⟩
            ·
              rintro dN vL g271 w272 ⟨b27, b30, A35, cap36, bs37, hs273, v279, v280, v281, v282, v283, v284, v285, v286, v287, v288, v289, _⟩ hD274 hd275 hu276 hg277 hk278
              have e290 : dN 0 = true := hd275 0 (by decide +kernel)
              have e291 : dN 5 = true := hd275 5 (by decide +kernel)
              have e292 : dN 7 = true := hd275 7 (by decide +kernel)
              have e293 : dN 8 = true := hd275 8 (by decide +kernel)
              have e294 : dN 11 = false := hu276 11 (by decide +kernel)
              rw [e293, e294, e291, e292] at hs273
              have hs295 : Sep [] w0 (fun _ => False) w272 [iAc dStr (.slice (some ⟨b30, 0, none⟩) 1 1) [List.replicate 256 (0)] [b30] [], iAc dByte (.slice (some ⟨b27, 0, none⟩) 256 256) (List.replicate 256 (0)) [b27] [], iAc dStr (.slice A35 ((la ++ [List.replicate 256 (0)]).length) cap36) (la ++ [List.replicate 256 (0)]) bs37 [], iAc dInt (.slice none 0 0) [] [] [], iAc dStr (.slice none 0 0) [] [] [], iOwn b7 43 [.slice A12 la.length cap13, .slice none 0 0, .slice none 0 0, .int .i64 (-1), .bool false] []] := hs273
              refine WL_at (L := [(19, .pointer (some ⟨b7, 0, none⟩))]) ⟨((hg277 0 19 e290 rfl).trans (v279 e290)), trivial⟩ ?_
              refine S_nilCheck rfl rfl ?_
              have hs296 : Sep [] w0 (fun _ => False) w272 [(bif dN 7 then (iAc dStr (.slice (some ⟨b30, 0, none⟩) 1 1) [List.replicate 256 (0)] [b30] []) else iNil), (bif dN 5 then (iAc dByte (.slice (some ⟨b27, 0, none⟩) 256 256) (List.replicate 256 (0)) [b27] []) else iNil), (bif dN 8 then (iAc dStr (.slice A35 ((la ++ [List.replicate 256 (0)]).length) cap36) (la ++ [List.replicate 256 (0)]) bs37 []) else (iAc dStr (.slice A12 la.length cap13) la bs14 [])), iAc dInt (.slice none 0 0) [] [] [], iAc dStr (.slice none 0 0) [] [] [], (bif dN 11 then (iOwn b7 43 [.slice A35 ((la ++ [List.replicate 256 (0)]).length) cap36, .slice none 0 0, .slice none 0 0, .int .i64 (-1), .bool false] []) else (iOwn b7 43 [.slice A12 la.length cap13, .slice none 0 0, .slice none 0 0, .int .i64 (-1), .bool false] []))] := by rw [e293, e294, e291, e292]; exact hs295
              exact WL_nil ⟨rfl, _, rfl, b27, b30, A35, cap36, bs37, hs296, v279, v280, v281, v282, v283, v284, v285, v286, v287, (fun _ => rfl), v289, trivial⟩
            ·
              rintro dN vL g297 w298 ⟨b27, b30, A35, cap36, bs37, hs299, v305, v306, v307, v308, v309, v310, v311, v312, v313, v314, v315, _⟩ hD300 hd301 hu302 hg303 hk304
              have e316 : dN 5 = true := hd301 5 (by decide +kernel)
              have e317 : dN 7 = true := hd301 7 (by decide +kernel)
              have e318 : dN 8 = true := hd301 8 (by decide +kernel)
              have e319 : dN 9 = true := hd301 9 (by decide +kernel)
              have e320 : dN 11 = false := hu302 11 (by decide +kernel)
              rw [e318, e320, e316, e317] at hs299
              have hs321 : Sep [] w0 (fun _ => False) w298 [iAc dStr (.slice (some ⟨b30, 0, none⟩) 1 1) [List.replicate 256 (0)] [b30] [], iAc dByte (.slice (some ⟨b27, 0, none⟩) 256 256) (List.replicate 256 (0)) [b27] [], iAc dStr (.slice A35 ((la ++ [List.replicate 256 (0)]).length) cap36) (la ++ [List.replicate 256 (0)]) bs37 [], iAc dInt (.slice none 0 0) [] [] [], iAc dStr (.slice none 0 0) [] [] [], iOwn b7 43 [.slice A12 la.length cap13, .slice none 0 0, .slice none 0 0, .int .i64 (-1), .bool false] []] := hs299
              refine WL_at (L := [(28, .pointer (some ⟨b7, 0, none⟩))]) ⟨((hg303 9 28 e319 rfl).trans (v314 e319)), trivial⟩ ?_
              refine S_fieldAddr Try.runUnderlying43 rfl Try.sizeOf41 rfl rfl ?_
              have hs322 : Sep [] w0 (fun _ => False) w298 [(bif dN 7 then (iAc dStr (.slice (some ⟨b30, 0, none⟩) 1 1) [List.replicate 256 (0)] [b30] []) else iNil), (bif dN 5 then (iAc dByte (.slice (some ⟨b27, 0, none⟩) 256 256) (List.replicate 256 (0)) [b27] []) else iNil), (bif dN 8 then (iAc dStr (.slice A35 ((la ++ [List.replicate 256 (0)]).length) cap36) (la ++ [List.replicate 256 (0)]) bs37 []) else (iAc dStr (.slice A12 la.length cap13) la bs14 [])), iAc dInt (.slice none 0 0) [] [] [], iAc dStr (.slice none 0 0) [] [] [], (bif dN 11 then (iOwn b7 43 [.slice A35 ((la ++ [List.replicate 256 (0)]).length) cap36, .slice none 0 0, .slice none 0 0, .int .i64 (-1), .bool false] []) else (iOwn b7 43 [.slice A12 la.length cap13, .slice none 0 0, .slice none 0 0, .int .i64 (-1), .bool false] []))] := by rw [e318, e320, e316, e317]; exact hs321
              exact WL_nil ⟨rfl, _, rfl, b27, b30, A35, cap36, bs37, hs322, v305, v306, v307, v308, v309, v310, v311, v312, v313, v314, (fun _ => rfl), trivial⟩
            ·
              rintro dN vL g323 w324 ⟨b27, b30, A35, cap36, bs37, hs325, v331, v332, v333, v334, v335, v336, v337, v338, v339, v340, v341, _⟩ hD326 hd327 hu328 hg329 hk330
              have e342 : dN 5 = true := hd327 5 (by decide +kernel)
              have e343 : dN 7 = true := hd327 7 (by decide +kernel)
              have e344 : dN 8 = true := hd327 8 (by decide +kernel)
              have e345 : dN 10 = true := hd327 10 (by decide +kernel)
              have e346 : dN 11 = false := hD326
              rw [e344, e346, e342, e343] at hs325
              have hs347 : Sep [] w0 (fun _ => False) w324 [iAc dStr (.slice (some ⟨b30, 0, none⟩) 1 1) [List.replicate 256 (0)] [b30] [], iAc dByte (.slice (some ⟨b27, 0, none⟩) 256 256) (List.replicate 256 (0)) [b27] [], iAc dStr (.slice A35 ((la ++ [List.replicate 256 (0)]).length) cap36) (la ++ [List.replicate 256 (0)]) bs37 [], iAc dInt (.slice none 0 0) [] [] [], iAc dStr (.slice none 0 0) [] [] [], iOwn b7 43 [.slice A12 la.length cap13, .slice none 0 0, .slice none 0 0, .int .i64 (-1), .bool false] []] := hs325
              refine WL_at (L := [(27, .slice A35 ((la ++ [List.replicate 256 (0)]).length) cap36), (29, .pointer (some ⟨b7, 0, none⟩))]) ⟨((hg329 8 27 e344 rfl).trans (v339 e344)), ((hg329 10 29 e345 rfl).trans (v341 e345)), trivial⟩ ?_
              refine Z_store hs347 5 rfl Try.sizeOf41 rfl rfl rfl (Nat.le_of_ble_eq_true rfl) rfl ?_
              intro w348 hs349
              have hs349 : Sep [] w0 (fun _ => False) w348 [iAc dStr (.slice (some ⟨b30, 0, none⟩) 1 1) [List.replicate 256 (0)] [b30] [], iAc dByte (.slice (some ⟨b27, 0, none⟩) 256 256) (List.replicate 256 (0)) [b27] [], iAc dStr (.slice A35 ((la ++ [List.replicate 256 (0)]).length) cap36) (la ++ [List.replicate 256 (0)]) bs37 [], iAc dInt (.slice none 0 0) [] [] [], iAc dStr (.slice none 0 0) [] [] [], iOwn b7 43 [.slice A35 ((la ++ [List.replicate 256 (0)]).length) cap36, .slice none 0 0, .slice none 0 0, .int .i64 (-1), .bool false] []] := hs349
              have hs350 : Sep [] w0 (fun _ => False) w348 [(bif dN 7 then (iAc dStr (.slice (some ⟨b30, 0, none⟩) 1 1) [List.replicate 256 (0)] [b30] []) else iNil), (bif dN 5 then (iAc dByte (.slice (some ⟨b27, 0, none⟩) 256 256) (List.replicate 256 (0)) [b27] []) else iNil), (bif dN 8 then (iAc dStr (.slice A35 ((la ++ [List.replicate 256 (0)]).length) cap36) (la ++ [List.replicate 256 (0)]) bs37 []) else (iAc dStr (.slice A12 la.length cap13) la bs14 [])), iAc dInt (.slice none 0 0) [] [] [], iAc dStr (.slice none 0 0) [] [] [], iOwn b7 43 [.slice A35 ((la ++ [List.replicate 256 (0)]).length) cap36, .slice none 0 0, .slice none 0 0, .int .i64 (-1), .bool false] []] := by rw [e344, e342, e343]; exact hs349
              exact WL_nil ⟨rfl, undef, rfl, b27, b30, A35, cap36, bs37, hs350, v331, v332, v333, v334, v335, v336, v337, v338, v339, v340, v341, trivial⟩
          ·
            rintro dN vL g351 w352 ha354 ⟨b27, b30, A35, cap36, bs37, hs353, v357, v358, v359, v360, v361, v362, v363, v364, v365, v366, v367, _⟩ hg355 hk356
            rw [ha354 5 rfl, ha354 7 rfl, ha354 8 rfl, ha354 11 rfl] at hs353
            have hs368 : Sep [] w0 (fun _ => False) w352 [iAc dStr (.slice (some ⟨b30, 0, none⟩) 1 1) [List.replicate 256 (0)] [b30] [], iAc dByte (.slice (some ⟨b27, 0, none⟩) 256 256) (List.replicate 256 (0)) [b27] [], iAc dStr (.slice A35 ((la ++ [List.replicate 256 (0)]).length) cap36) (la ++ [List.replicate 256 (0)]) bs37 [], iAc dInt (.slice none 0 0) [] [] [], iAc dStr (.slice none 0 0) [] [] [], iOwn b7 43 [.slice A35 ((la ++ [List.replicate 256 (0)]).length) cap36, .slice none 0 0, .slice none 0 0, .int .i64 (-1), .bool false] []] := hs353
            refine ⟨[(0, .int .i64 n), (4, .pointer (some ⟨b7, 0, none⟩)), (5, .int .i64 i)], ⟨(hk356 0 rfl), (hk356 4 rfl), (hk356 5 rfl), trivial⟩, fun g369 => ?_⟩
            refine W_region ?_
            refine S_move rfl ?_
            refine S_add rfl rfl (by omega) rfl ?_
            refine S_assign rfl ?_
            refine WL_nil ?_
            exact ⟨_, (by omega), i + 1, la ++ [List.replicate 256 (0)], _, _, _, rfl, (by omega), (by omega), (by rw [q22]; exact rnew_step q20), (hs368.pick [2, 3, 4, 5] rfl (by decide) rfl), ⟨rfl, rfl, rfl, trivial⟩⟩
        ·
          have p370 := of_decide_eq_false h24
          refine W_exit ?_
          refine W_seq ?_
          refine W_region ?_
          refine S_move rfl ?_
          refine S_assign rfl ?_
          refine S_assign rfl ?_
          refine WL_nil ?_
          refine W_ret ?_
          show ∃ d F2, (Value.tuple #[.pointer (some ⟨b7, 0, none⟩), .int .i64 0]) = .tuple #[.pointer (some ⟨d, 0, none⟩), .int .i64 0] ∧ RkIs d w15 (Rk.new n) F2 ∧ Ext [] w0 w15 ∧ ∀ b ∈ F2, w0.heap.size ≤ b
          have e : i = n := by omega
          subst e
          have ⟨hc, ht⟩ := RkIs.close (hs18.pick [3, 0, 1, 2] rfl (by decide) rfl)
          have e2 : la = (Rk.new i).Lasts := q22
          subst e2
          exact ⟨_, _, rfl, hc, ht.1, fun b hb => (ht.2 b hb).elim (fun h => by cases h) id⟩
theorem rnew_bad {w0 : World} {n : Int} (h : n < 1 ∨ 8192 < n) :
    CallR Try.prog 10 [.int .i64 n] w0 (fun v w' => v = .tuple #[.pointer none, .int .i64 2] ∧ w' = w0) := by
  refine Call2 Try.func10 rfl rfl rfl rfl ?_
  refine W_seq ?_
  refine W_region ?_
  refine S_assign rfl ?_
  refine S_assign rfl ?_
  refine WL_nil ?_
  refine W_seq ?_
  refine W_seq ?_
  refine W_region ?_
  refine S_move rfl ?_
  refine S_lss rfl rfl rfl ?_
  refine S_move rfl ?_
  refine WL_split (dj := 8) rfl (fun h1 => ?_) (fun h1 => ?_)
  ·
    have p2 := of_decide_eq_true h1
    refine WL_off rfl rfl rfl (bT h1) ?_
    refine WL_off rfl rfl rfl (bT h1) ?_
    refine S_pick_t (bT h1) rfl ?_
    refine WL_nil ?_
    refine W_cond_true rfl ?_
    refine W_seq ?_
    refine W_region ?_
    refine S_assign rfl ?_
    refine S_assign rfl ?_
    refine WL_nil ?_
    refine W_ret ?_
    show (Value.tuple #[.pointer none, .int .i64 2]) = .tuple #[.pointer none, .int .i64 2] ∧ w0 = w0
    exact ⟨rfl, rfl⟩
  ·
    have p3 := of_decide_eq_false h1
    refine WL_on rfl rfl (bF h1) ?_
    refine S_move rfl ?_
    refine WL_on rfl rfl (bF h1) ?_
    refine S_gtr rfl rfl rfl ?_
    refine S_pick_f (bF h1) rfl ?_
    refine WL_nil ?_
    refine W_cond rfl (fun h4 => ?_) (fun h4 => ?_)
    ·
      have p5 := of_decide_eq_true h4
      refine W_seq ?_
      refine W_region ?_
      refine S_assign rfl ?_
      refine S_assign rfl ?_
      refine WL_nil ?_
      refine W_ret ?_
      show (Value.tuple #[.pointer none, .int .i64 2]) = .tuple #[.pointer none, .int .i64 2] ∧ w0 = w0
      exact ⟨rfl, rfl⟩
    ·
      have p6 := of_decide_eq_false h4
      exfalso; omega
theorem no_ok0 {w0 : World} : CallR Try.prog 11 [.nilIface] w0 (fun v w' => v = .int .i64 0 ∧ w' = w0) := by
  rw [errv_0 (T := 64)]; exact no_ok (Int.le_refl _) (by decide)
theorem no_okI {w0 : World} {z : Int} (h0 : 1 ≤ z) (h1 : z ≤ 16) : CallR Try.prog 11 [.iface 64 (.int .i64 z)] w0 (fun v w' => v = .int .i64 z ∧ w' = w0) := by
  rw [errv_ne (by omega)]; exact no_ok (by omega) h1
end Go.Proofs.Ytdgcgifigkfeaaa
