/- Disks: walks, printed by program, and their plain law. -/
import Derived.Test.YtdgcgifigkfeaaaR3
namespace Go.Proofs.Ytdgcgifigkfeaaa
open Go Go.Wk Go.Wl Classical
theorem ints_ok {w0 : World} {D1 D2 : Nat → Prop} {A1 A2 : Option Addr} {c1 c2 : Nat} {a b : List Int} (h1 : (dSlice dInt).rd D1 w0 [.slice A1 a.length c1] a) (h2 : (dSlice dInt).rd D2 w0 [.slice A2 b.length c2] b) :
    CallR Try.prog 17 [.slice A1 a.length c1, .slice A2 b.length c2] w0 (fun v w' => v = .bool (decide (a = b)) ∧ w' = w0) := by
  have la := dSlice_len h1
  have hs0 := ((Sep.nil (B0 := []) (w0 := w0) (Z := fun b => (D1 b ∨ D2 b) ∧ b < w0.heap.size) (fun _ h => h.2)).fact (t := iData (dSlice dInt) [.slice A2 b.length c2] b) ((dSlice dInt).weak h2 (fun b h1 h2 => ⟨.inr h1, h2⟩)) sData rfl rfl).fact (t := iData (dSlice dInt) [.slice A1 a.length c1] a) ((dSlice dInt).weak h1 (fun b h1 h2 => ⟨.inl h1, h2⟩)) sData rfl rfl
  refine Call1 Try.func17 rfl rfl rfl rfl ?_
  refine W_seq ?_
  refine W_region ?_
  refine S_assign rfl ?_
  refine WL_nil ?_
  refine W_seq ?_
  refine W_seq ?_
  refine W_region ?_
  refine S_move rfl ?_
  refine S_len Try.runUnderlying37 rfl rfl ?_
  refine S_move rfl ?_
  refine S_len Try.runUnderlying37 rfl rfl ?_
  refine S_neq rfl rfl rfl ?_
  refine WL_nil ?_
  refine W_cond rfl (fun h1 => ?_) (fun h1 => ?_)
  ·
    have p2 := of_decide_eq_true h1
    refine W_seq ?_
    refine W_region ?_
    refine S_assign rfl ?_
    refine WL_nil ?_
    refine W_ret ?_
    show (Value.bool false) = .bool (decide (a = b)) ∧ w0 = w0
    exact ⟨congrArg Value.bool (decide_eq_false (fun e => by subst e; omega)).symm, rfl⟩
  ·
    have p3 := of_decide_eq_false h1
    refine W_skip ?_
    refine W_seq ?_
    refine W_seq ?_
    refine W_region ?_
    refine S_assign rfl ?_
    refine WL_nil ?_
    refine W_block ?_
    refine W_loopE (fun m f w => ∃ (i : Int), m = ((a.length : Int) - i).toNat ∧ (0 ≤ i) ∧ (i ≤ a.length) ∧ (∀ j : Int, 0 ≤ j → j < i → ix a j = ix b j) ∧ w0 = w ∧ Live f [(0, .slice A1 a.length c1), (1, .slice A2 b.length c2), (5, .int .i64 i)]) ?_ ?_
    · exact ⟨_, 0, rfl, (by omega), (by omega), (fun j h1 h2 => by omega), rfl, ⟨rfl, rfl, rfl, trivial⟩⟩
    ·
      rintro _ f5 _ ⟨i, rfl, q8, q9, q10, rfl, hl7⟩
      refine W_live hl7 ?_
      intro g11
      refine W_seq ?_
      refine W_seq ?_
      refine W_region ?_
      refine S_move rfl ?_
      refine S_move rfl ?_
      refine S_len Try.runUnderlying37 rfl rfl ?_
      refine S_lss rfl rfl rfl ?_
      refine WL_nil ?_
      refine W_cond rfl (fun h12 => ?_) (fun h12 => ?_)
      ·
        have p13 := of_decide_eq_true h12
        refine W_skip ?_
        refine W_seq ?_
        refine W_block ?_
        refine W_seq ?_
        refine W_region_quiet rfl (by decide +kernel) ?_
        refine S_move rfl ?_
        refine S_move rfl ?_
        refine Z_index (hs0.at 0 rfl) Try.runUnderlying37 Try.sizeOf3 rfl rfl rfl (show (0 : Int) ≤ i from by omega) (show i < ((a.length : Nat) : Int) from by omega) rfl ?_
        have o17 := cell_ix (q := (Int.toNat i) * 1) (sz := 1) (o := 0) (hs0.at 0 rfl) (Sub.self _) rfl (Nat.add_zero _).symm (show (0 : Int) ≤ i from by omega) (show i < ((a.length : Nat) : Int) from by omega)
        obtain ⟨c14, hc15, hr16⟩ := o17
        obtain ⟨rfl, r18⟩ := hr16
        have ⟨r19, r20⟩ := r18
        refine Z_load Try.isAgg3 rfl hc15 rfl ?_
        refine S_move rfl ?_
        refine S_move rfl ?_
        refine Z_index (hs0.at 1 rfl) Try.runUnderlying37 Try.sizeOf3 rfl rfl rfl (show (0 : Int) ≤ i from by omega) (show i < ((b.length : Nat) : Int) from by omega) rfl ?_
        have o24 := cell_ix (q := (Int.toNat i) * 1) (sz := 1) (o := 0) (hs0.at 1 rfl) (Sub.self _) rfl (Nat.add_zero _).symm (show (0 : Int) ≤ i from by omega) (show i < ((b.length : Nat) : Int) from by omega)
        obtain ⟨c21, hc22, hr23⟩ := o24
        obtain ⟨rfl, r25⟩ := hr23
        have ⟨r26, r27⟩ := r25
        refine Z_load Try.isAgg3 rfl hc22 rfl ?_
        refine S_neq rfl rfl rfl ?_
        refine WL_nil ?_
        refine W_cond rfl (fun h28 => ?_) (fun h28 => ?_)
        ·
          have p29 := of_decide_eq_true h28
          refine W_seq ?_
          refine W_live (L := []) trivial ?_
          intro g30
          refine W_region ?_
          refine S_assign rfl ?_
          refine WL_nil ?_
          refine W_ret ?_
          show (Value.bool false) = .bool (decide (a = b)) ∧ w0 = w0
          exact ⟨congrArg Value.bool (decide_eq_false (fun e => by subst e; omega)).symm, rfl⟩
        ·
          have p31 := of_decide_eq_false h28
          refine W_skip ?_
          refine W_live (L := [(0, .slice A1 a.length c1), (1, .slice A2 b.length c2), (5, .int .i64 i)]) ⟨rfl, rfl, rfl, trivial⟩ ?_
          intro g32
          refine W_region ?_
          refine S_move rfl ?_
          refine S_add rfl rfl (by omega) rfl ?_
          refine S_assign rfl ?_
          refine WL_nil ?_
          exact ⟨_, (by omega), i + 1, rfl, (by omega), (by omega), (ints_next q10 (Classical.not_not.1 ‹_›)), rfl, ⟨rfl, rfl, rfl, trivial⟩⟩
      ·
        have p33 := of_decide_eq_false h12
        refine W_exit ?_
        refine W_seq ?_
        refine W_region ?_
        refine S_assign rfl ?_
        refine WL_nil ?_
        refine W_ret ?_
        show (Value.bool true) = .bool (decide (a = b)) ∧ w0 = w0
        exact ⟨congrArg Value.bool (decide_eq_true (ints_all (by omega) q10 (by omega))).symm, rfl⟩
theorem rcrash_ok {w0 : World} {r : Nat} {x : Rk} {F : List Nat} (h : RkIs r w0 x F) (ok : x.Ok) {D : Nat → Prop} {A1 : Option Addr} {cap1 : Nat} {kept : List Int} (hk : (dSlice dInt).rd D w0 [.slice A1 kept.length cap1] kept) (torn cut : Int) :
    CallR Try.prog 33 [.pointer (some ⟨r, 0, none⟩), .int .i64 torn, .int .i64 cut, .slice A1 kept.length cap1] w0 (fun v w' => ∃ d F2, v = .pointer (some ⟨d, 0, none⟩) ∧ RkIs d w' (x.crash torn cut kept) F2 ∧ Ext [] w0 w' ∧ ∀ b ∈ F2, w0.heap.size ≤ b) := by
  obtain ⟨A_Lasts, k_Lasts, s_Lasts, A_At, k_At, s_At, A_Fresh, k_Fresh, s_Fresh, hs1⟩ := h.fix (Z := fun b => b ∈ F ∨ (D b ∧ b < w0.heap.size)) (fun b hb => hb.elim (h.lt b) (·.2)) (fun b hb => .inl hb)
  have hs2 := hs1.fact (t := iObF (obRk r) x F) ⟨fun b hb => .inl hb, h⟩ sObF rfl rfl
  have hs0 := hs2.fact (t := iData (dSlice dInt) [.slice A1 kept.length cap1] kept) ((dSlice dInt).weak hk (fun b h1 h2 => .inr ⟨h1, h2⟩)) sData rfl rfl
  have hkl := dSlice_len hk
  have ⟨hsame, hmax, hinn, hll, hfl, ⟨hi1, hi2⟩, hcnt⟩ := ok
  refine Call1 Try.func33 rfl rfl rfl rfl ?_
  refine W_seq ?_
  refine W_region ?_
  refine S_assign rfl ?_
  refine WL_nil ?_
  refine W_seq ?_
  refine W_region ?_
  refine Z_buildSlice (r := dStr) (css := []) (al := ([] : List Str)) hs0 Try.runUnderlying41 Try.sizeOf9 Try.zeroValue9 rfl rfl rfl rfl rfl rfl rfl trivial rfl ?_
  intro b1 w2 hs3
  have hs3 : Sep [] w0 (fun b => b ∈ F ∨ (D b ∧ b < w0.heap.size)) w2 [iAc dStr (.slice (some ⟨b1, 0, none⟩) 0 0) ([] : List Str) [b1] [], iData (dSlice dInt) [.slice A1 kept.length cap1] kept, iObF (obRk r) x F, iOwnF r 43 [.slice A_Lasts x.Lasts.length k_Lasts, .slice A_At x.At.length k_At, .slice A_Fresh x.Fresh.length k_Fresh, .int .i64 x.Left, .bool x.Off], iAcF dStr (.slice A_Lasts x.Lasts.length k_Lasts) x.Lasts, iAcF dInt (.slice A_At x.At.length k_At) x.At, iAcF dStr (.slice A_Fresh x.Fresh.length k_Fresh) x.Fresh] := hs3
  refine S_move rfl ?_
  refine S_nilCheck rfl rfl ?_
  refine S_fieldAddr Try.runUnderlying43 rfl Try.sizeOf41 rfl rfl ?_
  refine S_load1 Try.isAgg41 rfl (Own.at ((hs3.at 3 rfl)).2 rfl) rfl ?_
  refine Z_append (r := dStr) (al := ([] : List Str)) (xs := x.Lasts) hs3 0 rfl (Src.ac ((hs3.at 4 rfl)).choose_spec.2) Try.runUnderlying41 Try.typeInfo9 Try.sizeOf9 Try.zeroValue9 rfl (by show _ * 16 ≤ _; simp only [List.length_nil]; omega) (by decide) rfl ?_
  intro A6 cap7 bs8 w4 hs5
  have hs5 : Sep [] w0 (fun b => b ∈ F ∨ (D b ∧ b < w0.heap.size)) w4 [iAc dStr (.slice A6 ((([] : List Str) ++ x.Lasts).length) cap7) (([] : List Str) ++ x.Lasts) bs8 [], iData (dSlice dInt) [.slice A1 kept.length cap1] kept, iObF (obRk r) x F, iOwnF r 43 [.slice A_Lasts x.Lasts.length k_Lasts, .slice A_At x.At.length k_At, .slice A_Fresh x.Fresh.length k_Fresh, .int .i64 x.Left, .bool x.Off], iAcF dStr (.slice A_Lasts x.Lasts.length k_Lasts) x.Lasts, iAcF dInt (.slice A_At x.At.length k_At) x.At, iAcF dStr (.slice A_Fresh x.Fresh.length k_Fresh) x.Fresh] := hs5
  refine S_build (pl := #[(0, 1), (1, 1), (2, 1), (3, 1), (4, 1)]) (cs := [.slice A6 ((([] : List Str) ++ x.Lasts).length) cap7, .slice none 0 0, .slice none 0 0, .int .i64 (-1), .bool false]) Try.runUnderlying43 Try.zeroValue43 (by intro w; kernel_rfl) rfl rfl rfl ?_
  refine Z_box hs5 rfl ?_
  intro b9 w10 hs11
  have hs11 : Sep [] w0 (fun b => b ∈ F ∨ (D b ∧ b < w0.heap.size)) w10 [iOwn b9 43 [.slice A6 ((([] : List Str) ++ x.Lasts).length) cap7, .slice none 0 0, .slice none 0 0, .int .i64 (-1), .bool false] [], iAc dStr (.slice A6 ((([] : List Str) ++ x.Lasts).length) cap7) (([] : List Str) ++ x.Lasts) bs8 [], iData (dSlice dInt) [.slice A1 kept.length cap1] kept, iObF (obRk r) x F, iOwnF r 43 [.slice A_Lasts x.Lasts.length k_Lasts, .slice A_At x.At.length k_At, .slice A_Fresh x.Fresh.length k_Fresh, .int .i64 x.Left, .bool x.Off], iAcF dStr (.slice A_Lasts x.Lasts.length k_Lasts) x.Lasts, iAcF dInt (.slice A_At x.At.length k_At) x.At, iAcF dStr (.slice A_Fresh x.Fresh.length k_Fresh) x.Fresh] := hs11
  refine S_assign rfl ?_
  have hs12 : Sep [] w0 (fun b => b ∈ F ∨ (D b ∧ b < w0.heap.size)) w10 [iAc dInt (.slice none 0 0) [] [] [], iAc dStr (.slice none 0 0) [] [] [], iOwn b9 43 [.slice A6 ((([] : List Str) ++ x.Lasts).length) cap7, .slice none 0 0, .slice none 0 0, .int .i64 (-1), .bool false] [], iAc dStr (.slice A6 ((([] : List Str) ++ x.Lasts).length) cap7) (([] : List Str) ++ x.Lasts) bs8 [], iData (dSlice dInt) [.slice A1 kept.length cap1] kept, iObF (obRk r) x F, iOwnF r 43 [.slice A_Lasts x.Lasts.length k_Lasts, .slice A_At x.At.length k_At, .slice A_Fresh x.Fresh.length k_Fresh, .int .i64 x.Left, .bool x.Off], iAcF dStr (.slice A_Lasts x.Lasts.length k_Lasts) x.Lasts, iAcF dInt (.slice A_At x.At.length k_At) x.At, iAcF dStr (.slice A_Fresh x.Fresh.length k_Fresh) x.Fresh] := (hs11.fact Ac.nil sAc rfl rfl).fact Ac.nil sAc rfl rfl
  refine WL_nil ?_
  refine W_cut (fun f w => ∃ (c0 : Int) (l0 : List Str) (A13 : Option Addr) (cap14 : Nat) (bs15 : List Nat), (c0 = if cut < 0 then 0 else cut) ∧ (l0 = x.Lasts) ∧ Sep [] w0 (fun b => b ∈ F ∨ (D b ∧ b < w0.heap.size)) w [iAc dInt (.slice none 0 0) [] [] [], iAc dStr (.slice none 0 0) [] [] [], iOwn b9 43 [.slice A13 l0.length cap14, .slice none 0 0, .slice none 0 0, .int .i64 (-1), .bool false] [], iAc dStr (.slice A13 l0.length cap14) l0 bs15 [], iData (dSlice dInt) [.slice A1 kept.length cap1] kept, iObF (obRk r) x F, iOwnF r 43 [.slice A_Lasts x.Lasts.length k_Lasts, .slice A_At x.At.length k_At, .slice A_Fresh x.Fresh.length k_Fresh, .int .i64 x.Left, .bool x.Off], iAcF dStr (.slice A_Lasts x.Lasts.length k_Lasts) x.Lasts, iAcF dInt (.slice A_At x.At.length k_At) x.At, iAcF dStr (.slice A_Fresh x.Fresh.length k_Fresh) x.Fresh] ∧ Live f [(0, .pointer (some ⟨r, 0, none⟩)), (1, .int .i64 torn), (2, .int .i64 c0), (3, .slice A1 kept.length cap1), (9, .pointer (some ⟨b9, 0, none⟩))]) ?_ ?_
  ·
    refine W_seq ?_
    refine W_region ?_
    refine S_move rfl ?_
    refine S_lss rfl rfl rfl ?_
    refine WL_nil ?_
    refine W_cond rfl (fun h17 => ?_) (fun h17 => ?_)
    ·
      have p18 := of_decide_eq_true h17
      refine W_live (L := [(0, .pointer (some ⟨r, 0, none⟩)), (1, .int .i64 torn), (3, .slice A1 kept.length cap1), (9, .pointer (some ⟨b9, 0, none⟩))]) ⟨rfl, rfl, rfl, rfl, trivial⟩ ?_
      intro g19
      refine W_region ?_
      refine S_assign rfl ?_
      refine WL_nil ?_
      exact ⟨0, ([] : List Str) ++ x.Lasts, _, _, _, (by split <;> omega), (by simp), hs12, ⟨rfl, rfl, rfl, rfl, rfl, trivial⟩⟩
    ·
      have p20 := of_decide_eq_false h17
      refine W_skip ?_
      exact ⟨cut, ([] : List Str) ++ x.Lasts, _, _, _, (by split <;> omega), (by simp), hs12, ⟨rfl, rfl, rfl, rfl, rfl, trivial⟩⟩
  ·
    rintro f21 w16 ⟨c0, l0, A13, cap14, bs15, q24, q25, hs22, hl23⟩
    refine W_live hl23 ?_
    intro g26
    refine W_cut (fun f w => ∃ (c : Int), (c = clampC cut) ∧ Sep [] w0 (fun b => b ∈ F ∨ (D b ∧ b < w0.heap.size)) w [iAc dInt (.slice none 0 0) [] [] [], iAc dStr (.slice none 0 0) [] [] [], iOwn b9 43 [.slice A13 l0.length cap14, .slice none 0 0, .slice none 0 0, .int .i64 (-1), .bool false] [], iAc dStr (.slice A13 l0.length cap14) l0 bs15 [], iData (dSlice dInt) [.slice A1 kept.length cap1] kept, iObF (obRk r) x F, iOwnF r 43 [.slice A_Lasts x.Lasts.length k_Lasts, .slice A_At x.At.length k_At, .slice A_Fresh x.Fresh.length k_Fresh, .int .i64 x.Left, .bool x.Off], iAcF dStr (.slice A_Lasts x.Lasts.length k_Lasts) x.Lasts, iAcF dInt (.slice A_At x.At.length k_At) x.At, iAcF dStr (.slice A_Fresh x.Fresh.length k_Fresh) x.Fresh] ∧ Live f [(0, .pointer (some ⟨r, 0, none⟩)), (1, .int .i64 torn), (2, .int .i64 c), (3, .slice A1 kept.length cap1), (9, .pointer (some ⟨b9, 0, none⟩))]) ?_ ?_
    ·
      refine W_seq ?_
      refine W_region ?_
      refine S_move rfl ?_
      refine S_gtr rfl rfl rfl ?_
      refine WL_nil ?_
      refine W_cond rfl (fun h28 => ?_) (fun h28 => ?_)
      ·
        have p29 := of_decide_eq_true h28
        refine W_region ?_
        refine S_assign rfl ?_
        refine WL_nil ?_
        exact ⟨256, (by unfold clampC; (repeat' split) <;> omega), hs22, ⟨rfl, rfl, rfl, rfl, rfl, trivial⟩⟩
      ·
        have p30 := of_decide_eq_false h28
        refine W_skip ?_
        exact ⟨c0, (by unfold clampC; (repeat' split) <;> omega), hs22, ⟨rfl, rfl, rfl, rfl, rfl, trivial⟩⟩
    ·
      rintro f31 w27 ⟨c, q34, hs32, hl33⟩
      refine W_live hl33 ?_
      intro g35
      refine W_seq ?_
      have ec := q34
      have hcb : 0 ≤ c ∧ c ≤ 256 := by rw [ec]; exact clamp_bd cut
      have e0 : l0 = x.Lasts := ‹_›
      have e0l := congrArg List.length e0
      refine W_region ?_
      refine S_move rfl ?_
      refine S_move rfl ?_
      refine S_callQ Try.call35 rfl (rnow_ok ((hs32.at 5 rfl)).2 ok torn) rfl ?_
      refine S_move rfl ?_
      refine S_extract rfl rfl rfl ?_
      refine S_extract rfl rfl rfl ?_
      refine S_assign rfl ?_
      refine S_assign rfl ?_
      refine WL_nil ?_
      refine W_cut (fun f w => ∃ (l1 : List Str), (l1 = x.torn torn cut) ∧ Sep [] w0 (fun b => b ∈ F ∨ (D b ∧ b < w0.heap.size)) w [iAc dInt (.slice none 0 0) [] [] [], iAc dStr (.slice none 0 0) [] [] [], iOwn b9 43 [.slice A13 l0.length cap14, .slice none 0 0, .slice none 0 0, .int .i64 (-1), .bool false] [], iAc dStr (.slice A13 l0.length cap14) l1 bs15 [], iData (dSlice dInt) [.slice A1 kept.length cap1] kept, iObF (obRk r) x F, iOwnF r 43 [.slice A_Lasts x.Lasts.length k_Lasts, .slice A_At x.At.length k_At, .slice A_Fresh x.Fresh.length k_Fresh, .int .i64 x.Left, .bool x.Off], iAcF dStr (.slice A_Lasts x.Lasts.length k_Lasts) x.Lasts, iAcF dInt (.slice A_At x.At.length k_At) x.At, iAcF dStr (.slice A_Fresh x.Fresh.length k_Fresh) x.Fresh] ∧ Live f [(0, .pointer (some ⟨r, 0, none⟩)), (3, .slice A1 kept.length cap1), (9, .pointer (some ⟨b9, 0, none⟩))]) ?_ ?_
      ·
        refine W_seq ?_
        refine W_region ?_
        refine S_move rfl ?_
        refine WL_nil ?_
        refine W_cond rfl (fun h37 => ?_) (fun h37 => ?_)
        ·
          have p38 := h37
          try simp only [lrn] at p38
          have hin := now_in ok ‹_›
          have hl1 := nowD_len ok ‹(x.now torn).isSome = true›
          have hl2 := ix_in ok.llen hin.1 hin.2
          refine W_live (L := [(0, .pointer (some ⟨r, 0, none⟩)), (1, .int .i64 torn), (2, .int .i64 c), (3, .slice A1 kept.length cap1), (9, .pointer (some ⟨b9, 0, none⟩)), (10, sv ((x.now torn).getD []))]) ⟨rfl, rfl, rfl, rfl, rfl, rfl, trivial⟩ ?_
          intro g39
          refine W_region_J (fun dN vL w => Sep [] w0 (fun b => b ∈ F ∨ (D b ∧ b < w0.heap.size)) w [iAc dInt (.slice none 0 0) [] [] [], iAc dStr (.slice none 0 0) [] [] [], iOwn b9 43 [.slice A13 l0.length cap14, .slice none 0 0, .slice none 0 0, .int .i64 (-1), .bool false] [], (bif dN 19 then (iAc dStr (.slice A13 l0.length cap14) (List.set l0 (Int.toNat torn) ((List.take (Int.toNat c) ((x.now torn).getD [])) ++ (List.drop (Int.toNat c) (ix x.Lasts torn)))) bs15 []) else (iAc dStr (.slice A13 l0.length cap14) l0 bs15 [])), iData (dSlice dInt) [.slice A1 kept.length cap1] kept, iObF (obRk r) x F, iOwnF r 43 [.slice A_Lasts x.Lasts.length k_Lasts, .slice A_At x.At.length k_At, .slice A_Fresh x.Fresh.length k_Fresh, .int .i64 x.Left, .bool x.Off], iAcF dStr (.slice A_Lasts x.Lasts.length k_Lasts) x.Lasts, iAcF dInt (.slice A_At x.At.length k_At) x.At, iAcF dStr (.slice A_Fresh x.Fresh.length k_Fresh) x.Fresh] ∧ (dN 0 = true → vL 0 = .pointer (some ⟨b9, 0, none⟩)) ∧ (dN 1 = true → vL 1 = .pointer (some ⟨b9, 0, none⟩)) ∧ (dN 2 = true → vL 2 = .pointer (some ⟨b9, 0, none⟩)) ∧ (dN 3 = true → vL 3 = .slice A13 l0.length cap14) ∧ (dN 4 = true → vL 4 = .int .i64 torn) ∧ (dN 5 = true → vL 5 = sv ((x.now torn).getD [])) ∧ (dN 6 = true → vL 6 = .int .i64 c) ∧ (dN 7 = true → vL 7 = sv (List.take (Int.toNat c) ((x.now torn).getD []))) ∧ (dN 8 = true → vL 8 = .pointer (some ⟨r, 0, none⟩)) ∧ (dN 9 = true → vL 9 = .pointer (some ⟨r, 0, none⟩)) ∧ (dN 10 = true → vL 10 = .pointer (some ⟨r, 0, none⟩)) ∧ (dN 11 = true → vL 11 = .slice A_Lasts x.Lasts.length k_Lasts) ∧ (dN 12 = true → vL 12 = .int .i64 torn) ∧ (dN 13 = true → vL 13 = .pointer (some (eA A_Lasts ((Int.toNat torn) * 1)))) ∧ (dN 14 = true → vL 14 = sv (ix x.Lasts torn)) ∧ (dN 15 = true → vL 15 = .int .i64 c) ∧ (dN 16 = true → vL 16 = sv (List.drop (Int.toNat c) (ix x.Lasts torn))) ∧ (dN 17 = true → vL 17 = sv ((List.take (Int.toNat c) ((x.now torn).getD [])) ++ (List.drop (Int.toNat c) (ix x.Lasts torn)))) ∧ (dN 18 = true → vL 18 = .pointer (some (eA A13 ((Int.toNat torn) * 1)))) ∧ True) [34, 35, 36, 37, 38, 39, 40, 41, 42, 43, 44, 45, 46, 47, 48, 49, 50, 51, 52] rfl (by decide +kernel) _ rfl ?_ ?_ ?_
          · exact fun V => ⟨hs32, (fun h => by cases h), (fun h => by cases h), (fun h => by cases h), (fun h => by cases h), (fun h => by cases h), (fun h => by cases h), (fun h => by cases h), (fun h => by cases h), (fun h => by cases h), (fun h => by cases h), (fun h => by cases h), (fun h => by cases h), (fun h => by cases h), (fun h => by cases h), (fun h => by cases h), (fun h => by cases h), (fun h => by cases h), (fun h => by cases h), (fun h => by cases h), trivial⟩
          · refine (.cons ?_ (.cons ?_ (.cons ?_ (.cons ?_ (.cons ?_ (.cons ?_ (.cons ?_ (.cons ?_ (.cons ?_ (.cons ?_ (.cons ?_ (.cons ?_ (.cons ?_ (.cons ?_ (.cons ?_ (.cons ?_ (.cons ?_ (.cons ?_ (.cons ?_ (.cons ?_ .nil))))))))))))))))))))
            ·
              rintro dN vL g48 w49 ⟨hs50, v56, v57, v58, v59, v60, v61, v62, v63, v64, v65, v66, v67, v68, v69, v70, v71, v72, v73, v74, _⟩ hD51 hd52 hu53 hg54 hk55
              have e75 : dN 19 = false := hu53 19 (by decide +kernel)
              rw [e75] at hs50
              have hs76 : Sep [] w0 (fun b => b ∈ F ∨ (D b ∧ b < w0.heap.size)) w49 [iAc dInt (.slice none 0 0) [] [] [], iAc dStr (.slice none 0 0) [] [] [], iOwn b9 43 [.slice A13 l0.length cap14, .slice none 0 0, .slice none 0 0, .int .i64 (-1), .bool false] [], iAc dStr (.slice A13 l0.length cap14) l0 bs15 [], iData (dSlice dInt) [.slice A1 kept.length cap1] kept, iObF (obRk r) x F, iOwnF r 43 [.slice A_Lasts x.Lasts.length k_Lasts, .slice A_At x.At.length k_At, .slice A_Fresh x.Fresh.length k_Fresh, .int .i64 x.Left, .bool x.Off], iAcF dStr (.slice A_Lasts x.Lasts.length k_Lasts) x.Lasts, iAcF dInt (.slice A_At x.At.length k_At) x.At, iAcF dStr (.slice A_Fresh x.Fresh.length k_Fresh) x.Fresh] := hs50
              refine WL_at (L := [(9, .pointer (some ⟨b9, 0, none⟩))]) ⟨(hk55 9 (by decide +kernel)), trivial⟩ ?_
              refine S_move rfl ?_
              have hs77 : Sep [] w0 (fun b => b ∈ F ∨ (D b ∧ b < w0.heap.size)) w49 [iAc dInt (.slice none 0 0) [] [] [], iAc dStr (.slice none 0 0) [] [] [], iOwn b9 43 [.slice A13 l0.length cap14, .slice none 0 0, .slice none 0 0, .int .i64 (-1), .bool false] [], (bif dN 19 then (iAc dStr (.slice A13 l0.length cap14) (List.set l0 (Int.toNat torn) ((List.take (Int.toNat c) ((x.now torn).getD [])) ++ (List.drop (Int.toNat c) (ix x.Lasts torn)))) bs15 []) else (iAc dStr (.slice A13 l0.length cap14) l0 bs15 [])), iData (dSlice dInt) [.slice A1 kept.length cap1] kept, iObF (obRk r) x F, iOwnF r 43 [.slice A_Lasts x.Lasts.length k_Lasts, .slice A_At x.At.length k_At, .slice A_Fresh x.Fresh.length k_Fresh, .int .i64 x.Left, .bool x.Off], iAcF dStr (.slice A_Lasts x.Lasts.length k_Lasts) x.Lasts, iAcF dInt (.slice A_At x.At.length k_At) x.At, iAcF dStr (.slice A_Fresh x.Fresh.length k_Fresh) x.Fresh] := by rw [e75]; exact hs76
              exact WL_nil ⟨rfl, _, rfl, hs77, (fun _ => rfl), v57, v58, v59, v60, v61, v62, v63, v64, v65, v66, v67, v68, v69, v70, v71, v72, v73, v74, trivial⟩
            ·
              rintro dN vL g78 w79 ⟨hs80, v86, v87, v88, v89, v90, v91, v92, v93, v94, v95, v96, v97, v98, v99, v100, v101, v102, v103, v104, _⟩ hD81 hd82 hu83 hg84 hk85
              have e105 : dN 0 = true := hd82 0 (by decide +kernel)
              have e106 : dN 19 = false := hu83 19 (by decide +kernel)
              rw [e106] at hs80
              have hs107 : Sep [] w0 (fun b => b ∈ F ∨ (D b ∧ b < w0.heap.size)) w79 [iAc dInt (.slice none 0 0) [] [] [], iAc dStr (.slice none 0 0) [] [] [], iOwn b9 43 [.slice A13 l0.length cap14, .slice none 0 0, .slice none 0 0, .int .i64 (-1), .bool false] [], iAc dStr (.slice A13 l0.length cap14) l0 bs15 [], iData (dSlice dInt) [.slice A1 kept.length cap1] kept, iObF (obRk r) x F, iOwnF r 43 [.slice A_Lasts x.Lasts.length k_Lasts, .slice A_At x.At.length k_At, .slice A_Fresh x.Fresh.length k_Fresh, .int .i64 x.Left, .bool x.Off], iAcF dStr (.slice A_Lasts x.Lasts.length k_Lasts) x.Lasts, iAcF dInt (.slice A_At x.At.length k_At) x.At, iAcF dStr (.slice A_Fresh x.Fresh.length k_Fresh) x.Fresh] := hs80
              refine WL_at (L := [(34, .pointer (some ⟨b9, 0, none⟩))]) ⟨((hg84 0 34 e105 rfl).trans (v86 e105)), trivial⟩ ?_
              refine S_nilCheck rfl rfl ?_
              have hs108 : Sep [] w0 (fun b => b ∈ F ∨ (D b ∧ b < w0.heap.size)) w79 [iAc dInt (.slice none 0 0) [] [] [], iAc dStr (.slice none 0 0) [] [] [], iOwn b9 43 [.slice A13 l0.length cap14, .slice none 0 0, .slice none 0 0, .int .i64 (-1), .bool false] [], (bif dN 19 then (iAc dStr (.slice A13 l0.length cap14) (List.set l0 (Int.toNat torn) ((List.take (Int.toNat c) ((x.now torn).getD [])) ++ (List.drop (Int.toNat c) (ix x.Lasts torn)))) bs15 []) else (iAc dStr (.slice A13 l0.length cap14) l0 bs15 [])), iData (dSlice dInt) [.slice A1 kept.length cap1] kept, iObF (obRk r) x F, iOwnF r 43 [.slice A_Lasts x.Lasts.length k_Lasts, .slice A_At x.At.length k_At, .slice A_Fresh x.Fresh.length k_Fresh, .int .i64 x.Left, .bool x.Off], iAcF dStr (.slice A_Lasts x.Lasts.length k_Lasts) x.Lasts, iAcF dInt (.slice A_At x.At.length k_At) x.At, iAcF dStr (.slice A_Fresh x.Fresh.length k_Fresh) x.Fresh] := by rw [e106]; exact hs107
              exact WL_nil ⟨rfl, _, rfl, hs108, v86, (fun _ => rfl), v88, v89, v90, v91, v92, v93, v94, v95, v96, v97, v98, v99, v100, v101, v102, v103, v104, trivial⟩
            ·
              rintro dN vL g109 w110 ⟨hs111, v117, v118, v119, v120, v121, v122, v123, v124, v125, v126, v127, v128, v129, v130, v131, v132, v133, v134, v135, _⟩ hD112 hd113 hu114 hg115 hk116
              have e136 : dN 1 = true := hd113 1 (by decide +kernel)
              have e137 : dN 19 = false := hu114 19 (by decide +kernel)
              rw [e137] at hs111
              have hs138 : Sep [] w0 (fun b => b ∈ F ∨ (D b ∧ b < w0.heap.size)) w110 [iAc dInt (.slice none 0 0) [] [] [], iAc dStr (.slice none 0 0) [] [] [], iOwn b9 43 [.slice A13 l0.length cap14, .slice none 0 0, .slice none 0 0, .int .i64 (-1), .bool false] [], iAc dStr (.slice A13 l0.length cap14) l0 bs15 [], iData (dSlice dInt) [.slice A1 kept.length cap1] kept, iObF (obRk r) x F, iOwnF r 43 [.slice A_Lasts x.Lasts.length k_Lasts, .slice A_At x.At.length k_At, .slice A_Fresh x.Fresh.length k_Fresh, .int .i64 x.Left, .bool x.Off], iAcF dStr (.slice A_Lasts x.Lasts.length k_Lasts) x.Lasts, iAcF dInt (.slice A_At x.At.length k_At) x.At, iAcF dStr (.slice A_Fresh x.Fresh.length k_Fresh) x.Fresh] := hs111
              refine WL_at (L := [(35, .pointer (some ⟨b9, 0, none⟩))]) ⟨((hg115 1 35 e136 rfl).trans (v118 e136)), trivial⟩ ?_
              refine S_fieldAddr Try.runUnderlying43 rfl Try.sizeOf41 rfl rfl ?_
              have hs139 : Sep [] w0 (fun b => b ∈ F ∨ (D b ∧ b < w0.heap.size)) w110 [iAc dInt (.slice none 0 0) [] [] [], iAc dStr (.slice none 0 0) [] [] [], iOwn b9 43 [.slice A13 l0.length cap14, .slice none 0 0, .slice none 0 0, .int .i64 (-1), .bool false] [], (bif dN 19 then (iAc dStr (.slice A13 l0.length cap14) (List.set l0 (Int.toNat torn) ((List.take (Int.toNat c) ((x.now torn).getD [])) ++ (List.drop (Int.toNat c) (ix x.Lasts torn)))) bs15 []) else (iAc dStr (.slice A13 l0.length cap14) l0 bs15 [])), iData (dSlice dInt) [.slice A1 kept.length cap1] kept, iObF (obRk r) x F, iOwnF r 43 [.slice A_Lasts x.Lasts.length k_Lasts, .slice A_At x.At.length k_At, .slice A_Fresh x.Fresh.length k_Fresh, .int .i64 x.Left, .bool x.Off], iAcF dStr (.slice A_Lasts x.Lasts.length k_Lasts) x.Lasts, iAcF dInt (.slice A_At x.At.length k_At) x.At, iAcF dStr (.slice A_Fresh x.Fresh.length k_Fresh) x.Fresh] := by rw [e137]; exact hs138
              exact WL_nil ⟨rfl, _, rfl, hs139, v117, v118, (fun _ => rfl), v120, v121, v122, v123, v124, v125, v126, v127, v128, v129, v130, v131, v132, v133, v134, v135, trivial⟩
            ·
              rintro dN vL g140 w141 ⟨hs142, v148, v149, v150, v151, v152, v153, v154, v155, v156, v157, v158, v159, v160, v161, v162, v163, v164, v165, v166, _⟩ hD143 hd144 hu145 hg146 hk147
              have e167 : dN 2 = true := hd144 2 (by decide +kernel)
              have e168 : dN 19 = false := hu145 19 (by decide +kernel)
              rw [e168] at hs142
              have hs169 : Sep [] w0 (fun b => b ∈ F ∨ (D b ∧ b < w0.heap.size)) w141 [iAc dInt (.slice none 0 0) [] [] [], iAc dStr (.slice none 0 0) [] [] [], iOwn b9 43 [.slice A13 l0.length cap14, .slice none 0 0, .slice none 0 0, .int .i64 (-1), .bool false] [], iAc dStr (.slice A13 l0.length cap14) l0 bs15 [], iData (dSlice dInt) [.slice A1 kept.length cap1] kept, iObF (obRk r) x F, iOwnF r 43 [.slice A_Lasts x.Lasts.length k_Lasts, .slice A_At x.At.length k_At, .slice A_Fresh x.Fresh.length k_Fresh, .int .i64 x.Left, .bool x.Off], iAcF dStr (.slice A_Lasts x.Lasts.length k_Lasts) x.Lasts, iAcF dInt (.slice A_At x.At.length k_At) x.At, iAcF dStr (.slice A_Fresh x.Fresh.length k_Fresh) x.Fresh] := hs142
              refine WL_at (L := [(36, .pointer (some ⟨b9, 0, none⟩))]) ⟨((hg146 2 36 e167 rfl).trans (v150 e167)), trivial⟩ ?_
              refine S_load1 Try.isAgg41 rfl (Own.at (hs169.at 2 rfl) rfl) rfl ?_
              have hs170 : Sep [] w0 (fun b => b ∈ F ∨ (D b ∧ b < w0.heap.size)) w141 [iAc dInt (.slice none 0 0) [] [] [], iAc dStr (.slice none 0 0) [] [] [], iOwn b9 43 [.slice A13 l0.length cap14, .slice none 0 0, .slice none 0 0, .int .i64 (-1), .bool false] [], (bif dN 19 then (iAc dStr (.slice A13 l0.length cap14) (List.set l0 (Int.toNat torn) ((List.take (Int.toNat c) ((x.now torn).getD [])) ++ (List.drop (Int.toNat c) (ix x.Lasts torn)))) bs15 []) else (iAc dStr (.slice A13 l0.length cap14) l0 bs15 [])), iData (dSlice dInt) [.slice A1 kept.length cap1] kept, iObF (obRk r) x F, iOwnF r 43 [.slice A_Lasts x.Lasts.length k_Lasts, .slice A_At x.At.length k_At, .slice A_Fresh x.Fresh.length k_Fresh, .int .i64 x.Left, .bool x.Off], iAcF dStr (.slice A_Lasts x.Lasts.length k_Lasts) x.Lasts, iAcF dInt (.slice A_At x.At.length k_At) x.At, iAcF dStr (.slice A_Fresh x.Fresh.length k_Fresh) x.Fresh] := by rw [e168]; exact hs169
              exact WL_nil ⟨rfl, _, rfl, hs170, v148, v149, v150, (fun _ => rfl), v152, v153, v154, v155, v156, v157, v158, v159, v160, v161, v162, v163, v164, v165, v166, trivial⟩
            ·
              rintro dN vL g171 w172 ⟨hs173, v179, v180, v181, v182, v183, v184, v185, v186, v187, v188, v189, v190, v191, v192, v193, v194, v195, v196, v197, _⟩ hD174 hd175 hu176 hg177 hk178
              have e198 : dN 19 = false := hu176 19 (by decide +kernel)
              rw [e198] at hs173
              have hs199 : Sep [] w0 (fun b => b ∈ F ∨ (D b ∧ b < w0.heap.size)) w172 [iAc dInt (.slice none 0 0) [] [] [], iAc dStr (.slice none 0 0) [] [] [], iOwn b9 43 [.slice A13 l0.length cap14, .slice none 0 0, .slice none 0 0, .int .i64 (-1), .bool false] [], iAc dStr (.slice A13 l0.length cap14) l0 bs15 [], iData (dSlice dInt) [.slice A1 kept.length cap1] kept, iObF (obRk r) x F, iOwnF r 43 [.slice A_Lasts x.Lasts.length k_Lasts, .slice A_At x.At.length k_At, .slice A_Fresh x.Fresh.length k_Fresh, .int .i64 x.Left, .bool x.Off], iAcF dStr (.slice A_Lasts x.Lasts.length k_Lasts) x.Lasts, iAcF dInt (.slice A_At x.At.length k_At) x.At, iAcF dStr (.slice A_Fresh x.Fresh.length k_Fresh) x.Fresh] := hs173
              refine WL_at (L := [(1, .int .i64 torn)]) ⟨(hk178 1 (by decide +kernel)), trivial⟩ ?_
              refine S_move rfl ?_
              have hs200 : Sep [] w0 (fun b => b ∈ F ∨ (D b ∧ b < w0.heap.size)) w172 [iAc dInt (.slice none 0 0) [] [] [], iAc dStr (.slice none 0 0) [] [] [], iOwn b9 43 [.slice A13 l0.length cap14, .slice none 0 0, .slice none 0 0, .int .i64 (-1), .bool false] [], (bif dN 19 then (iAc dStr (.slice A13 l0.length cap14) (List.set l0 (Int.toNat torn) ((List.take (Int.toNat c) ((x.now torn).getD [])) ++ (List.drop (Int.toNat c) (ix x.Lasts torn)))) bs15 []) else (iAc dStr (.slice A13 l0.length cap14) l0 bs15 [])), iData (dSlice dInt) [.slice A1 kept.length cap1] kept, iObF (obRk r) x F, iOwnF r 43 [.slice A_Lasts x.Lasts.length k_Lasts, .slice A_At x.At.length k_At, .slice A_Fresh x.Fresh.length k_Fresh, .int .i64 x.Left, .bool x.Off], iAcF dStr (.slice A_Lasts x.Lasts.length k_Lasts) x.Lasts, iAcF dInt (.slice A_At x.At.length k_At) x.At, iAcF dStr (.slice A_Fresh x.Fresh.length k_Fresh) x.Fresh] := by rw [e198]; exact hs199
              exact WL_nil ⟨rfl, _, rfl, hs200, v179, v180, v181, v182, (fun _ => rfl), v184, v185, v186, v187, v188, v189, v190, v191, v192, v193, v194, v195, v196, v197, trivial⟩
            ·
              rintro dN vL g201 w202 ⟨hs203, v209, v210, v211, v212, v213, v214, v215, v216, v217, v218, v219, v220, v221, v222, v223, v224, v225, v226, v227, _⟩ hD204 hd205 hu206 hg207 hk208
              have e228 : dN 19 = false := hu206 19 (by decide +kernel)
              rw [e228] at hs203
              have hs229 : Sep [] w0 (fun b => b ∈ F ∨ (D b ∧ b < w0.heap.size)) w202 [iAc dInt (.slice none 0 0) [] [] [], iAc dStr (.slice none 0 0) [] [] [], iOwn b9 43 [.slice A13 l0.length cap14, .slice none 0 0, .slice none 0 0, .int .i64 (-1), .bool false] [], iAc dStr (.slice A13 l0.length cap14) l0 bs15 [], iData (dSlice dInt) [.slice A1 kept.length cap1] kept, iObF (obRk r) x F, iOwnF r 43 [.slice A_Lasts x.Lasts.length k_Lasts, .slice A_At x.At.length k_At, .slice A_Fresh x.Fresh.length k_Fresh, .int .i64 x.Left, .bool x.Off], iAcF dStr (.slice A_Lasts x.Lasts.length k_Lasts) x.Lasts, iAcF dInt (.slice A_At x.At.length k_At) x.At, iAcF dStr (.slice A_Fresh x.Fresh.length k_Fresh) x.Fresh] := hs203
              refine WL_at (L := [(10, sv ((x.now torn).getD []))]) ⟨(hk208 10 (by decide +kernel)), trivial⟩ ?_
              refine S_move rfl ?_
              have hs230 : Sep [] w0 (fun b => b ∈ F ∨ (D b ∧ b < w0.heap.size)) w202 [iAc dInt (.slice none 0 0) [] [] [], iAc dStr (.slice none 0 0) [] [] [], iOwn b9 43 [.slice A13 l0.length cap14, .slice none 0 0, .slice none 0 0, .int .i64 (-1), .bool false] [], (bif dN 19 then (iAc dStr (.slice A13 l0.length cap14) (List.set l0 (Int.toNat torn) ((List.take (Int.toNat c) ((x.now torn).getD [])) ++ (List.drop (Int.toNat c) (ix x.Lasts torn)))) bs15 []) else (iAc dStr (.slice A13 l0.length cap14) l0 bs15 [])), iData (dSlice dInt) [.slice A1 kept.length cap1] kept, iObF (obRk r) x F, iOwnF r 43 [.slice A_Lasts x.Lasts.length k_Lasts, .slice A_At x.At.length k_At, .slice A_Fresh x.Fresh.length k_Fresh, .int .i64 x.Left, .bool x.Off], iAcF dStr (.slice A_Lasts x.Lasts.length k_Lasts) x.Lasts, iAcF dInt (.slice A_At x.At.length k_At) x.At, iAcF dStr (.slice A_Fresh x.Fresh.length k_Fresh) x.Fresh] := by rw [e228]; exact hs229
              exact WL_nil ⟨rfl, _, rfl, hs230, v209, v210, v211, v212, v213, (fun _ => rfl), v215, v216, v217, v218, v219, v220, v221, v222, v223, v224, v225, v226, v227, trivial⟩
            ·
              rintro dN vL g231 w232 ⟨hs233, v239, v240, v241, v242, v243, v244, v245, v246, v247, v248, v249, v250, v251, v252, v253, v254, v255, v256, v257, _⟩ hD234 hd235 hu236 hg237 hk238
              have e258 : dN 19 = false := hu236 19 (by decide +kernel)
              rw [e258] at hs233
              have hs259 : Sep [] w0 (fun b => b ∈ F ∨ (D b ∧ b < w0.heap.size)) w232 [iAc dInt (.slice none 0 0) [] [] [], iAc dStr (.slice none 0 0) [] [] [], iOwn b9 43 [.slice A13 l0.length cap14, .slice none 0 0, .slice none 0 0, .int .i64 (-1), .bool false] [], iAc dStr (.slice A13 l0.length cap14) l0 bs15 [], iData (dSlice dInt) [.slice A1 kept.length cap1] kept, iObF (obRk r) x F, iOwnF r 43 [.slice A_Lasts x.Lasts.length k_Lasts, .slice A_At x.At.length k_At, .slice A_Fresh x.Fresh.length k_Fresh, .int .i64 x.Left, .bool x.Off], iAcF dStr (.slice A_Lasts x.Lasts.length k_Lasts) x.Lasts, iAcF dInt (.slice A_At x.At.length k_At) x.At, iAcF dStr (.slice A_Fresh x.Fresh.length k_Fresh) x.Fresh] := hs233
              refine WL_at (L := [(2, .int .i64 c)]) ⟨(hk238 2 (by decide +kernel)), trivial⟩ ?_
              refine S_move rfl ?_
              have hs260 : Sep [] w0 (fun b => b ∈ F ∨ (D b ∧ b < w0.heap.size)) w232 [iAc dInt (.slice none 0 0) [] [] [], iAc dStr (.slice none 0 0) [] [] [], iOwn b9 43 [.slice A13 l0.length cap14, .slice none 0 0, .slice none 0 0, .int .i64 (-1), .bool false] [], (bif dN 19 then (iAc dStr (.slice A13 l0.length cap14) (List.set l0 (Int.toNat torn) ((List.take (Int.toNat c) ((x.now torn).getD [])) ++ (List.drop (Int.toNat c) (ix x.Lasts torn)))) bs15 []) else (iAc dStr (.slice A13 l0.length cap14) l0 bs15 [])), iData (dSlice dInt) [.slice A1 kept.length cap1] kept, iObF (obRk r) x F, iOwnF r 43 [.slice A_Lasts x.Lasts.length k_Lasts, .slice A_At x.At.length k_At, .slice A_Fresh x.Fresh.length k_Fresh, .int .i64 x.Left, .bool x.Off], iAcF dStr (.slice A_Lasts x.Lasts.length k_Lasts) x.Lasts, iAcF dInt (.slice A_At x.At.length k_At) x.At, iAcF dStr (.slice A_Fresh x.Fresh.length k_Fresh) x.Fresh] := by rw [e258]; exact hs259
              exact WL_nil ⟨rfl, _, rfl, hs260, v239, v240, v241, v242, v243, v244, (fun _ => rfl), v246, v247, v248, v249, v250, v251, v252, v253, v254, v255, v256, v257, trivial⟩
            ·
              rintro dN vL g261 w262 ⟨hs263, v269, v270, v271, v272, v273, v274, v275, v276, v277, v278, v279, v280, v281, v282, v283, v284, v285, v286, v287, _⟩ hD264 hd265 hu266 hg267 hk268
              have e288 : dN 5 = true := hd265 5 (by decide +kernel)
              have e289 : dN 6 = true := hd265 6 (by decide +kernel)
              have e290 : dN 19 = false := hu266 19 (by decide +kernel)
              rw [e290] at hs263
              have hs291 : Sep [] w0 (fun b => b ∈ F ∨ (D b ∧ b < w0.heap.size)) w262 [iAc dInt (.slice none 0 0) [] [] [], iAc dStr (.slice none 0 0) [] [] [], iOwn b9 43 [.slice A13 l0.length cap14, .slice none 0 0, .slice none 0 0, .int .i64 (-1), .bool false] [], iAc dStr (.slice A13 l0.length cap14) l0 bs15 [], iData (dSlice dInt) [.slice A1 kept.length cap1] kept, iObF (obRk r) x F, iOwnF r 43 [.slice A_Lasts x.Lasts.length k_Lasts, .slice A_At x.At.length k_At, .slice A_Fresh x.Fresh.length k_Fresh, .int .i64 x.Left, .bool x.Off], iAcF dStr (.slice A_Lasts x.Lasts.length k_Lasts) x.Lasts, iAcF dInt (.slice A_At x.At.length k_At) x.At, iAcF dStr (.slice A_Fresh x.Fresh.length k_Fresh) x.Fresh] := hs263
              refine WL_at (L := [(39, sv ((x.now torn).getD [])), (40, .int .i64 c)]) ⟨((hg267 5 39 e288 rfl).trans (v274 e288)), ((hg267 6 40 e289 rfl).trans (v275 e289)), trivial⟩ ?_
              refine S_sliceHi Try.runUnderlying9 rfl rfl ⟨by omega, by omega⟩ rfl ?_
              have hs292 : Sep [] w0 (fun b => b ∈ F ∨ (D b ∧ b < w0.heap.size)) w262 [iAc dInt (.slice none 0 0) [] [] [], iAc dStr (.slice none 0 0) [] [] [], iOwn b9 43 [.slice A13 l0.length cap14, .slice none 0 0, .slice none 0 0, .int .i64 (-1), .bool false] [], (bif dN 19 then (iAc dStr (.slice A13 l0.length cap14) (List.set l0 (Int.toNat torn) ((List.take (Int.toNat c) ((x.now torn).getD [])) ++ (List.drop (Int.toNat c) (ix x.Lasts torn)))) bs15 []) else (iAc dStr (.slice A13 l0.length cap14) l0 bs15 [])), iData (dSlice dInt) [.slice A1 kept.length cap1] kept, iObF (obRk r) x F, iOwnF r 43 [.slice A_Lasts x.Lasts.length k_Lasts, .slice A_At x.At.length k_At, .slice A_Fresh x.Fresh.length k_Fresh, .int .i64 x.Left, .bool x.Off], iAcF dStr (.slice A_Lasts x.Lasts.length k_Lasts) x.Lasts, iAcF dInt (.slice A_At x.At.length k_At) x.At, iAcF dStr (.slice A_Fresh x.Fresh.length k_Fresh) x.Fresh] := by rw [e290]; exact hs291
              exact WL_nil ⟨rfl, _, rfl, hs292, v269, v270, v271, v272, v273, v274, v275, (fun _ => rfl), v277, v278, v279, v280, v281, v282, v283, v284, v285, v286, v287, trivial⟩
            ·
              rintro dN vL g293 w294 ⟨hs295, v301, v302, v303, v304, v305, v306, v307, v308, v309, v310, v311, v312, v313, v314, v315, v316, v317, v318, v319, _⟩ hD296 hd297 hu298 hg299 hk300
              have e320 : dN 19 = false := hu298 19 (by decide +kernel)
              rw [e320] at hs295
              have hs321 : Sep [] w0 (fun b => b ∈ F ∨ (D b ∧ b < w0.heap.size)) w294 [iAc dInt (.slice none 0 0) [] [] [], iAc dStr (.slice none 0 0) [] [] [], iOwn b9 43 [.slice A13 l0.length cap14, .slice none 0 0, .slice none 0 0, .int .i64 (-1), .bool false] [], iAc dStr (.slice A13 l0.length cap14) l0 bs15 [], iData (dSlice dInt) [.slice A1 kept.length cap1] kept, iObF (obRk r) x F, iOwnF r 43 [.slice A_Lasts x.Lasts.length k_Lasts, .slice A_At x.At.length k_At, .slice A_Fresh x.Fresh.length k_Fresh, .int .i64 x.Left, .bool x.Off], iAcF dStr (.slice A_Lasts x.Lasts.length k_Lasts) x.Lasts, iAcF dInt (.slice A_At x.At.length k_At) x.At, iAcF dStr (.slice A_Fresh x.Fresh.length k_Fresh) x.Fresh] := hs295
              refine WL_at (L := [(0, .pointer (some ⟨r, 0, none⟩))]) ⟨(hk300 0 (by decide +kernel)), trivial⟩ ?_
              refine S_move rfl ?_
              have hs322 : Sep [] w0 (fun b => b ∈ F ∨ (D b ∧ b < w0.heap.size)) w294 [iAc dInt (.slice none 0 0) [] [] [], iAc dStr (.slice none 0 0) [] [] [], iOwn b9 43 [.slice A13 l0.length cap14, .slice none 0 0, .slice none 0 0, .int .i64 (-1), .bool false] [], (bif dN 19 then (iAc dStr (.slice A13 l0.length cap14) (List.set l0 (Int.toNat torn) ((List.take (Int.toNat c) ((x.now torn).getD [])) ++ (List.drop (Int.toNat c) (ix x.Lasts torn)))) bs15 []) else (iAc dStr (.slice A13 l0.length cap14) l0 bs15 [])), iData (dSlice dInt) [.slice A1 kept.length cap1] kept, iObF (obRk r) x F, iOwnF r 43 [.slice A_Lasts x.Lasts.length k_Lasts, .slice A_At x.At.length k_At, .slice A_Fresh x.Fresh.length k_Fresh, .int .i64 x.Left, .bool x.Off], iAcF dStr (.slice A_Lasts x.Lasts.length k_Lasts) x.Lasts, iAcF dInt (.slice A_At x.At.length k_At) x.At, iAcF dStr (.slice A_Fresh x.Fresh.length k_Fresh) x.Fresh] := by rw [e320]; exact hs321
              exact WL_nil ⟨rfl, _, rfl, hs322, v301, v302, v303, v304, v305, v306, v307, v308, (fun _ => rfl), v310, v311, v312, v313, v314, v315, v316, v317, v318, v319, trivial⟩
            ·
              rintro dN vL g323 w324 ⟨hs325, v331, v332, v333, v334, v335, v336, v337, v338, v339, v340, v341, v342, v343, v344, v345, v346, v347, v348, v349, _⟩ hD326 hd327 hu328 hg329 hk330
              have e350 : dN 8 = true := hd327 8 (by decide +kernel)
              have e351 : dN 19 = false := hu328 19 (by decide +kernel)
              rw [e351] at hs325
              have hs352 : Sep [] w0 (fun b => b ∈ F ∨ (D b ∧ b < w0.heap.size)) w324 [iAc dInt (.slice none 0 0) [] [] [], iAc dStr (.slice none 0 0) [] [] [], iOwn b9 43 [.slice A13 l0.length cap14, .slice none 0 0, .slice none 0 0, .int .i64 (-1), .bool false] [], iAc dStr (.slice A13 l0.length cap14) l0 bs15 [], iData (dSlice dInt) [.slice A1 kept.length cap1] kept, iObF (obRk r) x F, iOwnF r 43 [.slice A_Lasts x.Lasts.length k_Lasts, .slice A_At x.At.length k_At, .slice A_Fresh x.Fresh.length k_Fresh, .int .i64 x.Left, .bool x.Off], iAcF dStr (.slice A_Lasts x.Lasts.length k_Lasts) x.Lasts, iAcF dInt (.slice A_At x.At.length k_At) x.At, iAcF dStr (.slice A_Fresh x.Fresh.length k_Fresh) x.Fresh] := hs325
              refine WL_at (L := [(42, .pointer (some ⟨r, 0, none⟩))]) ⟨((hg329 8 42 e350 rfl).trans (v339 e350)), trivial⟩ ?_
              refine S_nilCheck rfl rfl ?_
              have hs353 : Sep [] w0 (fun b => b ∈ F ∨ (D b ∧ b < w0.heap.size)) w324 [iAc dInt (.slice none 0 0) [] [] [], iAc dStr (.slice none 0 0) [] [] [], iOwn b9 43 [.slice A13 l0.length cap14, .slice none 0 0, .slice none 0 0, .int .i64 (-1), .bool false] [], (bif dN 19 then (iAc dStr (.slice A13 l0.length cap14) (List.set l0 (Int.toNat torn) ((List.take (Int.toNat c) ((x.now torn).getD [])) ++ (List.drop (Int.toNat c) (ix x.Lasts torn)))) bs15 []) else (iAc dStr (.slice A13 l0.length cap14) l0 bs15 [])), iData (dSlice dInt) [.slice A1 kept.length cap1] kept, iObF (obRk r) x F, iOwnF r 43 [.slice A_Lasts x.Lasts.length k_Lasts, .slice A_At x.At.length k_At, .slice A_Fresh x.Fresh.length k_Fresh, .int .i64 x.Left, .bool x.Off], iAcF dStr (.slice A_Lasts x.Lasts.length k_Lasts) x.Lasts, iAcF dInt (.slice A_At x.At.length k_At) x.At, iAcF dStr (.slice A_Fresh x.Fresh.length k_Fresh) x.Fresh] := by rw [e351]; exact hs352
              exact WL_nil ⟨rfl, _, rfl, hs353, v331, v332, v333, v334, v335, v336, v337, v338, v339, (fun _ => rfl), v341, v342, v343, v344, v345, v346, v347, v348, v349, trivial⟩
            ·
              rintro dN vL g354 w355 ⟨hs356, v362, v363, v364, v365, v366, v367, v368, v369, v370, v371, v372, v373, v374, v375, v376, v377, v378, v379, v380, _⟩ hD357 hd358 hu359 hg360 hk361
              have e381 : dN 9 = true := hd358 9 (by decide +kernel)
              have e382 : dN 19 = false := hu359 19 (by decide +kernel)
              rw [e382] at hs356
              have hs383 : Sep [] w0 (fun b => b ∈ F ∨ (D b ∧ b < w0.heap.size)) w355 [iAc dInt (.slice none 0 0) [] [] [], iAc dStr (.slice none 0 0) [] [] [], iOwn b9 43 [.slice A13 l0.length cap14, .slice none 0 0, .slice none 0 0, .int .i64 (-1), .bool false] [], iAc dStr (.slice A13 l0.length cap14) l0 bs15 [], iData (dSlice dInt) [.slice A1 kept.length cap1] kept, iObF (obRk r) x F, iOwnF r 43 [.slice A_Lasts x.Lasts.length k_Lasts, .slice A_At x.At.length k_At, .slice A_Fresh x.Fresh.length k_Fresh, .int .i64 x.Left, .bool x.Off], iAcF dStr (.slice A_Lasts x.Lasts.length k_Lasts) x.Lasts, iAcF dInt (.slice A_At x.At.length k_At) x.At, iAcF dStr (.slice A_Fresh x.Fresh.length k_Fresh) x.Fresh] := hs356
              refine WL_at (L := [(43, .pointer (some ⟨r, 0, none⟩))]) ⟨((hg360 9 43 e381 rfl).trans (v371 e381)), trivial⟩ ?_
              refine S_fieldAddr Try.runUnderlying43 rfl Try.sizeOf41 rfl rfl ?_
              have hs384 : Sep [] w0 (fun b => b ∈ F ∨ (D b ∧ b < w0.heap.size)) w355 [iAc dInt (.slice none 0 0) [] [] [], iAc dStr (.slice none 0 0) [] [] [], iOwn b9 43 [.slice A13 l0.length cap14, .slice none 0 0, .slice none 0 0, .int .i64 (-1), .bool false] [], (bif dN 19 then (iAc dStr (.slice A13 l0.length cap14) (List.set l0 (Int.toNat torn) ((List.take (Int.toNat c) ((x.now torn).getD [])) ++ (List.drop (Int.toNat c) (ix x.Lasts torn)))) bs15 []) else (iAc dStr (.slice A13 l0.length cap14) l0 bs15 [])), iData (dSlice dInt) [.slice A1 kept.length cap1] kept, iObF (obRk r) x F, iOwnF r 43 [.slice A_Lasts x.Lasts.length k_Lasts, .slice A_At x.At.length k_At, .slice A_Fresh x.Fresh.length k_Fresh, .int .i64 x.Left, .bool x.Off], iAcF dStr (.slice A_Lasts x.Lasts.length k_Lasts) x.Lasts, iAcF dInt (.slice A_At x.At.length k_At) x.At, iAcF dStr (.slice A_Fresh x.Fresh.length k_Fresh) x.Fresh] := by rw [e382]; exact hs383
              exact WL_nil ⟨rfl, _, rfl, hs384, v362, v363, v364, v365, v366, v367, v368, v369, v370, v371, (fun _ => rfl), v373, v374, v375, v376, v377, v378, v379, v380, trivial⟩
            ·
              rintro dN vL g385 w386 ⟨hs387, v393, v394, v395, v396, v397, v398, v399, v400, v401, v402, v403, v404, v405, v406, v407, v408, v409, v410, v411, _⟩ hD388 hd389 hu390 hg391 hk392
              have e412 : dN 10 = true := hd389 10 (by decide +kernel)
              have e413 : dN 19 = false := hu390 19 (by decide +kernel)
              rw [e413] at hs387
              have hs414 : Sep [] w0 (fun b => b ∈ F ∨ (D b ∧ b < w0.heap.size)) w386 [iAc dInt (.slice none 0 0) [] [] [], iAc dStr (.slice none 0 0) [] [] [], iOwn b9 43 [.slice A13 l0.length cap14, .slice none 0 0, .slice none 0 0, .int .i64 (-1), .bool false] [], iAc dStr (.slice A13 l0.length cap14) l0 bs15 [], iData (dSlice dInt) [.slice A1 kept.length cap1] kept, iObF (obRk r) x F, iOwnF r 43 [.slice A_Lasts x.Lasts.length k_Lasts, .slice A_At x.At.length k_At, .slice A_Fresh x.Fresh.length k_Fresh, .int .i64 x.Left, .bool x.Off], iAcF dStr (.slice A_Lasts x.Lasts.length k_Lasts) x.Lasts, iAcF dInt (.slice A_At x.At.length k_At) x.At, iAcF dStr (.slice A_Fresh x.Fresh.length k_Fresh) x.Fresh] := hs387
              refine WL_at (L := [(44, .pointer (some ⟨r, 0, none⟩))]) ⟨((hg391 10 44 e412 rfl).trans (v403 e412)), trivial⟩ ?_
              refine S_load1 Try.isAgg41 rfl (Own.at ((hs414.at 6 rfl)).2 rfl) rfl ?_
              have hs415 : Sep [] w0 (fun b => b ∈ F ∨ (D b ∧ b < w0.heap.size)) w386 [iAc dInt (.slice none 0 0) [] [] [], iAc dStr (.slice none 0 0) [] [] [], iOwn b9 43 [.slice A13 l0.length cap14, .slice none 0 0, .slice none 0 0, .int .i64 (-1), .bool false] [], (bif dN 19 then (iAc dStr (.slice A13 l0.length cap14) (List.set l0 (Int.toNat torn) ((List.take (Int.toNat c) ((x.now torn).getD [])) ++ (List.drop (Int.toNat c) (ix x.Lasts torn)))) bs15 []) else (iAc dStr (.slice A13 l0.length cap14) l0 bs15 [])), iData (dSlice dInt) [.slice A1 kept.length cap1] kept, iObF (obRk r) x F, iOwnF r 43 [.slice A_Lasts x.Lasts.length k_Lasts, .slice A_At x.At.length k_At, .slice A_Fresh x.Fresh.length k_Fresh, .int .i64 x.Left, .bool x.Off], iAcF dStr (.slice A_Lasts x.Lasts.length k_Lasts) x.Lasts, iAcF dInt (.slice A_At x.At.length k_At) x.At, iAcF dStr (.slice A_Fresh x.Fresh.length k_Fresh) x.Fresh] := by rw [e413]; exact hs414
              exact WL_nil ⟨rfl, _, rfl, hs415, v393, v394, v395, v396, v397, v398, v399, v400, v401, v402, v403, (fun _ => rfl), v405, v406, v407, v408, v409, v410, v411, trivial⟩
            ·
              rintro dN vL g416 w417 ⟨hs418, v424, v425, v426, v427, v428, v429, v430, v431, v432, v433, v434, v435, v436, v437, v438, v439, v440, v441, v442, _⟩ hD419 hd420 hu421 hg422 hk423
              have e443 : dN 19 = false := hu421 19 (by decide +kernel)
              rw [e443] at hs418
              have hs444 : Sep [] w0 (fun b => b ∈ F ∨ (D b ∧ b < w0.heap.size)) w417 [iAc dInt (.slice none 0 0) [] [] [], iAc dStr (.slice none 0 0) [] [] [], iOwn b9 43 [.slice A13 l0.length cap14, .slice none 0 0, .slice none 0 0, .int .i64 (-1), .bool false] [], iAc dStr (.slice A13 l0.length cap14) l0 bs15 [], iData (dSlice dInt) [.slice A1 kept.length cap1] kept, iObF (obRk r) x F, iOwnF r 43 [.slice A_Lasts x.Lasts.length k_Lasts, .slice A_At x.At.length k_At, .slice A_Fresh x.Fresh.length k_Fresh, .int .i64 x.Left, .bool x.Off], iAcF dStr (.slice A_Lasts x.Lasts.length k_Lasts) x.Lasts, iAcF dInt (.slice A_At x.At.length k_At) x.At, iAcF dStr (.slice A_Fresh x.Fresh.length k_Fresh) x.Fresh] := hs418
              refine WL_at (L := [(1, .int .i64 torn)]) ⟨(hk423 1 (by decide +kernel)), trivial⟩ ?_
              refine S_move rfl ?_
              have hs445 : Sep [] w0 (fun b => b ∈ F ∨ (D b ∧ b < w0.heap.size)) w417 [iAc dInt (.slice none 0 0) [] [] [], iAc dStr (.slice none 0 0) [] [] [], iOwn b9 43 [.slice A13 l0.length cap14, .slice none 0 0, .slice none 0 0, .int .i64 (-1), .bool false] [], (bif dN 19 then (iAc dStr (.slice A13 l0.length cap14) (List.set l0 (Int.toNat torn) ((List.take (Int.toNat c) ((x.now torn).getD [])) ++ (List.drop (Int.toNat c) (ix x.Lasts torn)))) bs15 []) else (iAc dStr (.slice A13 l0.length cap14) l0 bs15 [])), iData (dSlice dInt) [.slice A1 kept.length cap1] kept, iObF (obRk r) x F, iOwnF r 43 [.slice A_Lasts x.Lasts.length k_Lasts, .slice A_At x.At.length k_At, .slice A_Fresh x.Fresh.length k_Fresh, .int .i64 x.Left, .bool x.Off], iAcF dStr (.slice A_Lasts x.Lasts.length k_Lasts) x.Lasts, iAcF dInt (.slice A_At x.At.length k_At) x.At, iAcF dStr (.slice A_Fresh x.Fresh.length k_Fresh) x.Fresh] := by rw [e443]; exact hs444
              exact WL_nil ⟨rfl, _, rfl, hs445, v424, v425, v426, v427, v428, v429, v430, v431, v432, v433, v434, v435, (fun _ => rfl), v437, v438, v439, v440, v441, v442, trivial⟩
            ·
              rintro dN vL g446 w447 ⟨hs448, v454, v455, v456, v457, v458, v459, v460, v461, v462, v463, v464, v465, v466, v467, v468, v469, v470, v471, v472, _⟩ hD449 hd450 hu451 hg452 hk453
              have e473 : dN 11 = true := hd450 11 (by decide +kernel)
              have e474 : dN 12 = true := hd450 12 (by decide +kernel)
              have e475 : dN 19 = false := hu451 19 (by decide +kernel)
              rw [e475] at hs448
              have hs476 : Sep [] w0 (fun b => b ∈ F ∨ (D b ∧ b < w0.heap.size)) w447 [iAc dInt (.slice none 0 0) [] [] [], iAc dStr (.slice none 0 0) [] [] [], iOwn b9 43 [.slice A13 l0.length cap14, .slice none 0 0, .slice none 0 0, .int .i64 (-1), .bool false] [], iAc dStr (.slice A13 l0.length cap14) l0 bs15 [], iData (dSlice dInt) [.slice A1 kept.length cap1] kept, iObF (obRk r) x F, iOwnF r 43 [.slice A_Lasts x.Lasts.length k_Lasts, .slice A_At x.At.length k_At, .slice A_Fresh x.Fresh.length k_Fresh, .int .i64 x.Left, .bool x.Off], iAcF dStr (.slice A_Lasts x.Lasts.length k_Lasts) x.Lasts, iAcF dInt (.slice A_At x.At.length k_At) x.At, iAcF dStr (.slice A_Fresh x.Fresh.length k_Fresh) x.Fresh] := hs448
              refine WL_at (L := [(45, .slice A_Lasts x.Lasts.length k_Lasts), (46, .int .i64 torn)]) ⟨((hg452 11 45 e473 rfl).trans (v465 e473)), ((hg452 12 46 e474 rfl).trans (v466 e474)), trivial⟩ ?_
              refine Z_indexAc ((hs476.at 7 rfl)).choose_spec.2 Try.runUnderlying41 Try.sizeOf9 rfl rfl (show (0 : Int) ≤ torn from hin.1) (show torn < ((x.Lasts.length : Nat) : Int) from hin.2) rfl ?_
              have hs477 : Sep [] w0 (fun b => b ∈ F ∨ (D b ∧ b < w0.heap.size)) w447 [iAc dInt (.slice none 0 0) [] [] [], iAc dStr (.slice none 0 0) [] [] [], iOwn b9 43 [.slice A13 l0.length cap14, .slice none 0 0, .slice none 0 0, .int .i64 (-1), .bool false] [], (bif dN 19 then (iAc dStr (.slice A13 l0.length cap14) (List.set l0 (Int.toNat torn) ((List.take (Int.toNat c) ((x.now torn).getD [])) ++ (List.drop (Int.toNat c) (ix x.Lasts torn)))) bs15 []) else (iAc dStr (.slice A13 l0.length cap14) l0 bs15 [])), iData (dSlice dInt) [.slice A1 kept.length cap1] kept, iObF (obRk r) x F, iOwnF r 43 [.slice A_Lasts x.Lasts.length k_Lasts, .slice A_At x.At.length k_At, .slice A_Fresh x.Fresh.length k_Fresh, .int .i64 x.Left, .bool x.Off], iAcF dStr (.slice A_Lasts x.Lasts.length k_Lasts) x.Lasts, iAcF dInt (.slice A_At x.At.length k_At) x.At, iAcF dStr (.slice A_Fresh x.Fresh.length k_Fresh) x.Fresh] := by rw [e475]; exact hs476
              exact WL_nil ⟨rfl, _, rfl, hs477, v454, v455, v456, v457, v458, v459, v460, v461, v462, v463, v464, v465, v466, (fun _ => rfl), v468, v469, v470, v471, v472, trivial⟩
            ·
              rintro dN vL g478 w479 ⟨hs480, v486, v487, v488, v489, v490, v491, v492, v493, v494, v495, v496, v497, v498, v499, v500, v501, v502, v503, v504, _⟩ hD481 hd482 hu483 hg484 hk485
              have e505 : dN 13 = true := hd482 13 (by decide +kernel)
              have e506 : dN 19 = false := hu483 19 (by decide +kernel)
              rw [e506] at hs480
              have hs507 : Sep [] w0 (fun b => b ∈ F ∨ (D b ∧ b < w0.heap.size)) w479 [iAc dInt (.slice none 0 0) [] [] [], iAc dStr (.slice none 0 0) [] [] [], iOwn b9 43 [.slice A13 l0.length cap14, .slice none 0 0, .slice none 0 0, .int .i64 (-1), .bool false] [], iAc dStr (.slice A13 l0.length cap14) l0 bs15 [], iData (dSlice dInt) [.slice A1 kept.length cap1] kept, iObF (obRk r) x F, iOwnF r 43 [.slice A_Lasts x.Lasts.length k_Lasts, .slice A_At x.At.length k_At, .slice A_Fresh x.Fresh.length k_Fresh, .int .i64 x.Left, .bool x.Off], iAcF dStr (.slice A_Lasts x.Lasts.length k_Lasts) x.Lasts, iAcF dInt (.slice A_At x.At.length k_At) x.At, iAcF dStr (.slice A_Fresh x.Fresh.length k_Fresh) x.Fresh] := hs480
              refine WL_at (L := [(47, .pointer (some (eA A_Lasts ((Int.toNat torn) * 1))))]) ⟨((hg484 13 47 e505 rfl).trans (v499 e505)), trivial⟩ ?_
              have o511 := cell_ac (q := (Int.toNat torn) * 1) (sz := 1) (o := 0) ((hs507.at 7 rfl)).choose_spec.2 (Sub.self _) rfl (Nat.add_zero _).symm (show (0 : Int) ≤ torn from hin.1) (show torn < ((x.Lasts.length : Nat) : Int) from hin.2)
              obtain ⟨c508, hc509, hr510⟩ := o511
              obtain ⟨rfl, r512⟩ := hr510
              refine Z_load Try.isAgg9 rfl hc509 rfl ?_
              have hs513 : Sep [] w0 (fun b => b ∈ F ∨ (D b ∧ b < w0.heap.size)) w479 [iAc dInt (.slice none 0 0) [] [] [], iAc dStr (.slice none 0 0) [] [] [], iOwn b9 43 [.slice A13 l0.length cap14, .slice none 0 0, .slice none 0 0, .int .i64 (-1), .bool false] [], (bif dN 19 then (iAc dStr (.slice A13 l0.length cap14) (List.set l0 (Int.toNat torn) ((List.take (Int.toNat c) ((x.now torn).getD [])) ++ (List.drop (Int.toNat c) (ix x.Lasts torn)))) bs15 []) else (iAc dStr (.slice A13 l0.length cap14) l0 bs15 [])), iData (dSlice dInt) [.slice A1 kept.length cap1] kept, iObF (obRk r) x F, iOwnF r 43 [.slice A_Lasts x.Lasts.length k_Lasts, .slice A_At x.At.length k_At, .slice A_Fresh x.Fresh.length k_Fresh, .int .i64 x.Left, .bool x.Off], iAcF dStr (.slice A_Lasts x.Lasts.length k_Lasts) x.Lasts, iAcF dInt (.slice A_At x.At.length k_At) x.At, iAcF dStr (.slice A_Fresh x.Fresh.length k_Fresh) x.Fresh] := by rw [e506]; exact hs507
              exact WL_nil ⟨rfl, _, rfl, hs513, v486, v487, v488, v489, v490, v491, v492, v493, v494, v495, v496, v497, v498, v499, (fun _ => rfl), v501, v502, v503, v504, trivial⟩
            ·
              rintro dN vL g514 w515 ⟨hs516, v522, v523, v524, v525, v526, v527, v528, v529, v530, v531, v532, v533, v534, v535, v536, v537, v538, v539, v540, _⟩ hD517 hd518 hu519 hg520 hk521
              have e541 : dN 19 = false := hu519 19 (by decide +kernel)
              rw [e541] at hs516
              have hs542 : Sep [] w0 (fun b => b ∈ F ∨ (D b ∧ b < w0.heap.size)) w515 [iAc dInt (.slice none 0 0) [] [] [], iAc dStr (.slice none 0 0) [] [] [], iOwn b9 43 [.slice A13 l0.length cap14, .slice none 0 0, .slice none 0 0, .int .i64 (-1), .bool false] [], iAc dStr (.slice A13 l0.length cap14) l0 bs15 [], iData (dSlice dInt) [.slice A1 kept.length cap1] kept, iObF (obRk r) x F, iOwnF r 43 [.slice A_Lasts x.Lasts.length k_Lasts, .slice A_At x.At.length k_At, .slice A_Fresh x.Fresh.length k_Fresh, .int .i64 x.Left, .bool x.Off], iAcF dStr (.slice A_Lasts x.Lasts.length k_Lasts) x.Lasts, iAcF dInt (.slice A_At x.At.length k_At) x.At, iAcF dStr (.slice A_Fresh x.Fresh.length k_Fresh) x.Fresh] := hs516
              refine WL_at (L := [(2, .int .i64 c)]) ⟨(hk521 2 (by decide +kernel)), trivial⟩ ?_
              refine S_move rfl ?_
              have hs543 : Sep [] w0 (fun b => b ∈ F ∨ (D b ∧ b < w0.heap.size)) w515 [iAc dInt (.slice none 0 0) [] [] [], iAc dStr (.slice none 0 0) [] [] [], iOwn b9 43 [.slice A13 l0.length cap14, .slice none 0 0, .slice none 0 0, .int .i64 (-1), .bool false] [], (bif dN 19 then (iAc dStr (.slice A13 l0.length cap14) (List.set l0 (Int.toNat torn) ((List.take (Int.toNat c) ((x.now torn).getD [])) ++ (List.drop (Int.toNat c) (ix x.Lasts torn)))) bs15 []) else (iAc dStr (.slice A13 l0.length cap14) l0 bs15 [])), iData (dSlice dInt) [.slice A1 kept.length cap1] kept, iObF (obRk r) x F, iOwnF r 43 [.slice A_Lasts x.Lasts.length k_Lasts, .slice A_At x.At.length k_At, .slice A_Fresh x.Fresh.length k_Fresh, .int .i64 x.Left, .bool x.Off], iAcF dStr (.slice A_Lasts x.Lasts.length k_Lasts) x.Lasts, iAcF dInt (.slice A_At x.At.length k_At) x.At, iAcF dStr (.slice A_Fresh x.Fresh.length k_Fresh) x.Fresh] := by rw [e541]; exact hs542
              exact WL_nil ⟨rfl, _, rfl, hs543, v522, v523, v524, v525, v526, v527, v528, v529, v530, v531, v532, v533, v534, v535, v536, (fun _ => rfl), v538, v539, v540, trivial⟩
            ·
              rintro dN vL g544 w545 ⟨hs546, v552, v553, v554, v555, v556, v557, v558, v559, v560, v561, v562, v563, v564, v565, v566, v567, v568, v569, v570, _⟩ hD547 hd548 hu549 hg550 hk551
              have e571 : dN 14 = true := hd548 14 (by decide +kernel)
              have e572 : dN 15 = true := hd548 15 (by decide +kernel)
              have e573 : dN 19 = false := hu549 19 (by decide +kernel)
              rw [e573] at hs546
              have hs574 : Sep [] w0 (fun b => b ∈ F ∨ (D b ∧ b < w0.heap.size)) w545 [iAc dInt (.slice none 0 0) [] [] [], iAc dStr (.slice none 0 0) [] [] [], iOwn b9 43 [.slice A13 l0.length cap14, .slice none 0 0, .slice none 0 0, .int .i64 (-1), .bool false] [], iAc dStr (.slice A13 l0.length cap14) l0 bs15 [], iData (dSlice dInt) [.slice A1 kept.length cap1] kept, iObF (obRk r) x F, iOwnF r 43 [.slice A_Lasts x.Lasts.length k_Lasts, .slice A_At x.At.length k_At, .slice A_Fresh x.Fresh.length k_Fresh, .int .i64 x.Left, .bool x.Off], iAcF dStr (.slice A_Lasts x.Lasts.length k_Lasts) x.Lasts, iAcF dInt (.slice A_At x.At.length k_At) x.At, iAcF dStr (.slice A_Fresh x.Fresh.length k_Fresh) x.Fresh] := hs546
              refine WL_at (L := [(48, sv (ix x.Lasts torn)), (49, .int .i64 c)]) ⟨((hg550 14 48 e571 rfl).trans (v566 e571)), ((hg550 15 49 e572 rfl).trans (v567 e572)), trivial⟩ ?_
              refine S_sliceLo Try.runUnderlying9 rfl rfl ⟨by omega, by omega⟩ rfl ?_
              have hs575 : Sep [] w0 (fun b => b ∈ F ∨ (D b ∧ b < w0.heap.size)) w545 [iAc dInt (.slice none 0 0) [] [] [], iAc dStr (.slice none 0 0) [] [] [], iOwn b9 43 [.slice A13 l0.length cap14, .slice none 0 0, .slice none 0 0, .int .i64 (-1), .bool false] [], (bif dN 19 then (iAc dStr (.slice A13 l0.length cap14) (List.set l0 (Int.toNat torn) ((List.take (Int.toNat c) ((x.now torn).getD [])) ++ (List.drop (Int.toNat c) (ix x.Lasts torn)))) bs15 []) else (iAc dStr (.slice A13 l0.length cap14) l0 bs15 [])), iData (dSlice dInt) [.slice A1 kept.length cap1] kept, iObF (obRk r) x F, iOwnF r 43 [.slice A_Lasts x.Lasts.length k_Lasts, .slice A_At x.At.length k_At, .slice A_Fresh x.Fresh.length k_Fresh, .int .i64 x.Left, .bool x.Off], iAcF dStr (.slice A_Lasts x.Lasts.length k_Lasts) x.Lasts, iAcF dInt (.slice A_At x.At.length k_At) x.At, iAcF dStr (.slice A_Fresh x.Fresh.length k_Fresh) x.Fresh] := by rw [e573]; exact hs574
              exact WL_nil ⟨rfl, _, rfl, hs575, v552, v553, v554, v555, v556, v557, v558, v559, v560, v561, v562, v563, v564, v565, v566, v567, (fun _ => rfl), v569, v570, trivial⟩
            ·
              rintro dN vL g576 w577 ⟨hs578, v584, v585, v586, v587, v588, v589, v590, v591, v592, v593, v594, v595, v596, v597, v598, v599, v600, v601, v602, _⟩ hD579 hd580 hu581 hg582 hk583
              have e603 : dN 7 = true := hd580 7 (by decide +kernel)
              have e604 : dN 16 = true := hd580 16 (by decide +kernel)
              have e605 : dN 19 = false := hu581 19 (by decide +kernel)
              rw [e605] at hs578
              have hs606 : Sep [] w0 (fun b => b ∈ F ∨ (D b ∧ b < w0.heap.size)) w577 [iAc dInt (.slice none 0 0) [] [] [], iAc dStr (.slice none 0 0) [] [] [], iOwn b9 43 [.slice A13 l0.length cap14, .slice none 0 0, .slice none 0 0, .int .i64 (-1), .bool false] [], iAc dStr (.slice A13 l0.length cap14) l0 bs15 [], iData (dSlice dInt) [.slice A1 kept.length cap1] kept, iObF (obRk r) x F, iOwnF r 43 [.slice A_Lasts x.Lasts.length k_Lasts, .slice A_At x.At.length k_At, .slice A_Fresh x.Fresh.length k_Fresh, .int .i64 x.Left, .bool x.Off], iAcF dStr (.slice A_Lasts x.Lasts.length k_Lasts) x.Lasts, iAcF dInt (.slice A_At x.At.length k_At) x.At, iAcF dStr (.slice A_Fresh x.Fresh.length k_Fresh) x.Fresh] := hs578
              refine WL_at (L := [(41, sv (List.take (Int.toNat c) ((x.now torn).getD []))), (50, sv (List.drop (Int.toNat c) (ix x.Lasts torn)))]) ⟨((hg582 7 41 e603 rfl).trans (v591 e603)), ((hg582 16 50 e604 rfl).trans (v600 e604)), trivial⟩ ?_
              refine S_addS rfl rfl (by simp only [List.length_take, List.length_drop]; omega) rfl ?_
              have hs607 : Sep [] w0 (fun b => b ∈ F ∨ (D b ∧ b < w0.heap.size)) w577 [iAc dInt (.slice none 0 0) [] [] [], iAc dStr (.slice none 0 0) [] [] [], iOwn b9 43 [.slice A13 l0.length cap14, .slice none 0 0, .slice none 0 0, .int .i64 (-1), .bool false] [], (bif dN 19 then (iAc dStr (.slice A13 l0.length cap14) (List.set l0 (Int.toNat torn) ((List.take (Int.toNat c) ((x.now torn).getD [])) ++ (List.drop (Int.toNat c) (ix x.Lasts torn)))) bs15 []) else (iAc dStr (.slice A13 l0.length cap14) l0 bs15 [])), iData (dSlice dInt) [.slice A1 kept.length cap1] kept, iObF (obRk r) x F, iOwnF r 43 [.slice A_Lasts x.Lasts.length k_Lasts, .slice A_At x.At.length k_At, .slice A_Fresh x.Fresh.length k_Fresh, .int .i64 x.Left, .bool x.Off], iAcF dStr (.slice A_Lasts x.Lasts.length k_Lasts) x.Lasts, iAcF dInt (.slice A_At x.At.length k_At) x.At, iAcF dStr (.slice A_Fresh x.Fresh.length k_Fresh) x.Fresh] := by rw [e605]; exact hs606
              exact WL_nil ⟨rfl, _, rfl, hs607, v584, v585, v586, v587, v588, v589, v590, v591, v592, v593, v594, v595, v596, v597, v598, v599, v600, (fun _ => rfl), v602, trivial⟩
            ·
              rintro dN vL g608 w609 ⟨hs610, v616, v617, v618, v619, v620, v621, v622, v623, v624, v625, v626, v627, v628, v629, v630, v631, v632, v633, v634, _⟩ hD611 hd612 hu613 hg614 hk615
              have e635 : dN 3 = true := hd612 3 (by decide +kernel)
              have e636 : dN 4 = true := hd612 4 (by decide +kernel)
              have e637 : dN 19 = false := hu613 19 (by decide +kernel)
              rw [e637] at hs610
              have hs638 : Sep [] w0 (fun b => b ∈ F ∨ (D b ∧ b < w0.heap.size)) w609 [iAc dInt (.slice none 0 0) [] [] [], iAc dStr (.slice none 0 0) [] [] [], iOwn b9 43 [.slice A13 l0.length cap14, .slice none 0 0, .slice none 0 0, .int .i64 (-1), .bool false] [], iAc dStr (.slice A13 l0.length cap14) l0 bs15 [], iData (dSlice dInt) [.slice A1 kept.length cap1] kept, iObF (obRk r) x F, iOwnF r 43 [.slice A_Lasts x.Lasts.length k_Lasts, .slice A_At x.At.length k_At, .slice A_Fresh x.Fresh.length k_Fresh, .int .i64 x.Left, .bool x.Off], iAcF dStr (.slice A_Lasts x.Lasts.length k_Lasts) x.Lasts, iAcF dInt (.slice A_At x.At.length k_At) x.At, iAcF dStr (.slice A_Fresh x.Fresh.length k_Fresh) x.Fresh] := hs610
              refine WL_at (L := [(37, .slice A13 l0.length cap14), (38, .int .i64 torn)]) ⟨((hg614 3 37 e635 rfl).trans (v619 e635)), ((hg614 4 38 e636 rfl).trans (v620 e636)), trivial⟩ ?_
              refine Z_indexAc (hs638.at 3 rfl) Try.runUnderlying41 Try.sizeOf9 rfl rfl (show (0 : Int) ≤ torn from hin.1) (show torn < ((l0.length : Nat) : Int) from by omega) rfl ?_
              have hs639 : Sep [] w0 (fun b => b ∈ F ∨ (D b ∧ b < w0.heap.size)) w609 [iAc dInt (.slice none 0 0) [] [] [], iAc dStr (.slice none 0 0) [] [] [], iOwn b9 43 [.slice A13 l0.length cap14, .slice none 0 0, .slice none 0 0, .int .i64 (-1), .bool false] [], (bif dN 19 then (iAc dStr (.slice A13 l0.length cap14) (List.set l0 (Int.toNat torn) ((List.take (Int.toNat c) ((x.now torn).getD [])) ++ (List.drop (Int.toNat c) (ix x.Lasts torn)))) bs15 []) else (iAc dStr (.slice A13 l0.length cap14) l0 bs15 [])), iData (dSlice dInt) [.slice A1 kept.length cap1] kept, iObF (obRk r) x F, iOwnF r 43 [.slice A_Lasts x.Lasts.length k_Lasts, .slice A_At x.At.length k_At, .slice A_Fresh x.Fresh.length k_Fresh, .int .i64 x.Left, .bool x.Off], iAcF dStr (.slice A_Lasts x.Lasts.length k_Lasts) x.Lasts, iAcF dInt (.slice A_At x.At.length k_At) x.At, iAcF dStr (.slice A_Fresh x.Fresh.length k_Fresh) x.Fresh] := by rw [e637]; exact hs638
              exact WL_nil ⟨rfl, _, rfl, hs639, v616, v617, v618, v619, v620, v621, v622, v623, v624, v625, v626, v627, v628, v629, v630, v631, v632, v633, (fun _ => rfl), trivial⟩
            ·
              rintro dN vL g640 w641 ⟨hs642, v648, v649, v650, v651, v652, v653, v654, v655, v656, v657, v658, v659, v660, v661, v662, v663, v664, v665, v666, _⟩ hD643 hd644 hu645 hg646 hk647
              have e667 : dN 17 = true := hd644 17 (by decide +kernel)
              have e668 : dN 18 = true := hd644 18 (by decide +kernel)
              have e669 : dN 19 = false := hD643
              rw [e669] at hs642
              have hs670 : Sep [] w0 (fun b => b ∈ F ∨ (D b ∧ b < w0.heap.size)) w641 [iAc dInt (.slice none 0 0) [] [] [], iAc dStr (.slice none 0 0) [] [] [], iOwn b9 43 [.slice A13 l0.length cap14, .slice none 0 0, .slice none 0 0, .int .i64 (-1), .bool false] [], iAc dStr (.slice A13 l0.length cap14) l0 bs15 [], iData (dSlice dInt) [.slice A1 kept.length cap1] kept, iObF (obRk r) x F, iOwnF r 43 [.slice A_Lasts x.Lasts.length k_Lasts, .slice A_At x.At.length k_At, .slice A_Fresh x.Fresh.length k_Fresh, .int .i64 x.Left, .bool x.Off], iAcF dStr (.slice A_Lasts x.Lasts.length k_Lasts) x.Lasts, iAcF dInt (.slice A_At x.At.length k_At) x.At, iAcF dStr (.slice A_Fresh x.Fresh.length k_Fresh) x.Fresh] := hs642
              refine WL_at (L := [(51, sv ((List.take (Int.toNat c) ((x.now torn).getD [])) ++ (List.drop (Int.toNat c) (ix x.Lasts torn)))), (52, .pointer (some (eA A13 ((Int.toNat torn) * 1))))]) ⟨((hg646 17 51 e667 rfl).trans (v665 e667)), ((hg646 18 52 e668 rfl).trans (v666 e668)), trivial⟩ ?_
              refine Z_storeEl (o := 0) (sz := 1) hs670 3 rfl Try.sizeOf9 rfl rfl (Nat.add_zero _).symm rfl rfl (show (0 : Int) ≤ torn from hin.1) (show torn < ((l0.length : Nat) : Int) from by omega) (fun c0 _ hc => st_str (by simp only [List.length_append, List.length_take, List.length_drop]; omega) c0 hc) rfl ?_
              intro w671 hs672
              have hs672 : Sep [] w0 (fun b => b ∈ F ∨ (D b ∧ b < w0.heap.size)) w671 [iAc dInt (.slice none 0 0) [] [] [], iAc dStr (.slice none 0 0) [] [] [], iOwn b9 43 [.slice A13 l0.length cap14, .slice none 0 0, .slice none 0 0, .int .i64 (-1), .bool false] [], iAc dStr (.slice A13 l0.length cap14) (List.set l0 (Int.toNat torn) ((List.take (Int.toNat c) ((x.now torn).getD [])) ++ (List.drop (Int.toNat c) (ix x.Lasts torn)))) bs15 [], iData (dSlice dInt) [.slice A1 kept.length cap1] kept, iObF (obRk r) x F, iOwnF r 43 [.slice A_Lasts x.Lasts.length k_Lasts, .slice A_At x.At.length k_At, .slice A_Fresh x.Fresh.length k_Fresh, .int .i64 x.Left, .bool x.Off], iAcF dStr (.slice A_Lasts x.Lasts.length k_Lasts) x.Lasts, iAcF dInt (.slice A_At x.At.length k_At) x.At, iAcF dStr (.slice A_Fresh x.Fresh.length k_Fresh) x.Fresh] := hs672
              have hs673 : Sep [] w0 (fun b => b ∈ F ∨ (D b ∧ b < w0.heap.size)) w671 [iAc dInt (.slice none 0 0) [] [] [], iAc dStr (.slice none 0 0) [] [] [], iOwn b9 43 [.slice A13 l0.length cap14, .slice none 0 0, .slice none 0 0, .int .i64 (-1), .bool false] [], iAc dStr (.slice A13 l0.length cap14) (List.set l0 (Int.toNat torn) ((List.take (Int.toNat c) ((x.now torn).getD [])) ++ (List.drop (Int.toNat c) (ix x.Lasts torn)))) bs15 [], iData (dSlice dInt) [.slice A1 kept.length cap1] kept, iObF (obRk r) x F, iOwnF r 43 [.slice A_Lasts x.Lasts.length k_Lasts, .slice A_At x.At.length k_At, .slice A_Fresh x.Fresh.length k_Fresh, .int .i64 x.Left, .bool x.Off], iAcF dStr (.slice A_Lasts x.Lasts.length k_Lasts) x.Lasts, iAcF dInt (.slice A_At x.At.length k_At) x.At, iAcF dStr (.slice A_Fresh x.Fresh.length k_Fresh) x.Fresh] := by exact hs672
              exact WL_nil ⟨rfl, undef, rfl, hs673, v648, v649, v650, v651, v652, v653, v654, v655, v656, v657, v658, v659, v660, v661, v662, v663, v664, v665, v666, trivial⟩
          ·
            rintro dN vL g674 w675 ha677 ⟨hs676, v680, v681, v682, v683, v684, v685, v686, v687, v688, v689, v690, v691, v692, v693, v694, v695, v696, v697, v698, _⟩ hg678 hk679
            rw [ha677 19 rfl] at hs676
            have hs699 : Sep [] w0 (fun b => b ∈ F ∨ (D b ∧ b < w0.heap.size)) w675 [iAc dInt (.slice none 0 0) [] [] [], iAc dStr (.slice none 0 0) [] [] [], iOwn b9 43 [.slice A13 l0.length cap14, .slice none 0 0, .slice none 0 0, .int .i64 (-1), .bool false] [], iAc dStr (.slice A13 l0.length cap14) (List.set l0 (Int.toNat torn) ((List.take (Int.toNat c) ((x.now torn).getD [])) ++ (List.drop (Int.toNat c) (ix x.Lasts torn)))) bs15 [], iData (dSlice dInt) [.slice A1 kept.length cap1] kept, iObF (obRk r) x F, iOwnF r 43 [.slice A_Lasts x.Lasts.length k_Lasts, .slice A_At x.At.length k_At, .slice A_Fresh x.Fresh.length k_Fresh, .int .i64 x.Left, .bool x.Off], iAcF dStr (.slice A_Lasts x.Lasts.length k_Lasts) x.Lasts, iAcF dInt (.slice A_At x.At.length k_At) x.At, iAcF dStr (.slice A_Fresh x.Fresh.length k_Fresh) x.Fresh] := hs676
            refine ⟨[(0, .pointer (some ⟨r, 0, none⟩)), (3, .slice A1 kept.length cap1), (9, .pointer (some ⟨b9, 0, none⟩))], ⟨(hk679 0 rfl), (hk679 3 rfl), (hk679 9 rfl), trivial⟩, fun g700 => ?_⟩
            exact ⟨List.set l0 (Int.toNat torn) ((List.take (Int.toNat c) ((x.now torn).getD [])) ++ (List.drop (Int.toNat c) (ix x.Lasts torn))), (by subst e0; first | exact rtorn_some ec ‹_› | exact rtorn_none ‹_›), hs699, ⟨rfl, rfl, rfl, trivial⟩⟩
        ·
          have p701 := h37
          try simp only [lrn] at p701
          refine W_skip ?_
          exact ⟨l0, (by subst e0; first | exact rtorn_some ec ‹_› | exact rtorn_none ‹_›), hs32, ⟨rfl, rfl, rfl, trivial⟩⟩
      ·
        rintro f702 w36 ⟨l1, q705, hs703, hl704⟩
        refine W_live hl704 ?_
        intro g706
        refine W_seq ?_
        refine W_seq ?_
        refine W_region ?_
        refine S_assign rfl ?_
        refine WL_nil ?_
        refine W_block ?_
        refine W_loopE (fun m f w => ∃ (i : Int) (l2 : List Str), m = ((kept.length : Int) - i).toNat ∧ (0 ≤ i) ∧ (i ≤ kept.length) ∧ (l2 = (kept.take i.toNat).foldl (rkeep x) (x.torn torn cut)) ∧ Sep [] w0 (fun b => b ∈ F ∨ (D b ∧ b < w0.heap.size)) w [iAc dInt (.slice none 0 0) [] [] [], iAc dStr (.slice none 0 0) [] [] [], iOwn b9 43 [.slice A13 l0.length cap14, .slice none 0 0, .slice none 0 0, .int .i64 (-1), .bool false] [], iAc dStr (.slice A13 l0.length cap14) l2 bs15 [], iData (dSlice dInt) [.slice A1 kept.length cap1] kept, iObF (obRk r) x F, iOwnF r 43 [.slice A_Lasts x.Lasts.length k_Lasts, .slice A_At x.At.length k_At, .slice A_Fresh x.Fresh.length k_Fresh, .int .i64 x.Left, .bool x.Off], iAcF dStr (.slice A_Lasts x.Lasts.length k_Lasts) x.Lasts, iAcF dInt (.slice A_At x.At.length k_At) x.At, iAcF dStr (.slice A_Fresh x.Fresh.length k_Fresh) x.Fresh] ∧ Live f [(0, .pointer (some ⟨r, 0, none⟩)), (3, .slice A1 kept.length cap1), (9, .pointer (some ⟨b9, 0, none⟩)), (12, .int .i64 i)]) ?_ ?_
        · exact ⟨_, 0, _, rfl, (by omega), (by omega), (by rw [q705]; rfl), hs703, ⟨rfl, rfl, rfl, rfl, trivial⟩⟩
        ·
          rintro _ f709 w707 ⟨i, l2, rfl, q712, q713, q714, hs710, hl711⟩
          refine W_live hl711 ?_
          intro g715
          refine W_seq ?_
          refine W_seq ?_
          refine W_region ?_
          refine S_move rfl ?_
          refine S_move rfl ?_
          refine S_len Try.runUnderlying37 rfl rfl ?_
          refine S_lss rfl rfl rfl ?_
          refine WL_nil ?_
          refine W_cond rfl (fun h716 => ?_) (fun h716 => ?_)
          ·
            have p717 := of_decide_eq_true h716
            refine W_skip ?_
            refine W_seq ?_
            refine W_block ?_
            refine W_seq ?_
            refine W_region ?_
            refine S_move rfl ?_
            refine S_move rfl ?_
            refine S_move rfl ?_
            refine Z_index (hs710.at 4 rfl) Try.runUnderlying37 Try.sizeOf3 rfl rfl rfl (show (0 : Int) ≤ i from by omega) (show i < ((kept.length : Nat) : Int) from by omega) rfl ?_
            have o721 := cell_ix (q := (Int.toNat i) * 1) (sz := 1) (o := 0) (hs710.at 4 rfl) (Sub.self _) rfl (Nat.add_zero _).symm (show (0 : Int) ≤ i from by omega) (show i < ((kept.length : Nat) : Int) from by omega)
            obtain ⟨c718, hc719, hr720⟩ := o721
            obtain ⟨rfl, r722⟩ := hr720
            have ⟨r723, r724⟩ := r722
            refine Z_load Try.isAgg3 rfl hc719 rfl ?_
            refine S_callQ Try.call35 rfl (rnow_ok ((hs710.at 5 rfl)).2 ok (ix kept i)) rfl ?_
            refine S_move rfl ?_
            refine S_extract rfl rfl rfl ?_
            refine S_extract rfl rfl rfl ?_
            refine S_assign rfl ?_
            refine S_assign rfl ?_
            refine WL_nil ?_
            refine W_seq ?_
            refine W_live (L := [(0, .pointer (some ⟨r, 0, none⟩)), (3, .slice A1 kept.length cap1), (9, .pointer (some ⟨b9, 0, none⟩)), (12, .int .i64 i), (13, sv ((x.now (ix kept i)).getD [])), (14, .bool (Option.isSome (x.now (ix kept i))))]) ⟨rfl, rfl, rfl, rfl, rfl, rfl, trivial⟩ ?_
            intro g725
            refine W_region ?_
            refine S_move rfl ?_
            refine WL_nil ?_
            refine W_cond rfl (fun h726 => ?_) (fun h726 => ?_)
            ·
              have p727 := h726
              try simp only [lrn] at p727
              have hin := now_in ok ‹(x.now (ix kept i)).isSome = true›
              have hl1 := nowD_len ok ‹(x.now (ix kept i)).isSome = true›
              refine W_live (L := [(0, .pointer (some ⟨r, 0, none⟩)), (3, .slice A1 kept.length cap1), (9, .pointer (some ⟨b9, 0, none⟩)), (12, .int .i64 i), (13, sv ((x.now (ix kept i)).getD []))]) ⟨rfl, rfl, rfl, rfl, rfl, trivial⟩ ?_
              intro g728
              refine W_region_J (fun dN vL w => Sep [] w0 (fun b => b ∈ F ∨ (D b ∧ b < w0.heap.size)) w [iAc dInt (.slice none 0 0) [] [] [], iAc dStr (.slice none 0 0) [] [] [], iOwn b9 43 [.slice A13 l0.length cap14, .slice none 0 0, .slice none 0 0, .int .i64 (-1), .bool false] [], (bif dN 10 then (iAc dStr (.slice A13 l0.length cap14) (List.set l2 (Int.toNat (ix kept i)) ((x.now (ix kept i)).getD [])) bs15 []) else (iAc dStr (.slice A13 l0.length cap14) l2 bs15 [])), iData (dSlice dInt) [.slice A1 kept.length cap1] kept, iObF (obRk r) x F, iOwnF r 43 [.slice A_Lasts x.Lasts.length k_Lasts, .slice A_At x.At.length k_At, .slice A_Fresh x.Fresh.length k_Fresh, .int .i64 x.Left, .bool x.Off], iAcF dStr (.slice A_Lasts x.Lasts.length k_Lasts) x.Lasts, iAcF dInt (.slice A_At x.At.length k_At) x.At, iAcF dStr (.slice A_Fresh x.Fresh.length k_Fresh) x.Fresh] ∧ (dN 0 = true → vL 0 = .pointer (some ⟨b9, 0, none⟩)) ∧ (dN 1 = true → vL 1 = .pointer (some ⟨b9, 0, none⟩)) ∧ (dN 2 = true → vL 2 = .pointer (some ⟨b9, 0, none⟩)) ∧ (dN 3 = true → vL 3 = .slice A13 l0.length cap14) ∧ (dN 4 = true → vL 4 = .slice A1 kept.length cap1) ∧ (dN 5 = true → vL 5 = .int .i64 i) ∧ (dN 6 = true → vL 6 = .pointer (some (eA A1 ((Int.toNat i) * 1)))) ∧ (dN 7 = true → vL 7 = .int .i64 (ix kept i)) ∧ (dN 8 = true → vL 8 = sv ((x.now (ix kept i)).getD [])) ∧ (dN 9 = true → vL 9 = .pointer (some (eA A13 ((Int.toNat (ix kept i)) * 1)))) ∧ True) [69, 70, 71, 72, 73, 74, 75, 76, 77, 78] rfl (by decide +kernel) _ rfl ?_ ?_ ?_
              · exact fun V => ⟨hs710, (fun h => by cases h), (fun h => by cases h), (fun h => by cases h), (fun h => by cases h), (fun h => by cases h), (fun h => by cases h), (fun h => by cases h), (fun h => by cases h), (fun h => by cases h), (fun h => by cases h), trivial⟩
              · refine (.cons ?_ (.cons ?_ (.cons ?_ (.cons ?_ (.cons ?_ (.cons ?_ (.cons ?_ (.cons ?_ (.cons ?_ (.cons ?_ (.cons ?_ .nil)))))))))))
                ·
                  rintro dN vL g739 w740 ⟨hs741, v747, v748, v749, v750, v751, v752, v753, v754, v755, v756, _⟩ hD742 hd743 hu744 hg745 hk746
                  have e757 : dN 10 = false := hu744 10 (by decide +kernel)
                  rw [e757] at hs741
                  have hs758 : Sep [] w0 (fun b => b ∈ F ∨ (D b ∧ b < w0.heap.size)) w740 [iAc dInt (.slice none 0 0) [] [] [], iAc dStr (.slice none 0 0) [] [] [], iOwn b9 43 [.slice A13 l0.length cap14, .slice none 0 0, .slice none 0 0, .int .i64 (-1), .bool false] [], iAc dStr (.slice A13 l0.length cap14) l2 bs15 [], iData (dSlice dInt) [.slice A1 kept.length cap1] kept, iObF (obRk r) x F, iOwnF r 43 [.slice A_Lasts x.Lasts.length k_Lasts, .slice A_At x.At.length k_At, .slice A_Fresh x.Fresh.length k_Fresh, .int .i64 x.Left, .bool x.Off], iAcF dStr (.slice A_Lasts x.Lasts.length k_Lasts) x.Lasts, iAcF dInt (.slice A_At x.At.length k_At) x.At, iAcF dStr (.slice A_Fresh x.Fresh.length k_Fresh) x.Fresh] := hs741
                  refine WL_at (L := [(9, .pointer (some ⟨b9, 0, none⟩))]) ⟨(hk746 9 (by decide +kernel)), trivial⟩ ?_
                  refine S_move rfl ?_
                  have hs759 : Sep [] w0 (fun b => b ∈ F ∨ (D b ∧ b < w0.heap.size)) w740 [iAc dInt (.slice none 0 0) [] [] [], iAc dStr (.slice none 0 0) [] [] [], iOwn b9 43 [.slice A13 l0.length cap14, .slice none 0 0, .slice none 0 0, .int .i64 (-1), .bool false] [], (bif dN 10 then (iAc dStr (.slice A13 l0.length cap14) (List.set l2 (Int.toNat (ix kept i)) ((x.now (ix kept i)).getD [])) bs15 []) else (iAc dStr (.slice A13 l0.length cap14) l2 bs15 [])), iData (dSlice dInt) [.slice A1 kept.length cap1] kept, iObF (obRk r) x F, iOwnF r 43 [.slice A_Lasts x.Lasts.length k_Lasts, .slice A_At x.At.length k_At, .slice A_Fresh x.Fresh.length k_Fresh, .int .i64 x.Left, .bool x.Off], iAcF dStr (.slice A_Lasts x.Lasts.length k_Lasts) x.Lasts, iAcF dInt (.slice A_At x.At.length k_At) x.At, iAcF dStr (.slice A_Fresh x.Fresh.length k_Fresh) x.Fresh] := by rw [e757]; exact hs758
                  exact WL_nil ⟨rfl, _, rfl, hs759, (fun _ => rfl), v748, v749, v750, v751, v752, v753, v754, v755, v756, trivial⟩
                ·
                  rintro dN vL g760 w761 ⟨hs762, v768, v769, v770, v771, v772, v773, v774, v775, v776, v777, _⟩ hD763 hd764 hu765 hg766 hk767
                  have e778 : dN 0 = true := hd764 0 (by decide +kernel)
                  have e779 : dN 10 = false := hu765 10 (by decide +kernel)
                  rw [e779] at hs762
                  have hs780 : Sep [] w0 (fun b => b ∈ F ∨ (D b ∧ b < w0.heap.size)) w761 [iAc dInt (.slice none 0 0) [] [] [], iAc dStr (.slice none 0 0) [] [] [], iOwn b9 43 [.slice A13 l0.length cap14, .slice none 0 0, .slice none 0 0, .int .i64 (-1), .bool false] [], iAc dStr (.slice A13 l0.length cap14) l2 bs15 [], iData (dSlice dInt) [.slice A1 kept.length cap1] kept, iObF (obRk r) x F, iOwnF r 43 [.slice A_Lasts x.Lasts.length k_Lasts, .slice A_At x.At.length k_At, .slice A_Fresh x.Fresh.length k_Fresh, .int .i64 x.Left, .bool x.Off], iAcF dStr (.slice A_Lasts x.Lasts.length k_Lasts) x.Lasts, iAcF dInt (.slice A_At x.At.length k_At) x.At, iAcF dStr (.slice A_Fresh x.Fresh.length k_Fresh) x.Fresh] := hs762
                  refine WL_at (L := [(69, .pointer (some ⟨b9, 0, none⟩))]) ⟨((hg766 0 69 e778 rfl).trans (v768 e778)), trivial⟩ ?_
                  refine S_nilCheck rfl rfl ?_
                  have hs781 : Sep [] w0 (fun b => b ∈ F ∨ (D b ∧ b < w0.heap.size)) w761 [iAc dInt (.slice none 0 0) [] [] [], iAc dStr (.slice none 0 0) [] [] [], iOwn b9 43 [.slice A13 l0.length cap14, .slice none 0 0, .slice none 0 0, .int .i64 (-1), .bool false] [], (bif dN 10 then (iAc dStr (.slice A13 l0.length cap14) (List.set l2 (Int.toNat (ix kept i)) ((x.now (ix kept i)).getD [])) bs15 []) else (iAc dStr (.slice A13 l0.length cap14) l2 bs15 [])), iData (dSlice dInt) [.slice A1 kept.length cap1] kept, iObF (obRk r) x F, iOwnF r 43 [.slice A_Lasts x.Lasts.length k_Lasts, .slice A_At x.At.length k_At, .slice A_Fresh x.Fresh.length k_Fresh, .int .i64 x.Left, .bool x.Off], iAcF dStr (.slice A_Lasts x.Lasts.length k_Lasts) x.Lasts, iAcF dInt (.slice A_At x.At.length k_At) x.At, iAcF dStr (.slice A_Fresh x.Fresh.length k_Fresh) x.Fresh] := by rw [e779]; exact hs780
                  exact WL_nil ⟨rfl, _, rfl, hs781, v768, (fun _ => rfl), v770, v771, v772, v773, v774, v775, v776, v777, trivial⟩
                ·
                  rintro dN vL g782 w783 ⟨hs784, v790, v791, v792, v793, v794, v795, v796, v797, v798, v799, _⟩ hD785 hd786 hu787 hg788 hk789
                  have e800 : dN 1 = true := hd786 1 (by decide +kernel)
                  have e801 : dN 10 = false := hu787 10 (by decide +kernel)
                  rw [e801] at hs784
                  have hs802 : Sep [] w0 (fun b => b ∈ F ∨ (D b ∧ b < w0.heap.size)) w783 [iAc dInt (.slice none 0 0) [] [] [], iAc dStr (.slice none 0 0) [] [] [], iOwn b9 43 [.slice A13 l0.length cap14, .slice none 0 0, .slice none 0 0, .int .i64 (-1), .bool false] [], iAc dStr (.slice A13 l0.length cap14) l2 bs15 [], iData (dSlice dInt) [.slice A1 kept.length cap1] kept, iObF (obRk r) x F, iOwnF r 43 [.slice A_Lasts x.Lasts.length k_Lasts, .slice A_At x.At.length k_At, .slice A_Fresh x.Fresh.length k_Fresh, .int .i64 x.Left, .bool x.Off], iAcF dStr (.slice A_Lasts x.Lasts.length k_Lasts) x.Lasts, iAcF dInt (.slice A_At x.At.length k_At) x.At, iAcF dStr (.slice A_Fresh x.Fresh.length k_Fresh) x.Fresh] := hs784
                  refine WL_at (L := [(70, .pointer (some ⟨b9, 0, none⟩))]) ⟨((hg788 1 70 e800 rfl).trans (v791 e800)), trivial⟩ ?_
                  refine S_fieldAddr Try.runUnderlying43 rfl Try.sizeOf41 rfl rfl ?_
                  have hs803 : Sep [] w0 (fun b => b ∈ F ∨ (D b ∧ b < w0.heap.size)) w783 [iAc dInt (.slice none 0 0) [] [] [], iAc dStr (.slice none 0 0) [] [] [], iOwn b9 43 [.slice A13 l0.length cap14, .slice none 0 0, .slice none 0 0, .int .i64 (-1), .bool false] [], (bif dN 10 then (iAc dStr (.slice A13 l0.length cap14) (List.set l2 (Int.toNat (ix kept i)) ((x.now (ix kept i)).getD [])) bs15 []) else (iAc dStr (.slice A13 l0.length cap14) l2 bs15 [])), iData (dSlice dInt) [.slice A1 kept.length cap1] kept, iObF (obRk r) x F, iOwnF r 43 [.slice A_Lasts x.Lasts.length k_Lasts, .slice A_At x.At.length k_At, .slice A_Fresh x.Fresh.length k_Fresh, .int .i64 x.Left, .bool x.Off], iAcF dStr (.slice A_Lasts x.Lasts.length k_Lasts) x.Lasts, iAcF dInt (.slice A_At x.At.length k_At) x.At, iAcF dStr (.slice A_Fresh x.Fresh.length k_Fresh) x.Fresh] := by rw [e801]; exact hs802
                  exact WL_nil ⟨rfl, _, rfl, hs803, v790, v791, (fun _ => rfl), v793, v794, v795, v796, v797, v798, v799, trivial⟩
                ·
                  rintro dN vL g804 w805 ⟨hs806, v812, v813, v814, v815, v816, v817, v818, v819, v820, v821, _⟩ hD807 hd808 hu809 hg810 hk811
                  have e822 : dN 2 = true := hd808 2 (by decide +kernel)
                  have e823 : dN 10 = false := hu809 10 (by decide +kernel)
                  rw [e823] at hs806
                  have hs824 : Sep [] w0 (fun b => b ∈ F ∨ (D b ∧ b < w0.heap.size)) w805 [iAc dInt (.slice none 0 0) [] [] [], iAc dStr (.slice none 0 0) [] [] [], iOwn b9 43 [.slice A13 l0.length cap14, .slice none 0 0, .slice none 0 0, .int .i64 (-1), .bool false] [], iAc dStr (.slice A13 l0.length cap14) l2 bs15 [], iData (dSlice dInt) [.slice A1 kept.length cap1] kept, iObF (obRk r) x F, iOwnF r 43 [.slice A_Lasts x.Lasts.length k_Lasts, .slice A_At x.At.length k_At, .slice A_Fresh x.Fresh.length k_Fresh, .int .i64 x.Left, .bool x.Off], iAcF dStr (.slice A_Lasts x.Lasts.length k_Lasts) x.Lasts, iAcF dInt (.slice A_At x.At.length k_At) x.At, iAcF dStr (.slice A_Fresh x.Fresh.length k_Fresh) x.Fresh] := hs806
                  refine WL_at (L := [(71, .pointer (some ⟨b9, 0, none⟩))]) ⟨((hg810 2 71 e822 rfl).trans (v814 e822)), trivial⟩ ?_
                  refine S_load1 Try.isAgg41 rfl (Own.at (hs824.at 2 rfl) rfl) rfl ?_
                  have hs825 : Sep [] w0 (fun b => b ∈ F ∨ (D b ∧ b < w0.heap.size)) w805 [iAc dInt (.slice none 0 0) [] [] [], iAc dStr (.slice none 0 0) [] [] [], iOwn b9 43 [.slice A13 l0.length cap14, .slice none 0 0, .slice none 0 0, .int .i64 (-1), .bool false] [], (bif dN 10 then (iAc dStr (.slice A13 l0.length cap14) (List.set l2 (Int.toNat (ix kept i)) ((x.now (ix kept i)).getD [])) bs15 []) else (iAc dStr (.slice A13 l0.length cap14) l2 bs15 [])), iData (dSlice dInt) [.slice A1 kept.length cap1] kept, iObF (obRk r) x F, iOwnF r 43 [.slice A_Lasts x.Lasts.length k_Lasts, .slice A_At x.At.length k_At, .slice A_Fresh x.Fresh.length k_Fresh, .int .i64 x.Left, .bool x.Off], iAcF dStr (.slice A_Lasts x.Lasts.length k_Lasts) x.Lasts, iAcF dInt (.slice A_At x.At.length k_At) x.At, iAcF dStr (.slice A_Fresh x.Fresh.length k_Fresh) x.Fresh] := by rw [e823]; exact hs824
                  exact WL_nil ⟨rfl, _, rfl, hs825, v812, v813, v814, (fun _ => rfl), v816, v817, v818, v819, v820, v821, trivial⟩
                ·
                  rintro dN vL g826 w827 ⟨hs828, v834, v835, v836, v837, v838, v839, v840, v841, v842, v843, _⟩ hD829 hd830 hu831 hg832 hk833
                  have e844 : dN 10 = false := hu831 10 (by decide +kernel)
                  rw [e844] at hs828
                  have hs845 : Sep [] w0 (fun b => b ∈ F ∨ (D b ∧ b < w0.heap.size)) w827 [iAc dInt (.slice none 0 0) [] [] [], iAc dStr (.slice none 0 0) [] [] [], iOwn b9 43 [.slice A13 l0.length cap14, .slice none 0 0, .slice none 0 0, .int .i64 (-1), .bool false] [], iAc dStr (.slice A13 l0.length cap14) l2 bs15 [], iData (dSlice dInt) [.slice A1 kept.length cap1] kept, iObF (obRk r) x F, iOwnF r 43 [.slice A_Lasts x.Lasts.length k_Lasts, .slice A_At x.At.length k_At, .slice A_Fresh x.Fresh.length k_Fresh, .int .i64 x.Left, .bool x.Off], iAcF dStr (.slice A_Lasts x.Lasts.length k_Lasts) x.Lasts, iAcF dInt (.slice A_At x.At.length k_At) x.At, iAcF dStr (.slice A_Fresh x.Fresh.length k_Fresh) x.Fresh] := hs828
                  refine WL_at (L := [(3, .slice A1 kept.length cap1)]) ⟨(hk833 3 (by decide +kernel)), trivial⟩ ?_
                  refine S_move rfl ?_
                  have hs846 : Sep [] w0 (fun b => b ∈ F ∨ (D b ∧ b < w0.heap.size)) w827 [iAc dInt (.slice none 0 0) [] [] [], iAc dStr (.slice none 0 0) [] [] [], iOwn b9 43 [.slice A13 l0.length cap14, .slice none 0 0, .slice none 0 0, .int .i64 (-1), .bool false] [], (bif dN 10 then (iAc dStr (.slice A13 l0.length cap14) (List.set l2 (Int.toNat (ix kept i)) ((x.now (ix kept i)).getD [])) bs15 []) else (iAc dStr (.slice A13 l0.length cap14) l2 bs15 [])), iData (dSlice dInt) [.slice A1 kept.length cap1] kept, iObF (obRk r) x F, iOwnF r 43 [.slice A_Lasts x.Lasts.length k_Lasts, .slice A_At x.At.length k_At, .slice A_Fresh x.Fresh.length k_Fresh, .int .i64 x.Left, .bool x.Off], iAcF dStr (.slice A_Lasts x.Lasts.length k_Lasts) x.Lasts, iAcF dInt (.slice A_At x.At.length k_At) x.At, iAcF dStr (.slice A_Fresh x.Fresh.length k_Fresh) x.Fresh] := by rw [e844]; exact hs845
                  exact WL_nil ⟨rfl, _, rfl, hs846, v834, v835, v836, v837, (fun _ => rfl), v839, v840, v841, v842, v843, trivial⟩
                ·
                  rintro dN vL g847 w848 ⟨hs849, v855, v856, v857, v858, v859, v860, v861, v862, v863, v864, _⟩ hD850 hd851 hu852 hg853 hk854
                  have e865 : dN 10 = false := hu852 10 (by decide +kernel)
                  rw [e865] at hs849
                  have hs866 : Sep [] w0 (fun b => b ∈ F ∨ (D b ∧ b < w0.heap.size)) w848 [iAc dInt (.slice none 0 0) [] [] [], iAc dStr (.slice none 0 0) [] [] [], iOwn b9 43 [.slice A13 l0.length cap14, .slice none 0 0, .slice none 0 0, .int .i64 (-1), .bool false] [], iAc dStr (.slice A13 l0.length cap14) l2 bs15 [], iData (dSlice dInt) [.slice A1 kept.length cap1] kept, iObF (obRk r) x F, iOwnF r 43 [.slice A_Lasts x.Lasts.length k_Lasts, .slice A_At x.At.length k_At, .slice A_Fresh x.Fresh.length k_Fresh, .int .i64 x.Left, .bool x.Off], iAcF dStr (.slice A_Lasts x.Lasts.length k_Lasts) x.Lasts, iAcF dInt (.slice A_At x.At.length k_At) x.At, iAcF dStr (.slice A_Fresh x.Fresh.length k_Fresh) x.Fresh] := hs849
                  refine WL_at (L := [(12, .int .i64 i)]) ⟨(hk854 12 (by decide +kernel)), trivial⟩ ?_
                  refine S_move rfl ?_
                  have hs867 : Sep [] w0 (fun b => b ∈ F ∨ (D b ∧ b < w0.heap.size)) w848 [iAc dInt (.slice none 0 0) [] [] [], iAc dStr (.slice none 0 0) [] [] [], iOwn b9 43 [.slice A13 l0.length cap14, .slice none 0 0, .slice none 0 0, .int .i64 (-1), .bool false] [], (bif dN 10 then (iAc dStr (.slice A13 l0.length cap14) (List.set l2 (Int.toNat (ix kept i)) ((x.now (ix kept i)).getD [])) bs15 []) else (iAc dStr (.slice A13 l0.length cap14) l2 bs15 [])), iData (dSlice dInt) [.slice A1 kept.length cap1] kept, iObF (obRk r) x F, iOwnF r 43 [.slice A_Lasts x.Lasts.length k_Lasts, .slice A_At x.At.length k_At, .slice A_Fresh x.Fresh.length k_Fresh, .int .i64 x.Left, .bool x.Off], iAcF dStr (.slice A_Lasts x.Lasts.length k_Lasts) x.Lasts, iAcF dInt (.slice A_At x.At.length k_At) x.At, iAcF dStr (.slice A_Fresh x.Fresh.length k_Fresh) x.Fresh] := by rw [e865]; exact hs866
                  exact WL_nil ⟨rfl, _, rfl, hs867, v855, v856, v857, v858, v859, (fun _ => rfl), v861, v862, v863, v864, trivial⟩
                ·
                  rintro dN vL g868 w869 ⟨hs870, v876, v877, v878, v879, v880, v881, v882, v883, v884, v885, _⟩ hD871 hd872 hu873 hg874 hk875
                  have e886 : dN 4 = true := hd872 4 (by decide +kernel)
                  have e887 : dN 5 = true := hd872 5 (by decide +kernel)
                  have e888 : dN 10 = false := hu873 10 (by decide +kernel)
                  rw [e888] at hs870
                  have hs889 : Sep [] w0 (fun b => b ∈ F ∨ (D b ∧ b < w0.heap.size)) w869 [iAc dInt (.slice none 0 0) [] [] [], iAc dStr (.slice none 0 0) [] [] [], iOwn b9 43 [.slice A13 l0.length cap14, .slice none 0 0, .slice none 0 0, .int .i64 (-1), .bool false] [], iAc dStr (.slice A13 l0.length cap14) l2 bs15 [], iData (dSlice dInt) [.slice A1 kept.length cap1] kept, iObF (obRk r) x F, iOwnF r 43 [.slice A_Lasts x.Lasts.length k_Lasts, .slice A_At x.At.length k_At, .slice A_Fresh x.Fresh.length k_Fresh, .int .i64 x.Left, .bool x.Off], iAcF dStr (.slice A_Lasts x.Lasts.length k_Lasts) x.Lasts, iAcF dInt (.slice A_At x.At.length k_At) x.At, iAcF dStr (.slice A_Fresh x.Fresh.length k_Fresh) x.Fresh] := hs870
                  refine WL_at (L := [(73, .slice A1 kept.length cap1), (74, .int .i64 i)]) ⟨((hg874 4 73 e886 rfl).trans (v880 e886)), ((hg874 5 74 e887 rfl).trans (v881 e887)), trivial⟩ ?_
                  refine Z_index (hs889.at 4 rfl) Try.runUnderlying37 Try.sizeOf3 rfl rfl rfl (show (0 : Int) ≤ i from by omega) (show i < ((kept.length : Nat) : Int) from by omega) rfl ?_
                  have hs890 : Sep [] w0 (fun b => b ∈ F ∨ (D b ∧ b < w0.heap.size)) w869 [iAc dInt (.slice none 0 0) [] [] [], iAc dStr (.slice none 0 0) [] [] [], iOwn b9 43 [.slice A13 l0.length cap14, .slice none 0 0, .slice none 0 0, .int .i64 (-1), .bool false] [], (bif dN 10 then (iAc dStr (.slice A13 l0.length cap14) (List.set l2 (Int.toNat (ix kept i)) ((x.now (ix kept i)).getD [])) bs15 []) else (iAc dStr (.slice A13 l0.length cap14) l2 bs15 [])), iData (dSlice dInt) [.slice A1 kept.length cap1] kept, iObF (obRk r) x F, iOwnF r 43 [.slice A_Lasts x.Lasts.length k_Lasts, .slice A_At x.At.length k_At, .slice A_Fresh x.Fresh.length k_Fresh, .int .i64 x.Left, .bool x.Off], iAcF dStr (.slice A_Lasts x.Lasts.length k_Lasts) x.Lasts, iAcF dInt (.slice A_At x.At.length k_At) x.At, iAcF dStr (.slice A_Fresh x.Fresh.length k_Fresh) x.Fresh] := by rw [e888]; exact hs889
                  exact WL_nil ⟨rfl, _, rfl, hs890, v876, v877, v878, v879, v880, v881, (fun _ => rfl), v883, v884, v885, trivial⟩
                ·
                  rintro dN vL g891 w892 ⟨hs893, v899, v900, v901, v902, v903, v904, v905, v906, v907, v908, _⟩ hD894 hd895 hu896 hg897 hk898
                  have e909 : dN 6 = true := hd895 6 (by decide +kernel)
                  have e910 : dN 10 = false := hu896 10 (by decide +kernel)
                  rw [e910] at hs893
                  have hs911 : Sep [] w0 (fun b => b ∈ F ∨ (D b ∧ b < w0.heap.size)) w892 [iAc dInt (.slice none 0 0) [] [] [], iAc dStr (.slice none 0 0) [] [] [], iOwn b9 43 [.slice A13 l0.length cap14, .slice none 0 0, .slice none 0 0, .int .i64 (-1), .bool false] [], iAc dStr (.slice A13 l0.length cap14) l2 bs15 [], iData (dSlice dInt) [.slice A1 kept.length cap1] kept, iObF (obRk r) x F, iOwnF r 43 [.slice A_Lasts x.Lasts.length k_Lasts, .slice A_At x.At.length k_At, .slice A_Fresh x.Fresh.length k_Fresh, .int .i64 x.Left, .bool x.Off], iAcF dStr (.slice A_Lasts x.Lasts.length k_Lasts) x.Lasts, iAcF dInt (.slice A_At x.At.length k_At) x.At, iAcF dStr (.slice A_Fresh x.Fresh.length k_Fresh) x.Fresh] := hs893
                  refine WL_at (L := [(75, .pointer (some (eA A1 ((Int.toNat i) * 1))))]) ⟨((hg897 6 75 e909 rfl).trans (v905 e909)), trivial⟩ ?_
                  have o915 := cell_ix (q := (Int.toNat i) * 1) (sz := 1) (o := 0) (hs911.at 4 rfl) (Sub.self _) rfl (Nat.add_zero _).symm (show (0 : Int) ≤ i from by omega) (show i < ((kept.length : Nat) : Int) from by omega)
                  obtain ⟨c912, hc913, hr914⟩ := o915
                  obtain ⟨rfl, r916⟩ := hr914
                  have ⟨r917, r918⟩ := r916
                  refine Z_load Try.isAgg3 rfl hc913 rfl ?_
                  have hs919 : Sep [] w0 (fun b => b ∈ F ∨ (D b ∧ b < w0.heap.size)) w892 [iAc dInt (.slice none 0 0) [] [] [], iAc dStr (.slice none 0 0) [] [] [], iOwn b9 43 [.slice A13 l0.length cap14, .slice none 0 0, .slice none 0 0, .int .i64 (-1), .bool false] [], (bif dN 10 then (iAc dStr (.slice A13 l0.length cap14) (List.set l2 (Int.toNat (ix kept i)) ((x.now (ix kept i)).getD [])) bs15 []) else (iAc dStr (.slice A13 l0.length cap14) l2 bs15 [])), iData (dSlice dInt) [.slice A1 kept.length cap1] kept, iObF (obRk r) x F, iOwnF r 43 [.slice A_Lasts x.Lasts.length k_Lasts, .slice A_At x.At.length k_At, .slice A_Fresh x.Fresh.length k_Fresh, .int .i64 x.Left, .bool x.Off], iAcF dStr (.slice A_Lasts x.Lasts.length k_Lasts) x.Lasts, iAcF dInt (.slice A_At x.At.length k_At) x.At, iAcF dStr (.slice A_Fresh x.Fresh.length k_Fresh) x.Fresh] := by rw [e910]; exact hs911
                  exact WL_nil ⟨rfl, _, rfl, hs919, v899, v900, v901, v902, v903, v904, v905, (fun _ => rfl), v907, v908, trivial⟩
                ·
                  rintro dN vL g920 w921 ⟨hs922, v928, v929, v930, v931, v932, v933, v934, v935, v936, v937, _⟩ hD923 hd924 hu925 hg926 hk927
                  have e938 : dN 10 = false := hu925 10 (by decide +kernel)
                  rw [e938] at hs922
                  have hs939 : Sep [] w0 (fun b => b ∈ F ∨ (D b ∧ b < w0.heap.size)) w921 [iAc dInt (.slice none 0 0) [] [] [], iAc dStr (.slice none 0 0) [] [] [], iOwn b9 43 [.slice A13 l0.length cap14, .slice none 0 0, .slice none 0 0, .int .i64 (-1), .bool false] [], iAc dStr (.slice A13 l0.length cap14) l2 bs15 [], iData (dSlice dInt) [.slice A1 kept.length cap1] kept, iObF (obRk r) x F, iOwnF r 43 [.slice A_Lasts x.Lasts.length k_Lasts, .slice A_At x.At.length k_At, .slice A_Fresh x.Fresh.length k_Fresh, .int .i64 x.Left, .bool x.Off], iAcF dStr (.slice A_Lasts x.Lasts.length k_Lasts) x.Lasts, iAcF dInt (.slice A_At x.At.length k_At) x.At, iAcF dStr (.slice A_Fresh x.Fresh.length k_Fresh) x.Fresh] := hs922
                  refine WL_at (L := [(13, sv ((x.now (ix kept i)).getD []))]) ⟨(hk927 13 (by decide +kernel)), trivial⟩ ?_
                  refine S_move rfl ?_
                  have hs940 : Sep [] w0 (fun b => b ∈ F ∨ (D b ∧ b < w0.heap.size)) w921 [iAc dInt (.slice none 0 0) [] [] [], iAc dStr (.slice none 0 0) [] [] [], iOwn b9 43 [.slice A13 l0.length cap14, .slice none 0 0, .slice none 0 0, .int .i64 (-1), .bool false] [], (bif dN 10 then (iAc dStr (.slice A13 l0.length cap14) (List.set l2 (Int.toNat (ix kept i)) ((x.now (ix kept i)).getD [])) bs15 []) else (iAc dStr (.slice A13 l0.length cap14) l2 bs15 [])), iData (dSlice dInt) [.slice A1 kept.length cap1] kept, iObF (obRk r) x F, iOwnF r 43 [.slice A_Lasts x.Lasts.length k_Lasts, .slice A_At x.At.length k_At, .slice A_Fresh x.Fresh.length k_Fresh, .int .i64 x.Left, .bool x.Off], iAcF dStr (.slice A_Lasts x.Lasts.length k_Lasts) x.Lasts, iAcF dInt (.slice A_At x.At.length k_At) x.At, iAcF dStr (.slice A_Fresh x.Fresh.length k_Fresh) x.Fresh] := by rw [e938]; exact hs939
                  exact WL_nil ⟨rfl, _, rfl, hs940, v928, v929, v930, v931, v932, v933, v934, v935, (fun _ => rfl), v937, trivial⟩
                ·
                  rintro dN vL g941 w942 ⟨hs943, v949, v950, v951, v952, v953, v954, v955, v956, v957, v958, _⟩ hD944 hd945 hu946 hg947 hk948
                  have e959 : dN 3 = true := hd945 3 (by decide +kernel)
                  have e960 : dN 7 = true := hd945 7 (by decide +kernel)
                  have e961 : dN 10 = false := hu946 10 (by decide +kernel)
                  rw [e961] at hs943
                  have hs962 : Sep [] w0 (fun b => b ∈ F ∨ (D b ∧ b < w0.heap.size)) w942 [iAc dInt (.slice none 0 0) [] [] [], iAc dStr (.slice none 0 0) [] [] [], iOwn b9 43 [.slice A13 l0.length cap14, .slice none 0 0, .slice none 0 0, .int .i64 (-1), .bool false] [], iAc dStr (.slice A13 l0.length cap14) l2 bs15 [], iData (dSlice dInt) [.slice A1 kept.length cap1] kept, iObF (obRk r) x F, iOwnF r 43 [.slice A_Lasts x.Lasts.length k_Lasts, .slice A_At x.At.length k_At, .slice A_Fresh x.Fresh.length k_Fresh, .int .i64 x.Left, .bool x.Off], iAcF dStr (.slice A_Lasts x.Lasts.length k_Lasts) x.Lasts, iAcF dInt (.slice A_At x.At.length k_At) x.At, iAcF dStr (.slice A_Fresh x.Fresh.length k_Fresh) x.Fresh] := hs943
                  refine WL_at (L := [(72, .slice A13 l0.length cap14), (76, .int .i64 (ix kept i))]) ⟨((hg947 3 72 e959 rfl).trans (v952 e959)), ((hg947 7 76 e960 rfl).trans (v956 e960)), trivial⟩ ?_
                  refine Z_indexAc (hs962.at 3 rfl) Try.runUnderlying41 Try.sizeOf9 rfl rfl (show (0 : Int) ≤ (ix kept i) from hin.1) (show (ix kept i) < ((l0.length : Nat) : Int) from by omega) rfl ?_
                  have hs963 : Sep [] w0 (fun b => b ∈ F ∨ (D b ∧ b < w0.heap.size)) w942 [iAc dInt (.slice none 0 0) [] [] [], iAc dStr (.slice none 0 0) [] [] [], iOwn b9 43 [.slice A13 l0.length cap14, .slice none 0 0, .slice none 0 0, .int .i64 (-1), .bool false] [], (bif dN 10 then (iAc dStr (.slice A13 l0.length cap14) (List.set l2 (Int.toNat (ix kept i)) ((x.now (ix kept i)).getD [])) bs15 []) else (iAc dStr (.slice A13 l0.length cap14) l2 bs15 [])), iData (dSlice dInt) [.slice A1 kept.length cap1] kept, iObF (obRk r) x F, iOwnF r 43 [.slice A_Lasts x.Lasts.length k_Lasts, .slice A_At x.At.length k_At, .slice A_Fresh x.Fresh.length k_Fresh, .int .i64 x.Left, .bool x.Off], iAcF dStr (.slice A_Lasts x.Lasts.length k_Lasts) x.Lasts, iAcF dInt (.slice A_At x.At.length k_At) x.At, iAcF dStr (.slice A_Fresh x.Fresh.length k_Fresh) x.Fresh] := by rw [e961]; exact hs962
                  exact WL_nil ⟨rfl, _, rfl, hs963, v949, v950, v951, v952, v953, v954, v955, v956, v957, (fun _ => rfl), trivial⟩
                ·
                  rintro dN vL g964 w965 ⟨hs966, v972, v973, v974, v975, v976, v977, v978, v979, v980, v981, _⟩ hD967 hd968 hu969 hg970 hk971
                  have e982 : dN 8 = true := hd968 8 (by decide +kernel)
                  have e983 : dN 9 = true := hd968 9 (by decide +kernel)
                  have e984 : dN 10 = false := hD967
                  rw [e984] at hs966
                  have hs985 : Sep [] w0 (fun b => b ∈ F ∨ (D b ∧ b < w0.heap.size)) w965 [iAc dInt (.slice none 0 0) [] [] [], iAc dStr (.slice none 0 0) [] [] [], iOwn b9 43 [.slice A13 l0.length cap14, .slice none 0 0, .slice none 0 0, .int .i64 (-1), .bool false] [], iAc dStr (.slice A13 l0.length cap14) l2 bs15 [], iData (dSlice dInt) [.slice A1 kept.length cap1] kept, iObF (obRk r) x F, iOwnF r 43 [.slice A_Lasts x.Lasts.length k_Lasts, .slice A_At x.At.length k_At, .slice A_Fresh x.Fresh.length k_Fresh, .int .i64 x.Left, .bool x.Off], iAcF dStr (.slice A_Lasts x.Lasts.length k_Lasts) x.Lasts, iAcF dInt (.slice A_At x.At.length k_At) x.At, iAcF dStr (.slice A_Fresh x.Fresh.length k_Fresh) x.Fresh] := hs966
                  refine WL_at (L := [(77, sv ((x.now (ix kept i)).getD [])), (78, .pointer (some (eA A13 ((Int.toNat (ix kept i)) * 1))))]) ⟨((hg970 8 77 e982 rfl).trans (v980 e982)), ((hg970 9 78 e983 rfl).trans (v981 e983)), trivial⟩ ?_
                  refine Z_storeEl (o := 0) (sz := 1) hs985 3 rfl Try.sizeOf9 rfl rfl (Nat.add_zero _).symm rfl rfl (show (0 : Int) ≤ (ix kept i) from hin.1) (show (ix kept i) < ((l0.length : Nat) : Int) from by omega) (fun c0 _ hc => st_str (by omega) c0 hc) rfl ?_
                  intro w986 hs987
                  have hs987 : Sep [] w0 (fun b => b ∈ F ∨ (D b ∧ b < w0.heap.size)) w986 [iAc dInt (.slice none 0 0) [] [] [], iAc dStr (.slice none 0 0) [] [] [], iOwn b9 43 [.slice A13 l0.length cap14, .slice none 0 0, .slice none 0 0, .int .i64 (-1), .bool false] [], iAc dStr (.slice A13 l0.length cap14) (List.set l2 (Int.toNat (ix kept i)) ((x.now (ix kept i)).getD [])) bs15 [], iData (dSlice dInt) [.slice A1 kept.length cap1] kept, iObF (obRk r) x F, iOwnF r 43 [.slice A_Lasts x.Lasts.length k_Lasts, .slice A_At x.At.length k_At, .slice A_Fresh x.Fresh.length k_Fresh, .int .i64 x.Left, .bool x.Off], iAcF dStr (.slice A_Lasts x.Lasts.length k_Lasts) x.Lasts, iAcF dInt (.slice A_At x.At.length k_At) x.At, iAcF dStr (.slice A_Fresh x.Fresh.length k_Fresh) x.Fresh] := hs987
                  have hs988 : Sep [] w0 (fun b => b ∈ F ∨ (D b ∧ b < w0.heap.size)) w986 [iAc dInt (.slice none 0 0) [] [] [], iAc dStr (.slice none 0 0) [] [] [], iOwn b9 43 [.slice A13 l0.length cap14, .slice none 0 0, .slice none 0 0, .int .i64 (-1), .bool false] [], iAc dStr (.slice A13 l0.length cap14) (List.set l2 (Int.toNat (ix kept i)) ((x.now (ix kept i)).getD [])) bs15 [], iData (dSlice dInt) [.slice A1 kept.length cap1] kept, iObF (obRk r) x F, iOwnF r 43 [.slice A_Lasts x.Lasts.length k_Lasts, .slice A_At x.At.length k_At, .slice A_Fresh x.Fresh.length k_Fresh, .int .i64 x.Left, .bool x.Off], iAcF dStr (.slice A_Lasts x.Lasts.length k_Lasts) x.Lasts, iAcF dInt (.slice A_At x.At.length k_At) x.At, iAcF dStr (.slice A_Fresh x.Fresh.length k_Fresh) x.Fresh] := by exact hs987
                  exact WL_nil ⟨rfl, undef, rfl, hs988, v972, v973, v974, v975, v976, v977, v978, v979, v980, v981, trivial⟩
              ·
                rintro dN vL g989 w990 ha992 ⟨hs991, v995, v996, v997, v998, v999, v1000, v1001, v1002, v1003, v1004, _⟩ hg993 hk994
                rw [ha992 10 rfl] at hs991
                have hs1005 : Sep [] w0 (fun b => b ∈ F ∨ (D b ∧ b < w0.heap.size)) w990 [iAc dInt (.slice none 0 0) [] [] [], iAc dStr (.slice none 0 0) [] [] [], iOwn b9 43 [.slice A13 l0.length cap14, .slice none 0 0, .slice none 0 0, .int .i64 (-1), .bool false] [], iAc dStr (.slice A13 l0.length cap14) (List.set l2 (Int.toNat (ix kept i)) ((x.now (ix kept i)).getD [])) bs15 [], iData (dSlice dInt) [.slice A1 kept.length cap1] kept, iObF (obRk r) x F, iOwnF r 43 [.slice A_Lasts x.Lasts.length k_Lasts, .slice A_At x.At.length k_At, .slice A_Fresh x.Fresh.length k_Fresh, .int .i64 x.Left, .bool x.Off], iAcF dStr (.slice A_Lasts x.Lasts.length k_Lasts) x.Lasts, iAcF dInt (.slice A_At x.At.length k_At) x.At, iAcF dStr (.slice A_Fresh x.Fresh.length k_Fresh) x.Fresh] := hs991
                refine ⟨[(0, .pointer (some ⟨r, 0, none⟩)), (3, .slice A1 kept.length cap1), (9, .pointer (some ⟨b9, 0, none⟩)), (12, .int .i64 i)], ⟨(hk994 0 rfl), (hk994 3 rfl), (hk994 9 rfl), (hk994 12 rfl), trivial⟩, fun g1006 => ?_⟩
                refine W_region ?_
                refine S_move rfl ?_
                refine S_add rfl rfl (by omega) rfl ?_
                refine S_assign rfl ?_
                refine WL_nil ?_
                exact ⟨_, (by omega), i + 1, List.set l2 (Int.toNat (ix kept i)) ((x.now (ix kept i)).getD []), rfl, (by omega), (by omega), (by first | exact rkeep_some q714 (by omega) (by omega) ‹_› | exact rkeep_none q714 (by omega) (by omega) ‹_›), hs1005, ⟨rfl, rfl, rfl, rfl, trivial⟩⟩
            ·
              have p1007 := h726
              try simp only [lrn] at p1007
              refine W_skip ?_
              refine W_region ?_
              refine S_move rfl ?_
              refine S_add rfl rfl (by omega) rfl ?_
              refine S_assign rfl ?_
              refine WL_nil ?_
              exact ⟨_, (by omega), i + 1, l2, rfl, (by omega), (by omega), (by first | exact rkeep_some q714 (by omega) (by omega) ‹_› | exact rkeep_none q714 (by omega) (by omega) ‹_›), hs710, ⟨rfl, rfl, rfl, rfl, trivial⟩⟩
          ·
            have p1008 := of_decide_eq_false h716
            refine W_exit ?_
            refine W_seq ?_
            refine W_region ?_
            refine S_move rfl ?_
            refine S_assign rfl ?_
            refine WL_nil ?_
            refine W_ret ?_
            show ∃ d F2, (Value.pointer (some ⟨b9, 0, none⟩)) = .pointer (some ⟨d, 0, none⟩) ∧ RkIs d w707 (x.crash torn cut kept) F2 ∧ Ext [] w0 w707 ∧ ∀ b ∈ F2, w0.heap.size ≤ b
            have ⟨hc, ht⟩ := (RkIs.close (hs710.pick [2, 3, 0, 1] rfl (by decide) rfl))
            have e : l2 = (x.crash torn cut kept).Lasts := by rw [q714, List.take_of_length_le (by omega)]; rfl
            subst e
            exact ⟨_, _, rfl, hc, ht.1, fun b hb => (ht.2 b hb).elim (fun h => by cases h) id⟩
end Go.Proofs.Ytdgcgifigkfeaaa
