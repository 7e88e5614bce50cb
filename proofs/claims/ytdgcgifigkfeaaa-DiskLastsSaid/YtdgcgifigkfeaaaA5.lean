/- Disks: walks, printed by program, and their plain law. -/
import Derived.Test.YtdgcgifigkfeaaaA4
namespace Go.Proofs.Ytdgcgifigkfeaaa
open Go Go.Wk Go.Wl Classical
theorem clone_ok {w0 : World} {D : Nat → Prop} {A : Option Addr} {n cap : Nat} {l : List Str} (h : (dSlice (dArr 256)).rd D w0 [.slice A n cap] l) (hl : l.length ≤ 8192) :
    CallR Try.prog 38 [.slice A n cap] w0 (fun v w' => ∃ A' cap' bs, v = .slice A' n cap' ∧ Ac (dArr 256) (fun _ => False) w' (.slice A' n cap') l bs ∧ Ext [] w0 w' ∧ ∀ b ∈ bs, w0.heap.size ≤ b) := by
  have hs0 := (Sep.nil (B0 := []) (w0 := w0) (Z := fun b => D b ∧ b < w0.heap.size) (fun _ h => h.2)).fact (t := iData (dSlice (dArr 256)) [.slice A n cap] l) ((dSlice (dArr 256)).weak h (fun b h1 h2 => ⟨h1, h2⟩)) sData rfl rfl
  have hn := dSlice_n h
  refine Call1 Try.func38 rfl rfl rfl rfl ?_
  refine W_seq ?_
  refine W_region ?_
  refine S_assign rfl ?_
  refine WL_nil ?_
  refine W_seq ?_
  refine W_seq ?_
  refine W_region ?_
  refine S_move rfl ?_
  refine S_eqlL Try.runUnderlying65 rfl rfl ?_
  refine WL_nil ?_
  refine W_cond rfl (fun h1 => ?_) (fun h1 => ?_)
  ·
    have p2 := h1
    try simp only [lrn] at p2
    refine W_seq ?_
    refine W_region ?_
    refine S_assign rfl ?_
    refine WL_nil ?_
    refine W_ret ?_
    show ∃ A' cap' bs, (Value.slice none 0 0) = .slice A' n cap' ∧ Ac (dArr 256) (fun _ => False) w0 (.slice A' n cap') l bs ∧ Ext [] w0 w0 ∧ ∀ b ∈ bs, w0.heap.size ≤ b
    have hA : A = none := Option.isNone_iff_eq_none.1 ‹_›
    subst hA
    have e : l = [] := by cases l with | nil => rfl | cons a r => obtain ⟨b, o, c, e, _⟩ := dSlice_at (by rw [← hn] at h; exact h) (show 0 < (a :: r).length by simp); cases e
    subst e
    subst hn
    exact ⟨none, 0, [], rfl, Ac.nil, Ext.refl _ _, fun _ h => by cases h⟩
  ·
    have p3 := h1
    try simp only [lrn] at p3
    refine W_skip ?_
    refine W_seq ?_
    refine W_region ?_
    refine Z_buildSlice (r := (dArr 256)) (css := []) (al := ([] : List Str)) hs0 Try.runUnderlying65 Try.sizeOf78 Try.zeroValue78 rfl rfl rfl rfl rfl rfl rfl trivial rfl ?_
    intro b4 w5 hs6
    have hs6 : Sep [] w0 (fun b => D b ∧ b < w0.heap.size) w5 [iAc (dArr 256) (.slice (some ⟨b4, 0, none⟩) 0 0) ([] : List Str) [b4] [], iData (dSlice (dArr 256)) [.slice A n cap] l] := hs6
    refine S_move rfl ?_
    refine Z_append (r := (dArr 256)) (al := ([] : List Str)) (xs := l) hs6 0 rfl (Src.data (hs6.at 1 rfl)) Try.runUnderlying65 Try.typeInfo78 Try.sizeOf78 Try.zeroValue78 zs78 (by show _ * 256 ≤ _; simp only [List.length_nil]; omega) (by decide) rfl ?_
    intro A9 cap10 bs11 w7 hs8
    have hs8 : Sep [] w0 (fun b => D b ∧ b < w0.heap.size) w7 [iAc (dArr 256) (.slice A9 ((([] : List Str) ++ l).length) cap10) (([] : List Str) ++ l) bs11 [], iData (dSlice (dArr 256)) [.slice A n cap] l] := hs8
    refine S_assign rfl ?_
    refine WL_nil ?_
    refine W_ret ?_
    show ∃ A' cap' bs, (Value.slice A9 ((([] : List Str) ++ l).length) cap10) = .slice A' n cap' ∧ Ac (dArr 256) (fun _ => False) w7 (.slice A' n cap') l bs ∧ Ext [] w0 w7 ∧ ∀ b ∈ bs, w0.heap.size ≤ b
    have ha := hs8.at 0 rfl
    simp only [List.nil_append] at ha
    rw [hn] at ha
    exact ⟨_, _, _, by simp only [List.nil_append]; rw [hn], ha, hs8.ext, fun b hb => (hs8.org 0 rfl b hb).elim (fun h => by cases h) id⟩
theorem new_ok {w0 : World} {n : Int} (h0 : 1 ≤ n) (h1 : n ≤ 8192) :
    CallR Try.prog 9 [.int .i64 n] w0 (fun v w' => ∃ d F, v = .tuple #[.pointer (some ⟨d, 0, none⟩), .nilIface] ∧ DkIs d w' (Dk.new n) F ∧ Ext [] w0 w' ∧ ∀ b ∈ F, w0.heap.size ≤ b) := by
  have hs0 := Sep.nil (B0 := []) (w0 := w0) (Z := fun _ => False) (fun _ h => h.elim)
  refine Call2 Try.func9 rfl rfl rfl rfl ?_
  refine W_seq ?_
  refine W_region ?_
  refine S_assign rfl ?_
  refine S_assign rfl ?_
  refine WL_nil ?_
  refine W_seq ?_
  refine W_seq ?_
  refine W_region ?_
  refine S_move rfl ?_
  refine S_lss rfl rfl rfl ?_
  refine S_move rfl ?_
  refine WL_split (dj := 6) rfl (fun h1 => ?_) (fun h1 => ?_)
  ·
    have p2 := of_decide_eq_true h1
    exfalso; omega
  ·
    have p3 := of_decide_eq_false h1
    refine WL_on rfl rfl (bF h1) ?_
    refine S_move rfl ?_
    refine WL_on rfl rfl (bF h1) ?_
    refine S_gtr rfl rfl rfl ?_
    refine S_pick_f (bF h1) rfl ?_
    refine WL_nil ?_
    refine W_cond rfl (fun h4 => ?_) (fun h4 => ?_)
    ·
      have p5 := of_decide_eq_true h4
      exfalso; omega
    ·
      have p6 := of_decide_eq_false h4
      refine W_skip ?_
      refine W_seq ?_
      refine W_region ?_
      refine S_move rfl ?_
      refine Z_makeSlice (r := (dArr 256)) (zc := ((List.replicate 256 (0 : UInt8)).map bv)) (zx := List.replicate 256 0) hs0 Try.runUnderlying65 Try.typeInfo78 Try.sizeOf78 Try.zeroValue78 zc78 rfl (by decide) (fun _ _ => ⟨rfl, List.length_replicate⟩) rfl rfl (by omega) (by show (256 : Int) * n ≤ _; omega) (by omega) rfl ?_
      intro b7 w8 hs9
      have hs9 : Sep [] w0 (fun _ => False) w8 [iAc (dArr 256) (.slice (some ⟨b7, 0, none⟩) (Int.toNat n) (Int.toNat n)) (List.replicate (Int.toNat n) (List.replicate 256 0)) [b7] []] := hs9
      refine Z_makeMap kInt (fun s => av s) hs9 rfl ?_
      intro b10 w11 hs12
      have hs12 : Sep [] w0 (fun _ => False) w11 [iMap kInt b10 (emap (fun s => av s) []) [], iAc (dArr 256) (.slice (some ⟨b7, 0, none⟩) (Int.toNat n) (Int.toNat n)) (List.replicate (Int.toNat n) (List.replicate 256 0)) [b7] []] := hs12
      refine S_build (pl := #[(0, 1), (1, 1), (2, 1), (3, 1)]) (cs := [.slice (some ⟨b7, 0, none⟩) (Int.toNat n) (Int.toNat n), .map (some b10), .int .i64 (-1), .bool false]) Try.runUnderlying68 Try.zeroValue68 (by intro w; kernel_rfl) rfl rfl rfl ?_
      refine Z_box hs12 rfl ?_
      intro b13 w14 hs15
      have hs15 : Sep [] w0 (fun _ => False) w14 [iOwn b13 68 [.slice (some ⟨b7, 0, none⟩) (Int.toNat n) (Int.toNat n), .map (some b10), .int .i64 (-1), .bool false] [], iMap kInt b10 (emap (fun s => av s) []) [], iAc (dArr 256) (.slice (some ⟨b7, 0, none⟩) (Int.toNat n) (Int.toNat n)) (List.replicate (Int.toNat n) (List.replicate 256 0)) [b7] []] := hs15
      refine S_assign rfl ?_
      refine S_assign rfl ?_
      refine WL_nil ?_
      refine W_ret ?_
      show ∃ d F, (Value.tuple #[.pointer (some ⟨b13, 0, none⟩), .nilIface]) = .tuple #[.pointer (some ⟨d, 0, none⟩), .nilIface] ∧ DkIs d w14 (Dk.new n) F ∧ Ext [] w0 w14 ∧ ∀ b ∈ F, w0.heap.size ≤ b
      have ⟨hc, ht⟩ := (DkIs.close (hs15.pick [0, 1, 2] rfl (by decide) rfl) (Ac.bs1 ((hs15.pick [0, 1, 2] rfl (by decide) rfl).at 2 rfl)))
      exact ⟨_, _, rfl, hc, ht.1, fun b hb => (ht.2 b hb).elim (fun h => by cases h) id⟩
theorem new_bad {w0 : World} {n : Int} (h : n < 1 ∨ 8192 < n) :
    CallR Try.prog 9 [.int .i64 n] w0 (fun v w' => v = .tuple #[.pointer none, .iface 64 (.int .i64 2)] ∧ w' = w0) := by
  refine Call2 Try.func9 rfl rfl rfl rfl ?_
  refine W_seq ?_
  refine W_region ?_
  refine S_assign rfl ?_
  refine S_assign rfl ?_
  refine WL_nil ?_
  refine W_seq ?_
  refine W_seq ?_
  refine W_region ?_
  refine S_move rfl ?_
  refine S_lss rfl rfl rfl ?_
  refine S_move rfl ?_
  refine WL_split (dj := 6) rfl (fun h1 => ?_) (fun h1 => ?_)
  ·
    have p2 := of_decide_eq_true h1
    refine WL_off rfl rfl rfl (bT h1) ?_
    refine WL_off rfl rfl rfl (bT h1) ?_
    refine S_pick_t (bT h1) rfl ?_
    refine WL_nil ?_
    refine W_cond_true rfl ?_
    refine W_seq ?_
    refine W_region ?_
    refine S_makeI Try.runUnderlying64 rfl rfl rfl ?_
    refine S_assign rfl ?_
    refine S_assign rfl ?_
    refine WL_nil ?_
    refine W_ret ?_
    show (Value.tuple #[.pointer none, .iface 64 (.int .i64 2)]) = .tuple #[.pointer none, .iface 64 (.int .i64 2)] ∧ w0 = w0
    exact ⟨rfl, rfl⟩
  ·
    have p3 := of_decide_eq_false h1
    refine WL_on rfl rfl (bF h1) ?_
    refine S_move rfl ?_
    refine WL_on rfl rfl (bF h1) ?_
    refine S_gtr rfl rfl rfl ?_
    refine S_pick_f (bF h1) rfl ?_
    refine WL_nil ?_
    refine W_cond rfl (fun h4 => ?_) (fun h4 => ?_)
    ·
      have p5 := of_decide_eq_true h4
      refine W_seq ?_
      refine W_region ?_
      refine S_makeI Try.runUnderlying64 rfl rfl rfl ?_
      refine S_assign rfl ?_
      refine S_assign rfl ?_
      refine WL_nil ?_
      refine W_ret ?_
      show (Value.tuple #[.pointer none, .iface 64 (.int .i64 2)]) = .tuple #[.pointer none, .iface 64 (.int .i64 2)] ∧ w0 = w0
      exact ⟨rfl, rfl⟩
    ·
      have p6 := of_decide_eq_false h4
      exfalso; omega
theorem crash_ok {w0 : World} {d : Nat} {x : Dk} {F : List Nat} (h : DkIs d w0 x F) (ok : x.Ok) {D : Nat → Prop} {A1 : Option Addr} {cap1 : Nat} {kept : List Int} (hk : (dSlice dInt).rd D w0 [.slice A1 kept.length cap1] kept) (torn cut : Int) :
    CallR Try.prog 24 [.pointer (some ⟨d, 0, none⟩), .int .i64 torn, .int .i64 cut, .slice A1 kept.length cap1] w0 (fun v w' => ∃ d2 F2, v = .pointer (some ⟨d2, 0, none⟩) ∧ DkIs d2 w' (x.crash torn cut kept) F2 ∧ Ext [] w0 w' ∧ ∀ b ∈ F2, w0.heap.size ≤ b) := by
  have ⟨hp, hm, hl, hfl, ⟨hi1, hi2⟩, hky⟩ := ok
  obtain ⟨A, cap, bm, hs1⟩ := h.fixZ (Z := fun b => b ∈ F ∨ (D b ∧ b < w0.heap.size)) (fun b hb => hb.elim (h.lt b) (·.2)) (fun b hb => .inl hb)
  have hs0 := hs1.fact (t := iData (dSlice dInt) [.slice A1 kept.length cap1] kept) ((dSlice dInt).weak hk (fun b h1 h2 => .inr ⟨h1, h2⟩)) sData rfl rfl
  have hkl := dSlice_len hk
  refine Call1 Try.func24 rfl rfl rfl rfl ?_
  refine W_seq ?_
  refine W_region ?_
  refine S_assign rfl ?_
  refine WL_nil ?_
  refine W_seq ?_
  refine W_seq ?_
  refine W_region ?_
  refine S_move rfl ?_
  refine S_callQ Try.call16 rfl (size_ok h ok) rfl ?_
  refine S_eql rfl rfl rfl ?_
  refine WL_nil ?_
  refine W_cond rfl (fun h1 => ?_) (fun h1 => ?_)
  ·
    have p2 := of_decide_eq_true h1
    exfalso; omega
  ·
    have p3 := of_decide_eq_false h1
    refine W_skip ?_
    refine W_seq ?_
    refine W_region ?_
    refine S_move rfl ?_
    refine S_nilCheck rfl rfl ?_
    refine S_fieldAddr Try.runUnderlying68 rfl Try.sizeOf65 rfl rfl ?_
    refine S_load1 Try.isAgg65 rfl (Own.at ((hs0.at 1 rfl)).2 rfl) rfl ?_
    have hz11 := clone_ok (Ac.rd ((hs0.at 3 rfl)).choose_spec.2 (by omega)) hm
    refine S_call3 Try.call38 rfl hz11 rfl ?_
    rintro A4 cap5 bs6 w7 ⟨ha8, e9, hf10⟩
    have hs12 : Sep [] w0 (fun b => b ∈ F ∨ (D b ∧ b < w0.heap.size)) w7 [iAc (dArr 256) (.slice A4 x.lasts.length cap5) x.lasts bs6 [], iData (dSlice dInt) [.slice A1 kept.length cap1] kept, iOwnF d 68 [.slice A x.lasts.length cap, .map (some bm), .int .i64 x.left, .bool x.off], iMapF kInt bm (emap (fun s => av s) x.fresh), iAcF (dArr 256) (.slice A x.lasts.length cap) x.lasts] := hs0.madeAc e9 ha8 hf10
    refine Z_makeMap kInt (fun s => av s) hs12 rfl ?_
    intro b13 w14 hs15
    have hs15 : Sep [] w0 (fun b => b ∈ F ∨ (D b ∧ b < w0.heap.size)) w14 [iMap kInt b13 (emap (fun s => av s) []) [], iAc (dArr 256) (.slice A4 x.lasts.length cap5) x.lasts bs6 [], iData (dSlice dInt) [.slice A1 kept.length cap1] kept, iOwnF d 68 [.slice A x.lasts.length cap, .map (some bm), .int .i64 x.left, .bool x.off], iMapF kInt bm (emap (fun s => av s) x.fresh), iAcF (dArr 256) (.slice A x.lasts.length cap) x.lasts] := hs15
    refine S_build (pl := #[(0, 1), (1, 1), (2, 1), (3, 1)]) (cs := [.slice A4 x.lasts.length cap5, .map (some b13), .int .i64 (-1), .bool false]) Try.runUnderlying68 Try.zeroValue68 (by intro w; kernel_rfl) rfl rfl rfl ?_
    refine Z_box hs15 rfl ?_
    intro b16 w17 hs18
    have hs18 : Sep [] w0 (fun b => b ∈ F ∨ (D b ∧ b < w0.heap.size)) w17 [iOwn b16 68 [.slice A4 x.lasts.length cap5, .map (some b13), .int .i64 (-1), .bool false] [], iMap kInt b13 (emap (fun s => av s) []) [], iAc (dArr 256) (.slice A4 x.lasts.length cap5) x.lasts bs6 [], iData (dSlice dInt) [.slice A1 kept.length cap1] kept, iOwnF d 68 [.slice A x.lasts.length cap, .map (some bm), .int .i64 x.left, .bool x.off], iMapF kInt bm (emap (fun s => av s) x.fresh), iAcF (dArr 256) (.slice A x.lasts.length cap) x.lasts] := hs18
    refine S_assign rfl ?_
    refine WL_nil ?_
    refine W_cut (fun f w => ∃ (l1 : List Str), (l1 = x.torn torn cut) ∧ Sep [] w0 (fun b => b ∈ F ∨ (D b ∧ b < w0.heap.size)) w [iOwn b16 68 [.slice A4 x.lasts.length cap5, .map (some b13), .int .i64 (-1), .bool false] [], iMap kInt b13 (emap (fun s => av s) []) [], iAc (dArr 256) (.slice A4 x.lasts.length cap5) l1 bs6 [], iData (dSlice dInt) [.slice A1 kept.length cap1] kept, iOwnF d 68 [.slice A x.lasts.length cap, .map (some bm), .int .i64 x.left, .bool x.off], iMapF kInt bm (emap (fun s => av s) x.fresh), iAcF (dArr 256) (.slice A x.lasts.length cap) x.lasts] ∧ Live f [(0, .pointer (some ⟨d, 0, none⟩)), (3, .slice A1 kept.length cap1), (9, .pointer (some ⟨b16, 0, none⟩))]) ?_ ?_
    ·
      refine W_seq ?_
      refine W_live (L := [(0, .pointer (some ⟨d, 0, none⟩)), (1, .int .i64 torn), (2, .int .i64 cut), (3, .slice A1 kept.length cap1), (9, .pointer (some ⟨b16, 0, none⟩))]) ⟨rfl, rfl, rfl, rfl, rfl, trivial⟩ ?_
      intro g20
      refine W_region ?_
      refine S_move rfl ?_
      refine S_nilCheck rfl rfl ?_
      refine S_fieldAddr Try.runUnderlying68 rfl Try.sizeOf66 rfl rfl ?_
      refine S_load1 Try.isAgg66 rfl (Own.at ((hs18.at 4 rfl)).2 rfl) rfl ?_
      refine S_move rfl ?_
      refine Z_lookupOk (z0 := (List.replicate 256 (0 : UInt8))) ((hs18.at 5 rfl)).2 Try.runUnderlying66 Try.runUnderlying3 Try.zeroValue78 zero78 rfl rfl rfl ?_
      refine S_move rfl ?_
      refine S_extract rfl rfl rfl ?_
      refine S_extract rfl rfl rfl ?_
      refine Z_allocAr hs18 Try.zeroValue78 zero78 rfl ?_
      intro b21 w22 hs23
      have hs23 : Sep [] w0 (fun b => b ∈ F ∨ (D b ∧ b < w0.heap.size)) w22 [iAr b21 78 (List.replicate 256 0) [], iOwn b16 68 [.slice A4 x.lasts.length cap5, .map (some b13), .int .i64 (-1), .bool false] [], iMap kInt b13 (emap (fun s => av s) []) [], iAc (dArr 256) (.slice A4 x.lasts.length cap5) x.lasts bs6 [], iData (dSlice dInt) [.slice A1 kept.length cap1] kept, iOwnF d 68 [.slice A x.lasts.length cap, .map (some bm), .int .i64 x.left, .bool x.off], iMapF kInt bm (emap (fun s => av s) x.fresh), iAcF (dArr 256) (.slice A x.lasts.length cap) x.lasts] := hs23
      refine Z_storeAr hs23 0 rfl Try.sizeOf78 rfl rfl List.length_replicate (getD_len ok torn) ?_
      intro w24 hs25
      have hs25 : Sep [] w0 (fun b => b ∈ F ∨ (D b ∧ b < w0.heap.size)) w24 [iAr b21 78 ((aget x.fresh torn).getD (List.replicate 256 (0 : UInt8))) [], iOwn b16 68 [.slice A4 x.lasts.length cap5, .map (some b13), .int .i64 (-1), .bool false] [], iMap kInt b13 (emap (fun s => av s) []) [], iAc (dArr 256) (.slice A4 x.lasts.length cap5) x.lasts bs6 [], iData (dSlice dInt) [.slice A1 kept.length cap1] kept, iOwnF d 68 [.slice A x.lasts.length cap, .map (some bm), .int .i64 x.left, .bool x.off], iMapF kInt bm (emap (fun s => av s) x.fresh), iAcF (dArr 256) (.slice A x.lasts.length cap) x.lasts] := hs25
      refine S_assign rfl ?_
      refine WL_nil ?_
      refine W_seq ?_
      refine W_live (L := [(0, .pointer (some ⟨d, 0, none⟩)), (1, .int .i64 torn), (2, .int .i64 cut), (3, .slice A1 kept.length cap1), (9, .pointer (some ⟨b16, 0, none⟩)), (10, .pointer (some ⟨b21, 0, none⟩)), (11, .bool (Option.isSome (aget x.fresh torn)))]) ⟨rfl, rfl, rfl, rfl, rfl, rfl, rfl, trivial⟩ ?_
      intro g26
      refine W_region ?_
      refine S_move rfl ?_
      refine WL_nil ?_
      refine W_cond rfl (fun h27 => ?_) (fun h27 => ?_)
      ·
        have p28 := h27
        try simp only [lrn] at p28
        have ⟨ht0, ht1⟩ := isSome_flen ok ‹(aget x.fresh torn).isSome = true›
        refine W_live (L := [(0, .pointer (some ⟨d, 0, none⟩)), (1, .int .i64 torn), (2, .int .i64 cut), (3, .slice A1 kept.length cap1), (9, .pointer (some ⟨b16, 0, none⟩)), (10, .pointer (some ⟨b21, 0, none⟩))]) ⟨rfl, rfl, rfl, rfl, rfl, rfl, trivial⟩ ?_
        intro g29
        refine W_region_J (fun dN vL w => Sep [] w0 (fun b => b ∈ F ∨ (D b ∧ b < w0.heap.size)) w [iAr b21 78 ((aget x.fresh torn).getD (List.replicate 256 (0 : UInt8))) [], iOwn b16 68 [.slice A4 x.lasts.length cap5, .map (some b13), .int .i64 (-1), .bool false] [], iMap kInt b13 (emap (fun s => av s) []) [], (bif dN 11 then (iAc (dArr 256) (.slice A4 x.lasts.length cap5) (List.set x.lasts (Int.toNat torn) (List.take (Int.toNat (max 0 (min cut 256))) ((aget x.fresh torn).getD (List.replicate 256 (0 : UInt8))) ++ List.drop (Int.toNat (max 0 (min cut 256))) (ix x.lasts torn))) bs6 []) else (iAc (dArr 256) (.slice A4 x.lasts.length cap5) x.lasts bs6 [])), iData (dSlice dInt) [.slice A1 kept.length cap1] kept, iOwnF d 68 [.slice A x.lasts.length cap, .map (some bm), .int .i64 x.left, .bool x.off], iMapF kInt bm (emap (fun s => av s) x.fresh), iAcF (dArr 256) (.slice A x.lasts.length cap) x.lasts] ∧ (dN 0 = true → vL 0 = .pointer (some ⟨b16, 0, none⟩)) ∧ (dN 1 = true → vL 1 = .pointer (some ⟨b16, 0, none⟩)) ∧ (dN 2 = true → vL 2 = .pointer (some ⟨b16, 0, none⟩)) ∧ (dN 3 = true → vL 3 = .slice A4 x.lasts.length cap5) ∧ (dN 4 = true → vL 4 = .int .i64 torn) ∧ (dN 5 = true → vL 5 = .pointer (some (eA A4 ((Int.toNat torn) * 256)))) ∧ (dN 6 = true → vL 6 = .slice (some (eA A4 ((Int.toNat torn) * 256))) 256 256) ∧ (dN 7 = true → vL 7 = .int .i64 cut) ∧ (dN 8 = true → vL 8 = .int .i64 (min cut 256)) ∧ (dN 9 = true → vL 9 = .int .i64 (max 0 (min cut 256))) ∧ (dN 10 = true → vL 10 = .slice (some ⟨b21, 0, none⟩) (Int.toNat (max 0 (min cut 256))) 256) ∧ (dN 11 = true → vL 11 = .int .i64 (max 0 (min cut 256))) ∧ True) [37, 38, 39, 40, 41, 42, 43, 44, 45, 46, 47, 48] rfl (by decide +kernel) _ rfl ?_ ?_ ?_
        · exact fun V => ⟨hs25, (fun h => by cases h), (fun h => by cases h), (fun h => by cases h), (fun h => by cases h), (fun h => by cases h), (fun h => by cases h), (fun h => by cases h), (fun h => by cases h), (fun h => by cases h), (fun h => by cases h), (fun h => by cases h), (fun h => by cases h), trivial⟩
        · refine (.cons ?_ (.cons ?_ (.cons ?_ (.cons ?_ (.cons ?_ (.cons ?_ (.cons ?_ (.cons ?_ (.cons ?_ (.cons ?_ (.cons ?_ (.cons ?_ .nil))))))))))))
          ·
            rintro dN vL g33 w34 ⟨hs35, v41, v42, v43, v44, v45, v46, v47, v48, v49, v50, v51, v52, _⟩ hD36 hd37 hu38 hg39 hk40
            have e53 : dN 11 = false := hu38 11 (by decide +kernel)
            rw [e53] at hs35
            have hs54 : Sep [] w0 (fun b => b ∈ F ∨ (D b ∧ b < w0.heap.size)) w34 [iAr b21 78 ((aget x.fresh torn).getD (List.replicate 256 (0 : UInt8))) [], iOwn b16 68 [.slice A4 x.lasts.length cap5, .map (some b13), .int .i64 (-1), .bool false] [], iMap kInt b13 (emap (fun s => av s) []) [], iAc (dArr 256) (.slice A4 x.lasts.length cap5) x.lasts bs6 [], iData (dSlice dInt) [.slice A1 kept.length cap1] kept, iOwnF d 68 [.slice A x.lasts.length cap, .map (some bm), .int .i64 x.left, .bool x.off], iMapF kInt bm (emap (fun s => av s) x.fresh), iAcF (dArr 256) (.slice A x.lasts.length cap) x.lasts] := hs35
            refine WL_at (L := [(9, .pointer (some ⟨b16, 0, none⟩))]) ⟨(hk40 9 (by decide +kernel)), trivial⟩ ?_
            refine S_move rfl ?_
            have hs55 : Sep [] w0 (fun b => b ∈ F ∨ (D b ∧ b < w0.heap.size)) w34 [iAr b21 78 ((aget x.fresh torn).getD (List.replicate 256 (0 : UInt8))) [], iOwn b16 68 [.slice A4 x.lasts.length cap5, .map (some b13), .int .i64 (-1), .bool false] [], iMap kInt b13 (emap (fun s => av s) []) [], (bif dN 11 then (iAc (dArr 256) (.slice A4 x.lasts.length cap5) (List.set x.lasts (Int.toNat torn) (List.take (Int.toNat (max 0 (min cut 256))) ((aget x.fresh torn).getD (List.replicate 256 (0 : UInt8))) ++ List.drop (Int.toNat (max 0 (min cut 256))) (ix x.lasts torn))) bs6 []) else (iAc (dArr 256) (.slice A4 x.lasts.length cap5) x.lasts bs6 [])), iData (dSlice dInt) [.slice A1 kept.length cap1] kept, iOwnF d 68 [.slice A x.lasts.length cap, .map (some bm), .int .i64 x.left, .bool x.off], iMapF kInt bm (emap (fun s => av s) x.fresh), iAcF (dArr 256) (.slice A x.lasts.length cap) x.lasts] := by rw [e53]; exact hs54
            exact WL_nil ⟨rfl, _, rfl, hs55, (fun _ => rfl), v42, v43, v44, v45, v46, v47, v48, v49, v50, v51, v52, trivial⟩
          ·
            rintro dN vL g56 w57 ⟨hs58, v64, v65, v66, v67, v68, v69, v70, v71, v72, v73, v74, v75, _⟩ hD59 hd60 hu61 hg62 hk63
            have e76 : dN 0 = true := hd60 0 (by decide +kernel)
            have e77 : dN 11 = false := hu61 11 (by decide +kernel)
            rw [e77] at hs58
            have hs78 : Sep [] w0 (fun b => b ∈ F ∨ (D b ∧ b < w0.heap.size)) w57 [iAr b21 78 ((aget x.fresh torn).getD (List.replicate 256 (0 : UInt8))) [], iOwn b16 68 [.slice A4 x.lasts.length cap5, .map (some b13), .int .i64 (-1), .bool false] [], iMap kInt b13 (emap (fun s => av s) []) [], iAc (dArr 256) (.slice A4 x.lasts.length cap5) x.lasts bs6 [], iData (dSlice dInt) [.slice A1 kept.length cap1] kept, iOwnF d 68 [.slice A x.lasts.length cap, .map (some bm), .int .i64 x.left, .bool x.off], iMapF kInt bm (emap (fun s => av s) x.fresh), iAcF (dArr 256) (.slice A x.lasts.length cap) x.lasts] := hs58
            refine WL_at (L := [(37, .pointer (some ⟨b16, 0, none⟩))]) ⟨((hg62 0 37 e76 rfl).trans (v64 e76)), trivial⟩ ?_
            refine S_nilCheck rfl rfl ?_
            have hs79 : Sep [] w0 (fun b => b ∈ F ∨ (D b ∧ b < w0.heap.size)) w57 [iAr b21 78 ((aget x.fresh torn).getD (List.replicate 256 (0 : UInt8))) [], iOwn b16 68 [.slice A4 x.lasts.length cap5, .map (some b13), .int .i64 (-1), .bool false] [], iMap kInt b13 (emap (fun s => av s) []) [], (bif dN 11 then (iAc (dArr 256) (.slice A4 x.lasts.length cap5) (List.set x.lasts (Int.toNat torn) (List.take (Int.toNat (max 0 (min cut 256))) ((aget x.fresh torn).getD (List.replicate 256 (0 : UInt8))) ++ List.drop (Int.toNat (max 0 (min cut 256))) (ix x.lasts torn))) bs6 []) else (iAc (dArr 256) (.slice A4 x.lasts.length cap5) x.lasts bs6 [])), iData (dSlice dInt) [.slice A1 kept.length cap1] kept, iOwnF d 68 [.slice A x.lasts.length cap, .map (some bm), .int .i64 x.left, .bool x.off], iMapF kInt bm (emap (fun s => av s) x.fresh), iAcF (dArr 256) (.slice A x.lasts.length cap) x.lasts] := by rw [e77]; exact hs78
            exact WL_nil ⟨rfl, _, rfl, hs79, v64, (fun _ => rfl), v66, v67, v68, v69, v70, v71, v72, v73, v74, v75, trivial⟩
          ·
            rintro dN vL g80 w81 ⟨hs82, v88, v89, v90, v91, v92, v93, v94, v95, v96, v97, v98, v99, _⟩ hD83 hd84 hu85 hg86 hk87
            have e100 : dN 1 = true := hd84 1 (by decide +kernel)
            have e101 : dN 11 = false := hu85 11 (by decide +kernel)
            rw [e101] at hs82
            have hs102 : Sep [] w0 (fun b => b ∈ F ∨ (D b ∧ b < w0.heap.size)) w81 [iAr b21 78 ((aget x.fresh torn).getD (List.replicate 256 (0 : UInt8))) [], iOwn b16 68 [.slice A4 x.lasts.length cap5, .map (some b13), .int .i64 (-1), .bool false] [], iMap kInt b13 (emap (fun s => av s) []) [], iAc (dArr 256) (.slice A4 x.lasts.length cap5) x.lasts bs6 [], iData (dSlice dInt) [.slice A1 kept.length cap1] kept, iOwnF d 68 [.slice A x.lasts.length cap, .map (some bm), .int .i64 x.left, .bool x.off], iMapF kInt bm (emap (fun s => av s) x.fresh), iAcF (dArr 256) (.slice A x.lasts.length cap) x.lasts] := hs82
            refine WL_at (L := [(38, .pointer (some ⟨b16, 0, none⟩))]) ⟨((hg86 1 38 e100 rfl).trans (v89 e100)), trivial⟩ ?_
            refine S_fieldAddr Try.runUnderlying68 rfl Try.sizeOf65 rfl rfl ?_
            have hs103 : Sep [] w0 (fun b => b ∈ F ∨ (D b ∧ b < w0.heap.size)) w81 [iAr b21 78 ((aget x.fresh torn).getD (List.replicate 256 (0 : UInt8))) [], iOwn b16 68 [.slice A4 x.lasts.length cap5, .map (some b13), .int .i64 (-1), .bool false] [], iMap kInt b13 (emap (fun s => av s) []) [], (bif dN 11 then (iAc (dArr 256) (.slice A4 x.lasts.length cap5) (List.set x.lasts (Int.toNat torn) (List.take (Int.toNat (max 0 (min cut 256))) ((aget x.fresh torn).getD (List.replicate 256 (0 : UInt8))) ++ List.drop (Int.toNat (max 0 (min cut 256))) (ix x.lasts torn))) bs6 []) else (iAc (dArr 256) (.slice A4 x.lasts.length cap5) x.lasts bs6 [])), iData (dSlice dInt) [.slice A1 kept.length cap1] kept, iOwnF d 68 [.slice A x.lasts.length cap, .map (some bm), .int .i64 x.left, .bool x.off], iMapF kInt bm (emap (fun s => av s) x.fresh), iAcF (dArr 256) (.slice A x.lasts.length cap) x.lasts] := by rw [e101]; exact hs102
            exact WL_nil ⟨rfl, _, rfl, hs103, v88, v89, (fun _ => rfl), v91, v92, v93, v94, v95, v96, v97, v98, v99, trivial⟩
          ·
            rintro dN vL g104 w105 ⟨hs106, v112, v113, v114, v115, v116, v117, v118, v119, v120, v121, v122, v123, _⟩ hD107 hd108 hu109 hg110 hk111
            have e124 : dN 2 = true := hd108 2 (by decide +kernel)
            have e125 : dN 11 = false := hu109 11 (by decide +kernel)
            rw [e125] at hs106
            have hs126 : Sep [] w0 (fun b => b ∈ F ∨ (D b ∧ b < w0.heap.size)) w105 [iAr b21 78 ((aget x.fresh torn).getD (List.replicate 256 (0 : UInt8))) [], iOwn b16 68 [.slice A4 x.lasts.length cap5, .map (some b13), .int .i64 (-1), .bool false] [], iMap kInt b13 (emap (fun s => av s) []) [], iAc (dArr 256) (.slice A4 x.lasts.length cap5) x.lasts bs6 [], iData (dSlice dInt) [.slice A1 kept.length cap1] kept, iOwnF d 68 [.slice A x.lasts.length cap, .map (some bm), .int .i64 x.left, .bool x.off], iMapF kInt bm (emap (fun s => av s) x.fresh), iAcF (dArr 256) (.slice A x.lasts.length cap) x.lasts] := hs106
            refine WL_at (L := [(39, .pointer (some ⟨b16, 0, none⟩))]) ⟨((hg110 2 39 e124 rfl).trans (v114 e124)), trivial⟩ ?_
            refine S_load1 Try.isAgg65 rfl (Own.at (hs126.at 1 rfl) rfl) rfl ?_
            have hs127 : Sep [] w0 (fun b => b ∈ F ∨ (D b ∧ b < w0.heap.size)) w105 [iAr b21 78 ((aget x.fresh torn).getD (List.replicate 256 (0 : UInt8))) [], iOwn b16 68 [.slice A4 x.lasts.length cap5, .map (some b13), .int .i64 (-1), .bool false] [], iMap kInt b13 (emap (fun s => av s) []) [], (bif dN 11 then (iAc (dArr 256) (.slice A4 x.lasts.length cap5) (List.set x.lasts (Int.toNat torn) (List.take (Int.toNat (max 0 (min cut 256))) ((aget x.fresh torn).getD (List.replicate 256 (0 : UInt8))) ++ List.drop (Int.toNat (max 0 (min cut 256))) (ix x.lasts torn))) bs6 []) else (iAc (dArr 256) (.slice A4 x.lasts.length cap5) x.lasts bs6 [])), iData (dSlice dInt) [.slice A1 kept.length cap1] kept, iOwnF d 68 [.slice A x.lasts.length cap, .map (some bm), .int .i64 x.left, .bool x.off], iMapF kInt bm (emap (fun s => av s) x.fresh), iAcF (dArr 256) (.slice A x.lasts.length cap) x.lasts] := by rw [e125]; exact hs126
            exact WL_nil ⟨rfl, _, rfl, hs127, v112, v113, v114, (fun _ => rfl), v116, v117, v118, v119, v120, v121, v122, v123, trivial⟩
          ·
            rintro dN vL g128 w129 ⟨hs130, v136, v137, v138, v139, v140, v141, v142, v143, v144, v145, v146, v147, _⟩ hD131 hd132 hu133 hg134 hk135
            have e148 : dN 11 = false := hu133 11 (by decide +kernel)
            rw [e148] at hs130
            have hs149 : Sep [] w0 (fun b => b ∈ F ∨ (D b ∧ b < w0.heap.size)) w129 [iAr b21 78 ((aget x.fresh torn).getD (List.replicate 256 (0 : UInt8))) [], iOwn b16 68 [.slice A4 x.lasts.length cap5, .map (some b13), .int .i64 (-1), .bool false] [], iMap kInt b13 (emap (fun s => av s) []) [], iAc (dArr 256) (.slice A4 x.lasts.length cap5) x.lasts bs6 [], iData (dSlice dInt) [.slice A1 kept.length cap1] kept, iOwnF d 68 [.slice A x.lasts.length cap, .map (some bm), .int .i64 x.left, .bool x.off], iMapF kInt bm (emap (fun s => av s) x.fresh), iAcF (dArr 256) (.slice A x.lasts.length cap) x.lasts] := hs130
            refine WL_at (L := [(1, .int .i64 torn)]) ⟨(hk135 1 (by decide +kernel)), trivial⟩ ?_
            refine S_move rfl ?_
            have hs150 : Sep [] w0 (fun b => b ∈ F ∨ (D b ∧ b < w0.heap.size)) w129 [iAr b21 78 ((aget x.fresh torn).getD (List.replicate 256 (0 : UInt8))) [], iOwn b16 68 [.slice A4 x.lasts.length cap5, .map (some b13), .int .i64 (-1), .bool false] [], iMap kInt b13 (emap (fun s => av s) []) [], (bif dN 11 then (iAc (dArr 256) (.slice A4 x.lasts.length cap5) (List.set x.lasts (Int.toNat torn) (List.take (Int.toNat (max 0 (min cut 256))) ((aget x.fresh torn).getD (List.replicate 256 (0 : UInt8))) ++ List.drop (Int.toNat (max 0 (min cut 256))) (ix x.lasts torn))) bs6 []) else (iAc (dArr 256) (.slice A4 x.lasts.length cap5) x.lasts bs6 [])), iData (dSlice dInt) [.slice A1 kept.length cap1] kept, iOwnF d 68 [.slice A x.lasts.length cap, .map (some bm), .int .i64 x.left, .bool x.off], iMapF kInt bm (emap (fun s => av s) x.fresh), iAcF (dArr 256) (.slice A x.lasts.length cap) x.lasts] := by rw [e148]; exact hs149
            exact WL_nil ⟨rfl, _, rfl, hs150, v136, v137, v138, v139, (fun _ => rfl), v141, v142, v143, v144, v145, v146, v147, trivial⟩
          ·
            rintro dN vL g151 w152 ⟨hs153, v159, v160, v161, v162, v163, v164, v165, v166, v167, v168, v169, v170, _⟩ hD154 hd155 hu156 hg157 hk158
            have e171 : dN 3 = true := hd155 3 (by decide +kernel)
            have e172 : dN 4 = true := hd155 4 (by decide +kernel)
            have e173 : dN 11 = false := hu156 11 (by decide +kernel)
            rw [e173] at hs153
            have hs174 : Sep [] w0 (fun b => b ∈ F ∨ (D b ∧ b < w0.heap.size)) w152 [iAr b21 78 ((aget x.fresh torn).getD (List.replicate 256 (0 : UInt8))) [], iOwn b16 68 [.slice A4 x.lasts.length cap5, .map (some b13), .int .i64 (-1), .bool false] [], iMap kInt b13 (emap (fun s => av s) []) [], iAc (dArr 256) (.slice A4 x.lasts.length cap5) x.lasts bs6 [], iData (dSlice dInt) [.slice A1 kept.length cap1] kept, iOwnF d 68 [.slice A x.lasts.length cap, .map (some bm), .int .i64 x.left, .bool x.off], iMapF kInt bm (emap (fun s => av s) x.fresh), iAcF (dArr 256) (.slice A x.lasts.length cap) x.lasts] := hs153
            refine WL_at (L := [(40, .slice A4 x.lasts.length cap5), (41, .int .i64 torn)]) ⟨((hg157 3 40 e171 rfl).trans (v162 e171)), ((hg157 4 41 e172 rfl).trans (v163 e172)), trivial⟩ ?_
            refine Z_indexAc (hs174.at 3 rfl) Try.runUnderlying65 Try.sizeOf78 rfl rfl (show (0 : Int) ≤ torn from by omega) (show torn < ((x.lasts.length : Nat) : Int) from by omega) rfl ?_
            have hs175 : Sep [] w0 (fun b => b ∈ F ∨ (D b ∧ b < w0.heap.size)) w152 [iAr b21 78 ((aget x.fresh torn).getD (List.replicate 256 (0 : UInt8))) [], iOwn b16 68 [.slice A4 x.lasts.length cap5, .map (some b13), .int .i64 (-1), .bool false] [], iMap kInt b13 (emap (fun s => av s) []) [], (bif dN 11 then (iAc (dArr 256) (.slice A4 x.lasts.length cap5) (List.set x.lasts (Int.toNat torn) (List.take (Int.toNat (max 0 (min cut 256))) ((aget x.fresh torn).getD (List.replicate 256 (0 : UInt8))) ++ List.drop (Int.toNat (max 0 (min cut 256))) (ix x.lasts torn))) bs6 []) else (iAc (dArr 256) (.slice A4 x.lasts.length cap5) x.lasts bs6 [])), iData (dSlice dInt) [.slice A1 kept.length cap1] kept, iOwnF d 68 [.slice A x.lasts.length cap, .map (some bm), .int .i64 x.left, .bool x.off], iMapF kInt bm (emap (fun s => av s) x.fresh), iAcF (dArr 256) (.slice A x.lasts.length cap) x.lasts] := by rw [e173]; exact hs174
            exact WL_nil ⟨rfl, _, rfl, hs175, v159, v160, v161, v162, v163, (fun _ => rfl), v165, v166, v167, v168, v169, v170, trivial⟩
          ·
            rintro dN vL g176 w177 ⟨hs178, v184, v185, v186, v187, v188, v189, v190, v191, v192, v193, v194, v195, _⟩ hD179 hd180 hu181 hg182 hk183
            have e196 : dN 5 = true := hd180 5 (by decide +kernel)
            have e197 : dN 11 = false := hu181 11 (by decide +kernel)
            rw [e197] at hs178
            have hs198 : Sep [] w0 (fun b => b ∈ F ∨ (D b ∧ b < w0.heap.size)) w177 [iAr b21 78 ((aget x.fresh torn).getD (List.replicate 256 (0 : UInt8))) [], iOwn b16 68 [.slice A4 x.lasts.length cap5, .map (some b13), .int .i64 (-1), .bool false] [], iMap kInt b13 (emap (fun s => av s) []) [], iAc (dArr 256) (.slice A4 x.lasts.length cap5) x.lasts bs6 [], iData (dSlice dInt) [.slice A1 kept.length cap1] kept, iOwnF d 68 [.slice A x.lasts.length cap, .map (some bm), .int .i64 x.left, .bool x.off], iMapF kInt bm (emap (fun s => av s) x.fresh), iAcF (dArr 256) (.slice A x.lasts.length cap) x.lasts] := hs178
            refine WL_at (L := [(42, .pointer (some (eA A4 ((Int.toNat torn) * 256))))]) ⟨((hg182 5 42 e196 rfl).trans (v189 e196)), trivial⟩ ?_
            refine S_sliceAr (e := (256 : Nat)) Try.runUnderlying78 Try.sizeOf5 rfl rfl ⟨by omega, by omega⟩ rfl ?_
            have hs199 : Sep [] w0 (fun b => b ∈ F ∨ (D b ∧ b < w0.heap.size)) w177 [iAr b21 78 ((aget x.fresh torn).getD (List.replicate 256 (0 : UInt8))) [], iOwn b16 68 [.slice A4 x.lasts.length cap5, .map (some b13), .int .i64 (-1), .bool false] [], iMap kInt b13 (emap (fun s => av s) []) [], (bif dN 11 then (iAc (dArr 256) (.slice A4 x.lasts.length cap5) (List.set x.lasts (Int.toNat torn) (List.take (Int.toNat (max 0 (min cut 256))) ((aget x.fresh torn).getD (List.replicate 256 (0 : UInt8))) ++ List.drop (Int.toNat (max 0 (min cut 256))) (ix x.lasts torn))) bs6 []) else (iAc (dArr 256) (.slice A4 x.lasts.length cap5) x.lasts bs6 [])), iData (dSlice dInt) [.slice A1 kept.length cap1] kept, iOwnF d 68 [.slice A x.lasts.length cap, .map (some bm), .int .i64 x.left, .bool x.off], iMapF kInt bm (emap (fun s => av s) x.fresh), iAcF (dArr 256) (.slice A x.lasts.length cap) x.lasts] := by rw [e197]; exact hs198
            exact WL_nil ⟨rfl, _, rfl, hs199, v184, v185, v186, v187, v188, v189, (fun _ => rfl), v191, v192, v193, v194, v195, trivial⟩
          ·
            rintro dN vL g200 w201 ⟨hs202, v208, v209, v210, v211, v212, v213, v214, v215, v216, v217, v218, v219, _⟩ hD203 hd204 hu205 hg206 hk207
            have e220 : dN 11 = false := hu205 11 (by decide +kernel)
            rw [e220] at hs202
            have hs221 : Sep [] w0 (fun b => b ∈ F ∨ (D b ∧ b < w0.heap.size)) w201 [iAr b21 78 ((aget x.fresh torn).getD (List.replicate 256 (0 : UInt8))) [], iOwn b16 68 [.slice A4 x.lasts.length cap5, .map (some b13), .int .i64 (-1), .bool false] [], iMap kInt b13 (emap (fun s => av s) []) [], iAc (dArr 256) (.slice A4 x.lasts.length cap5) x.lasts bs6 [], iData (dSlice dInt) [.slice A1 kept.length cap1] kept, iOwnF d 68 [.slice A x.lasts.length cap, .map (some bm), .int .i64 x.left, .bool x.off], iMapF kInt bm (emap (fun s => av s) x.fresh), iAcF (dArr 256) (.slice A x.lasts.length cap) x.lasts] := hs202
            refine WL_at (L := [(2, .int .i64 cut)]) ⟨(hk207 2 (by decide +kernel)), trivial⟩ ?_
            refine S_move rfl ?_
            have hs222 : Sep [] w0 (fun b => b ∈ F ∨ (D b ∧ b < w0.heap.size)) w201 [iAr b21 78 ((aget x.fresh torn).getD (List.replicate 256 (0 : UInt8))) [], iOwn b16 68 [.slice A4 x.lasts.length cap5, .map (some b13), .int .i64 (-1), .bool false] [], iMap kInt b13 (emap (fun s => av s) []) [], (bif dN 11 then (iAc (dArr 256) (.slice A4 x.lasts.length cap5) (List.set x.lasts (Int.toNat torn) (List.take (Int.toNat (max 0 (min cut 256))) ((aget x.fresh torn).getD (List.replicate 256 (0 : UInt8))) ++ List.drop (Int.toNat (max 0 (min cut 256))) (ix x.lasts torn))) bs6 []) else (iAc (dArr 256) (.slice A4 x.lasts.length cap5) x.lasts bs6 [])), iData (dSlice dInt) [.slice A1 kept.length cap1] kept, iOwnF d 68 [.slice A x.lasts.length cap, .map (some bm), .int .i64 x.left, .bool x.off], iMapF kInt bm (emap (fun s => av s) x.fresh), iAcF (dArr 256) (.slice A x.lasts.length cap) x.lasts] := by rw [e220]; exact hs221
            exact WL_nil ⟨rfl, _, rfl, hs222, v208, v209, v210, v211, v212, v213, v214, (fun _ => rfl), v216, v217, v218, v219, trivial⟩
          ·
            rintro dN vL g223 w224 ⟨hs225, v231, v232, v233, v234, v235, v236, v237, v238, v239, v240, v241, v242, _⟩ hD226 hd227 hu228 hg229 hk230
            have e243 : dN 7 = true := hd227 7 (by decide +kernel)
            have e244 : dN 11 = false := hu228 11 (by decide +kernel)
            rw [e244] at hs225
            have hs245 : Sep [] w0 (fun b => b ∈ F ∨ (D b ∧ b < w0.heap.size)) w224 [iAr b21 78 ((aget x.fresh torn).getD (List.replicate 256 (0 : UInt8))) [], iOwn b16 68 [.slice A4 x.lasts.length cap5, .map (some b13), .int .i64 (-1), .bool false] [], iMap kInt b13 (emap (fun s => av s) []) [], iAc (dArr 256) (.slice A4 x.lasts.length cap5) x.lasts bs6 [], iData (dSlice dInt) [.slice A1 kept.length cap1] kept, iOwnF d 68 [.slice A x.lasts.length cap, .map (some bm), .int .i64 x.left, .bool x.off], iMapF kInt bm (emap (fun s => av s) x.fresh), iAcF (dArr 256) (.slice A x.lasts.length cap) x.lasts] := hs225
            refine WL_at (L := [(44, .int .i64 cut)]) ⟨((hg229 7 44 e243 rfl).trans (v238 e243)), trivial⟩ ?_
            refine S_min rfl rfl rfl ?_
            have hs246 : Sep [] w0 (fun b => b ∈ F ∨ (D b ∧ b < w0.heap.size)) w224 [iAr b21 78 ((aget x.fresh torn).getD (List.replicate 256 (0 : UInt8))) [], iOwn b16 68 [.slice A4 x.lasts.length cap5, .map (some b13), .int .i64 (-1), .bool false] [], iMap kInt b13 (emap (fun s => av s) []) [], (bif dN 11 then (iAc (dArr 256) (.slice A4 x.lasts.length cap5) (List.set x.lasts (Int.toNat torn) (List.take (Int.toNat (max 0 (min cut 256))) ((aget x.fresh torn).getD (List.replicate 256 (0 : UInt8))) ++ List.drop (Int.toNat (max 0 (min cut 256))) (ix x.lasts torn))) bs6 []) else (iAc (dArr 256) (.slice A4 x.lasts.length cap5) x.lasts bs6 [])), iData (dSlice dInt) [.slice A1 kept.length cap1] kept, iOwnF d 68 [.slice A x.lasts.length cap, .map (some bm), .int .i64 x.left, .bool x.off], iMapF kInt bm (emap (fun s => av s) x.fresh), iAcF (dArr 256) (.slice A x.lasts.length cap) x.lasts] := by rw [e244]; exact hs245
            exact WL_nil ⟨rfl, _, rfl, hs246, v231, v232, v233, v234, v235, v236, v237, v238, (fun _ => rfl), v240, v241, v242, trivial⟩
          ·
            rintro dN vL g247 w248 ⟨hs249, v255, v256, v257, v258, v259, v260, v261, v262, v263, v264, v265, v266, _⟩ hD250 hd251 hu252 hg253 hk254
            have e267 : dN 8 = true := hd251 8 (by decide +kernel)
            have e268 : dN 11 = false := hu252 11 (by decide +kernel)
            rw [e268] at hs249
            have hs269 : Sep [] w0 (fun b => b ∈ F ∨ (D b ∧ b < w0.heap.size)) w248 [iAr b21 78 ((aget x.fresh torn).getD (List.replicate 256 (0 : UInt8))) [], iOwn b16 68 [.slice A4 x.lasts.length cap5, .map (some b13), .int .i64 (-1), .bool false] [], iMap kInt b13 (emap (fun s => av s) []) [], iAc (dArr 256) (.slice A4 x.lasts.length cap5) x.lasts bs6 [], iData (dSlice dInt) [.slice A1 kept.length cap1] kept, iOwnF d 68 [.slice A x.lasts.length cap, .map (some bm), .int .i64 x.left, .bool x.off], iMapF kInt bm (emap (fun s => av s) x.fresh), iAcF (dArr 256) (.slice A x.lasts.length cap) x.lasts] := hs249
            refine WL_at (L := [(45, .int .i64 (min cut 256))]) ⟨((hg253 8 45 e267 rfl).trans (v263 e267)), trivial⟩ ?_
            refine S_max rfl rfl rfl ?_
            have hs270 : Sep [] w0 (fun b => b ∈ F ∨ (D b ∧ b < w0.heap.size)) w248 [iAr b21 78 ((aget x.fresh torn).getD (List.replicate 256 (0 : UInt8))) [], iOwn b16 68 [.slice A4 x.lasts.length cap5, .map (some b13), .int .i64 (-1), .bool false] [], iMap kInt b13 (emap (fun s => av s) []) [], (bif dN 11 then (iAc (dArr 256) (.slice A4 x.lasts.length cap5) (List.set x.lasts (Int.toNat torn) (List.take (Int.toNat (max 0 (min cut 256))) ((aget x.fresh torn).getD (List.replicate 256 (0 : UInt8))) ++ List.drop (Int.toNat (max 0 (min cut 256))) (ix x.lasts torn))) bs6 []) else (iAc (dArr 256) (.slice A4 x.lasts.length cap5) x.lasts bs6 [])), iData (dSlice dInt) [.slice A1 kept.length cap1] kept, iOwnF d 68 [.slice A x.lasts.length cap, .map (some bm), .int .i64 x.left, .bool x.off], iMapF kInt bm (emap (fun s => av s) x.fresh), iAcF (dArr 256) (.slice A x.lasts.length cap) x.lasts] := by rw [e268]; exact hs269
            exact WL_nil ⟨rfl, _, rfl, hs270, v255, v256, v257, v258, v259, v260, v261, v262, v263, (fun _ => rfl), v265, v266, trivial⟩
          ·
            rintro dN vL g271 w272 ⟨hs273, v279, v280, v281, v282, v283, v284, v285, v286, v287, v288, v289, v290, _⟩ hD274 hd275 hu276 hg277 hk278
            have e291 : dN 9 = true := hd275 9 (by decide +kernel)
            have e292 : dN 11 = false := hu276 11 (by decide +kernel)
            rw [e292] at hs273
            have hs293 : Sep [] w0 (fun b => b ∈ F ∨ (D b ∧ b < w0.heap.size)) w272 [iAr b21 78 ((aget x.fresh torn).getD (List.replicate 256 (0 : UInt8))) [], iOwn b16 68 [.slice A4 x.lasts.length cap5, .map (some b13), .int .i64 (-1), .bool false] [], iMap kInt b13 (emap (fun s => av s) []) [], iAc (dArr 256) (.slice A4 x.lasts.length cap5) x.lasts bs6 [], iData (dSlice dInt) [.slice A1 kept.length cap1] kept, iOwnF d 68 [.slice A x.lasts.length cap, .map (some bm), .int .i64 x.left, .bool x.off], iMapF kInt bm (emap (fun s => av s) x.fresh), iAcF (dArr 256) (.slice A x.lasts.length cap) x.lasts] := hs273
            refine WL_at (L := [(10, .pointer (some ⟨b21, 0, none⟩)), (46, .int .i64 (max 0 (min cut 256)))]) ⟨(hk278 10 (by decide +kernel)), ((hg277 9 46 e291 rfl).trans (v288 e291)), trivial⟩ ?_
            refine S_sliceAr0 (e := max 0 (min cut 256)) Try.runUnderlying78 Try.sizeOf5 rfl rfl ⟨by omega, by omega⟩ rfl ?_
            have hs294 : Sep [] w0 (fun b => b ∈ F ∨ (D b ∧ b < w0.heap.size)) w272 [iAr b21 78 ((aget x.fresh torn).getD (List.replicate 256 (0 : UInt8))) [], iOwn b16 68 [.slice A4 x.lasts.length cap5, .map (some b13), .int .i64 (-1), .bool false] [], iMap kInt b13 (emap (fun s => av s) []) [], (bif dN 11 then (iAc (dArr 256) (.slice A4 x.lasts.length cap5) (List.set x.lasts (Int.toNat torn) (List.take (Int.toNat (max 0 (min cut 256))) ((aget x.fresh torn).getD (List.replicate 256 (0 : UInt8))) ++ List.drop (Int.toNat (max 0 (min cut 256))) (ix x.lasts torn))) bs6 []) else (iAc (dArr 256) (.slice A4 x.lasts.length cap5) x.lasts bs6 [])), iData (dSlice dInt) [.slice A1 kept.length cap1] kept, iOwnF d 68 [.slice A x.lasts.length cap, .map (some bm), .int .i64 x.left, .bool x.off], iMapF kInt bm (emap (fun s => av s) x.fresh), iAcF (dArr 256) (.slice A x.lasts.length cap) x.lasts] := by rw [e292]; exact hs293
            exact WL_nil ⟨rfl, _, rfl, hs294, v279, v280, v281, v282, v283, v284, v285, v286, v287, v288, (fun _ => rfl), v290, trivial⟩
          ·
            rintro dN vL g295 w296 ⟨hs297, v303, v304, v305, v306, v307, v308, v309, v310, v311, v312, v313, v314, _⟩ hD298 hd299 hu300 hg301 hk302
            have e315 : dN 6 = true := hd299 6 (by decide +kernel)
            have e316 : dN 10 = true := hd299 10 (by decide +kernel)
            have e317 : dN 11 = false := hD298
            rw [e317] at hs297
            have hs318 : Sep [] w0 (fun b => b ∈ F ∨ (D b ∧ b < w0.heap.size)) w296 [iAr b21 78 ((aget x.fresh torn).getD (List.replicate 256 (0 : UInt8))) [], iOwn b16 68 [.slice A4 x.lasts.length cap5, .map (some b13), .int .i64 (-1), .bool false] [], iMap kInt b13 (emap (fun s => av s) []) [], iAc (dArr 256) (.slice A4 x.lasts.length cap5) x.lasts bs6 [], iData (dSlice dInt) [.slice A1 kept.length cap1] kept, iOwnF d 68 [.slice A x.lasts.length cap, .map (some bm), .int .i64 x.left, .bool x.off], iMapF kInt bm (emap (fun s => av s) x.fresh), iAcF (dArr 256) (.slice A x.lasts.length cap) x.lasts] := hs297
            refine WL_at (L := [(43, .slice (some (eA A4 ((Int.toNat torn) * 256))) 256 256), (47, .slice (some ⟨b21, 0, none⟩) (Int.toNat (max 0 (min cut 256))) 256)]) ⟨((hg301 6 43 e315 rfl).trans (v309 e315)), ((hg301 10 47 e316 rfl).trans (v313 e316)), trivial⟩ ?_
            refine Z_copyRow (e := max 0 (min cut 256)) hs318 3 rfl (hs318.at 0 rfl) Try.runUnderlying47 Try.sizeOf5 rfl rfl rfl (show (0 : Int) ≤ torn from by omega) (show torn < ((x.lasts.length : Nat) : Int) from by omega) (getD_len ok torn) ⟨by omega, by omega⟩ rfl ?_
            intro w319 hs320
            have hs320 : Sep [] w0 (fun b => b ∈ F ∨ (D b ∧ b < w0.heap.size)) w319 [iAr b21 78 ((aget x.fresh torn).getD (List.replicate 256 (0 : UInt8))) [], iOwn b16 68 [.slice A4 x.lasts.length cap5, .map (some b13), .int .i64 (-1), .bool false] [], iMap kInt b13 (emap (fun s => av s) []) [], iAc (dArr 256) (.slice A4 x.lasts.length cap5) (List.set x.lasts (Int.toNat torn) (List.take (Int.toNat (max 0 (min cut 256))) ((aget x.fresh torn).getD (List.replicate 256 (0 : UInt8))) ++ List.drop (Int.toNat (max 0 (min cut 256))) (ix x.lasts torn))) bs6 [], iData (dSlice dInt) [.slice A1 kept.length cap1] kept, iOwnF d 68 [.slice A x.lasts.length cap, .map (some bm), .int .i64 x.left, .bool x.off], iMapF kInt bm (emap (fun s => av s) x.fresh), iAcF (dArr 256) (.slice A x.lasts.length cap) x.lasts] := hs320
            have hs321 : Sep [] w0 (fun b => b ∈ F ∨ (D b ∧ b < w0.heap.size)) w319 [iAr b21 78 ((aget x.fresh torn).getD (List.replicate 256 (0 : UInt8))) [], iOwn b16 68 [.slice A4 x.lasts.length cap5, .map (some b13), .int .i64 (-1), .bool false] [], iMap kInt b13 (emap (fun s => av s) []) [], iAc (dArr 256) (.slice A4 x.lasts.length cap5) (List.set x.lasts (Int.toNat torn) (List.take (Int.toNat (max 0 (min cut 256))) ((aget x.fresh torn).getD (List.replicate 256 (0 : UInt8))) ++ List.drop (Int.toNat (max 0 (min cut 256))) (ix x.lasts torn))) bs6 [], iData (dSlice dInt) [.slice A1 kept.length cap1] kept, iOwnF d 68 [.slice A x.lasts.length cap, .map (some bm), .int .i64 x.left, .bool x.off], iMapF kInt bm (emap (fun s => av s) x.fresh), iAcF (dArr 256) (.slice A x.lasts.length cap) x.lasts] := by exact hs320
            exact WL_nil ⟨rfl, _, rfl, hs321, v303, v304, v305, v306, v307, v308, v309, v310, v311, v312, v313, (fun _ => rfl), trivial⟩
        ·
          rintro dN vL g322 w323 ha325 ⟨hs324, v328, v329, v330, v331, v332, v333, v334, v335, v336, v337, v338, v339, _⟩ hg326 hk327
          rw [ha325 11 rfl] at hs324
          have hs340 : Sep [] w0 (fun b => b ∈ F ∨ (D b ∧ b < w0.heap.size)) w323 [iAr b21 78 ((aget x.fresh torn).getD (List.replicate 256 (0 : UInt8))) [], iOwn b16 68 [.slice A4 x.lasts.length cap5, .map (some b13), .int .i64 (-1), .bool false] [], iMap kInt b13 (emap (fun s => av s) []) [], iAc (dArr 256) (.slice A4 x.lasts.length cap5) (List.set x.lasts (Int.toNat torn) (List.take (Int.toNat (max 0 (min cut 256))) ((aget x.fresh torn).getD (List.replicate 256 (0 : UInt8))) ++ List.drop (Int.toNat (max 0 (min cut 256))) (ix x.lasts torn))) bs6 [], iData (dSlice dInt) [.slice A1 kept.length cap1] kept, iOwnF d 68 [.slice A x.lasts.length cap, .map (some bm), .int .i64 x.left, .bool x.off], iMapF kInt bm (emap (fun s => av s) x.fresh), iAcF (dArr 256) (.slice A x.lasts.length cap) x.lasts] := hs324
          refine ⟨[(0, .pointer (some ⟨d, 0, none⟩)), (3, .slice A1 kept.length cap1), (9, .pointer (some ⟨b16, 0, none⟩))], ⟨(hk327 0 rfl), (hk327 3 rfl), (hk327 9 rfl), trivial⟩, fun g341 => ?_⟩
          exact ⟨List.set x.lasts (Int.toNat torn) (List.take (Int.toNat (max 0 (min cut 256))) ((aget x.fresh torn).getD (List.replicate 256 (0 : UInt8))) ++ List.drop (Int.toNat (max 0 (min cut 256))) (ix x.lasts torn)), (by first | exact torn_some ‹_› | exact torn_none ‹_›), (hs340.pick [1, 2, 3, 4, 5, 6, 7] rfl (by decide) rfl), ⟨rfl, rfl, rfl, trivial⟩⟩
      ·
        have p342 := h27
        try simp only [lrn] at p342
        refine W_skip ?_
        exact ⟨x.lasts, (by first | exact torn_some ‹_› | exact torn_none ‹_›), (hs25.pick [1, 2, 3, 4, 5, 6, 7] rfl (by decide) rfl), ⟨rfl, rfl, rfl, trivial⟩⟩
    ·
      rintro f343 w19 ⟨l1, q346, hs344, hl345⟩
      refine W_live hl345 ?_
      intro g347
      refine W_seq ?_
      refine W_seq ?_
      refine W_region ?_
      refine S_move rfl ?_
      refine S_len Try.runUnderlying37 rfl rfl ?_
      refine S_move rfl ?_
      refine WL_nil ?_
      refine W_block ?_
      refine W_loopE (fun m f w => ∃ (i : Int) (l2 : List Str), m = ((kept.length : Int) - i).toNat ∧ (0 ≤ i) ∧ (i ≤ kept.length) ∧ (l2 = (kept.take i.toNat).foldl (keepStep x.fresh) (x.torn torn cut)) ∧ Sep [] w0 (fun b => b ∈ F ∨ (D b ∧ b < w0.heap.size)) w [iOwn b16 68 [.slice A4 x.lasts.length cap5, .map (some b13), .int .i64 (-1), .bool false] [], iMap kInt b13 (emap (fun s => av s) []) [], iAc (dArr 256) (.slice A4 x.lasts.length cap5) l2 bs6 [], iData (dSlice dInt) [.slice A1 kept.length cap1] kept, iOwnF d 68 [.slice A x.lasts.length cap, .map (some bm), .int .i64 x.left, .bool x.off], iMapF kInt bm (emap (fun s => av s) x.fresh), iAcF (dArr 256) (.slice A x.lasts.length cap) x.lasts] ∧ Live f [(0, .pointer (some ⟨d, 0, none⟩)), (9, .pointer (some ⟨b16, 0, none⟩)), (49, .slice A1 kept.length cap1), (50, .int .i64 (kept.length : Int)), (51, .int .i64 i)]) ?_ ?_
      · exact ⟨_, 0, _, rfl, (by omega), (by omega), (by rw [q346]; rfl), hs344, ⟨rfl, rfl, rfl, rfl, rfl, trivial⟩⟩
      ·
        rintro _ f350 w348 ⟨i, l2, rfl, q353, q354, q355, hs351, hl352⟩
        refine W_live hl352 ?_
        intro g356
        refine W_seq ?_
        refine W_region ?_
        refine S_lss rfl rfl rfl ?_
        refine WL_nil ?_
        refine W_seq ?_
        refine W_cond rfl (fun h357 => ?_) (fun h357 => ?_)
        ·
          have p358 := of_decide_eq_true h357
          refine W_skip ?_
          refine W_seq ?_
          refine W_block ?_
          refine W_seq ?_
          refine W_region ?_
          refine Z_index (hs351.at 3 rfl) Try.runUnderlying37 Try.sizeOf3 rfl rfl rfl (show (0 : Int) ≤ i from by omega) (show i < ((kept.length : Nat) : Int) from by omega) rfl ?_
          have o362 := cell_ix (q := (Int.toNat i) * 1) (sz := 1) (o := 0) (hs351.at 3 rfl) (Sub.self _) rfl (Nat.add_zero _).symm (show (0 : Int) ≤ i from by omega) (show i < ((kept.length : Nat) : Int) from by omega)
          obtain ⟨c359, hc360, hr361⟩ := o362
          obtain ⟨rfl, r363⟩ := hr361
          have ⟨r364, r365⟩ := r363
          refine Z_load Try.isAgg3 rfl hc360 rfl ?_
          refine S_assign rfl ?_
          refine WL_nil ?_
          refine W_seq ?_
          refine W_region ?_
          refine S_move rfl ?_
          refine S_nilCheck rfl rfl ?_
          refine S_fieldAddr Try.runUnderlying68 rfl Try.sizeOf66 rfl rfl ?_
          refine S_load1 Try.isAgg66 rfl (Own.at ((hs351.at 4 rfl)).2 rfl) rfl ?_
          refine S_move rfl ?_
          refine Z_lookupOk (z0 := (List.replicate 256 (0 : UInt8))) ((hs351.at 5 rfl)).2 Try.runUnderlying66 Try.runUnderlying3 Try.zeroValue78 zero78 rfl rfl rfl ?_
          refine S_move rfl ?_
          refine S_extract rfl rfl rfl ?_
          refine S_extract rfl rfl rfl ?_
          refine Z_allocAr hs351 Try.zeroValue78 zero78 rfl ?_
          intro b366 w367 hs368
          have hs368 : Sep [] w0 (fun b => b ∈ F ∨ (D b ∧ b < w0.heap.size)) w367 [iAr b366 78 (List.replicate 256 0) [], iOwn b16 68 [.slice A4 x.lasts.length cap5, .map (some b13), .int .i64 (-1), .bool false] [], iMap kInt b13 (emap (fun s => av s) []) [], iAc (dArr 256) (.slice A4 x.lasts.length cap5) l2 bs6 [], iData (dSlice dInt) [.slice A1 kept.length cap1] kept, iOwnF d 68 [.slice A x.lasts.length cap, .map (some bm), .int .i64 x.left, .bool x.off], iMapF kInt bm (emap (fun s => av s) x.fresh), iAcF (dArr 256) (.slice A x.lasts.length cap) x.lasts] := hs368
          refine Z_storeAr hs368 0 rfl Try.sizeOf78 rfl rfl List.length_replicate (getD_len ok (ix kept i)) ?_
          intro w369 hs370
          have hs370 : Sep [] w0 (fun b => b ∈ F ∨ (D b ∧ b < w0.heap.size)) w369 [iAr b366 78 ((aget x.fresh (ix kept i)).getD (List.replicate 256 (0 : UInt8))) [], iOwn b16 68 [.slice A4 x.lasts.length cap5, .map (some b13), .int .i64 (-1), .bool false] [], iMap kInt b13 (emap (fun s => av s) []) [], iAc (dArr 256) (.slice A4 x.lasts.length cap5) l2 bs6 [], iData (dSlice dInt) [.slice A1 kept.length cap1] kept, iOwnF d 68 [.slice A x.lasts.length cap, .map (some bm), .int .i64 x.left, .bool x.off], iMapF kInt bm (emap (fun s => av s) x.fresh), iAcF (dArr 256) (.slice A x.lasts.length cap) x.lasts] := hs370
          refine S_assign rfl ?_
          refine WL_nil ?_
          refine W_seq ?_
          refine W_live (L := [(0, .pointer (some ⟨d, 0, none⟩)), (9, .pointer (some ⟨b16, 0, none⟩)), (13, .int .i64 (ix kept i)), (14, .pointer (some ⟨b366, 0, none⟩)), (15, .bool (Option.isSome (aget x.fresh (ix kept i)))), (49, .slice A1 kept.length cap1), (50, .int .i64 (kept.length : Int)), (51, .int .i64 i)]) ⟨rfl, rfl, rfl, rfl, rfl, rfl, rfl, rfl, trivial⟩ ?_
          intro g371
          refine W_region ?_
          refine S_move rfl ?_
          refine WL_nil ?_
          refine W_cond rfl (fun h372 => ?_) (fun h372 => ?_)
          ·
            have p373 := h372
            try simp only [lrn] at p373
            have ⟨ht0, ht1⟩ := isSome_flen ok ‹(aget x.fresh (ix kept i)).isSome = true›
            refine W_live (L := [(0, .pointer (some ⟨d, 0, none⟩)), (9, .pointer (some ⟨b16, 0, none⟩)), (13, .int .i64 (ix kept i)), (14, .pointer (some ⟨b366, 0, none⟩)), (49, .slice A1 kept.length cap1), (50, .int .i64 (kept.length : Int)), (51, .int .i64 i)]) ⟨rfl, rfl, rfl, rfl, rfl, rfl, rfl, trivial⟩ ?_
            intro g374
            refine W_region_J (fun dN vL w => Sep [] w0 (fun b => b ∈ F ∨ (D b ∧ b < w0.heap.size)) w [iAr b366 78 ((aget x.fresh (ix kept i)).getD (List.replicate 256 (0 : UInt8))) [], iOwn b16 68 [.slice A4 x.lasts.length cap5, .map (some b13), .int .i64 (-1), .bool false] [], iMap kInt b13 (emap (fun s => av s) []) [], (bif dN 7 then (iAc (dArr 256) (.slice A4 x.lasts.length cap5) (List.set l2 (Int.toNat (ix kept i)) ((aget x.fresh (ix kept i)).getD (List.replicate 256 (0 : UInt8)))) bs6 []) else (iAc (dArr 256) (.slice A4 x.lasts.length cap5) l2 bs6 [])), iData (dSlice dInt) [.slice A1 kept.length cap1] kept, iOwnF d 68 [.slice A x.lasts.length cap, .map (some bm), .int .i64 x.left, .bool x.off], iMapF kInt bm (emap (fun s => av s) x.fresh), iAcF (dArr 256) (.slice A x.lasts.length cap) x.lasts] ∧ (dN 0 = true → vL 0 = .pointer (some ⟨b16, 0, none⟩)) ∧ (dN 1 = true → vL 1 = .pointer (some ⟨b16, 0, none⟩)) ∧ (dN 2 = true → vL 2 = .pointer (some ⟨b16, 0, none⟩)) ∧ (dN 3 = true → vL 3 = .slice A4 x.lasts.length cap5) ∧ (dN 4 = true → vL 4 = .int .i64 (ix kept i)) ∧ (dN 5 = true → vL 5 = av ((aget x.fresh (ix kept i)).getD (List.replicate 256 (0 : UInt8)))) ∧ (dN 6 = true → vL 6 = .pointer (some (eA A4 ((Int.toNat (ix kept i)) * 256)))) ∧ True) [65, 66, 67, 68, 69, 70, 71] rfl (by decide +kernel) _ rfl ?_ ?_ ?_
            · exact fun V => ⟨hs370, (fun h => by cases h), (fun h => by cases h), (fun h => by cases h), (fun h => by cases h), (fun h => by cases h), (fun h => by cases h), (fun h => by cases h), trivial⟩
            · refine (.cons ?_ (.cons ?_ (.cons ?_ (.cons ?_ (.cons ?_ (.cons ?_ (.cons ?_ (.cons ?_ .nil))))))))
              ·
                rintro dN vL g378 w379 ⟨hs380, v386, v387, v388, v389, v390, v391, v392, _⟩ hD381 hd382 hu383 hg384 hk385
                have e393 : dN 7 = false := hu383 7 (by decide +kernel)
                rw [e393] at hs380
                have hs394 : Sep [] w0 (fun b => b ∈ F ∨ (D b ∧ b < w0.heap.size)) w379 [iAr b366 78 ((aget x.fresh (ix kept i)).getD (List.replicate 256 (0 : UInt8))) [], iOwn b16 68 [.slice A4 x.lasts.length cap5, .map (some b13), .int .i64 (-1), .bool false] [], iMap kInt b13 (emap (fun s => av s) []) [], iAc (dArr 256) (.slice A4 x.lasts.length cap5) l2 bs6 [], iData (dSlice dInt) [.slice A1 kept.length cap1] kept, iOwnF d 68 [.slice A x.lasts.length cap, .map (some bm), .int .i64 x.left, .bool x.off], iMapF kInt bm (emap (fun s => av s) x.fresh), iAcF (dArr 256) (.slice A x.lasts.length cap) x.lasts] := hs380
                refine WL_at (L := [(9, .pointer (some ⟨b16, 0, none⟩))]) ⟨(hk385 9 (by decide +kernel)), trivial⟩ ?_
                refine S_move rfl ?_
                have hs395 : Sep [] w0 (fun b => b ∈ F ∨ (D b ∧ b < w0.heap.size)) w379 [iAr b366 78 ((aget x.fresh (ix kept i)).getD (List.replicate 256 (0 : UInt8))) [], iOwn b16 68 [.slice A4 x.lasts.length cap5, .map (some b13), .int .i64 (-1), .bool false] [], iMap kInt b13 (emap (fun s => av s) []) [], (bif dN 7 then (iAc (dArr 256) (.slice A4 x.lasts.length cap5) (List.set l2 (Int.toNat (ix kept i)) ((aget x.fresh (ix kept i)).getD (List.replicate 256 (0 : UInt8)))) bs6 []) else (iAc (dArr 256) (.slice A4 x.lasts.length cap5) l2 bs6 [])), iData (dSlice dInt) [.slice A1 kept.length cap1] kept, iOwnF d 68 [.slice A x.lasts.length cap, .map (some bm), .int .i64 x.left, .bool x.off], iMapF kInt bm (emap (fun s => av s) x.fresh), iAcF (dArr 256) (.slice A x.lasts.length cap) x.lasts] := by rw [e393]; exact hs394
                exact WL_nil ⟨rfl, _, rfl, hs395, (fun _ => rfl), v387, v388, v389, v390, v391, v392, trivial⟩
              ·
                rintro dN vL g396 w397 ⟨hs398, v404, v405, v406, v407, v408, v409, v410, _⟩ hD399 hd400 hu401 hg402 hk403
                have e411 : dN 0 = true := hd400 0 (by decide +kernel)
                have e412 : dN 7 = false := hu401 7 (by decide +kernel)
                rw [e412] at hs398
                have hs413 : Sep [] w0 (fun b => b ∈ F ∨ (D b ∧ b < w0.heap.size)) w397 [iAr b366 78 ((aget x.fresh (ix kept i)).getD (List.replicate 256 (0 : UInt8))) [], iOwn b16 68 [.slice A4 x.lasts.length cap5, .map (some b13), .int .i64 (-1), .bool false] [], iMap kInt b13 (emap (fun s => av s) []) [], iAc (dArr 256) (.slice A4 x.lasts.length cap5) l2 bs6 [], iData (dSlice dInt) [.slice A1 kept.length cap1] kept, iOwnF d 68 [.slice A x.lasts.length cap, .map (some bm), .int .i64 x.left, .bool x.off], iMapF kInt bm (emap (fun s => av s) x.fresh), iAcF (dArr 256) (.slice A x.lasts.length cap) x.lasts] := hs398
                refine WL_at (L := [(65, .pointer (some ⟨b16, 0, none⟩))]) ⟨((hg402 0 65 e411 rfl).trans (v404 e411)), trivial⟩ ?_
                refine S_nilCheck rfl rfl ?_
                have hs414 : Sep [] w0 (fun b => b ∈ F ∨ (D b ∧ b < w0.heap.size)) w397 [iAr b366 78 ((aget x.fresh (ix kept i)).getD (List.replicate 256 (0 : UInt8))) [], iOwn b16 68 [.slice A4 x.lasts.length cap5, .map (some b13), .int .i64 (-1), .bool false] [], iMap kInt b13 (emap (fun s => av s) []) [], (bif dN 7 then (iAc (dArr 256) (.slice A4 x.lasts.length cap5) (List.set l2 (Int.toNat (ix kept i)) ((aget x.fresh (ix kept i)).getD (List.replicate 256 (0 : UInt8)))) bs6 []) else (iAc (dArr 256) (.slice A4 x.lasts.length cap5) l2 bs6 [])), iData (dSlice dInt) [.slice A1 kept.length cap1] kept, iOwnF d 68 [.slice A x.lasts.length cap, .map (some bm), .int .i64 x.left, .bool x.off], iMapF kInt bm (emap (fun s => av s) x.fresh), iAcF (dArr 256) (.slice A x.lasts.length cap) x.lasts] := by rw [e412]; exact hs413
                exact WL_nil ⟨rfl, _, rfl, hs414, v404, (fun _ => rfl), v406, v407, v408, v409, v410, trivial⟩
              ·
                rintro dN vL g415 w416 ⟨hs417, v423, v424, v425, v426, v427, v428, v429, _⟩ hD418 hd419 hu420 hg421 hk422
                have e430 : dN 1 = true := hd419 1 (by decide +kernel)
                have e431 : dN 7 = false := hu420 7 (by decide +kernel)
                rw [e431] at hs417
                have hs432 : Sep [] w0 (fun b => b ∈ F ∨ (D b ∧ b < w0.heap.size)) w416 [iAr b366 78 ((aget x.fresh (ix kept i)).getD (List.replicate 256 (0 : UInt8))) [], iOwn b16 68 [.slice A4 x.lasts.length cap5, .map (some b13), .int .i64 (-1), .bool false] [], iMap kInt b13 (emap (fun s => av s) []) [], iAc (dArr 256) (.slice A4 x.lasts.length cap5) l2 bs6 [], iData (dSlice dInt) [.slice A1 kept.length cap1] kept, iOwnF d 68 [.slice A x.lasts.length cap, .map (some bm), .int .i64 x.left, .bool x.off], iMapF kInt bm (emap (fun s => av s) x.fresh), iAcF (dArr 256) (.slice A x.lasts.length cap) x.lasts] := hs417
                refine WL_at (L := [(66, .pointer (some ⟨b16, 0, none⟩))]) ⟨((hg421 1 66 e430 rfl).trans (v424 e430)), trivial⟩ ?_
                refine S_fieldAddr Try.runUnderlying68 rfl Try.sizeOf65 rfl rfl ?_
                have hs433 : Sep [] w0 (fun b => b ∈ F ∨ (D b ∧ b < w0.heap.size)) w416 [iAr b366 78 ((aget x.fresh (ix kept i)).getD (List.replicate 256 (0 : UInt8))) [], iOwn b16 68 [.slice A4 x.lasts.length cap5, .map (some b13), .int .i64 (-1), .bool false] [], iMap kInt b13 (emap (fun s => av s) []) [], (bif dN 7 then (iAc (dArr 256) (.slice A4 x.lasts.length cap5) (List.set l2 (Int.toNat (ix kept i)) ((aget x.fresh (ix kept i)).getD (List.replicate 256 (0 : UInt8)))) bs6 []) else (iAc (dArr 256) (.slice A4 x.lasts.length cap5) l2 bs6 [])), iData (dSlice dInt) [.slice A1 kept.length cap1] kept, iOwnF d 68 [.slice A x.lasts.length cap, .map (some bm), .int .i64 x.left, .bool x.off], iMapF kInt bm (emap (fun s => av s) x.fresh), iAcF (dArr 256) (.slice A x.lasts.length cap) x.lasts] := by rw [e431]; exact hs432
                exact WL_nil ⟨rfl, _, rfl, hs433, v423, v424, (fun _ => rfl), v426, v427, v428, v429, trivial⟩
              ·
                rintro dN vL g434 w435 ⟨hs436, v442, v443, v444, v445, v446, v447, v448, _⟩ hD437 hd438 hu439 hg440 hk441
                have e449 : dN 2 = true := hd438 2 (by decide +kernel)
                have e450 : dN 7 = false := hu439 7 (by decide +kernel)
                rw [e450] at hs436
                have hs451 : Sep [] w0 (fun b => b ∈ F ∨ (D b ∧ b < w0.heap.size)) w435 [iAr b366 78 ((aget x.fresh (ix kept i)).getD (List.replicate 256 (0 : UInt8))) [], iOwn b16 68 [.slice A4 x.lasts.length cap5, .map (some b13), .int .i64 (-1), .bool false] [], iMap kInt b13 (emap (fun s => av s) []) [], iAc (dArr 256) (.slice A4 x.lasts.length cap5) l2 bs6 [], iData (dSlice dInt) [.slice A1 kept.length cap1] kept, iOwnF d 68 [.slice A x.lasts.length cap, .map (some bm), .int .i64 x.left, .bool x.off], iMapF kInt bm (emap (fun s => av s) x.fresh), iAcF (dArr 256) (.slice A x.lasts.length cap) x.lasts] := hs436
                refine WL_at (L := [(67, .pointer (some ⟨b16, 0, none⟩))]) ⟨((hg440 2 67 e449 rfl).trans (v444 e449)), trivial⟩ ?_
                refine S_load1 Try.isAgg65 rfl (Own.at (hs451.at 1 rfl) rfl) rfl ?_
                have hs452 : Sep [] w0 (fun b => b ∈ F ∨ (D b ∧ b < w0.heap.size)) w435 [iAr b366 78 ((aget x.fresh (ix kept i)).getD (List.replicate 256 (0 : UInt8))) [], iOwn b16 68 [.slice A4 x.lasts.length cap5, .map (some b13), .int .i64 (-1), .bool false] [], iMap kInt b13 (emap (fun s => av s) []) [], (bif dN 7 then (iAc (dArr 256) (.slice A4 x.lasts.length cap5) (List.set l2 (Int.toNat (ix kept i)) ((aget x.fresh (ix kept i)).getD (List.replicate 256 (0 : UInt8)))) bs6 []) else (iAc (dArr 256) (.slice A4 x.lasts.length cap5) l2 bs6 [])), iData (dSlice dInt) [.slice A1 kept.length cap1] kept, iOwnF d 68 [.slice A x.lasts.length cap, .map (some bm), .int .i64 x.left, .bool x.off], iMapF kInt bm (emap (fun s => av s) x.fresh), iAcF (dArr 256) (.slice A x.lasts.length cap) x.lasts] := by rw [e450]; exact hs451
                exact WL_nil ⟨rfl, _, rfl, hs452, v442, v443, v444, (fun _ => rfl), v446, v447, v448, trivial⟩
              ·
                rintro dN vL g453 w454 ⟨hs455, v461, v462, v463, v464, v465, v466, v467, _⟩ hD456 hd457 hu458 hg459 hk460
                have e468 : dN 7 = false := hu458 7 (by decide +kernel)
                rw [e468] at hs455
                have hs469 : Sep [] w0 (fun b => b ∈ F ∨ (D b ∧ b < w0.heap.size)) w454 [iAr b366 78 ((aget x.fresh (ix kept i)).getD (List.replicate 256 (0 : UInt8))) [], iOwn b16 68 [.slice A4 x.lasts.length cap5, .map (some b13), .int .i64 (-1), .bool false] [], iMap kInt b13 (emap (fun s => av s) []) [], iAc (dArr 256) (.slice A4 x.lasts.length cap5) l2 bs6 [], iData (dSlice dInt) [.slice A1 kept.length cap1] kept, iOwnF d 68 [.slice A x.lasts.length cap, .map (some bm), .int .i64 x.left, .bool x.off], iMapF kInt bm (emap (fun s => av s) x.fresh), iAcF (dArr 256) (.slice A x.lasts.length cap) x.lasts] := hs455
                refine WL_at (L := [(13, .int .i64 (ix kept i))]) ⟨(hk460 13 (by decide +kernel)), trivial⟩ ?_
                refine S_move rfl ?_
                have hs470 : Sep [] w0 (fun b => b ∈ F ∨ (D b ∧ b < w0.heap.size)) w454 [iAr b366 78 ((aget x.fresh (ix kept i)).getD (List.replicate 256 (0 : UInt8))) [], iOwn b16 68 [.slice A4 x.lasts.length cap5, .map (some b13), .int .i64 (-1), .bool false] [], iMap kInt b13 (emap (fun s => av s) []) [], (bif dN 7 then (iAc (dArr 256) (.slice A4 x.lasts.length cap5) (List.set l2 (Int.toNat (ix kept i)) ((aget x.fresh (ix kept i)).getD (List.replicate 256 (0 : UInt8)))) bs6 []) else (iAc (dArr 256) (.slice A4 x.lasts.length cap5) l2 bs6 [])), iData (dSlice dInt) [.slice A1 kept.length cap1] kept, iOwnF d 68 [.slice A x.lasts.length cap, .map (some bm), .int .i64 x.left, .bool x.off], iMapF kInt bm (emap (fun s => av s) x.fresh), iAcF (dArr 256) (.slice A x.lasts.length cap) x.lasts] := by rw [e468]; exact hs469
                exact WL_nil ⟨rfl, _, rfl, hs470, v461, v462, v463, v464, (fun _ => rfl), v466, v467, trivial⟩
              ·
                rintro dN vL g471 w472 ⟨hs473, v479, v480, v481, v482, v483, v484, v485, _⟩ hD474 hd475 hu476 hg477 hk478
                have e486 : dN 7 = false := hu476 7 (by decide +kernel)
                rw [e486] at hs473
                have hs487 : Sep [] w0 (fun b => b ∈ F ∨ (D b ∧ b < w0.heap.size)) w472 [iAr b366 78 ((aget x.fresh (ix kept i)).getD (List.replicate 256 (0 : UInt8))) [], iOwn b16 68 [.slice A4 x.lasts.length cap5, .map (some b13), .int .i64 (-1), .bool false] [], iMap kInt b13 (emap (fun s => av s) []) [], iAc (dArr 256) (.slice A4 x.lasts.length cap5) l2 bs6 [], iData (dSlice dInt) [.slice A1 kept.length cap1] kept, iOwnF d 68 [.slice A x.lasts.length cap, .map (some bm), .int .i64 x.left, .bool x.off], iMapF kInt bm (emap (fun s => av s) x.fresh), iAcF (dArr 256) (.slice A x.lasts.length cap) x.lasts] := hs473
                refine WL_at (L := [(14, .pointer (some ⟨b366, 0, none⟩))]) ⟨(hk478 14 (by decide +kernel)), trivial⟩ ?_
                refine S_loadAr Try.isAgg78 Try.sizeOf78 (hs487.at 0 rfl) (getD_len ok (ix kept i)) rfl rfl ?_
                have hs488 : Sep [] w0 (fun b => b ∈ F ∨ (D b ∧ b < w0.heap.size)) w472 [iAr b366 78 ((aget x.fresh (ix kept i)).getD (List.replicate 256 (0 : UInt8))) [], iOwn b16 68 [.slice A4 x.lasts.length cap5, .map (some b13), .int .i64 (-1), .bool false] [], iMap kInt b13 (emap (fun s => av s) []) [], (bif dN 7 then (iAc (dArr 256) (.slice A4 x.lasts.length cap5) (List.set l2 (Int.toNat (ix kept i)) ((aget x.fresh (ix kept i)).getD (List.replicate 256 (0 : UInt8)))) bs6 []) else (iAc (dArr 256) (.slice A4 x.lasts.length cap5) l2 bs6 [])), iData (dSlice dInt) [.slice A1 kept.length cap1] kept, iOwnF d 68 [.slice A x.lasts.length cap, .map (some bm), .int .i64 x.left, .bool x.off], iMapF kInt bm (emap (fun s => av s) x.fresh), iAcF (dArr 256) (.slice A x.lasts.length cap) x.lasts] := by rw [e486]; exact hs487
                exact WL_nil ⟨rfl, _, rfl, hs488, v479, v480, v481, v482, v483, (fun _ => rfl), v485, trivial⟩
              ·
                rintro dN vL g489 w490 ⟨hs491, v497, v498, v499, v500, v501, v502, v503, _⟩ hD492 hd493 hu494 hg495 hk496
                have e504 : dN 3 = true := hd493 3 (by decide +kernel)
                have e505 : dN 4 = true := hd493 4 (by decide +kernel)
                have e506 : dN 7 = false := hu494 7 (by decide +kernel)
                rw [e506] at hs491
                have hs507 : Sep [] w0 (fun b => b ∈ F ∨ (D b ∧ b < w0.heap.size)) w490 [iAr b366 78 ((aget x.fresh (ix kept i)).getD (List.replicate 256 (0 : UInt8))) [], iOwn b16 68 [.slice A4 x.lasts.length cap5, .map (some b13), .int .i64 (-1), .bool false] [], iMap kInt b13 (emap (fun s => av s) []) [], iAc (dArr 256) (.slice A4 x.lasts.length cap5) l2 bs6 [], iData (dSlice dInt) [.slice A1 kept.length cap1] kept, iOwnF d 68 [.slice A x.lasts.length cap, .map (some bm), .int .i64 x.left, .bool x.off], iMapF kInt bm (emap (fun s => av s) x.fresh), iAcF (dArr 256) (.slice A x.lasts.length cap) x.lasts] := hs491
                refine WL_at (L := [(68, .slice A4 x.lasts.length cap5), (69, .int .i64 (ix kept i))]) ⟨((hg495 3 68 e504 rfl).trans (v500 e504)), ((hg495 4 69 e505 rfl).trans (v501 e505)), trivial⟩ ?_
                refine Z_indexAc (hs507.at 3 rfl) Try.runUnderlying65 Try.sizeOf78 rfl rfl (show (0 : Int) ≤ (ix kept i) from by omega) (show (ix kept i) < ((x.lasts.length : Nat) : Int) from by omega) rfl ?_
                have hs508 : Sep [] w0 (fun b => b ∈ F ∨ (D b ∧ b < w0.heap.size)) w490 [iAr b366 78 ((aget x.fresh (ix kept i)).getD (List.replicate 256 (0 : UInt8))) [], iOwn b16 68 [.slice A4 x.lasts.length cap5, .map (some b13), .int .i64 (-1), .bool false] [], iMap kInt b13 (emap (fun s => av s) []) [], (bif dN 7 then (iAc (dArr 256) (.slice A4 x.lasts.length cap5) (List.set l2 (Int.toNat (ix kept i)) ((aget x.fresh (ix kept i)).getD (List.replicate 256 (0 : UInt8)))) bs6 []) else (iAc (dArr 256) (.slice A4 x.lasts.length cap5) l2 bs6 [])), iData (dSlice dInt) [.slice A1 kept.length cap1] kept, iOwnF d 68 [.slice A x.lasts.length cap, .map (some bm), .int .i64 x.left, .bool x.off], iMapF kInt bm (emap (fun s => av s) x.fresh), iAcF (dArr 256) (.slice A x.lasts.length cap) x.lasts] := by rw [e506]; exact hs507
                exact WL_nil ⟨rfl, _, rfl, hs508, v497, v498, v499, v500, v501, v502, (fun _ => rfl), trivial⟩
              ·
                rintro dN vL g509 w510 ⟨hs511, v517, v518, v519, v520, v521, v522, v523, _⟩ hD512 hd513 hu514 hg515 hk516
                have e524 : dN 5 = true := hd513 5 (by decide +kernel)
                have e525 : dN 6 = true := hd513 6 (by decide +kernel)
                have e526 : dN 7 = false := hD512
                rw [e526] at hs511
                have hs527 : Sep [] w0 (fun b => b ∈ F ∨ (D b ∧ b < w0.heap.size)) w510 [iAr b366 78 ((aget x.fresh (ix kept i)).getD (List.replicate 256 (0 : UInt8))) [], iOwn b16 68 [.slice A4 x.lasts.length cap5, .map (some b13), .int .i64 (-1), .bool false] [], iMap kInt b13 (emap (fun s => av s) []) [], iAc (dArr 256) (.slice A4 x.lasts.length cap5) l2 bs6 [], iData (dSlice dInt) [.slice A1 kept.length cap1] kept, iOwnF d 68 [.slice A x.lasts.length cap, .map (some bm), .int .i64 x.left, .bool x.off], iMapF kInt bm (emap (fun s => av s) x.fresh), iAcF (dArr 256) (.slice A x.lasts.length cap) x.lasts] := hs511
                refine WL_at (L := [(70, av ((aget x.fresh (ix kept i)).getD (List.replicate 256 (0 : UInt8)))), (71, .pointer (some (eA A4 ((Int.toNat (ix kept i)) * 256))))]) ⟨((hg515 5 70 e524 rfl).trans (v522 e524)), ((hg515 6 71 e525 rfl).trans (v523 e525)), trivial⟩ ?_
                refine Z_storeEl (o := 0) (sz := 256) hs527 3 rfl Try.sizeOf78 rfl rfl (Nat.add_zero _).symm (av_cells _) (by rw [List.length_map]; exact (getD_len ok (ix kept i))) (show (0 : Int) ≤ (ix kept i) from by omega) (show (ix kept i) < ((x.lasts.length : Nat) : Int) from by omega) (fun c0 _ hc => dArr_splice (getD_len ok (ix kept i)) c0 hc) (bv_plain _) ?_
                intro w528 hs529
                have hs529 : Sep [] w0 (fun b => b ∈ F ∨ (D b ∧ b < w0.heap.size)) w528 [iAr b366 78 ((aget x.fresh (ix kept i)).getD (List.replicate 256 (0 : UInt8))) [], iOwn b16 68 [.slice A4 x.lasts.length cap5, .map (some b13), .int .i64 (-1), .bool false] [], iMap kInt b13 (emap (fun s => av s) []) [], iAc (dArr 256) (.slice A4 x.lasts.length cap5) (List.set l2 (Int.toNat (ix kept i)) ((aget x.fresh (ix kept i)).getD (List.replicate 256 (0 : UInt8)))) bs6 [], iData (dSlice dInt) [.slice A1 kept.length cap1] kept, iOwnF d 68 [.slice A x.lasts.length cap, .map (some bm), .int .i64 x.left, .bool x.off], iMapF kInt bm (emap (fun s => av s) x.fresh), iAcF (dArr 256) (.slice A x.lasts.length cap) x.lasts] := hs529
                have hs530 : Sep [] w0 (fun b => b ∈ F ∨ (D b ∧ b < w0.heap.size)) w528 [iAr b366 78 ((aget x.fresh (ix kept i)).getD (List.replicate 256 (0 : UInt8))) [], iOwn b16 68 [.slice A4 x.lasts.length cap5, .map (some b13), .int .i64 (-1), .bool false] [], iMap kInt b13 (emap (fun s => av s) []) [], iAc (dArr 256) (.slice A4 x.lasts.length cap5) (List.set l2 (Int.toNat (ix kept i)) ((aget x.fresh (ix kept i)).getD (List.replicate 256 (0 : UInt8)))) bs6 [], iData (dSlice dInt) [.slice A1 kept.length cap1] kept, iOwnF d 68 [.slice A x.lasts.length cap, .map (some bm), .int .i64 x.left, .bool x.off], iMapF kInt bm (emap (fun s => av s) x.fresh), iAcF (dArr 256) (.slice A x.lasts.length cap) x.lasts] := by exact hs529
                exact WL_nil ⟨rfl, undef, rfl, hs530, v517, v518, v519, v520, v521, v522, v523, trivial⟩
            ·
              rintro dN vL g531 w532 ha534 ⟨hs533, v537, v538, v539, v540, v541, v542, v543, _⟩ hg535 hk536
              rw [ha534 7 rfl] at hs533
              have hs544 : Sep [] w0 (fun b => b ∈ F ∨ (D b ∧ b < w0.heap.size)) w532 [iAr b366 78 ((aget x.fresh (ix kept i)).getD (List.replicate 256 (0 : UInt8))) [], iOwn b16 68 [.slice A4 x.lasts.length cap5, .map (some b13), .int .i64 (-1), .bool false] [], iMap kInt b13 (emap (fun s => av s) []) [], iAc (dArr 256) (.slice A4 x.lasts.length cap5) (List.set l2 (Int.toNat (ix kept i)) ((aget x.fresh (ix kept i)).getD (List.replicate 256 (0 : UInt8)))) bs6 [], iData (dSlice dInt) [.slice A1 kept.length cap1] kept, iOwnF d 68 [.slice A x.lasts.length cap, .map (some bm), .int .i64 x.left, .bool x.off], iMapF kInt bm (emap (fun s => av s) x.fresh), iAcF (dArr 256) (.slice A x.lasts.length cap) x.lasts] := hs533
              refine ⟨[(0, .pointer (some ⟨d, 0, none⟩)), (9, .pointer (some ⟨b16, 0, none⟩)), (49, .slice A1 kept.length cap1), (50, .int .i64 (kept.length : Int)), (51, .int .i64 i)], ⟨(hk536 0 rfl), (hk536 9 rfl), (hk536 49 rfl), (hk536 50 rfl), (hk536 51 rfl), trivial⟩, fun g545 => ?_⟩
              refine W_region ?_
              refine S_add rfl rfl (by omega) rfl ?_
              refine S_move rfl ?_
              refine WL_nil ?_
              exact ⟨_, (by omega), i + 1, List.set l2 (Int.toNat (ix kept i)) ((aget x.fresh (ix kept i)).getD (List.replicate 256 (0 : UInt8))), rfl, (by omega), (by omega), (by first | exact keep_some q355 (by omega) (by omega) ‹_› | exact keep_none q355 (by omega) (by omega) ‹_›), (hs544.pick [1, 2, 3, 4, 5, 6, 7] rfl (by decide) rfl), ⟨rfl, rfl, rfl, rfl, rfl, trivial⟩⟩
          ·
            have p546 := h372
            try simp only [lrn] at p546
            refine W_skip ?_
            refine W_region ?_
            refine S_add rfl rfl (by omega) rfl ?_
            refine S_move rfl ?_
            refine WL_nil ?_
            exact ⟨_, (by omega), i + 1, l2, rfl, (by omega), (by omega), (by first | exact keep_some q355 (by omega) (by omega) ‹_› | exact keep_none q355 (by omega) (by omega) ‹_›), (hs370.pick [1, 2, 3, 4, 5, 6, 7] rfl (by decide) rfl), ⟨rfl, rfl, rfl, rfl, rfl, trivial⟩⟩
        ·
          have p547 := of_decide_eq_false h357
          refine W_exit ?_
          refine W_seq ?_
          refine W_region ?_
          refine S_move rfl ?_
          refine S_assign rfl ?_
          refine WL_nil ?_
          refine W_ret ?_
          show ∃ d2 F2, (Value.pointer (some ⟨b16, 0, none⟩)) = .pointer (some ⟨d2, 0, none⟩) ∧ DkIs d2 w348 (x.crash torn cut kept) F2 ∧ Ext [] w0 w348 ∧ ∀ b ∈ F2, w0.heap.size ≤ b
          have ⟨hc, ht⟩ := (DkIs.close (hs351.pick [0, 1, 2] rfl (by decide) rfl) (Ac.bs1 ((hs351.pick [0, 1, 2] rfl (by decide) rfl).at 2 rfl)))
          have e : l2 = (x.crash torn cut kept).lasts := by rw [q355, List.take_of_length_le (by omega)]; rfl
          subst e
          exact ⟨_, _, rfl, hc, ht.1, fun b hb => (ht.2 b hb).elim (fun h => by cases h) id⟩
end Go.Proofs.Ytdgcgifigkfeaaa
