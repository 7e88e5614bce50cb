/- Disks: walks, printed by program, and their plain law. -/
import Derived.Test.YtdgcgifigkfeaaaA1
namespace Go.Proofs.Ytdgcgifigkfeaaa
open Go Go.Wk Go.Wl Classical
theorem limit_ok {w0 : World} {d : Nat} {x : Dk} {F : List Nat} (h : DkIs d w0 x F) (ok : x.Ok) (n : Int) :
    CallR Try.prog 27 [.pointer (some ⟨d, 0, none⟩), .int .i64 n] w0 (fun _ w' => ∃ F', DkIs d w' (x.limit n) F' ∧ Turn w0 w' F F') := by
  obtain ⟨A, cap, bm, bs, eF, hs0⟩ := h.sep (Z := fun _ => False) (fun _ h => h.elim) (fun _ _ h => h)
  have ⟨hp, hm, hl, hfl, ⟨hi1, hi2⟩, hky⟩ := ok
  refine Call0 Try.func27 rfl rfl rfl rfl ?_
  refine W_seq ?_
  refine W_region ?_
  refine S_move rfl ?_
  refine S_neqP Try.runUnderlying23 rfl rfl ?_
  refine WL_nil ?_
  refine W_cond_true rfl ?_
  refine W_region ?_
  refine S_move rfl ?_
  refine S_move rfl ?_
  refine S_max rfl rfl rfl ?_
  refine S_nilCheck rfl rfl ?_
  refine S_fieldAddr Try.runUnderlying68 rfl Try.sizeOf3 rfl rfl ?_
  refine Z_store hs0 0 rfl Try.sizeOf3 rfl rfl rfl (Nat.le_of_ble_eq_true rfl) rfl ?_
  intro w1 hs2
  have hs2 : Sep F w0 (fun _ => False) w1 [iOwn d 68 [.slice A x.lasts.length cap, .map (some bm), .int .i64 (max n (-1)), .bool x.off] [d], iMap kInt bm (emap (fun s => av s) x.fresh) [bm], iAc (dArr 256) (.slice A x.lasts.length cap) x.lasts bs bs] := hs2
  refine WL_nil ?_
  show ∃ F', DkIs d w1 (x.limit n) F' ∧ Turn w0 w1 F F'
  exact ⟨_, DkIs.close hs2 (Ac.bs1 (hs2.at 2 rfl))⟩
theorem limit_nil {w0 : World} (n : Int) :
    CallR Try.prog 27 [.pointer none, .int .i64 n] w0 (fun _ w' => w' = w0) := by
  refine Call0 Try.func27 rfl rfl rfl rfl ?_
  refine W_seq ?_
  refine W_region ?_
  refine S_move rfl ?_
  refine S_neqP0 Try.runUnderlying23 rfl rfl ?_
  refine WL_nil ?_
  refine W_cond_false rfl ?_
  refine W_skip ?_
  show w0 = w0
  rfl
theorem read_ok {w0 : World} {d : Nat} {x : Dk} {F : List Nat} (h : DkIs d w0 x F) (ok : x.Ok) (at_ : Int) :
    CallR Try.prog 20 [.pointer (some ⟨d, 0, none⟩), .int .i64 at_] w0 (fun v w' => ∃ A cap bs, v = .tuple #[.slice A (x.read at_).1.length cap, errv 64 (x.read at_).2] ∧ Ac dByte (fun b => b ∈ F) w' (.slice A (x.read at_).1.length cap) (x.read at_).1 bs ∧ Ext [] w0 w' ∧ ∀ b ∈ bs, w0.heap.size ≤ b) := by
  obtain ⟨A, cap, bm, hs0⟩ := h.fix
  have ⟨hp, hm, hl, hfl, ⟨hi1, hi2⟩, hky⟩ := ok
  refine Call2 Try.func20 rfl rfl rfl rfl ?_
  refine W_seq ?_
  refine W_region ?_
  refine S_assign rfl ?_
  refine S_assign rfl ?_
  refine WL_nil ?_
  refine W_seq ?_
  refine W_seq ?_
  refine W_region ?_
  refine S_move rfl ?_
  refine S_move rfl ?_
  refine S_callQ Try.call36 rfl (wrong_ok h ok at_) rfl ?_
  refine WL_nil ?_
  refine W_block ?_
  refine W_seq ?_
  refine W_region ?_
  refine S_eql rfl rfl rfl ?_
  refine S_assign rfl ?_
  refine WL_nil ?_
  refine W_cond rfl (fun h1 => ?_) (fun h1 => ?_)
  ·
    have p2 := of_decide_eq_true h1
    exfalso; simp only [Dk.wrong] at *; split at * <;> omega
  ·
    have p3 := of_decide_eq_false h1
    refine W_seq ?_
    refine W_region ?_
    refine S_eql rfl rfl rfl ?_
    refine S_assign rfl ?_
    refine WL_nil ?_
    refine W_cond rfl (fun h4 => ?_) (fun h4 => ?_)
    ·
      have p5 := of_decide_eq_true h4
      refine W_seq ?_
      refine W_region ?_
      refine S_makeI Try.runUnderlying64 rfl rfl rfl ?_
      refine S_assign rfl ?_
      refine S_assign rfl ?_
      refine WL_nil ?_
      refine W_ret ?_
      show ∃ A cap bs, (Value.tuple #[.slice none 0 0, .iface 64 (.int .i64 3)]) = .tuple #[.slice A (x.read at_).1.length cap, errv 64 (x.read at_).2] ∧ Ac dByte (fun b => b ∈ F) w0 (.slice A (x.read at_).1.length cap) (x.read at_).1 bs ∧ Ext [] w0 w0 ∧ ∀ b ∈ bs, w0.heap.size ≤ b
      exact ⟨none, 0, [], by rw [Dk.read, if_pos (by assumption)]; show Value.tuple #[_, _] = Value.tuple #[_, errv _ 3]; rw [← errv_ne (by decide)]; rfl, by rw [Dk.read, if_pos (by assumption)]; exact Ac.nil, Ext.refl _ _, fun _ h => by cases h⟩
    ·
      have p6 := of_decide_eq_false h4
      refine W_skip ?_
      refine W_seq ?_
      refine W_seq ?_
      refine W_region ?_
      refine S_move rfl ?_
      refine S_nilCheck rfl rfl ?_
      refine S_fieldAddr Try.runUnderlying68 rfl Try.sizeOf4 rfl rfl ?_
      refine S_load1 Try.isAgg4 rfl (Own.at ((hs0.at 0 rfl)).2 rfl) rfl ?_
      refine WL_nil ?_
      refine W_cond rfl (fun h7 => ?_) (fun h7 => ?_)
      ·
        have p8 := h7
        try simp only [lrn] at p8
        refine W_seq ?_
        refine W_live (L := []) trivial ?_
        intro g9
        refine W_region ?_
        refine S_makeI Try.runUnderlying64 rfl rfl rfl ?_
        refine S_assign rfl ?_
        refine S_assign rfl ?_
        refine WL_nil ?_
        refine W_ret ?_
        show ∃ A cap bs, (Value.tuple #[.slice none 0 0, .iface 64 (.int .i64 9)]) = .tuple #[.slice A (x.read at_).1.length cap, errv 64 (x.read at_).2] ∧ Ac dByte (fun b => b ∈ F) w0 (.slice A (x.read at_).1.length cap) (x.read at_).1 bs ∧ Ext [] w0 w0 ∧ ∀ b ∈ bs, w0.heap.size ≤ b
        exact ⟨none, 0, [], by rw [Dk.read, if_neg (by assumption), if_pos (by assumption)]; show Value.tuple #[_, _] = Value.tuple #[_, errv _ 9]; rw [← errv_ne (by decide)]; rfl, by rw [Dk.read, if_neg (by assumption), if_pos (by assumption)]; exact Ac.nil, Ext.refl _ _, fun _ h => by cases h⟩
      ·
        have p10 := h7
        try simp only [lrn] at p10
        refine W_skip ?_
        refine W_seq ?_
        refine W_live (L := [(0, .pointer (some ⟨d, 0, none⟩)), (1, .int .i64 at_)]) ⟨rfl, rfl, trivial⟩ ?_
        intro g11
        refine W_region ?_
        refine S_move rfl ?_
        refine S_nilCheck rfl rfl ?_
        refine S_fieldAddr Try.runUnderlying68 rfl Try.sizeOf66 rfl rfl ?_
        refine S_load1 Try.isAgg66 rfl (Own.at ((hs0.at 0 rfl)).2 rfl) rfl ?_
        refine S_move rfl ?_
        refine Z_lookupOk (z0 := (List.replicate 256 (0 : UInt8))) ((hs0.at 1 rfl)).2 Try.runUnderlying66 Try.runUnderlying3 Try.zeroValue78 zero78 rfl rfl rfl ?_
        refine S_move rfl ?_
        refine S_extract rfl rfl rfl ?_
        refine S_extract rfl rfl rfl ?_
        refine Z_allocAr hs0 Try.zeroValue78 zero78 rfl ?_
        intro b12 w13 hs14
        have hs14 : Sep [] w0 (fun b => b ∈ F) w13 [iAr b12 78 (List.replicate 256 0) [], iOwnF d 68 [.slice A x.lasts.length cap, .map (some bm), .int .i64 x.left, .bool x.off], iMapF kInt bm (emap (fun s => av s) x.fresh), iAcF (dArr 256) (.slice A x.lasts.length cap) x.lasts] := hs14
        refine Z_storeAr hs14 0 rfl Try.sizeOf78 rfl rfl List.length_replicate (getD_len ok at_) ?_
        intro w15 hs16
        have hs16 : Sep [] w0 (fun b => b ∈ F) w15 [iAr b12 78 ((aget x.fresh at_).getD (List.replicate 256 (0 : UInt8))) [], iOwnF d 68 [.slice A x.lasts.length cap, .map (some bm), .int .i64 x.left, .bool x.off], iMapF kInt bm (emap (fun s => av s) x.fresh), iAcF (dArr 256) (.slice A x.lasts.length cap) x.lasts] := hs16
        refine S_assign rfl ?_
        refine WL_nil ?_
        refine W_seq ?_
        refine W_seq ?_
        refine W_live (L := [(0, .pointer (some ⟨d, 0, none⟩)), (1, .int .i64 at_), (6, .pointer (some ⟨b12, 0, none⟩)), (7, .bool (Option.isSome (aget x.fresh at_)))]) ⟨rfl, rfl, rfl, rfl, trivial⟩ ?_
        intro g17
        refine W_region ?_
        refine S_move rfl ?_
        refine S_not rfl rfl ?_
        refine WL_nil ?_
        refine W_cond rfl (fun h18 => ?_) (fun h18 => ?_)
        ·
          have h19 := h18
          simp only [lrnN] at h19
          have p20 := h19
          try simp only [lrn] at p20
          refine W_region ?_
          refine S_move rfl ?_
          refine S_nilCheck rfl rfl ?_
          refine S_fieldAddr Try.runUnderlying68 rfl Try.sizeOf65 rfl rfl ?_
          refine S_load1 Try.isAgg65 rfl (Own.at ((hs16.at 1 rfl)).2 rfl) rfl ?_
          refine S_move rfl ?_
          refine Z_indexAc ((hs16.at 3 rfl)).choose_spec.2 Try.runUnderlying65 Try.sizeOf78 rfl rfl (show (0 : Int) ≤ at_ from by simp only [Dk.wrong] at *; omega) (show at_ < ((x.lasts.length : Nat) : Int) from by simp only [Dk.wrong] at *; omega) rfl ?_
          have o24 := cell_ac (q := (Int.toNat at_) * 256) (sz := 256) (o := 0) ((hs16.at 3 rfl)).choose_spec.2 (Sub.self _) rfl (Nat.add_zero _).symm (show (0 : Int) ≤ at_ from by simp only [Dk.wrong] at *; omega) (show at_ < ((x.lasts.length : Nat) : Int) from by simp only [Dk.wrong] at *; omega)
          obtain ⟨c21, hc22, hr23⟩ := o24
          obtain ⟨rfl, r25⟩ := hr23
          refine Z_loadAgg Try.isAgg78 Try.sizeOf78 (by simp [r25]) rfl hc22 rfl ?_
          refine Z_storeAr hs16 0 rfl Try.sizeOf78 rfl rfl (getD_len ok at_) r25 ?_
          intro w26 hs27
          have hs27 : Sep [] w0 (fun b => b ∈ F) w26 [iAr b12 78 (ix x.lasts at_) [], iOwnF d 68 [.slice A x.lasts.length cap, .map (some bm), .int .i64 x.left, .bool x.off], iMapF kInt bm (emap (fun s => av s) x.fresh), iAcF (dArr 256) (.slice A x.lasts.length cap) x.lasts] := hs27
          refine WL_nil ?_
          refine W_seq ?_
          refine W_region ?_
          refine S_sliceAr0 (e := (256 : Nat)) Try.runUnderlying78 Try.sizeOf5 rfl rfl ⟨by omega, by omega⟩ rfl ?_
          have hs28 : Sep [] w0 (fun b => b ∈ F) w26 [iAc dByte (.slice (some ⟨b12, 0, none⟩) 256 256) (ix x.lasts at_) [b12] [], iOwnF d 68 [.slice A x.lasts.length cap, .map (some bm), .int .i64 x.left, .bool x.off], iMapF kInt bm (emap (fun s => av s) x.fresh), iAcF (dArr 256) (.slice A x.lasts.length cap) x.lasts] := hs27.arAc 0 rfl r25
          refine S_assign rfl ?_
          refine S_assign rfl ?_
          refine WL_nil ?_
          refine W_ret ?_
          show ∃ A cap bs, (Value.tuple #[.slice (some ⟨b12, 0, none⟩) 256 256, .nilIface]) = .tuple #[.slice A (x.read at_).1.length cap, errv 64 (x.read at_).2] ∧ Ac dByte (fun b => b ∈ F) w26 (.slice A (x.read at_).1.length cap) (x.read at_).1 bs ∧ Ext [] w0 w26 ∧ ∀ b ∈ bs, w0.heap.size ≤ b
          have ha := hs28.at 0 rfl
          have hl := Ac.len ha
          have e : x.read at_ = ((ix x.lasts at_), 0) := read_fine ‹_› ‹_› (by assumption)
          rw [e]
          exact ⟨_, _, _, by rw [hl, ← errv_0], by rw [hl]; exact ha, hs28.ext, fun b hb => (hs28.org 0 rfl b hb).elim (fun h => by cases h) id⟩
        ·
          have h29 := h18
          simp only [lrnN] at h29
          have p30 := h29
          try simp only [lrn] at p30
          refine W_skip ?_
          refine W_seq ?_
          refine W_region ?_
          refine S_sliceAr0 (e := (256 : Nat)) Try.runUnderlying78 Try.sizeOf5 rfl rfl ⟨by omega, by omega⟩ rfl ?_
          have hs31 : Sep [] w0 (fun b => b ∈ F) w15 [iAc dByte (.slice (some ⟨b12, 0, none⟩) 256 256) ((aget x.fresh at_).getD (List.replicate 256 (0 : UInt8))) [b12] [], iOwnF d 68 [.slice A x.lasts.length cap, .map (some bm), .int .i64 x.left, .bool x.off], iMapF kInt bm (emap (fun s => av s) x.fresh), iAcF (dArr 256) (.slice A x.lasts.length cap) x.lasts] := hs16.arAc 0 rfl (getD_len ok at_)
          refine S_assign rfl ?_
          refine S_assign rfl ?_
          refine WL_nil ?_
          refine W_ret ?_
          show ∃ A cap bs, (Value.tuple #[.slice (some ⟨b12, 0, none⟩) 256 256, .nilIface]) = .tuple #[.slice A (x.read at_).1.length cap, errv 64 (x.read at_).2] ∧ Ac dByte (fun b => b ∈ F) w15 (.slice A (x.read at_).1.length cap) (x.read at_).1 bs ∧ Ext [] w0 w15 ∧ ∀ b ∈ bs, w0.heap.size ≤ b
          have ha := hs31.at 0 rfl
          have hl := Ac.len ha
          have e : x.read at_ = (((aget x.fresh at_).getD (List.replicate 256 (0 : UInt8))), 0) := read_fine ‹_› ‹_› (by assumption)
          rw [e]
          exact ⟨_, _, _, by rw [hl, ← errv_0], by rw [hl]; exact ha, hs31.ext, fun b hb => (hs31.org 0 rfl b hb).elim (fun h => by cases h) id⟩
end Go.Proofs.Ytdgcgifigkfeaaa
