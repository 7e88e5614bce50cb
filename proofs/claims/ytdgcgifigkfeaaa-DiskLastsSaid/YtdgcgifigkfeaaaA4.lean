/- Disks: walks, printed by program, and their plain law. -/
import Derived.Test.YtdgcgifigkfeaaaA3
namespace Go.Proofs.Ytdgcgifigkfeaaa
open Go Go.Wk Go.Wl Classical
theorem write_nil {w0 : World} {A : Option Addr} {cap nn : Nat} (at_ : Int) :
    CallR Try.prog 25 [.pointer none, .int .i64 at_, .slice A nn cap] w0 (fun v w' => v = .iface 64 (.int .i64 1) ∧ w' = w0) := by
  refine Call1 Try.func25 rfl rfl rfl rfl ?_
  refine W_seq ?_
  refine W_region ?_
  refine S_assign rfl ?_
  refine WL_nil ?_
  refine W_seq ?_
  refine W_region ?_
  refine S_move rfl ?_
  refine S_move rfl ?_
  refine S_callQ Try.call36 rfl (wrong_nil at_) rfl ?_
  refine S_assign rfl ?_
  refine WL_nil ?_
  refine W_seq ?_
  refine W_seq ?_
  refine W_region ?_
  refine S_move rfl ?_
  refine S_neq rfl rfl rfl ?_
  refine S_move rfl ?_
  refine WL_split (dj := 14) rfl (fun h1 => ?_) (fun h1 => ?_)
  ·
    have p2 := of_decide_eq_true h1
    exfalso; omega
  ·
    have p3 := of_decide_eq_false h1
    refine WL_off rfl rfl rfl (bF h1) ?_
    refine WL_off rfl rfl rfl (bF h1) ?_
    refine WL_off rfl rfl rfl (bF h1) ?_
    refine S_pick_f (bF h1) rfl ?_
    refine WL_nil ?_
    refine W_cond_false rfl ?_
    refine W_skip ?_
    refine W_seq ?_
    refine W_seq ?_
    refine W_live (L := [(0, .pointer none), (1, .int .i64 at_), (2, .slice A nn cap), (7, .int .i64 1)]) ⟨rfl, rfl, rfl, rfl, trivial⟩ ?_
    intro g4
    refine W_region ?_
    refine S_move rfl ?_
    refine S_move rfl ?_
    refine S_callQ Try.call37 rfl act_nil rfl ?_
    refine S_assign rfl ?_
    refine WL_nil ?_
    refine W_seq ?_
    refine W_region ?_
    refine S_move rfl ?_
    refine S_neqN Try.runUnderlying25 rfl rfl ?_
    refine WL_nil ?_
    refine W_cond_true rfl ?_
    refine W_seq ?_
    refine W_region ?_
    refine S_move rfl ?_
    refine S_assign rfl ?_
    refine WL_nil ?_
    refine W_ret ?_
    show (Value.iface 64 (.int .i64 1)) = .iface 64 (.int .i64 1) ∧ w0 = w0
    exact ⟨rfl, rfl⟩
theorem read_nil {w0 : World} (at_ : Int) :
    CallR Try.prog 20 [.pointer none, .int .i64 at_] w0 (fun v w' => v = .tuple #[.slice none 0 0, .iface 64 (.int .i64 1)] ∧ w' = w0) := by
  refine Call2 Try.func20 rfl rfl rfl rfl ?_
  refine W_seq ?_
  refine W_region ?_
  refine S_assign rfl ?_
  refine S_assign rfl ?_
  refine WL_nil ?_
  refine W_seq ?_
  refine W_seq ?_
  refine W_region ?_
  refine S_move rfl ?_
  refine S_move rfl ?_
  refine S_callQ Try.call36 rfl (wrong_nil at_) rfl ?_
  refine WL_nil ?_
  refine W_block ?_
  refine W_seq ?_
  refine W_region ?_
  refine S_eql rfl rfl rfl ?_
  refine S_assign rfl ?_
  refine WL_nil ?_
  refine W_cond rfl (fun h1 => ?_) (fun h1 => ?_)
  ·
    have p2 := of_decide_eq_true h1
    refine W_seq ?_
    refine W_region ?_
    refine S_makeI Try.runUnderlying64 rfl rfl rfl ?_
    refine S_assign rfl ?_
    refine S_assign rfl ?_
    refine WL_nil ?_
    refine W_ret ?_
    show (Value.tuple #[.slice none 0 0, .iface 64 (.int .i64 1)]) = .tuple #[.slice none 0 0, .iface 64 (.int .i64 1)] ∧ w0 = w0
    exact ⟨rfl, rfl⟩
  ·
    have p3 := of_decide_eq_false h1
    exfalso; omega
theorem crash_nil {w0 : World} {A : Option Addr} {cap nn : Nat} (torn cut : Int) :
    CallR Try.prog 24 [.pointer none, .int .i64 torn, .int .i64 cut, .slice A nn cap] w0 (fun v w' => v = .pointer none ∧ w' = w0) := by
  refine Call1 Try.func24 rfl rfl rfl rfl ?_
  refine W_seq ?_
  refine W_region ?_
  refine S_assign rfl ?_
  refine WL_nil ?_
  refine W_seq ?_
  refine W_seq ?_
  refine W_region ?_
  refine S_move rfl ?_
  refine S_callQ Try.call16 rfl (size_nil) rfl ?_
  refine S_eql rfl rfl rfl ?_
  refine WL_nil ?_
  refine W_cond rfl (fun h1 => ?_) (fun h1 => ?_)
  ·
    have p2 := of_decide_eq_true h1
    refine W_seq ?_
    refine W_region ?_
    refine S_assign rfl ?_
    refine WL_nil ?_
    refine W_ret ?_
    show (Value.pointer none) = .pointer none ∧ w0 = w0
    exact ⟨rfl, rfl⟩
  ·
    have p3 := of_decide_eq_false h1
    exfalso; omega
theorem dirty_ok {w0 : World} {d : Nat} {x : Dk} {F : List Nat} (h : DkIs d w0 x F) (ok : x.Ok) :
    CallR Try.prog 18 [.pointer (some ⟨d, 0, none⟩)] w0 (fun v w' => ∃ A cap bs, v = .slice A x.dirty.length cap ∧ Ac dInt (fun _ => False) w' (.slice A x.dirty.length cap) x.dirty bs ∧ Ext [] w0 w' ∧ ∀ b ∈ bs, w0.heap.size ≤ b) := by
  obtain ⟨A, cap, bm, hs0⟩ := h.fix
  have ⟨hp, hm, hl, hfl, ⟨hi1, hi2⟩, hky⟩ := ok
  refine Call1 Try.func18 rfl rfl rfl rfl ?_
  refine W_seq ?_
  refine W_region ?_
  refine S_assign rfl ?_
  refine WL_nil ?_
  refine W_seq ?_
  refine W_region ?_
  refine S_assign rfl ?_
  have hs1 : Sep [] w0 (fun b => b ∈ F) w0 [iAc dInt (.slice none 0 0) [] [] [], iOwnF d 68 [.slice A x.lasts.length cap, .map (some bm), .int .i64 x.left, .bool x.off], iMapF kInt bm (emap (fun s => av s) x.fresh), iAcF (dArr 256) (.slice A x.lasts.length cap) x.lasts] := hs0.fact (Ac.nil) sAc rfl rfl
  refine WL_nil ?_
  refine W_seq ?_
  refine W_seq ?_
  refine W_region ?_
  refine S_move rfl ?_
  refine S_neqP Try.runUnderlying23 rfl rfl ?_
  refine WL_nil ?_
  refine W_cond_true rfl ?_
  refine W_seq ?_
  refine W_region ?_
  refine S_move rfl ?_
  refine S_nilCheck rfl rfl ?_
  refine S_fieldAddr Try.runUnderlying68 rfl Try.sizeOf66 rfl rfl ?_
  refine S_load1 Try.isAgg66 rfl (Own.at ((hs1.at 1 rfl)).2 rfl) rfl ?_
  refine Z_rangeF hs1 2 rfl Try.runUnderlying66 rfl rfl ?_
  intro it2 w3 hs4
  have hs4 : Sep [] w0 (fun b => b ∈ F) w3 [iIterF kInt it2 bm (emap (fun s => av s) x.fresh) (emap (fun s => av s) []), iAc dInt (.slice none 0 0) [] [] [], iOwnF d 68 [.slice A x.lasts.length cap, .map (some bm), .int .i64 x.left, .bool x.off], iMapF kInt bm (emap (fun s => av s) x.fresh), iAcF (dArr 256) (.slice A x.lasts.length cap) x.lasts] := hs4
  refine WL_nil ?_
  refine W_block ?_
  refine W_loopE (fun m f w => ∃ (dm : List (Int × Str)) (ks : List Int) (A5 : Option Addr) (cap6 : Nat) (bs7 : List Nat), m = ((x.fresh.length : Int) - dm.length).toNat ∧ (ks = dm.map (·.1)) ∧ ((dm.map (·.1)).Nodup) ∧ (∀ p ∈ dm.map (·.1), p ∈ x.fresh.map (·.1)) ∧ Sep [] w0 (fun b => b ∈ F) w [iIterF kInt it2 bm (emap (fun s => av s) x.fresh) (emap (fun s => av s) dm), iAc dInt (.slice A5 ks.length cap6) ks bs7 [], iOwnF d 68 [.slice A x.lasts.length cap, .map (some bm), .int .i64 x.left, .bool x.off], iMapF kInt bm (emap (fun s => av s) x.fresh), iAcF (dArr 256) (.slice A x.lasts.length cap) x.lasts] ∧ Live f [(3, .slice A5 ks.length cap6), (11, .pointer (some ⟨it2, 0, none⟩))]) ?_ ?_
  · exact ⟨_, [], [], _, _, _, rfl, rfl, List.nodup_nil, (fun p hp => by cases hp), hs4, ⟨rfl, rfl, trivial⟩⟩
  ·
    rintro _ f10 w8 ⟨dm, ks, A5, cap6, bs7, rfl, q13, q14, q15, hs11, hl12⟩
    refine W_live hl12 ?_
    intro g16
    have hfl0 := fresh_len ok
    have hdl := keys_len q14 q15
    have hkl : ks.length = dm.length := by rw [q13, List.length_map]
    refine W_seq ?_
    refine W_region ?_
    refine Z_nextF hs11 0 rfl rfl rfl ?_ ?_
    ·
      intro k17 v18 w19 hm21 hn22 hs20
      have hs20 : Sep [] w0 (fun b => b ∈ F) w19 [iIterF kInt it2 bm (emap (fun s => av s) x.fresh) (emap (fun s => av s) (dm ++ [(k17, v18)])), iAc dInt (.slice A5 ks.length cap6) ks bs7 [], iOwnF d 68 [.slice A x.lasts.length cap, .map (some bm), .int .i64 x.left, .bool x.off], iMapF kInt bm (emap (fun s => av s) x.fresh), iAcF (dArr 256) (.slice A x.lasts.length cap) x.lasts] := hs20
      refine S_extract rfl rfl rfl ?_
      refine WL_nil ?_
      refine W_seq ?_
      refine W_cond_true rfl ?_
      refine W_skip ?_
      refine W_block ?_
      refine W_seq ?_
      refine W_region ?_
      refine Z_entry ((hs20.at 0 rfl)).2 rfl rfl ?_
      refine S_extract rfl rfl rfl ?_
      refine S_assign rfl ?_
      refine WL_nil ?_
      refine W_region ?_
      refine S_move rfl ?_
      refine S_move rfl ?_
      refine Z_buildSlice (r := dInt) (css := [[.int .i64 k17]]) (al := [k17]) hs20 Try.runUnderlying37 Try.sizeOf3 Try.zeroValue3 rfl rfl rfl rfl rfl rfl rfl ⟨⟨rfl, (fr_InI ok hm21)⟩, trivial⟩ rfl ?_
      intro b24 w25 hs26
      have hs26 : Sep [] w0 (fun b => b ∈ F) w25 [iAc dInt (.slice (some ⟨b24, 0, none⟩) 1 1) [k17] [b24] [], iIterF kInt it2 bm (emap (fun s => av s) x.fresh) (emap (fun s => av s) (dm ++ [(k17, v18)])), iAc dInt (.slice A5 ks.length cap6) ks bs7 [], iOwnF d 68 [.slice A x.lasts.length cap, .map (some bm), .int .i64 x.left, .bool x.off], iMapF kInt bm (emap (fun s => av s) x.fresh), iAcF (dArr 256) (.slice A x.lasts.length cap) x.lasts] := hs26
      refine Z_append (r := dInt) (al := ks) (xs := [k17]) hs26 2 rfl (Src.ac (hs26.at 0 rfl)) Try.runUnderlying37 Try.typeInfo3 Try.sizeOf3 Try.zeroValue3 rfl (by show _ * 8 ≤ _; simp only [List.length_cons, List.length_nil]; omega) (by decide) rfl ?_
      intro A29 cap30 bs31 w27 hs28
      have hs28 : Sep [] w0 (fun b => b ∈ F) w27 [iAc dInt (.slice (some ⟨b24, 0, none⟩) 1 1) [k17] [b24] [], iIterF kInt it2 bm (emap (fun s => av s) x.fresh) (emap (fun s => av s) (dm ++ [(k17, v18)])), iAc dInt (.slice A29 ((ks ++ [k17]).length) cap30) (ks ++ [k17]) bs31 [], iOwnF d 68 [.slice A x.lasts.length cap, .map (some bm), .int .i64 x.left, .bool x.off], iMapF kInt bm (emap (fun s => av s) x.fresh), iAcF (dArr 256) (.slice A x.lasts.length cap) x.lasts] := hs28
      refine S_assign rfl ?_
      refine WL_nil ?_
      exact ⟨_, (by have := keys_len (keys_step (L := x.fresh) q14 hn22) (keys_sub q15 hm21); simp only [List.length_append, List.length_cons, List.length_nil] at *; omega), dm ++ [(k17, v18)], ks ++ [k17], _, _, _, rfl, (by rw [q13, List.map_append]; rfl), (keys_step (L := x.fresh) q14 hn22), (keys_sub q15 hm21), (hs28.pick [1, 2, 3, 4, 5] rfl (by decide) rfl), ⟨rfl, rfl, trivial⟩⟩
    ·
      intro ho23
      refine S_extract rfl rfl rfl ?_
      refine WL_nil ?_
      refine W_seq ?_
      refine W_cond_false rfl ?_
      refine W_exit ?_
      refine W_seq ?_
      refine W_region ?_
      refine S_move rfl ?_
      refine S_call Try.call34 rfl (sort_ac Try.slices_Sort_int_none Try.slices_Sort_int (hs11.at 1 rfl) (by omega)) rfl ?_
      rintro _ w33 ⟨ha34, e35⟩
      have hs36 : Sep [] w0 (fun b => b ∈ F) w33 [iIterF kInt it2 bm (emap (fun s => av s) x.fresh) (emap (fun s => av s) dm), iAc dInt (.slice A5 ks.length cap6) (srt ks) bs7 [], iOwnF d 68 [.slice A x.lasts.length cap, .map (some bm), .int .i64 x.left, .bool x.off], iMapF kInt bm (emap (fun s => av s) x.fresh), iAcF (dArr 256) (.slice A x.lasts.length cap) x.lasts] := hs11.sorted 1 rfl ha34 e35
      refine WL_nil ?_
      refine W_seq ?_
      refine W_region ?_
      refine S_move rfl ?_
      refine S_assign rfl ?_
      refine WL_nil ?_
      refine W_ret ?_
      show ∃ A cap bs, (Value.slice A5 ks.length cap6) = .slice A x.dirty.length cap ∧ Ac dInt (fun _ => False) w33 (.slice A x.dirty.length cap) x.dirty bs ∧ Ext [] w0 w33 ∧ ∀ b ∈ bs, w0.heap.size ≤ b
      have ha := hs36.at 1 rfl
      have hl := Ac.len ha
      have e : srt ks = x.dirty := by rw [q13]; exact dirty_eq ok q14 q15 ho23
      rw [e] at ha hl
      exact ⟨_, _, _, by rw [hl], by rw [hl]; exact ha, hs36.ext, fun b hb => (hs36.org 1 rfl b hb).elim (fun h => by cases h) id⟩
end Go.Proofs.Ytdgcgifigkfeaaa
