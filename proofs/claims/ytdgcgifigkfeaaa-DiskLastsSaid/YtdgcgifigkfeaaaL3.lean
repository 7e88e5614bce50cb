/- Disks: walks, printed by program, and their plain law. -/
import Derived.Test.YtdgcgifigkfeaaaV
namespace Go.Proofs.Ytdgcgifigkfeaaa
open Go Go.Wk Go.Wl Classical
theorem few_ok {w0 : World} {D : Nat → Prop} {A : Option Addr} {cap : Nat} {l : List Act} (h : (dSlice dAct).rd D w0 [.slice A l.length cap] l) :
    CallR Try.prog 13 [.slice A l.length cap] w0 (fun v w' => ∃ p : Bool, v = .bool p ∧ (p = true → l.length ≤ 80) ∧ w0 = w') := by
  have hs0 := (Sep.nil (B0 := []) (w0 := w0) (Z := fun b => D b ∧ b < w0.heap.size) (fun _ h => h.2)).fact (t := iData (dSlice dAct) [.slice A l.length cap] l) ((dSlice dAct).weak h (fun b h1 h2 => ⟨h1, h2⟩)) sData rfl rfl
  have hll := dSlice_len h
  refine Call1 Try.func13 rfl rfl rfl rfl ?_
  refine W_seq ?_
  refine W_region ?_
  refine S_assign rfl ?_
  refine WL_nil ?_
  refine W_seq ?_
  refine W_region ?_
  refine S_assign rfl ?_
  refine WL_nil ?_
  refine W_seq ?_
  refine W_seq ?_
  refine W_region ?_
  refine S_assign rfl ?_
  refine WL_nil ?_
  refine W_block ?_
  refine W_loopE (fun m f w => ∃ (i : Int) (s : Int), m = (82 - i).toNat ∧ (0 ≤ i) ∧ (i ≤ 81) ∧ (0 ≤ s) ∧ (s ≤ 1000 * i) ∧ w0 = w ∧ Live f [(0, .slice A l.length cap), (3, .int .i64 s), (4, .int .i64 i)]) ?_ ?_
  · exact ⟨_, 0, 0, rfl, (by omega), (by omega), (by omega), (by omega), rfl, ⟨rfl, rfl, rfl, trivial⟩⟩
  ·
    rintro _ f2 _ ⟨i, s, rfl, q5, q6, q7, q8, rfl, hl4⟩
    refine W_live hl4 ?_
    intro g9
    refine W_seq ?_
    refine W_seq ?_
    refine W_region ?_
    refine S_move rfl ?_
    refine S_move rfl ?_
    refine S_len Try.runUnderlying22 rfl rfl ?_
    refine S_lss rfl rfl rfl ?_
    refine S_move rfl ?_
    refine WL_split (dj := 9) rfl (fun h10 => ?_) (fun h10 => ?_)
    ·
      have p11 := of_decide_eq_true h10
      refine WL_on rfl rfl (bT h10) ?_
      refine S_move rfl ?_
      refine WL_on rfl rfl (bT h10) ?_
      refine S_leq rfl rfl rfl ?_
      refine S_pick_t (bT h10) rfl ?_
      refine WL_nil ?_
      refine W_cond rfl (fun h12 => ?_) (fun h12 => ?_)
      ·
        have p13 := of_decide_eq_true h12
        refine W_skip ?_
        refine W_seq ?_
        refine W_block ?_
        refine W_region ?_
        refine S_move rfl ?_
        refine S_move rfl ?_
        refine S_move rfl ?_
        refine Z_index (hs0.at 0 rfl) Try.runUnderlying22 Try.sizeOf39 rfl rfl rfl (show (0 : Int) ≤ i from by omega) (show i < ((l.length : Nat) : Int) from by omega) rfl ?_
        refine Z_field Try.runUnderlying39 rfl Try.sizeOf37 rfl rfl ?_
        have o17 := cell_ix (q := (Int.toNat i) * 5 + 4) (sz := 5) (o := 4) (hs0.at 0 rfl) dAct_Kept rfl rfl (show (0 : Int) ≤ i from by omega) (show i < ((l.length : Nat) : Int) from by omega)
        obtain ⟨c14, hc15, hr16⟩ := o17
        have o21 := Rd.one _ rfl hr16
        obtain ⟨u18, rfl⟩ := o21
        have o22 := dSlice_val hr16
        obtain ⟨A19, cap20, rfl⟩ := o22
        have l23 := dSlice_len hr16
        refine Z_load Try.isAgg37 rfl hc15 rfl ?_
        have hs25 : Sep [] w0 (fun b => D b ∧ b < w0.heap.size) w0 [iData (dSlice dInt) [.slice A19 (ix l i).Kept.length cap20] ((ix l i).Kept), iData (dSlice dAct) [.slice A l.length cap] l] := hs0.fact hr16 sData rfl rfl
        refine S_len Try.runUnderlying37 rfl rfl ?_
        refine S_min rfl rfl rfl ?_
        refine S_add rfl rfl (by omega) rfl ?_
        refine S_assign rfl ?_
        refine WL_nil ?_
        refine W_live (L := [(0, .slice A l.length cap), (3, .int .i64 (s + (min ((ix l i).Kept.length : Int) 1000))), (4, .int .i64 i)]) ⟨rfl, rfl, rfl, trivial⟩ ?_
        intro g26
        refine W_region ?_
        refine S_move rfl ?_
        refine S_add rfl rfl (by omega) rfl ?_
        refine S_assign rfl ?_
        refine WL_nil ?_
        exact ⟨_, (by omega), i + 1, s + (min ((ix l i).Kept.length : Int) 1000), rfl, (by omega), (by omega), (by omega), (by omega), rfl, ⟨rfl, rfl, rfl, trivial⟩⟩
      ·
        have p27 := of_decide_eq_false h12
        refine W_exit ?_
        refine W_seq ?_
        refine W_region ?_
        refine S_move rfl ?_
        refine S_len Try.runUnderlying22 rfl rfl ?_
        refine S_leq rfl rfl rfl ?_
        refine S_move rfl ?_
        refine WL_split (dj := 27) rfl (fun h28 => ?_) (fun h28 => ?_)
        ·
          have p29 := of_decide_eq_true h28
          refine WL_on rfl rfl (bT h28) ?_
          refine S_move rfl ?_
          refine WL_on rfl rfl (bT h28) ?_
          refine S_leq rfl rfl rfl ?_
          refine S_pick_t (bT h28) rfl ?_
          refine S_assign rfl ?_
          refine WL_nil ?_
          refine W_ret ?_
          show ∃ p : Bool, (Value.bool (decide (s ≤ 400))) = .bool p ∧ (p = true → l.length ≤ 80) ∧ w0 = w0
          exact ⟨_, rfl, fun h => by first | omega | (cases h), rfl⟩
        ·
          have p30 := of_decide_eq_false h28
          refine WL_off rfl rfl rfl (bF h28) ?_
          refine WL_off rfl rfl rfl (bF h28) ?_
          refine S_pick_f (bF h28) rfl ?_
          refine S_assign rfl ?_
          refine WL_nil ?_
          refine W_ret ?_
          show ∃ p : Bool, (Value.bool false) = .bool p ∧ (p = true → l.length ≤ 80) ∧ w0 = w0
          exact ⟨_, rfl, fun h => by first | omega | (cases h), rfl⟩
    ·
      have p31 := of_decide_eq_false h10
      refine WL_off rfl rfl rfl (bF h10) ?_
      refine WL_off rfl rfl rfl (bF h10) ?_
      refine S_pick_f (bF h10) rfl ?_
      refine WL_nil ?_
      refine W_cond_false rfl ?_
      refine W_exit ?_
      refine W_seq ?_
      refine W_region ?_
      refine S_move rfl ?_
      refine S_len Try.runUnderlying22 rfl rfl ?_
      refine S_leq rfl rfl rfl ?_
      refine S_move rfl ?_
      refine WL_split (dj := 27) rfl (fun h32 => ?_) (fun h32 => ?_)
      ·
        have p33 := of_decide_eq_true h32
        refine WL_on rfl rfl (bT h32) ?_
        refine S_move rfl ?_
        refine WL_on rfl rfl (bT h32) ?_
        refine S_leq rfl rfl rfl ?_
        refine S_pick_t (bT h32) rfl ?_
        refine S_assign rfl ?_
        refine WL_nil ?_
        refine W_ret ?_
        show ∃ p : Bool, (Value.bool (decide (s ≤ 400))) = .bool p ∧ (p = true → l.length ≤ 80) ∧ w0 = w0
        exact ⟨_, rfl, fun h => by first | omega | (cases h), rfl⟩
      ·
        have p34 := of_decide_eq_false h32
        refine WL_off rfl rfl rfl (bF h32) ?_
        refine WL_off rfl rfl rfl (bF h32) ?_
        refine S_pick_f (bF h32) rfl ?_
        refine S_assign rfl ?_
        refine WL_nil ?_
        refine W_ret ?_
        show ∃ p : Bool, (Value.bool false) = .bool p ∧ (p = true → l.length ≤ 80) ∧ w0 = w0
        exact ⟨_, rfl, fun h => by first | omega | (cases h), rfl⟩
end Go.Proofs.Ytdgcgifigkfeaaa
