/- Disks: walks, printed by program, and their plain law. -/
import Derived.Test.YtdgcgifigkfeaaaL3
namespace Go.Proofs.Ytdgcgifigkfeaaa
open Go Go.Wk Go.Wl Classical
theorem plays_bad {w0 : World} {D : Nat → Prop} {A : Option Addr} {cap : Nat} {l : List Act} (h : (dSlice dAct).rd D w0 [.slice A l.length cap] l) {n : Int} (hn : n < 1 ∨ 8192 < n) :
    CallR Try.prog 3 [.int .i64 n, .slice A l.length cap] w0 (fun v w' => v = .bool true ∧ Ext [] w0 w') := by
  have hs0 := (Sep.nil (B0 := []) (w0 := w0) (Z := fun b => D b ∧ b < w0.heap.size) (fun _ h => h.2)).fact (t := iData (dSlice dAct) [.slice A l.length cap] l) ((dSlice dAct).weak h (fun b h1 h2 => ⟨h1, h2⟩)) sData rfl rfl
  have hll := dSlice_len h
  refine Call1 Try.func3 rfl rfl rfl rfl ?_
  refine W_seq ?_
  refine W_region ?_
  refine S_assign rfl ?_
  refine WL_nil ?_
  refine W_seq ?_
  refine W_region ?_
  refine S_move rfl ?_
  refine S_callQ Try.call9 rfl (new_bad (n := n) hn) rfl ?_
  refine S_move rfl ?_
  refine S_extract rfl rfl rfl ?_
  refine S_extract rfl rfl rfl ?_
  refine S_assign rfl ?_
  refine S_assign rfl ?_
  refine WL_nil ?_
  refine W_seq ?_
  refine W_region ?_
  refine S_move rfl ?_
  refine S_callQ Try.call10 rfl (rnew_bad (n := n) hn) rfl ?_
  refine S_move rfl ?_
  refine S_extract rfl rfl rfl ?_
  refine S_extract rfl rfl rfl ?_
  refine S_assign rfl ?_
  refine S_assign rfl ?_
  refine WL_nil ?_
  refine W_seq ?_
  refine W_seq ?_
  refine W_live (L := [(0, .int .i64 n), (1, .slice A l.length cap), (5, .pointer none), (6, .iface 64 (.int .i64 2)), (7, .pointer none), (8, .int .i64 2)]) ⟨rfl, rfl, rfl, rfl, rfl, rfl, trivial⟩ ?_
  intro g1
  refine W_region ?_
  refine S_move rfl ?_
  refine S_callQ Try.call11 rfl (no_okI (z := 2) (by decide) (by decide)) rfl ?_
  refine S_move rfl ?_
  refine S_neq rfl rfl rfl ?_
  refine WL_conv (congrArg Value.bool (decide_eq_false (by simp))) ?_
  refine S_move rfl ?_
  refine WL_on rfl rfl rfl ?_
  refine S_move rfl ?_
  refine WL_on rfl rfl rfl ?_
  refine S_eqlP0 Try.runUnderlying23 rfl rfl ?_
  refine WL_on rfl rfl rfl ?_
  refine S_move rfl ?_
  refine WL_on rfl rfl rfl ?_
  refine S_eqlP0 Try.runUnderlying28 rfl rfl ?_
  refine WL_on rfl rfl rfl ?_
  refine S_neqB Try.runUnderlying4 rfl rfl rfl ?_
  refine S_pick_f rfl rfl ?_
  refine S_move rfl ?_
  refine WL_on rfl rfl rfl ?_
  refine S_callE Try.call12 rfl alive_ok rfl ?_
  intro w2 e3
  have hs4 : Sep [] w0 (fun b => D b ∧ b < w0.heap.size) w2 [iData (dSlice dAct) [.slice A l.length cap] l] := hs0.step e3
  refine WL_on rfl rfl rfl ?_
  refine S_not rfl rfl ?_
  refine S_pick_f rfl rfl ?_
  refine WL_nil ?_
  refine W_cond_false rfl ?_
  refine W_skip ?_
  refine W_seq ?_
  refine W_seq ?_
  refine W_live (L := [(0, .int .i64 n), (1, .slice A l.length cap), (5, .pointer none), (7, .pointer none)]) ⟨rfl, rfl, rfl, rfl, trivial⟩ ?_
  intro g5
  refine W_region ?_
  refine S_move rfl ?_
  refine S_eqlP0 Try.runUnderlying28 rfl rfl ?_
  refine S_move rfl ?_
  refine WL_off rfl rfl rfl rfl ?_
  refine WL_off rfl rfl rfl rfl ?_
  refine WL_off rfl rfl rfl rfl ?_
  refine S_pick_t rfl rfl ?_
  refine WL_nil ?_
  refine W_cond_true rfl ?_
  refine W_seq ?_
  refine W_region ?_
  refine S_assign rfl ?_
  refine WL_nil ?_
  refine W_ret ?_
  show (Value.bool true) = .bool true ∧ Ext [] w0 w2
  exact ⟨rfl, hs4.ext⟩
end Go.Proofs.Ytdgcgifigkfeaaa
