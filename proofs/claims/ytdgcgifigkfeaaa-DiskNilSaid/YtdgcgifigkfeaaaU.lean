/- Disks: walks, printed by program, and their plain law. -/
import Derived.Test.YtdgcgifigkfeaaaL3
namespace Go.Proofs.Ytdgcgifigkfeaaa
open Go Go.Wk Go.Wl Classical
theorem flush_nil {w0 : World} :
    CallR Try.prog 23 [.pointer none] w0 (fun v w' => v = .iface 64 (.int .i64 1) ∧ w' = w0) := by
  refine Call1 Try.func23 rfl rfl rfl rfl ?_
  refine W_seq ?_
  refine W_region ?_
  refine S_assign rfl ?_
  refine WL_nil ?_
  refine W_seq ?_
  refine W_seq ?_
  refine W_region ?_
  refine S_move rfl ?_
  refine S_move rfl ?_
  refine S_callQ Try.call36 rfl (wrong_nil 0) rfl ?_
  refine S_callQ Try.call37 rfl (act_nil) rfl ?_
  refine S_assign rfl ?_
  refine WL_nil ?_
  refine W_seq ?_
  refine W_region ?_
  refine S_move rfl ?_
  refine S_neqN Try.runUnderlying25 rfl rfl ?_
  refine WL_nil ?_
  refine W_cond_true rfl ?_
  refine W_seq ?_
  refine W_region ?_
  refine S_move rfl ?_
  refine S_assign rfl ?_
  refine WL_nil ?_
  refine W_ret ?_
  show (Value.iface 64 (.int .i64 1)) = .iface 64 (.int .i64 1) ∧ w0 = w0
  exact ⟨rfl, rfl⟩
set_option maxHeartbeats 4000000 in
theorem nil_ok {w0 : World} (at_ : Int) {A : Option Addr} {nn cap : Nat} {A2 : Option Addr} {n2 cap2 : Nat} :
    CallR Try.prog 8 [.int .i64 at_, .slice A nn cap, .slice A2 n2 cap2] w0 (fun v w' => v = .bool true ∧ Ext [] w0 w') := by
  have hs0 := Sep.nil (B0 := []) (w0 := w0) (Z := fun _ => False) (fun _ h => h.elim)
  refine Call1 Try.func8 rfl rfl rfl rfl ?_
  refine W_seq ?_
  refine W_region ?_
  refine S_assign rfl ?_
  refine WL_nil ?_
  refine W_seq ?_
  refine W_region ?_
  refine S_assign rfl ?_
  refine WL_nil ?_
  refine W_seq ?_
  refine W_region ?_
  refine S_move rfl ?_
  refine S_move rfl ?_
  refine S_call Try.call27 rfl (limit_nil (w0 := w0) at_) rfl ?_
  intro _ w2 e3
  rw [e3]
  refine WL_nil ?_
  refine W_seq ?_
  refine W_region ?_
  refine S_move rfl ?_
  refine S_move rfl ?_
  refine S_callQ Try.call20 rfl (read_nil at_) rfl ?_
  refine S_move rfl ?_
  refine S_extract rfl rfl rfl ?_
  refine S_extract rfl rfl rfl ?_
  refine S_assign rfl ?_
  refine S_assign rfl ?_
  refine WL_nil ?_
  refine W_seq ?_
  refine W_live (L := [(0, .int .i64 at_), (1, .slice A nn cap), (2, .slice A2 n2 cap2), (7, .pointer none), (8, .slice none 0 0), (9, .iface 64 (.int .i64 1))]) ⟨rfl, rfl, rfl, rfl, rfl, rfl, trivial⟩ ?_
  intro g4
  refine W_region ?_
  refine S_move rfl ?_
  refine S_move rfl ?_
  refine S_move rfl ?_
  refine S_callQ Try.call25 rfl (write_nil at_) rfl ?_
  refine S_callQ Try.call11 rfl (no_okI (z := 1) (by decide) (by decide)) rfl ?_
  refine S_eql rfl rfl rfl ?_
  refine WL_conv (congrArg Value.bool (decide_eq_true rfl)) ?_
  refine S_move rfl ?_
  refine WL_on rfl rfl rfl ?_
  refine S_move rfl ?_
  refine WL_on rfl rfl rfl ?_
  refine S_callQ Try.call11 rfl (no_okI (z := 1) (by decide) (by decide)) rfl ?_
  refine WL_on rfl rfl rfl ?_
  refine S_eql rfl rfl rfl ?_
  refine WL_conv (congrArg Value.bool (decide_eq_true rfl)) ?_
  refine S_pick_t rfl rfl ?_
  refine S_move rfl ?_
  refine WL_on rfl rfl rfl ?_
  refine S_move rfl ?_
  refine WL_on rfl rfl rfl ?_
  refine S_len Try.runUnderlying47 rfl rfl ?_
  refine WL_on rfl rfl rfl ?_
  refine S_eql rfl rfl rfl ?_
  refine WL_conv (congrArg Value.bool (decide_eq_true rfl)) ?_
  refine S_pick_t rfl rfl ?_
  refine S_move rfl ?_
  refine WL_on rfl rfl rfl ?_
  refine S_move rfl ?_
  refine WL_on rfl rfl rfl ?_
  refine S_callQ Try.call23 rfl flush_nil rfl ?_
  refine WL_on rfl rfl rfl ?_
  refine S_callQ Try.call11 rfl (no_okI (z := 1) (by decide) (by decide)) rfl ?_
  refine WL_on rfl rfl rfl ?_
  refine S_eql rfl rfl rfl ?_
  refine WL_conv (congrArg Value.bool (decide_eq_true rfl)) ?_
  refine S_pick_t rfl rfl ?_
  refine S_move rfl ?_
  refine WL_on rfl rfl rfl ?_
  refine S_move rfl ?_
  refine WL_on rfl rfl rfl ?_
  refine S_callQ Try.call18 rfl dirty_nil rfl ?_
  refine WL_on rfl rfl rfl ?_
  refine S_len Try.runUnderlying37 rfl rfl ?_
  refine WL_on rfl rfl rfl ?_
  refine S_eql rfl rfl rfl ?_
  refine WL_conv (congrArg Value.bool (decide_eq_true rfl)) ?_
  refine WL_norm (L := [(0, .int .i64 at_), (2, .slice A2 n2 cap2), (7, .pointer none), (41, .bool true), (45, .bool true)]) ⟨rfl, rfl, rfl, rfl, rfl, trivial⟩ ?_
  intro g5
  refine S_pick_t rfl rfl ?_
  refine S_move rfl ?_
  refine WL_on rfl rfl rfl ?_
  refine S_move rfl ?_
  refine WL_on rfl rfl rfl ?_
  refine S_move rfl ?_
  refine WL_on rfl rfl rfl ?_
  refine S_move rfl ?_
  refine WL_on rfl rfl rfl ?_
  refine S_move rfl ?_
  refine WL_on rfl rfl rfl ?_
  refine S_callQ Try.call24 rfl (crash_nil at_ at_) rfl ?_
  refine WL_on rfl rfl rfl ?_
  refine S_eqlP0 Try.runUnderlying23 rfl rfl ?_
  refine S_pick_t rfl rfl ?_
  refine S_move rfl ?_
  refine WL_on rfl rfl rfl ?_
  refine S_move rfl ?_
  refine WL_on rfl rfl rfl ?_
  refine S_callQ Try.call16 rfl size_nil rfl ?_
  refine WL_on rfl rfl rfl ?_
  refine S_eql rfl rfl rfl ?_
  refine WL_conv (congrArg Value.bool (decide_eq_true rfl)) ?_
  refine S_pick_t rfl rfl ?_
  refine S_move rfl ?_
  refine WL_on rfl rfl rfl ?_
  refine S_move rfl ?_
  refine WL_on rfl rfl rfl ?_
  refine S_callQ Try.call15 rfl off_nil rfl ?_
  refine WL_on rfl rfl rfl ?_
  refine S_not rfl rfl ?_
  refine S_pick_t rfl rfl ?_
  refine S_move rfl ?_
  refine WL_on rfl rfl rfl ?_
  refine S_callE Try.call12 rfl alive_ok rfl ?_
  intro w6 e7
  have hs8 : Sep [] w0 (fun _ => False) w6 [] := hs0.step e7
  refine S_pick_t rfl rfl ?_
  refine S_assign rfl ?_
  refine WL_nil ?_
  refine W_ret ?_
  show (Value.bool true) = .bool true ∧ Ext [] w0 w6
  exact ⟨rfl, hs8.ext⟩
end Go.Proofs.Ytdgcgifigkfeaaa
