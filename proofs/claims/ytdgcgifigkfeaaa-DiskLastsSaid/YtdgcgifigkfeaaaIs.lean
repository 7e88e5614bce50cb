/- errors.Is of two numbers of api.Errno: are they the same? -/
import Derived.Test.YtdgcgifigkfeaaaChecked
import Derived.WalkKit
import Derived.LaidEql
import Derived.Stop.Asserts
import Derived.RowKitTokens
import Derived.Test.YtdgcgifigkfeaaaWkY
namespace Go.Proofs.Ytdgcgifigkfeaaa
open Go.RowKit Go.Extern.Stop Go.Stop Go.Extern
theorem Try.isTypeOf (v : Value) (w : World) : (Extern.ReflectliteType.typeOf #[.iface 64 v]).run Try.prog w = .ok (.iface 90 (.agg #[.pointer (some ⟨0, 64, none⟩)])) w := by kernel_rfl
theorem Try.isComparable (w : World) : ((Extern.ReflectliteType.method fun t => do Go.Extern.Rtype.noPackHeld "Comparable" t; (fun a => Value.bool a.comparable) <$> typeInfo t) #[.agg #[.pointer (some ⟨0, 64, none⟩)]]).run Try.prog w = .ok (.bool true) w := by kernel_rfl
theorem Try.isMethodComparable (v : Value) (w : World) : (Go.method 254 90 v "Comparable").run Try.prog w = .ok (81, v) w := by kernel_rfl
theorem Try.noIsE (v : Value) (xT : TypeId) (w : World) : (Instr.typeAssert (.iface 64 v) xT 92 true).run Try.prog w = .ok (.tuple #[.nilIface, .bool false]) w := run_typeAssert_lacksB Try.underlying92 (by kernel_rfl) (by kernel_rfl) v xT w
theorem Try.noUnwrapE (v : Value) (xT : TypeId) (w : World) : (Instr.typeAssert (.iface 64 v) xT 95 true).run Try.prog w = .ok (.tuple #[.nilIface, .bool false]) w := run_typeAssert_lacksB Try.underlying95 (by kernel_rfl) (by kernel_rfl) v xT w
theorem Try.noUnwrapsE (v : Value) (xT : TypeId) (w : World) : (Instr.typeAssert (.iface 64 v) xT 96 true).run Try.prog w = .ok (.tuple #[.nilIface, .bool false]) w := run_typeAssert_lacksB Try.underlying96 (by kernel_rfl) (by kernel_rfl) v xT w
theorem Try.errEq (a b : Int) (w : World) : (binOp .eql 25 (.iface 64 (.int .i64 a)) (.iface 64 (.int .i64 b))).run Try.prog w = .ok (.bool (decide (a = b))) w := by
  have h := Wk.eqI_int (a := a) (b := b) Try.runUnderlying25 Try.typeInfo64 (by kernel_rfl) Try.runUnderlying64 w
  show (do pure (Value.bool (← Op.equal 25 (.iface 64 (.int .i64 a)) (.iface 64 (.int .i64 b)))) : Sem Value).run Try.prog w = _
  rw [Sem.run_bind, h, Result.andThen_ok]; rfl
set_option maxRecDepth 100000 in
set_option maxHeartbeats 1600000 in
theorem is_errno (a b : Int) (w : World) : Calls Try.prog 28 #[.iface 64 (.int .i64 a), .iface 64 (.int .i64 b)] w fun e w' => e = .returned (.bool (decide (a = b))) ∧ w' = w := by
  have h8 := @run_callFunc_extern Try.prog 39 _ Extern.ReflectliteType.typeOf Try.func39 (by kernel_rfl) (by kernel_rfl) (by kernel_rfl) (by kernel_rfl)
  have h32 := @run_callFunc_extern Try.prog 81 _ (Extern.ReflectliteType.method fun t => do Go.Extern.Rtype.noPackHeld "Comparable" t; pure (.bool (← typeInfo t).comparable)) Try.func81 (by kernel_rfl) (by kernel_rfl) (by kernel_rfl) (by kernel_rfl)
  have tT := Try.isTypeOf
  have cT := Try.isComparable
  have mR := Try.isMethodComparable
  have nE := Try.noIsE
  have uE := Try.noUnwrapE
  have vE := Try.noUnwrapsE
  by_cases hab : a = b
  · subst hab
    have heq := Try.errEq a a
    rw [decide_eq_true rfl] at heq ⊢
    go_enter Try.func28, Try.ntmps28
    go_wp2
    refine wp_loop_rounds 1 ?_
    rw [rounds_succ]
    go_wp2
    go_ret
    exact ⟨rfl, rfl⟩
  · have heq := Try.errEq a b
    rw [decide_eq_false hab] at heq ⊢
    clear hab
    go_enter Try.func28, Try.ntmps28
    go_wp2
    refine wp_loop_rounds 1 ?_
    rw [rounds_succ]
    go_wp2
    go_ret
    exact ⟨rfl, rfl⟩
theorem is_errnoR (a b : Int) (w : World) : Wk.CallR Try.prog 28 [.iface 64 (.int .i64 a), .iface 64 (.int .i64 b)] w fun v w' => v = .bool (decide (a = b)) ∧ w' = w :=
  fun w1 hs => Calls.mono (is_errno a b w1) fun _ _ ⟨h1, h2⟩ => ⟨_, w, h1, by rw [h2]; exact hs, rfl, rfl⟩
end Go.Proofs.Ytdgcgifigkfeaaa
