/- 1 texts, one behind the other. -/
import Derived.Test.YtadgfmmmdhlljaaDoorChecked
import Derived.WalkKit
import Derived.LaidEql
import Derived.Stop.Asserts
import Derived.RowKitTokens
import Derived.Test.YtadgfmmmdhlljaaDoorM1
set_option linter.unusedVariables false
set_option linter.unusedSimpArgs false
section
namespace Go.Proofs.YtadgfmmmdhlljaaDoor
open Go.RowKit Go.Extern.Stop Go.Stop Go.Extern
theorem Tryd.isTypeOf (v : Value) (w : World) : (Extern.ReflectliteType.typeOf #[.iface 81 v]).run Tryd.prog w = .ok (.iface 161 (.agg #[.pointer (some ⟨4, 81, none⟩)])) w := by kernel_rfl
theorem Tryd.typeOfF (v : Value) (w : World) : (Extern.ReflectliteType.typeOf #[.iface 82 v]).run Tryd.prog w = .ok (.iface 161 (.agg #[.pointer (some ⟨4, 82, none⟩)])) w := by kernel_rfl
theorem Tryd.isComparable (w : World) : ((Extern.ReflectliteType.method fun t => do Go.Extern.Rtype.noPackHeld "Comparable" t; (fun a => Value.bool a.comparable) <$> typeInfo t) #[.agg #[.pointer (some ⟨4, 81, none⟩)]]).run Tryd.prog w = .ok (.bool true) w := by kernel_rfl
theorem Tryd.isMethodComparable (v : Value) (w : World) : (Go.method 318 161 v "Comparable").run Tryd.prog w = .ok (171, v) w := by kernel_rfl

theorem Tryd.noIsE (v : Value) (xT : TypeId) (w : World) : (Instr.typeAssert (.iface 81 v) xT 163 true).run Tryd.prog w = .ok (.tuple #[.nilIface, .bool false]) w := run_typeAssert_lacksB Tryd.underlying163 (by kernel_rfl) (by kernel_rfl) v xT w
theorem Tryd.noUnwrapE (v : Value) (xT : TypeId) (w : World) : (Instr.typeAssert (.iface 81 v) xT 166 true).run Tryd.prog w = .ok (.tuple #[.nilIface, .bool false]) w := run_typeAssert_lacksB Tryd.underlying166 (by kernel_rfl) (by kernel_rfl) v xT w
theorem Tryd.noUnwrapsE (v : Value) (xT : TypeId) (w : World) : (Instr.typeAssert (.iface 81 v) xT 168 true).run Tryd.prog w = .ok (.tuple #[.nilIface, .bool false]) w := run_typeAssert_lacksB Tryd.underlying168 (by kernel_rfl) (by kernel_rfl) v xT w
theorem Tryd.noAsE (v : Value) (xT : TypeId) (w : World) : (Instr.typeAssert (.iface 81 v) xT 174 true).run Tryd.prog w = .ok (.tuple #[.nilIface, .bool false]) w := run_typeAssert_lacksB Tryd.underlying174 (by kernel_rfl) (by kernel_rfl) v xT w
theorem Tryd.noIsF (v : Value) (xT : TypeId) (w : World) : (Instr.typeAssert (.iface 82 v) xT 163 true).run Tryd.prog w = .ok (.tuple #[.nilIface, .bool false]) w := run_typeAssert_lacksB Tryd.underlying163 (by kernel_rfl) (by kernel_rfl) v xT w
theorem Tryd.noAsF (v : Value) (xT : TypeId) (w : World) : (Instr.typeAssert (.iface 82 v) xT 174 true).run Tryd.prog w = .ok (.tuple #[.nilIface, .bool false]) w := run_typeAssert_lacksB Tryd.underlying174 (by kernel_rfl) (by kernel_rfl) v xT w
theorem Tryd.unwrapF (v : Value) (xT : TypeId) (w : World) : (Instr.typeAssert (.iface 82 v) xT 166 true).run Tryd.prog w = .ok (.tuple #[.iface 82 v, .bool true]) w := run_typeAssert_hasB Tryd.underlying166 (by kernel_rfl) v xT w
theorem Tryd.methodUnwrapF (v : Value) (w : World) : (Go.method 318 82 v "Unwrap").run Tryd.prog w = .ok (163, v) w := by kernel_rfl
theorem Tryd.errEq (a b : Int) (w : World) : (binOp .eql 26 (.iface 81 (.int .i64 a)) (.iface 81 (.int .i64 b))).run Tryd.prog w = .ok (.bool (decide (a = b))) w := by
  have h := Wk.eqI_int (a := a) (b := b) Tryd.runUnderlying26 Tryd.typeInfo81 (by kernel_rfl) Tryd.runUnderlying81 w
  show (do pure (Value.bool (← Op.equal 26 (.iface 81 (.int .i64 a)) (.iface 81 (.int .i64 b)))) : Sem Value).run Tryd.prog w = _
  rw [Sem.run_bind, h, Result.andThen_ok]; rfl
theorem Tryd.errNeF (v : Value) (b : Int) (w : World) : (binOp .eql 26 (.iface 82 v) (.iface 81 (.int .i64 b))).run Tryd.prog w = .ok (.bool false) w := run_eql_iface_types 82 81 v (.int .i64 b) Tryd.underlying26 (by decide) w
set_option maxRecDepth 100000 in
theorem is_nil (b : Int) (w : World) : Calls Tryd.prog 50 #[.nilIface, .iface 81 (.int .i64 b)] w fun e w' => e = .returned (.bool false) ∧ w' = w := by
  have heq : (binOp .eql 26 .nilIface (.iface 81 (.int .i64 b))).run Tryd.prog w = .ok (.bool false) w := by
    have h := Wk.eqI_nil2 (t := 81) (v := .int .i64 b) Tryd.runUnderlying26 w
    show (do pure (Value.bool (← Op.equal 26 .nilIface (.iface 81 (.int .i64 b)))) : Sem Value).run Tryd.prog w = _
    rw [Sem.run_bind, h, Result.andThen_ok]; rfl
  go_enter Tryd.func50, Tryd.ntmps50
  go_wp2
  go_ret
  exact ⟨rfl, rfl⟩
set_option maxRecDepth 100000 in
set_option maxHeartbeats 1600000 in
theorem is_errno (a b : Int) (w : World) : Calls Tryd.prog 50 #[.iface 81 (.int .i64 a), .iface 81 (.int .i64 b)] w fun e w' => e = .returned (.bool (decide (a = b))) ∧ w' = w := by
  have h8 := @run_callFunc_extern Tryd.prog 91 _ Extern.ReflectliteType.typeOf Tryd.func91 (by kernel_rfl) (by kernel_rfl) (by kernel_rfl) (by kernel_rfl)
  have h32 := @run_callFunc_extern Tryd.prog 171 _ (Extern.ReflectliteType.method fun t => do Go.Extern.Rtype.noPackHeld "Comparable" t; pure (.bool (← typeInfo t).comparable)) Tryd.func171 (by kernel_rfl) (by kernel_rfl) (by kernel_rfl) (by kernel_rfl)
  have tT := Tryd.isTypeOf
  have cT := Tryd.isComparable
  have mR := Tryd.isMethodComparable
  have nE := Tryd.noIsE
  have uE := Tryd.noUnwrapE
  have vE := Tryd.noUnwrapsE
  by_cases hab : a = b
  · subst hab
    have heq := Tryd.errEq a a
    rw [decide_eq_true rfl] at heq ⊢
    go_enter Tryd.func50, Tryd.ntmps50
    go_wp2
    refine wp_loop_rounds 1 ?_
    rw [rounds_succ]
    go_wp2
    go_ret
    exact ⟨rfl, rfl⟩
  · have heq := Tryd.errEq a b
    rw [decide_eq_false hab] at heq ⊢
    clear hab
    go_enter Tryd.func50, Tryd.ntmps50
    go_wp2
    refine wp_loop_rounds 1 ?_
    rw [rounds_succ]
    go_wp2
    go_ret
    exact ⟨rfl, rfl⟩
set_option maxRecDepth 100000 in
set_option maxHeartbeats 1600000 in
theorem is_fault (k : Nat) (a b : Int) (w : World) (hc : w.cell? ⟨k, 1, none⟩ = some (.int .i64 a)) : Calls Tryd.prog 50 #[.iface 82 (.pointer (some ⟨k, 0, none⟩)), .iface 81 (.int .i64 b)] w fun e w' => e = .returned (.bool (decide (a = b))) ∧ w' = w := by
  have h8 := @run_callFunc_extern Tryd.prog 91 _ Extern.ReflectliteType.typeOf Tryd.func91 (by kernel_rfl) (by kernel_rfl) (by kernel_rfl) (by kernel_rfl)
  have h32 := @run_callFunc_extern Tryd.prog 171 _ (Extern.ReflectliteType.method fun t => do Go.Extern.Rtype.noPackHeld "Comparable" t; pure (.bool (← typeInfo t).comparable)) Tryd.func171 (by kernel_rfl) (by kernel_rfl) (by kernel_rfl) (by kernel_rfl)
  have tT := Tryd.isTypeOf
  have cT := Tryd.isComparable
  have mR := Tryd.isMethodComparable
  have nE := Tryd.noIsE
  have uE := Tryd.noUnwrapE
  have vE := Tryd.noUnwrapsE
  have nF := Tryd.noIsF
  have uF := Tryd.unwrapF
  have mF := Tryd.methodUnwrapF
  have eF := Tryd.errNeF
  by_cases hab : a = b
  · subst hab
    have heq := Tryd.errEq a a
    rw [decide_eq_true rfl] at heq ⊢
    go_enter Tryd.func50, Tryd.ntmps50
    go_wp2
    refine wp_loop_rounds 2 ?_
    rw [rounds_succ]
    go_wp2
    rw [rounds_succ]
    go_wp2
    go_ret
    exact ⟨rfl, rfl⟩
  · have heq := Tryd.errEq a b
    rw [decide_eq_false hab] at heq ⊢
    clear hab
    go_enter Tryd.func50, Tryd.ntmps50
    go_wp2
    refine wp_loop_rounds 2 ?_
    rw [rounds_succ]
    go_wp2
    rw [rounds_succ]
    go_wp2
    go_ret
    exact ⟨rfl, rfl⟩
theorem Tryd.noIs153 (v : Value) (xT : TypeId) (w : World) : (Instr.typeAssert (.iface 153 v) xT 163 true).run Tryd.prog w = .ok (.tuple #[.nilIface, .bool false]) w := run_typeAssert_lacksB Tryd.underlying163 (by kernel_rfl) (by kernel_rfl) v xT w
theorem Tryd.noAs153 (v : Value) (xT : TypeId) (w : World) : (Instr.typeAssert (.iface 153 v) xT 174 true).run Tryd.prog w = .ok (.tuple #[.nilIface, .bool false]) w := run_typeAssert_lacksB Tryd.underlying174 (by kernel_rfl) (by kernel_rfl) v xT w
theorem Tryd.unwrap153 (v : Value) (xT : TypeId) (w : World) : (Instr.typeAssert (.iface 153 v) xT 166 true).run Tryd.prog w = .ok (.tuple #[.iface 153 v, .bool true]) w := run_typeAssert_hasB Tryd.underlying166 (by kernel_rfl) v xT w
theorem Tryd.methodUnwrap153 (v : Value) (w : World) : (Go.method 318 153 v "Unwrap").run Tryd.prog w = .ok (168, v) w := by kernel_rfl
theorem Tryd.errNe153 (v : Value) (b : Int) (w : World) : (binOp .eql 26 (.iface 153 v) (.iface 81 (.int .i64 b))).run Tryd.prog w = .ok (.bool false) w := run_eql_iface_types 153 81 v (.int .i64 b) Tryd.underlying26 (by decide) w
theorem Tryd.typeOf153 (v : Value) (w : World) : (Extern.ReflectliteType.typeOf #[.iface 153 v]).run Tryd.prog w = .ok (.iface 161 (.agg #[.pointer (some ⟨4, 153, none⟩)])) w := by kernel_rfl
set_option maxRecDepth 100000 in
set_option maxHeartbeats 1600000 in
theorem is_w153 (v : Value) (a b : Int) (w : World) : Calls Tryd.prog 50 #[.iface 153 (.agg #[v, .int .i64 a]), .iface 81 (.int .i64 b)] w fun e w' => e = .returned (.bool (decide (a = b))) ∧ ∃ o, w' = w.alloc o := by
  have h8 := @run_callFunc_extern Tryd.prog 91 _ Extern.ReflectliteType.typeOf Tryd.func91 (by kernel_rfl) (by kernel_rfl) (by kernel_rfl) (by kernel_rfl)
  have h32 := @run_callFunc_extern Tryd.prog 171 _ (Extern.ReflectliteType.method fun t => do Go.Extern.Rtype.noPackHeld "Comparable" t; pure (.bool (← typeInfo t).comparable)) Tryd.func171 (by kernel_rfl) (by kernel_rfl) (by kernel_rfl) (by kernel_rfl)
  have tT := Tryd.isTypeOf
  have cT := Tryd.isComparable
  have mR := Tryd.isMethodComparable
  have nE := Tryd.noIsE
  have uE := Tryd.noUnwrapE
  have vE := Tryd.noUnwrapsE
  have nF := Tryd.noIs153
  have uF := Tryd.unwrap153
  have mF := Tryd.methodUnwrap153
  have eF := Tryd.errNe153
  by_cases hab : a = b
  · subst hab
    have heq := Tryd.errEq a a
    rw [decide_eq_true rfl] at heq ⊢
    go_enter Tryd.func50, Tryd.ntmps50
    go_wp2
    refine wp_loop_rounds 2 ?_
    rw [rounds_succ]
    go_wp2
    rw [rounds_succ]
    go_wp2
    go_ret
    exact ⟨rfl, _, rfl⟩
  · have heq := Tryd.errEq a b
    rw [decide_eq_false hab] at heq ⊢
    clear hab
    go_enter Tryd.func50, Tryd.ntmps50
    go_wp2
    refine wp_loop_rounds 2 ?_
    rw [rounds_succ]
    go_wp2
    rw [rounds_succ]
    go_wp2
    go_ret
    exact ⟨rfl, _, rfl⟩
end Go.Proofs.YtadgfmmmdhlljaaDoor
end
