/- 1 texts, one behind the other. -/
import Derived.Test.YtckpdliipjekgaaChecked
import Derived.WalkKit
import Derived.LaidEql
import Derived.Stop.Asserts
import Derived.RowKitTokens
import Derived.Test.YtckpdliipjekgaaB1
set_option linter.unusedVariables false
set_option linter.unusedSimpArgs false
set_option maxRecDepth 100000
section
namespace Go.Proofs.Ytckpdliipjekgaa
open Go.RowKit Go.Extern.Stop Go.Stop Go.Extern
theorem Try.isTypeOf (v:Value) (w:World):(Extern.ReflectliteType.typeOf #[.iface 58 v]).run Try.prog w=.ok (.iface 103 (.agg #[.pointer (some ⟨0,58,none⟩)])) w:=by kernel_rfl
theorem Try.isComparable (w:World):((Extern.ReflectliteType.method fun t=>do Go.Extern.Rtype.noPackHeld "Comparable" t; (fun a=>Value.bool a.comparable) <$> typeInfo t) #[.agg #[.pointer (some ⟨0,58,none⟩)]]).run Try.prog w=.ok (.bool true) w:=by kernel_rfl
theorem Try.isMethodComparable (v:Value) (w:World):(Go.method 274 103 v "Comparable").run Try.prog w=.ok (103,v) w:=by kernel_rfl
theorem Try.noIsE (v:Value) (xT:TypeId) (w:World):(Instr.typeAssert (.iface 58 v) xT 105 true).run Try.prog w=.ok (.tuple #[.nilIface,.bool false]) w:=run_typeAssert_lacksB Try.underlying105 (by kernel_rfl) (by kernel_rfl) v xT w
theorem Try.noUnwrapE (v:Value) (xT:TypeId) (w:World):(Instr.typeAssert (.iface 58 v) xT 108 true).run Try.prog w=.ok (.tuple #[.nilIface,.bool false]) w:=run_typeAssert_lacksB Try.underlying108 (by kernel_rfl) (by kernel_rfl) v xT w
theorem Try.noUnwrapsE (v:Value) (xT:TypeId) (w:World):(Instr.typeAssert (.iface 58 v) xT 109 true).run Try.prog w=.ok (.tuple #[.nilIface,.bool false]) w:=run_typeAssert_lacksB Try.underlying109 (by kernel_rfl) (by kernel_rfl) v xT w
theorem Try.errEq (a b:Int) (w:World):(binOp .eql 32 (.iface 58 (.int .i64 a)) (.iface 58 (.int .i64 b))).run Try.prog w=.ok (.bool (decide (a=b))) w:=by
 have h:=Wk.eqI_int (a:=a) (b:=b) Try.runUnderlying32 Try.typeInfo58 (by kernel_rfl) Try.runUnderlying58 w
 show (do pure (Value.bool (<- Op.equal 32 (.iface 58 (.int .i64 a)) (.iface 58 (.int .i64 b)))):Sem Value).run Try.prog w=_
 rw [Sem.run_bind,h,Result.andThen_ok]; rfl
theorem is_nil (b:Int) (w:World):Calls Try.prog 30 #[.nilIface,.iface 58 (.int .i64 b)] w fun e w'=>e=.returned (.bool false)/\w'=w:=by
 have heq:(binOp .eql 32 .nilIface (.iface 58 (.int .i64 b))).run Try.prog w=.ok (.bool false) w:=by
  have h:=Wk.eqI_nil2 (t:=58) (v:=.int .i64 b) Try.runUnderlying32 w
  show (do pure (Value.bool (<- Op.equal 32 .nilIface (.iface 58 (.int .i64 b)))):Sem Value).run Try.prog w=_
  rw [Sem.run_bind,h,Result.andThen_ok]; rfl
 go_enter Try.func30,Try.ntmps30
 go_wp2
 go_ret
 exact ⟨rfl,rfl⟩
set_option maxHeartbeats 1600000 in
theorem is_errno (a b:Int) (w:World):Calls Try.prog 30 #[.iface 58 (.int .i64 a),.iface 58 (.int .i64 b)] w fun e w'=>e=.returned (.bool (decide (a=b)))/\w'=w:=by
 have h8:=@run_callFunc_extern Try.prog 47 _ Extern.ReflectliteType.typeOf Try.func47 (by kernel_rfl) (by kernel_rfl) (by kernel_rfl) (by kernel_rfl)
 have h32:=@run_callFunc_extern Try.prog 103 _ (Extern.ReflectliteType.method fun t=>do Go.Extern.Rtype.noPackHeld "Comparable" t; pure (.bool (<- typeInfo t).comparable)) Try.func103 (by kernel_rfl) (by kernel_rfl) (by kernel_rfl) (by kernel_rfl)
 have tT:=Try.isTypeOf
 have cT:=Try.isComparable
 have mR:=Try.isMethodComparable
 have nE:=Try.noIsE
 have uE:=Try.noUnwrapE
 have vE:=Try.noUnwrapsE
 by_cases hab:a=b
 . subst hab
   have heq:=Try.errEq a a
   rw [decide_eq_true rfl] at heq ⊢
   go_enter Try.func30,Try.ntmps30
   go_wp2
   refine wp_loop_rounds 1 ?_
   rw [rounds_succ]
   go_wp2
   go_ret
   exact ⟨rfl,rfl⟩
 . have heq:=Try.errEq a b
   rw [decide_eq_false hab] at heq ⊢
   clear hab
   go_enter Try.func30,Try.ntmps30
   go_wp2
   refine wp_loop_rounds 1 ?_
   rw [rounds_succ]
   go_wp2
   go_ret
   exact ⟨rfl,rfl⟩
theorem Try.noIs115 (v:Value) (xT:TypeId) (w:World):(Instr.typeAssert (.iface 115 v) xT 105 true).run Try.prog w=.ok (.tuple #[.nilIface,.bool false]) w:=run_typeAssert_lacksB Try.underlying105 (by kernel_rfl) (by kernel_rfl) v xT w
theorem Try.unwrap115 (v:Value) (xT:TypeId) (w:World):(Instr.typeAssert (.iface 115 v) xT 108 true).run Try.prog w=.ok (.tuple #[.iface 115 v,.bool true]) w:=run_typeAssert_hasB Try.underlying108 (by kernel_rfl) v xT w
theorem Try.methodUnwrap115 (v:Value) (w:World):(Go.method 274 115 v "Unwrap").run Try.prog w=.ok (113,v) w:=by kernel_rfl
theorem Try.errNe115 (v:Value) (b:Int) (w:World):(binOp .eql 32 (.iface 115 v) (.iface 58 (.int .i64 b))).run Try.prog w=.ok (.bool false) w:=run_eql_iface_types 115 58 v (.int .i64 b) Try.underlying32 (by decide) w
set_option maxHeartbeats 1600000 in
theorem is_w115 (v:Value) (a b:Int) (w:World):Calls Try.prog 30 #[.iface 115 (.agg #[.iface 58 (.int .i64 a)]),.iface 58 (.int .i64 b)] w fun e w'=>e=.returned (.bool (decide (a=b)))/\∃ o,w'=w.alloc o:=by
 have h8:=@run_callFunc_extern Try.prog 47 _ Extern.ReflectliteType.typeOf Try.func47 (by kernel_rfl) (by kernel_rfl) (by kernel_rfl) (by kernel_rfl)
 have h32:=@run_callFunc_extern Try.prog 103 _ (Extern.ReflectliteType.method fun t=>do Go.Extern.Rtype.noPackHeld "Comparable" t; pure (.bool (<- typeInfo t).comparable)) Try.func103 (by kernel_rfl) (by kernel_rfl) (by kernel_rfl) (by kernel_rfl)
 have tT:=Try.isTypeOf
 have cT:=Try.isComparable
 have mR:=Try.isMethodComparable
 have nE:=Try.noIsE
 have uE:=Try.noUnwrapE
 have vE:=Try.noUnwrapsE
 have nF:=Try.noIs115
 have uF:=Try.unwrap115
 have mF:=Try.methodUnwrap115
 have eF:=Try.errNe115
 by_cases hab:a=b
 . subst hab
   have heq:=Try.errEq a a
   rw [decide_eq_true rfl] at heq ⊢
   go_enter Try.func30,Try.ntmps30
   go_wp2
   refine wp_loop_rounds 2 ?_
   rw [rounds_succ]
   go_wp2
   rw [rounds_succ]
   go_wp2
   go_ret
   exact ⟨rfl,_,rfl⟩
 . have heq:=Try.errEq a b
   rw [decide_eq_false hab] at heq ⊢
   clear hab
   go_enter Try.func30,Try.ntmps30
   go_wp2
   refine wp_loop_rounds 2 ?_
   rw [rounds_succ]
   go_wp2
   rw [rounds_succ]
   go_wp2
   go_ret
   exact ⟨rfl,_,rfl⟩
theorem Try.noIs94 (v:Value) (xT:TypeId) (w:World):(Instr.typeAssert (.iface 94 v) xT 105 true).run Try.prog w=.ok (.tuple #[.nilIface,.bool false]) w:=run_typeAssert_lacksB Try.underlying105 (by kernel_rfl) (by kernel_rfl) v xT w
theorem Try.unwrap94 (v:Value) (xT:TypeId) (w:World):(Instr.typeAssert (.iface 94 v) xT 108 true).run Try.prog w=.ok (.tuple #[.iface 94 v,.bool true]) w:=run_typeAssert_hasB Try.underlying108 (by kernel_rfl) v xT w
theorem Try.methodUnwrap94 (v:Value) (w:World):(Go.method 274 94 v "Unwrap").run Try.prog w=.ok (99,v) w:=by kernel_rfl
theorem Try.errNe94 (v:Value) (b:Int) (w:World):(binOp .eql 32 (.iface 94 v) (.iface 58 (.int .i64 b))).run Try.prog w=.ok (.bool false) w:=run_eql_iface_types 94 58 v (.int .i64 b) Try.underlying32 (by decide) w
set_option maxHeartbeats 1600000 in
theorem is_p94 (k:Nat) (a b:Int) (w:World) (hc:w.cell? ⟨k,1,none⟩=some (.iface 58 (.int .i64 a))):Calls Try.prog 30 #[.iface 94 (.pointer (some ⟨k,0,none⟩)),.iface 58 (.int .i64 b)] w fun e w'=>e=.returned (.bool (decide (a=b)))/\w'=w:=by
 have h8:=@run_callFunc_extern Try.prog 47 _ Extern.ReflectliteType.typeOf Try.func47 (by kernel_rfl) (by kernel_rfl) (by kernel_rfl) (by kernel_rfl)
 have h32:=@run_callFunc_extern Try.prog 103 _ (Extern.ReflectliteType.method fun t=>do Go.Extern.Rtype.noPackHeld "Comparable" t; pure (.bool (<- typeInfo t).comparable)) Try.func103 (by kernel_rfl) (by kernel_rfl) (by kernel_rfl) (by kernel_rfl)
 have tT:=Try.isTypeOf
 have cT:=Try.isComparable
 have mR:=Try.isMethodComparable
 have nE:=Try.noIsE
 have uE:=Try.noUnwrapE
 have vE:=Try.noUnwrapsE
 have nF:=Try.noIs94
 have uF:=Try.unwrap94
 have mF:=Try.methodUnwrap94
 have eF:=Try.errNe94
 by_cases hab:a=b
 . subst hab
   have heq:=Try.errEq a a
   rw [decide_eq_true rfl] at heq ⊢
   go_enter Try.func30,Try.ntmps30
   go_wp2
   refine wp_loop_rounds 2 ?_
   rw [rounds_succ]
   go_wp2
   rw [rounds_succ]
   go_wp2
   go_ret
   exact ⟨rfl,rfl⟩
 . have heq:=Try.errEq a b
   rw [decide_eq_false hab] at heq ⊢
   clear hab
   go_enter Try.func30,Try.ntmps30
   go_wp2
   refine wp_loop_rounds 2 ?_
   rw [rounds_succ]
   go_wp2
   rw [rounds_succ]
   go_wp2
   go_ret
   exact ⟨rfl,rfl⟩
end Go.Proofs.Ytckpdliipjekgaa
end
