/- 1 texts, one behind the other. -/
import Derived.Test.YtdjfeninmbpflaaGreatChecked
import Derived.WalkKit
import Derived.LaidEql
import Derived.Stop.Asserts
import Derived.RowKitTokens
import Derived.Test.YtdjfeninmbpflaaGreatV1
set_option linter.unusedVariables false
set_option linter.unusedSimpArgs false
set_option maxRecDepth 100000
section
namespace Go.Proofs.YtdjfeninmbpflaaGreat
open Go.RowKit Go.Extern.Stop Go.Stop Go.Extern
theorem Tryz.isTypeOf (v:Value) (w:World):(Extern.ReflectliteType.typeOf #[.iface 61 v]).run Tryz.prog w=.ok (.iface 120 (.agg #[.pointer (some ⟨0,61,none⟩)])) w:=by kernel_rfl
theorem Tryz.isComparable (w:World):((Extern.ReflectliteType.method fun t=>do Go.Extern.Rtype.noPackHeld "Comparable" t; (fun a=>Value.bool a.comparable) <$> typeInfo t) #[.agg #[.pointer (some ⟨0,61,none⟩)]]).run Tryz.prog w=.ok (.bool true) w:=by kernel_rfl
theorem Tryz.isMethodComparable (v:Value) (w:World):(Go.method 291 120 v "Comparable").run Tryz.prog w=.ok (153,v) w:=by kernel_rfl
theorem Tryz.noIsE (v:Value) (xT:TypeId) (w:World):(Instr.typeAssert (.iface 61 v) xT 122 true).run Tryz.prog w=.ok (.tuple #[.nilIface,.bool false]) w:=run_typeAssert_lacksB Tryz.underlying122 (by kernel_rfl) (by kernel_rfl) v xT w
theorem Tryz.noUnwrapE (v:Value) (xT:TypeId) (w:World):(Instr.typeAssert (.iface 61 v) xT 125 true).run Tryz.prog w=.ok (.tuple #[.nilIface,.bool false]) w:=run_typeAssert_lacksB Tryz.underlying125 (by kernel_rfl) (by kernel_rfl) v xT w
theorem Tryz.noUnwrapsE (v:Value) (xT:TypeId) (w:World):(Instr.typeAssert (.iface 61 v) xT 127 true).run Tryz.prog w=.ok (.tuple #[.nilIface,.bool false]) w:=run_typeAssert_lacksB Tryz.underlying127 (by kernel_rfl) (by kernel_rfl) v xT w
theorem Tryz.errEq (a b:Int) (w:World):(binOp .eql 35 (.iface 61 (.int .i64 a)) (.iface 61 (.int .i64 b))).run Tryz.prog w=.ok (.bool (decide (a=b))) w:=by
 have h:=Wk.eqI_int (a:=a) (b:=b) Tryz.runUnderlying35 Tryz.typeInfo61 (by kernel_rfl) Tryz.runUnderlying61 w
 show (do pure (Value.bool (<- Op.equal 35 (.iface 61 (.int .i64 a)) (.iface 61 (.int .i64 b)))):Sem Value).run Tryz.prog w=_
 rw [Sem.run_bind,h,Result.andThen_ok]; rfl
theorem d2j (b:Int) (w:World):Calls Tryz.prog 38 #[.nilIface,.iface 61 (.int .i64 b)] w fun e w'=>e=.returned (.bool false)/\w'=w:=by
 have heq:(binOp .eql 35 .nilIface (.iface 61 (.int .i64 b))).run Tryz.prog w=.ok (.bool false) w:=by
  have h:=Wk.eqI_nil2 (t:=61) (v:=.int .i64 b) Tryz.runUnderlying35 w
  show (do pure (Value.bool (<- Op.equal 35 .nilIface (.iface 61 (.int .i64 b)))):Sem Value).run Tryz.prog w=_
  rw [Sem.run_bind,h,Result.andThen_ok]; rfl
 go_enter Tryz.func38,Tryz.ntmps38
 go_wp2
 go_ret
 exact ⟨rfl,rfl⟩
set_option maxHeartbeats 1600000 in
theorem c7m (a b:Int) (w:World):Calls Tryz.prog 38 #[.iface 61 (.int .i64 a),.iface 61 (.int .i64 b)] w fun e w'=>e=.returned (.bool (decide (a=b)))/\w'=w:=by
 have h8:=@run_callFunc_extern Tryz.prog 62 _ Extern.ReflectliteType.typeOf Tryz.func62 (by kernel_rfl) (by kernel_rfl) (by kernel_rfl) (by kernel_rfl)
 have h32:=@run_callFunc_extern Tryz.prog 153 _ (Extern.ReflectliteType.method fun t=>do Go.Extern.Rtype.noPackHeld "Comparable" t; pure (.bool (<- typeInfo t).comparable)) Tryz.func153 (by kernel_rfl) (by kernel_rfl) (by kernel_rfl) (by kernel_rfl)
 have tT:=Tryz.isTypeOf
 have cT:=Tryz.isComparable
 have mR:=Tryz.isMethodComparable
 have nE:=Tryz.noIsE
 have uE:=Tryz.noUnwrapE
 have vE:=Tryz.noUnwrapsE
 by_cases hab:a=b
 . subst hab
   have heq:=Tryz.errEq a a
   rw [decide_eq_true rfl] at heq ⊢
   go_enter Tryz.func38,Tryz.ntmps38
   go_wp2
   refine wp_loop_rounds 1 ?_
   rw [rounds_succ]
   go_wp2
   go_ret
   exact ⟨rfl,rfl⟩
 . have heq:=Tryz.errEq a b
   rw [decide_eq_false hab] at heq ⊢
   clear hab
   go_enter Tryz.func38,Tryz.ntmps38
   go_wp2
   refine wp_loop_rounds 1 ?_
   rw [rounds_succ]
   go_wp2
   go_ret
   exact ⟨rfl,rfl⟩
theorem Tryz.noIs87 (v:Value) (xT:TypeId) (w:World):(Instr.typeAssert (.iface 87 v) xT 122 true).run Tryz.prog w=.ok (.tuple #[.nilIface,.bool false]) w:=run_typeAssert_lacksB Tryz.underlying122 (by kernel_rfl) (by kernel_rfl) v xT w
theorem Tryz.unwrap87 (v:Value) (xT:TypeId) (w:World):(Instr.typeAssert (.iface 87 v) xT 125 true).run Tryz.prog w=.ok (.tuple #[.iface 87 v,.bool true]) w:=run_typeAssert_hasB Tryz.underlying125 (by kernel_rfl) v xT w
theorem Tryz.methodUnwrap87 (v:Value) (w:World):(Go.method 291 87 v "Unwrap").run Tryz.prog w=.ok (149,v) w:=by kernel_rfl
theorem Tryz.errNe87 (v:Value) (b:Int) (w:World):(binOp .eql 35 (.iface 87 v) (.iface 61 (.int .i64 b))).run Tryz.prog w=.ok (.bool false) w:=run_eql_iface_types 87 61 v (.int .i64 b) Tryz.underlying35 (by decide) w
set_option maxHeartbeats 1600000 in
theorem d6b (v:Value) (a b:Int) (w:World):Calls Tryz.prog 38 #[.iface 87 (.agg #[.int .i64 a]),.iface 61 (.int .i64 b)] w fun e w'=>e=.returned (.bool (decide (a=b)))/\∃ o,w'=w.alloc o:=by
 have h8:=@run_callFunc_extern Tryz.prog 62 _ Extern.ReflectliteType.typeOf Tryz.func62 (by kernel_rfl) (by kernel_rfl) (by kernel_rfl) (by kernel_rfl)
 have h32:=@run_callFunc_extern Tryz.prog 153 _ (Extern.ReflectliteType.method fun t=>do Go.Extern.Rtype.noPackHeld "Comparable" t; pure (.bool (<- typeInfo t).comparable)) Tryz.func153 (by kernel_rfl) (by kernel_rfl) (by kernel_rfl) (by kernel_rfl)
 have tT:=Tryz.isTypeOf
 have cT:=Tryz.isComparable
 have mR:=Tryz.isMethodComparable
 have nE:=Tryz.noIsE
 have uE:=Tryz.noUnwrapE
 have vE:=Tryz.noUnwrapsE
 have nF:=Tryz.noIs87
 have uF:=Tryz.unwrap87
 have mF:=Tryz.methodUnwrap87
 have eF:=Tryz.errNe87
 by_cases hab:a=b
 . subst hab
   have heq:=Tryz.errEq a a
   rw [decide_eq_true rfl] at heq ⊢
   go_enter Tryz.func38,Tryz.ntmps38
   go_wp2
   refine wp_loop_rounds 2 ?_
   rw [rounds_succ]
   go_wp2
   rw [rounds_succ]
   go_wp2
   go_ret
   exact ⟨rfl,_,rfl⟩
 . have heq:=Tryz.errEq a b
   rw [decide_eq_false hab] at heq ⊢
   clear hab
   go_enter Tryz.func38,Tryz.ntmps38
   go_wp2
   refine wp_loop_rounds 2 ?_
   rw [rounds_succ]
   go_wp2
   rw [rounds_succ]
   go_wp2
   go_ret
   exact ⟨rfl,_,rfl⟩
end Go.Proofs.YtdjfeninmbpflaaGreat
end
