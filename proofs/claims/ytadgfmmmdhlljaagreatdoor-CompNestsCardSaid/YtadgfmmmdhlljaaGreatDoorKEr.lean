/- 1 texts, one behind the other. -/
import Derived.Test.YtadgfmmmdhlljaaGreatDoorChecked
import Derived.WalkKit
import Derived.LaidEql
import Derived.Stop.Asserts
import Derived.RowKitTokens
import Derived.Test.YtadgfmmmdhlljaaGreatDoorK1
set_option linter.unusedVariables false
set_option linter.unusedSimpArgs false
set_option maxRecDepth 100000
section
namespace Go.Proofs.YtadgfmmmdhlljaaGreatDoor
open Go.RowKit Go.Extern.Stop Go.Stop Go.Extern
theorem Tryz.isTypeOf (v : Value) (w : World) : (Extern.ReflectliteType.typeOf #[.iface 47 v]).run Tryz.prog w = .ok (.iface 116 (.agg #[.pointer (some ⟨4,47,none⟩)])) w:=by kernel_rfl
theorem Tryz.typeOfF (v : Value) (w : World) : (Extern.ReflectliteType.typeOf #[.iface 71 v]).run Tryz.prog w = .ok (.iface 116 (.agg #[.pointer (some ⟨4,71,none⟩)])) w:=by kernel_rfl
theorem Tryz.isComparable (w : World) : ((Extern.ReflectliteType.method fun t=>do Go.Extern.Rtype.noPackHeld "Comparable" t; (fun a=>Value.bool a.comparable) <$> typeInfo t) #[.agg #[.pointer (some ⟨4,47,none⟩)]]).run Tryz.prog w = .ok (.bool true) w:=by kernel_rfl
theorem Tryz.isMethodComparable (v : Value) (w : World) : (Go.method 298 116 v "Comparable").run Tryz.prog w = .ok (144,v) w:=by kernel_rfl
theorem Tryz.noIsE (v : Value) (xT : TypeId) (w : World) : (Instr.typeAssert (.iface 47 v) xT 118 true).run Tryz.prog w = .ok (.tuple #[.nilIface,.bool false]) w:=run_typeAssert_lacksB Tryz.underlying118 (by kernel_rfl) (by kernel_rfl) v xT w
theorem Tryz.noUnwrapE (v : Value) (xT : TypeId) (w : World) : (Instr.typeAssert (.iface 47 v) xT 121 true).run Tryz.prog w = .ok (.tuple #[.nilIface,.bool false]) w:=run_typeAssert_lacksB Tryz.underlying121 (by kernel_rfl) (by kernel_rfl) v xT w
theorem Tryz.noUnwrapsE (v : Value) (xT : TypeId) (w : World) : (Instr.typeAssert (.iface 47 v) xT 123 true).run Tryz.prog w = .ok (.tuple #[.nilIface,.bool false]) w:=run_typeAssert_lacksB Tryz.underlying123 (by kernel_rfl) (by kernel_rfl) v xT w
theorem Tryz.noAsE (v : Value) (xT : TypeId) (w : World) : (Instr.typeAssert (.iface 47 v) xT 141 true).run Tryz.prog w = .ok (.tuple #[.nilIface,.bool false]) w:=run_typeAssert_lacksB Tryz.underlying141 (by kernel_rfl) (by kernel_rfl) v xT w
theorem Tryz.noIsF (v : Value) (xT : TypeId) (w : World) : (Instr.typeAssert (.iface 71 v) xT 118 true).run Tryz.prog w = .ok (.tuple #[.nilIface,.bool false]) w:=run_typeAssert_lacksB Tryz.underlying118 (by kernel_rfl) (by kernel_rfl) v xT w
theorem Tryz.noAsF (v : Value) (xT : TypeId) (w : World) : (Instr.typeAssert (.iface 71 v) xT 141 true).run Tryz.prog w = .ok (.tuple #[.nilIface,.bool false]) w:=run_typeAssert_lacksB Tryz.underlying141 (by kernel_rfl) (by kernel_rfl) v xT w
theorem Tryz.unwrapF (v : Value) (xT : TypeId) (w : World) : (Instr.typeAssert (.iface 71 v) xT 121 true).run Tryz.prog w = .ok (.tuple #[.iface 71 v,.bool true]) w:=run_typeAssert_hasB Tryz.underlying121 (by kernel_rfl) v xT w
theorem Tryz.methodUnwrapF (v : Value) (w : World) : (Go.method 298 71 v "Unwrap").run Tryz.prog w = .ok (138,v) w:=by kernel_rfl
theorem Tryz.errEq (a b : Int) (w : World) : (binOp .eql 26 (.iface 47 (.int .i64 a)) (.iface 47 (.int .i64 b))).run Tryz.prog w = .ok (.bool (decide (a = b))) w:=by
 have h:=Wk.eqI_int (a:=a) (b:=b) Tryz.runUnderlying26 Tryz.typeInfo47 (by kernel_rfl) Tryz.runUnderlying47 w
 show (do pure (Value.bool (<- Op.equal 26 (.iface 47 (.int .i64 a)) (.iface 47 (.int .i64 b)))) : Sem Value).run Tryz.prog w = _
 rw [Sem.run_bind,h,Result.andThen_ok]; rfl
theorem Tryz.errNeF (v : Value) (b : Int) (w : World) : (binOp .eql 26 (.iface 71 v) (.iface 47 (.int .i64 b))).run Tryz.prog w = .ok (.bool false) w:=run_eql_iface_types 71 47 v (.int .i64 b) Tryz.underlying26 (by decide) w
theorem is_nil (b : Int) (w : World) : Calls Tryz.prog 23 #[.nilIface,.iface 47 (.int .i64 b)] w fun e w'=>e = .returned (.bool false) /\ w' = w:=by
 have heq : (binOp .eql 26 .nilIface (.iface 47 (.int .i64 b))).run Tryz.prog w = .ok (.bool false) w:=by
  have h:=Wk.eqI_nil2 (t:=47) (v:=.int .i64 b) Tryz.runUnderlying26 w
  show (do pure (Value.bool (<- Op.equal 26 .nilIface (.iface 47 (.int .i64 b)))) : Sem Value).run Tryz.prog w = _
  rw [Sem.run_bind,h,Result.andThen_ok]; rfl
 go_enter Tryz.func23,Tryz.ntmps23
 go_wp2
 go_ret
 exact ⟨rfl,rfl⟩
set_option maxHeartbeats 1600000 in
theorem is_errno (a b : Int) (w : World) : Calls Tryz.prog 23 #[.iface 47 (.int .i64 a),.iface 47 (.int .i64 b)] w fun e w'=>e = .returned (.bool (decide (a = b))) /\ w' = w:=by
 have h8:=@run_callFunc_extern Tryz.prog 40 _ Extern.ReflectliteType.typeOf Tryz.func40 (by kernel_rfl) (by kernel_rfl) (by kernel_rfl) (by kernel_rfl)
 have h32:=@run_callFunc_extern Tryz.prog 144 _ (Extern.ReflectliteType.method fun t=>do Go.Extern.Rtype.noPackHeld "Comparable" t; pure (.bool (<- typeInfo t).comparable)) Tryz.func144 (by kernel_rfl) (by kernel_rfl) (by kernel_rfl) (by kernel_rfl)
 have tT:=Tryz.isTypeOf
 have cT:=Tryz.isComparable
 have mR:=Tryz.isMethodComparable
 have nE:=Tryz.noIsE
 have uE:=Tryz.noUnwrapE
 have vE:=Tryz.noUnwrapsE
 by_cases hab : a = b
 . subst hab
   have heq:=Tryz.errEq a a
   rw [decide_eq_true rfl] at heq ⊢
   go_enter Tryz.func23,Tryz.ntmps23
   go_wp2
   refine wp_loop_rounds 1 ?_
   rw [rounds_succ]
   go_wp2
   go_ret
   exact ⟨rfl,rfl⟩
 . have heq:=Tryz.errEq a b
   rw [decide_eq_false hab] at heq ⊢
   clear hab
   go_enter Tryz.func23,Tryz.ntmps23
   go_wp2
   refine wp_loop_rounds 1 ?_
   rw [rounds_succ]
   go_wp2
   go_ret
   exact ⟨rfl,rfl⟩
set_option maxHeartbeats 1600000 in
theorem is_fault (k : Nat) (a b : Int) (w : World) (hc : w.cell? ⟨k,1,none⟩ = some (.int .i64 a)) : Calls Tryz.prog 23 #[.iface 71 (.pointer (some ⟨k,0,none⟩)),.iface 47 (.int .i64 b)] w fun e w'=>e = .returned (.bool (decide (a = b))) /\ w' = w:=by
 have h8:=@run_callFunc_extern Tryz.prog 40 _ Extern.ReflectliteType.typeOf Tryz.func40 (by kernel_rfl) (by kernel_rfl) (by kernel_rfl) (by kernel_rfl)
 have h32:=@run_callFunc_extern Tryz.prog 144 _ (Extern.ReflectliteType.method fun t=>do Go.Extern.Rtype.noPackHeld "Comparable" t; pure (.bool (<- typeInfo t).comparable)) Tryz.func144 (by kernel_rfl) (by kernel_rfl) (by kernel_rfl) (by kernel_rfl)
 have tT:=Tryz.isTypeOf
 have cT:=Tryz.isComparable
 have mR:=Tryz.isMethodComparable
 have nE:=Tryz.noIsE
 have uE:=Tryz.noUnwrapE
 have vE:=Tryz.noUnwrapsE
 have nF:=Tryz.noIsF
 have uF:=Tryz.unwrapF
 have mF:=Tryz.methodUnwrapF
 have eF:=Tryz.errNeF
 by_cases hab : a = b
 . subst hab
   have heq:=Tryz.errEq a a
   rw [decide_eq_true rfl] at heq ⊢
   go_enter Tryz.func23,Tryz.ntmps23
   go_wp2
   refine wp_loop_rounds 2 ?_
   rw [rounds_succ]
   go_wp2
   rw [rounds_succ]
   go_wp2
   go_ret
   exact ⟨rfl,rfl⟩
 . have heq:=Tryz.errEq a b
   rw [decide_eq_false hab] at heq ⊢
   clear hab
   go_enter Tryz.func23,Tryz.ntmps23
   go_wp2
   refine wp_loop_rounds 2 ?_
   rw [rounds_succ]
   go_wp2
   rw [rounds_succ]
   go_wp2
   go_ret
   exact ⟨rfl,rfl⟩
theorem Tryz.noIs134 (v : Value) (xT : TypeId) (w : World) : (Instr.typeAssert (.iface 134 v) xT 118 true).run Tryz.prog w = .ok (.tuple #[.nilIface,.bool false]) w:=run_typeAssert_lacksB Tryz.underlying118 (by kernel_rfl) (by kernel_rfl) v xT w
theorem Tryz.noAs134 (v : Value) (xT : TypeId) (w : World) : (Instr.typeAssert (.iface 134 v) xT 141 true).run Tryz.prog w = .ok (.tuple #[.nilIface,.bool false]) w:=run_typeAssert_lacksB Tryz.underlying141 (by kernel_rfl) (by kernel_rfl) v xT w
theorem Tryz.unwrap134 (v : Value) (xT : TypeId) (w : World) : (Instr.typeAssert (.iface 134 v) xT 121 true).run Tryz.prog w = .ok (.tuple #[.iface 134 v,.bool true]) w:=run_typeAssert_hasB Tryz.underlying121 (by kernel_rfl) v xT w
theorem Tryz.methodUnwrap134 (v : Value) (w : World) : (Go.method 298 134 v "Unwrap").run Tryz.prog w = .ok (154,v) w:=by kernel_rfl
theorem Tryz.errNe134 (v : Value) (b : Int) (w : World) : (binOp .eql 26 (.iface 134 v) (.iface 47 (.int .i64 b))).run Tryz.prog w = .ok (.bool false) w:=run_eql_iface_types 134 47 v (.int .i64 b) Tryz.underlying26 (by decide) w
theorem Tryz.typeOf134 (v : Value) (w : World) : (Extern.ReflectliteType.typeOf #[.iface 134 v]).run Tryz.prog w = .ok (.iface 116 (.agg #[.pointer (some ⟨4,134,none⟩)])) w:=by kernel_rfl
set_option maxHeartbeats 1600000 in
theorem is_w134 (v : Value) (a b : Int) (w : World) : Calls Tryz.prog 23 #[.iface 134 (.agg #[v,.int .i64 a]),.iface 47 (.int .i64 b)] w fun e w'=>e = .returned (.bool (decide (a = b))) /\ ∃ o,w' = w.alloc o:=by
 have h8:=@run_callFunc_extern Tryz.prog 40 _ Extern.ReflectliteType.typeOf Tryz.func40 (by kernel_rfl) (by kernel_rfl) (by kernel_rfl) (by kernel_rfl)
 have h32:=@run_callFunc_extern Tryz.prog 144 _ (Extern.ReflectliteType.method fun t=>do Go.Extern.Rtype.noPackHeld "Comparable" t; pure (.bool (<- typeInfo t).comparable)) Tryz.func144 (by kernel_rfl) (by kernel_rfl) (by kernel_rfl) (by kernel_rfl)
 have tT:=Tryz.isTypeOf
 have cT:=Tryz.isComparable
 have mR:=Tryz.isMethodComparable
 have nE:=Tryz.noIsE
 have uE:=Tryz.noUnwrapE
 have vE:=Tryz.noUnwrapsE
 have nF:=Tryz.noIs134
 have uF:=Tryz.unwrap134
 have mF:=Tryz.methodUnwrap134
 have eF:=Tryz.errNe134
 by_cases hab : a = b
 . subst hab
   have heq:=Tryz.errEq a a
   rw [decide_eq_true rfl] at heq ⊢
   go_enter Tryz.func23,Tryz.ntmps23
   go_wp2
   refine wp_loop_rounds 2 ?_
   rw [rounds_succ]
   go_wp2
   rw [rounds_succ]
   go_wp2
   go_ret
   exact ⟨rfl,_,rfl⟩
 . have heq:=Tryz.errEq a b
   rw [decide_eq_false hab] at heq ⊢
   clear hab
   go_enter Tryz.func23,Tryz.ntmps23
   go_wp2
   refine wp_loop_rounds 2 ?_
   rw [rounds_succ]
   go_wp2
   rw [rounds_succ]
   go_wp2
   go_ret
   exact ⟨rfl,_,rfl⟩
end Go.Proofs.YtadgfmmmdhlljaaGreatDoor
end
