/- 1 texts, one behind the other. -/
import Derived.Test.YtckpdliipjekgaaGreatChecked
import Derived.WalkKit
import Derived.LaidEql
import Derived.Stop.Asserts
import Derived.RowKitTokens
import Derived.Test.YtckpdliipjekgaaGreatWp1
import Derived.Test.YtckpdliipjekgaaGreatWp4
set_option linter.defProp false
set_option linter.unusedVariables false
set_option linter.unusedSimpArgs false
set_option maxRecDepth 100000
noncomputable section
def b7D:=@Go.run_callFunc_extern
def b7F:=@Go.rounds_succ
def b7K:=@Go.run_typeAssert_lacksB
def b8A:=@Go.wp_loop_rounds
section
namespace Go.Proofs.YtckpdliipjekgaaGreat
open Go.RowKit Go.Extern.Stop Go.Stop Go.Extern
theorem Tryz.a3J (v:Value) (w:World):(Extern.ReflectliteType.typeOf #[.iface 52 v]).run Tryz.prog w=.ok (.iface 117 (.agg #[.pointer (some ⟨0,52,none⟩)])) w:=by kernel_rfl
theorem Tryz.a2J (w:World):((Extern.ReflectliteType.method fun t=>do Go.Extern.Rtype.noPackHeld "Comparable" t; (fun a=>Value.bool a.comparable) <$> typeInfo t) #[.agg #[.pointer (some ⟨0,52,none⟩)]]).run Tryz.prog w=.ok (.bool true) w:=by kernel_rfl
theorem Tryz.a1U (v:Value) (w:World):(Go.method 301 117 v "Comparable").run Tryz.prog w=.ok (125,v) w:=by kernel_rfl
theorem Tryz.a8A (v:Value) (xT:TypeId) (w:World):(Instr.typeAssert (.iface 52 v) xT 119 true).run Tryz.prog w=.ok (.tuple #[.nilIface,.bool false]) w:=b7K Tryz.underlying119 (by kernel_rfl) (by kernel_rfl) v xT w
theorem Tryz.a3B (v:Value) (xT:TypeId) (w:World):(Instr.typeAssert (.iface 52 v) xT 122 true).run Tryz.prog w=.ok (.tuple #[.nilIface,.bool false]) w:=b7K Tryz.underlying122 (by kernel_rfl) (by kernel_rfl) v xT w
theorem Tryz.a2U (v:Value) (xT:TypeId) (w:World):(Instr.typeAssert (.iface 52 v) xT 123 true).run Tryz.prog w=.ok (.tuple #[.nilIface,.bool false]) w:=b7K Tryz.underlying123 (by kernel_rfl) (by kernel_rfl) v xT w
theorem Tryz.a3W (a b:Int) (w:World):(binOp .eql 25 (.iface 52 (.int .i64 a)) (.iface 52 (.int .i64 b))).run Tryz.prog w=.ok (.bool (decide (a=b))) w:=by
 have h:=Wk.a9X (a:=a) (b:=b) Tryz.runUnderlying25 Tryz.typeInfo52 (by kernel_rfl) Tryz.runUnderlying52 w
 show (do pure (Value.bool (<- Op.equal 25 (.iface 52 (.int .i64 a)) (.iface 52 (.int .i64 b)))):Sem Value).run Tryz.prog w=_
 rw [b3S,h,b3O]; rfl
theorem e0i (b:Int) (w:World):Calls Tryz.prog 20 #[.nilIface,.iface 52 (.int .i64 b)] w fun e w'=>e=.returned (.bool false)/\w'=w:=by
 have heq:(binOp .eql 25 .nilIface (.iface 52 (.int .i64 b))).run Tryz.prog w=.ok (.bool false) w:=by
  have h:=Wk.a7T (t:=52) (v:=.int .i64 b) Tryz.runUnderlying25 w
  show (do pure (Value.bool (<- Op.equal 25 .nilIface (.iface 52 (.int .i64 b)))):Sem Value).run Tryz.prog w=_
  rw [b3S,h,b3O]; rfl
 go_enter Tryz.func20,Tryz.ntmps20
 go_wp2
 go_ret
 exact ⟨rfl,rfl⟩
set_option maxHeartbeats 1600000 in
theorem c7y (a b:Int) (w:World):Calls Tryz.prog 20 #[.iface 52 (.int .i64 a),.iface 52 (.int .i64 b)] w fun e w'=>e=.returned (.bool (decide (a=b)))/\w'=w:=by
 have h8:=@b7D Tryz.prog 49 _ Extern.ReflectliteType.typeOf Tryz.func49 (by kernel_rfl) (by kernel_rfl) (by kernel_rfl) (by kernel_rfl)
 have h32:=@b7D Tryz.prog 125 _ (Extern.ReflectliteType.method fun t=>do Go.Extern.Rtype.noPackHeld "Comparable" t; pure (.bool (<- typeInfo t).comparable)) Tryz.func125 (by kernel_rfl) (by kernel_rfl) (by kernel_rfl) (by kernel_rfl)
 have tT:=Tryz.a3J
 have cT:=Tryz.a2J
 have mR:=Tryz.a1U
 have nE:=Tryz.a8A
 have uE:=Tryz.a3B
 have vE:=Tryz.a2U
 by_cases hab:a=b
 . subst hab
   have heq:=Tryz.a3W a a
   rw [b4R rfl] at heq ⊢
   go_enter Tryz.func20,Tryz.ntmps20
   go_wp2
   refine b8A 1 ?_
   rw [b7F]
   go_wp2
   go_ret
   exact ⟨rfl,rfl⟩
 . have heq:=Tryz.a3W a b
   rw [b5K hab] at heq ⊢
   clear hab
   go_enter Tryz.func20,Tryz.ntmps20
   go_wp2
   refine b8A 1 ?_
   rw [b7F]
   go_wp2
   go_ret
   exact ⟨rfl,rfl⟩
theorem Tryz.a8V (v:Value) (xT:TypeId) (w:World):(Instr.typeAssert (.iface 144 v) xT 119 true).run Tryz.prog w=.ok (.tuple #[.nilIface,.bool false]) w:=b7K Tryz.underlying119 (by kernel_rfl) (by kernel_rfl) v xT w
theorem Tryz.a6H (v:Value) (xT:TypeId) (w:World):(Instr.typeAssert (.iface 144 v) xT 122 true).run Tryz.prog w=.ok (.tuple #[.iface 144 v,.bool true]) w:=run_typeAssert_hasB Tryz.underlying122 (by kernel_rfl) v xT w
theorem Tryz.a3H (v:Value) (w:World):(Go.method 301 144 v "Unwrap").run Tryz.prog w=.ok (137,v) w:=by kernel_rfl
theorem Tryz.a7P (v:Value) (b:Int) (w:World):(binOp .eql 25 (.iface 144 v) (.iface 52 (.int .i64 b))).run Tryz.prog w=.ok (.bool false) w:=run_eql_iface_types 144 52 v (.int .i64 b) Tryz.underlying25 (by decide) w
set_option maxHeartbeats 1600000 in
theorem d4u (v:Value) (a b:Int) (w:World):Calls Tryz.prog 20 #[.iface 144 (.agg #[.iface 52 (.int .i64 a)]),.iface 52 (.int .i64 b)] w fun e w'=>e=.returned (.bool (decide (a=b)))/\∃ o,w'=w.alloc o:=by
 have h8:=@b7D Tryz.prog 49 _ Extern.ReflectliteType.typeOf Tryz.func49 (by kernel_rfl) (by kernel_rfl) (by kernel_rfl) (by kernel_rfl)
 have h32:=@b7D Tryz.prog 125 _ (Extern.ReflectliteType.method fun t=>do Go.Extern.Rtype.noPackHeld "Comparable" t; pure (.bool (<- typeInfo t).comparable)) Tryz.func125 (by kernel_rfl) (by kernel_rfl) (by kernel_rfl) (by kernel_rfl)
 have tT:=Tryz.a3J
 have cT:=Tryz.a2J
 have mR:=Tryz.a1U
 have nE:=Tryz.a8A
 have uE:=Tryz.a3B
 have vE:=Tryz.a2U
 have nF:=Tryz.a8V
 have uF:=Tryz.a6H
 have mF:=Tryz.a3H
 have eF:=Tryz.a7P
 by_cases hab:a=b
 . subst hab
   have heq:=Tryz.a3W a a
   rw [b4R rfl] at heq ⊢
   go_enter Tryz.func20,Tryz.ntmps20
   go_wp2
   refine b8A 2 ?_
   rw [b7F]
   go_wp2
   rw [b7F]
   go_wp2
   go_ret
   exact ⟨rfl,_,rfl⟩
 . have heq:=Tryz.a3W a b
   rw [b5K hab] at heq ⊢
   clear hab
   go_enter Tryz.func20,Tryz.ntmps20
   go_wp2
   refine b8A 2 ?_
   rw [b7F]
   go_wp2
   rw [b7F]
   go_wp2
   go_ret
   exact ⟨rfl,_,rfl⟩
theorem Tryz.b0G (v:Value) (xT:TypeId) (w:World):(Instr.typeAssert (.iface 132 v) xT 119 true).run Tryz.prog w=.ok (.tuple #[.nilIface,.bool false]) w:=b7K Tryz.underlying119 (by kernel_rfl) (by kernel_rfl) v xT w
theorem Tryz.a6A (v:Value) (xT:TypeId) (w:World):(Instr.typeAssert (.iface 132 v) xT 122 true).run Tryz.prog w=.ok (.tuple #[.iface 132 v,.bool true]) w:=run_typeAssert_hasB Tryz.underlying122 (by kernel_rfl) v xT w
theorem Tryz.a3F (v:Value) (w:World):(Go.method 301 132 v "Unwrap").run Tryz.prog w=.ok (135,v) w:=by kernel_rfl
theorem Tryz.a7I (v:Value) (b:Int) (w:World):(binOp .eql 25 (.iface 132 v) (.iface 52 (.int .i64 b))).run Tryz.prog w=.ok (.bool false) w:=run_eql_iface_types 132 52 v (.int .i64 b) Tryz.underlying25 (by decide) w
set_option maxHeartbeats 1600000 in
theorem d4l (k:Nat) (a b:Int) (w:World) (hc:w.cell? ⟨k,1,none⟩=some (.iface 52 (.int .i64 a))):Calls Tryz.prog 20 #[.iface 132 (.pointer (some ⟨k,0,none⟩)),.iface 52 (.int .i64 b)] w fun e w'=>e=.returned (.bool (decide (a=b)))/\w'=w:=by
 have h8:=@b7D Tryz.prog 49 _ Extern.ReflectliteType.typeOf Tryz.func49 (by kernel_rfl) (by kernel_rfl) (by kernel_rfl) (by kernel_rfl)
 have h32:=@b7D Tryz.prog 125 _ (Extern.ReflectliteType.method fun t=>do Go.Extern.Rtype.noPackHeld "Comparable" t; pure (.bool (<- typeInfo t).comparable)) Tryz.func125 (by kernel_rfl) (by kernel_rfl) (by kernel_rfl) (by kernel_rfl)
 have tT:=Tryz.a3J
 have cT:=Tryz.a2J
 have mR:=Tryz.a1U
 have nE:=Tryz.a8A
 have uE:=Tryz.a3B
 have vE:=Tryz.a2U
 have nF:=Tryz.b0G
 have uF:=Tryz.a6A
 have mF:=Tryz.a3F
 have eF:=Tryz.a7I
 by_cases hab:a=b
 . subst hab
   have heq:=Tryz.a3W a a
   rw [b4R rfl] at heq ⊢
   go_enter Tryz.func20,Tryz.ntmps20
   go_wp2
   refine b8A 2 ?_
   rw [b7F]
   go_wp2
   rw [b7F]
   go_wp2
   go_ret
   exact ⟨rfl,rfl⟩
 . have heq:=Tryz.a3W a b
   rw [b5K hab] at heq ⊢
   clear hab
   go_enter Tryz.func20,Tryz.ntmps20
   go_wp2
   refine b8A 2 ?_
   rw [b7F]
   go_wp2
   rw [b7F]
   go_wp2
   go_ret
   exact ⟨rfl,rfl⟩
end Go.Proofs.YtckpdliipjekgaaGreat
end
