/- 1 texts, one behind the other. -/
import Derived.Test.YtapnoejokajcoaaGreatDoorChecked
import Derived.WalkKit
import Derived.LaidEql
import Derived.Stop.Asserts
import Derived.RowKitTokens
import Derived.Test.YtapnoejokajcoaaGreatDoorU1
import Derived.Test.YtapnoejokajcoaaGreatDoorU3
set_option linter.defProp false
set_option linter.unusedVariables false
set_option linter.unusedSimpArgs false
set_option maxRecDepth 100000
noncomputable section
def d4E:=@Go.run_callFunc_extern
def d5B:=@Go.rounds_succ
def d5V:=@Go.run_typeAssert_lacksB
def d5W:=@Go.wp_loop_rounds
def d6Z:=@Go.run_typeAssert_hasB
def d7E:=@Go.run_eql_iface_types
namespace Go.Proofs.YtapnoejokajcoaaGreatDoor
open Go.RowKit Go.Extern.Stop Go.Stop Go.Extern
def Tryz.a0O(v:Value)(w:World):(Extern.ReflectliteType.typeOf #[.iface 67 v]).run Tryz.prog w=.ok (.iface 177 (.agg #[.pointer (some ⟨4,67,none⟩)])) w:=by kernel_rfl
def Tryz.X2(w:World):((Extern.ReflectliteType.method fun t=>do Go.Extern.Rtype.noPackHeld "Comparable" t;(fun a=>Value.bool a.comparable) <$> typeInfo t) #[.agg #[.pointer (some ⟨4,67,none⟩)]]).run Tryz.prog w=.ok (.bool true) w:=by kernel_rfl
def Tryz.J6(v:Value)(w:World):(Go.method 432 177 v "Comparable").run Tryz.prog w=.ok (270,v) w:=by kernel_rfl
def Tryz.b5M(v:Value)(xT:TypeId)(w:World):(Instr.typeAssert (.iface 67 v) xT 179 true).run Tryz.prog w=.ok (.tuple #[.nilIface,.bool false]) w:=d5V Tryz.underlying179 (by kernel_rfl) (by kernel_rfl) v xT w
def Tryz.X9(v:Value)(xT:TypeId)(w:World):(Instr.typeAssert (.iface 67 v) xT 182 true).run Tryz.prog w=.ok (.tuple #[.nilIface,.bool false]) w:=d5V Tryz.underlying182 (by kernel_rfl) (by kernel_rfl) v xT w
def Tryz.R6(v:Value)(xT:TypeId)(w:World):(Instr.typeAssert (.iface 67 v) xT 184 true).run Tryz.prog w=.ok (.tuple #[.nilIface,.bool false]) w:=d5V Tryz.underlying184 (by kernel_rfl) (by kernel_rfl) v xT w
def Tryz.a5h(a b:Int)(w:World):(binOp .eql 43 (.iface 67 (.int .i64 a)) (.iface 67 (.int .i64 b))).run Tryz.prog w=.ok (.bool (decide (a=b))) w:=by
 have h:=Wk.c3B (a:=a) (b:=b) Tryz.runUnderlying43 Tryz.typeInfo67 (by kernel_rfl) Tryz.runUnderlying67 w;show(do pure (Value.bool (<- Op.equal 43 (.iface 67 (.int .i64 a)) (.iface 67 (.int .i64 b)))):Sem Value).run Tryz.prog w=_
 rw[d4n,h,d4l];rfl
def c6C(b:Int)(w:World):Calls Tryz.prog 33 #[.nilIface,.iface 67 (.int .i64 b)] w fun e w'=>e=.returned (.bool false)/\w'=w:=by
 have heq:(binOp .eql 43 .nilIface (.iface 67 (.int .i64 b))).run Tryz.prog w=.ok (.bool false) w:=by
  have h:=Wk.c0y (t:=67) (v:=.int .i64 b) Tryz.runUnderlying43 w;show(do pure (Value.bool (<- Op.equal 43 .nilIface (.iface 67 (.int .i64 b)))):Sem Value).run Tryz.prog w=_
  rw[d4n,h,d4l];rfl
 go_enter Tryz.func33,Tryz.ntmps33
 go_wp2
 go_ret
 exact⟨rfl,rfl⟩
set_option maxHeartbeats 1600000 in
def b8l(a b:Int)(w:World):Calls Tryz.prog 33 #[.iface 67 (.int .i64 a),.iface 67 (.int .i64 b)] w fun e w'=>e=.returned (.bool (decide (a=b)))/\w'=w:=by
 have h8:=@d4E Tryz.prog 69 _ Extern.ReflectliteType.typeOf Tryz.func69 (by kernel_rfl) (by kernel_rfl) (by kernel_rfl) (by kernel_rfl);have h32:=@d4E Tryz.prog 270 _ (Extern.ReflectliteType.method fun t=>do Go.Extern.Rtype.noPackHeld "Comparable" t;pure (.bool (<- typeInfo t).comparable)) Tryz.func270 (by kernel_rfl) (by kernel_rfl) (by kernel_rfl) (by kernel_rfl);have tT:=Tryz.a0O;have cT:=Tryz.X2;have mR:=Tryz.J6;have nE:=Tryz.b5M;have uE:=Tryz.X9;have vE:=Tryz.R6;by_cases hab:a=b
 . subst hab;have heq:=Tryz.a5h a a;rw[d4u rfl]at heq ⊢
   go_enter Tryz.func33,Tryz.ntmps33
   go_wp2
   refine d5W 1 ?_;rw[d5B]
   go_wp2
   go_ret
   exact⟨rfl,rfl⟩
 . have heq:=Tryz.a5h a b;rw[d4F hab]at heq ⊢;clear hab
   go_enter Tryz.func33,Tryz.ntmps33
   go_wp2
   refine d5W 1 ?_;rw[d5B]
   go_wp2
   go_ret
   exact⟨rfl,rfl⟩
def Tryz.c2Q(v:Value)(xT:TypeId)(w:World):(Instr.typeAssert (.iface 205 v) xT 179 true).run Tryz.prog w=.ok (.tuple #[.nilIface,.bool false]) w:=d5V Tryz.underlying179 (by kernel_rfl) (by kernel_rfl) v xT w
def Tryz.b7J(v:Value)(xT:TypeId)(w:World):(Instr.typeAssert (.iface 205 v) xT 182 true).run Tryz.prog w=.ok (.tuple #[.iface 205 v,.bool true]) w:=d6Z Tryz.underlying182 (by kernel_rfl) v xT w
def Tryz.a5G(v:Value)(w:World):(Go.method 432 205 v "Unwrap").run Tryz.prog w=.ok (282,v) w:=by kernel_rfl
def Tryz.c13(v:Value)(b:Int)(w:World):(binOp .eql 43 (.iface 205 v) (.iface 67 (.int .i64 b))).run Tryz.prog w=.ok (.bool false) w:=d7E 205 67 v (.int .i64 b) Tryz.underlying43 (by decide) w
set_option maxHeartbeats 1600000 in
def c2d(v:Value)(a b:Int)(w:World):Calls Tryz.prog 33 #[.iface 205 (.agg #[.int .i64 a]),.iface 67 (.int .i64 b)] w fun e w'=>e=.returned (.bool (decide (a=b)))/\∃o,w'=w.alloc o:=by
 have h8:=@d4E Tryz.prog 69 _ Extern.ReflectliteType.typeOf Tryz.func69 (by kernel_rfl) (by kernel_rfl) (by kernel_rfl) (by kernel_rfl);have h32:=@d4E Tryz.prog 270 _ (Extern.ReflectliteType.method fun t=>do Go.Extern.Rtype.noPackHeld "Comparable" t;pure (.bool (<- typeInfo t).comparable)) Tryz.func270 (by kernel_rfl) (by kernel_rfl) (by kernel_rfl) (by kernel_rfl);have tT:=Tryz.a0O;have cT:=Tryz.X2;have mR:=Tryz.J6;have nE:=Tryz.b5M;have uE:=Tryz.X9;have vE:=Tryz.R6;have nF:=Tryz.c2Q;have uF:=Tryz.b7J;have mF:=Tryz.a5G;have eF:=Tryz.c13;by_cases hab:a=b
 . subst hab;have heq:=Tryz.a5h a a;rw[d4u rfl]at heq ⊢
   go_enter Tryz.func33,Tryz.ntmps33
   go_wp2
   refine d5W 2 ?_;rw[d5B]
   go_wp2
   rw[d5B]
   go_wp2
   go_ret
   exact⟨rfl,_,rfl⟩
 . have heq:=Tryz.a5h a b;rw[d4F hab]at heq ⊢;clear hab
   go_enter Tryz.func33,Tryz.ntmps33
   go_wp2
   refine d5W 2 ?_;rw[d5B]
   go_wp2
   rw[d5B]
   go_wp2
   go_ret
   exact⟨rfl,_,rfl⟩
def Tryz.c3T(v:Value)(xT:TypeId)(w:World):(Instr.typeAssert (.iface 195 v) xT 179 true).run Tryz.prog w=.ok (.tuple #[.nilIface,.bool false]) w:=d5V Tryz.underlying179 (by kernel_rfl) (by kernel_rfl) v xT w
def Tryz.b7S(v:Value)(xT:TypeId)(w:World):(Instr.typeAssert (.iface 195 v) xT 182 true).run Tryz.prog w=.ok (.tuple #[.iface 195 v,.bool true]) w:=d6Z Tryz.underlying182 (by kernel_rfl) v xT w
def Tryz.a5S(v:Value)(w:World):(Go.method 432 195 v "Unwrap").run Tryz.prog w=.ok (280,v) w:=by kernel_rfl
def Tryz.b8q(v:Value)(b:Int)(w:World):(binOp .eql 43 (.iface 195 v) (.iface 67 (.int .i64 b))).run Tryz.prog w=.ok (.bool false) w:=d7E 195 67 v (.int .i64 b) Tryz.underlying43 (by decide) w
set_option maxHeartbeats 1600000 in
def c3I(k:Nat)(a b:Int)(w:World)(hc:w.cell? ⟨k,1,none⟩=some (.int .i64 a)):Calls Tryz.prog 33 #[.iface 195 (.pointer (some ⟨k,0,none⟩)),.iface 67 (.int .i64 b)] w fun e w'=>e=.returned (.bool (decide (a=b)))/\w'=w:=by
 have h8:=@d4E Tryz.prog 69 _ Extern.ReflectliteType.typeOf Tryz.func69 (by kernel_rfl) (by kernel_rfl) (by kernel_rfl) (by kernel_rfl);have h32:=@d4E Tryz.prog 270 _ (Extern.ReflectliteType.method fun t=>do Go.Extern.Rtype.noPackHeld "Comparable" t;pure (.bool (<- typeInfo t).comparable)) Tryz.func270 (by kernel_rfl) (by kernel_rfl) (by kernel_rfl) (by kernel_rfl);have tT:=Tryz.a0O;have cT:=Tryz.X2;have mR:=Tryz.J6;have nE:=Tryz.b5M;have uE:=Tryz.X9;have vE:=Tryz.R6;have nF:=Tryz.c3T;have uF:=Tryz.b7S;have mF:=Tryz.a5S;have eF:=Tryz.b8q;by_cases hab:a=b
 . subst hab;have heq:=Tryz.a5h a a;rw[d4u rfl]at heq ⊢
   go_enter Tryz.func33,Tryz.ntmps33
   go_wp2
   refine d5W 2 ?_;rw[d5B]
   go_wp2
   rw[d5B]
   go_wp2
   go_ret
   exact⟨rfl,rfl⟩
 . have heq:=Tryz.a5h a b;rw[d4F hab]at heq ⊢;clear hab
   go_enter Tryz.func33,Tryz.ntmps33
   go_wp2
   refine d5W 2 ?_;rw[d5B]
   go_wp2
   rw[d5B]
   go_wp2
   go_ret
   exact⟨rfl,rfl⟩
def Tryz.c2C(v:Value)(xT:TypeId)(w:World):(Instr.typeAssert (.iface 105 v) xT 179 true).run Tryz.prog w=.ok (.tuple #[.nilIface,.bool false]) w:=d5V Tryz.underlying179 (by kernel_rfl) (by kernel_rfl) v xT w
def Tryz.b7P(v:Value)(xT:TypeId)(w:World):(Instr.typeAssert (.iface 105 v) xT 182 true).run Tryz.prog w=.ok (.tuple #[.iface 105 v,.bool true]) w:=d6Z Tryz.underlying182 (by kernel_rfl) v xT w
def Tryz.a5z(v:Value)(w:World):(Go.method 432 105 v "Unwrap").run Tryz.prog w=.ok (264,v) w:=by kernel_rfl
def Tryz.b9z(v:Value)(b:Int)(w:World):(binOp .eql 43 (.iface 105 v) (.iface 67 (.int .i64 b))).run Tryz.prog w=.ok (.bool false) w:=d7E 105 67 v (.int .i64 b) Tryz.underlying43 (by decide) w
set_option maxHeartbeats 1600000 in
def c3g(k:Nat)(a b:Int)(w:World)(hc:w.cell? ⟨k,1,none⟩=some (.iface 67 (.int .i64 a))):Calls Tryz.prog 33 #[.iface 105 (.pointer (some ⟨k,0,none⟩)),.iface 67 (.int .i64 b)] w fun e w'=>e=.returned (.bool (decide (a=b)))/\w'=w:=by
 have h8:=@d4E Tryz.prog 69 _ Extern.ReflectliteType.typeOf Tryz.func69 (by kernel_rfl) (by kernel_rfl) (by kernel_rfl) (by kernel_rfl);have h32:=@d4E Tryz.prog 270 _ (Extern.ReflectliteType.method fun t=>do Go.Extern.Rtype.noPackHeld "Comparable" t;pure (.bool (<- typeInfo t).comparable)) Tryz.func270 (by kernel_rfl) (by kernel_rfl) (by kernel_rfl) (by kernel_rfl);have tT:=Tryz.a0O;have cT:=Tryz.X2;have mR:=Tryz.J6;have nE:=Tryz.b5M;have uE:=Tryz.X9;have vE:=Tryz.R6;have nF:=Tryz.c2C;have uF:=Tryz.b7P;have mF:=Tryz.a5z;have eF:=Tryz.b9z;by_cases hab:a=b
 . subst hab;have heq:=Tryz.a5h a a;rw[d4u rfl]at heq ⊢
   go_enter Tryz.func33,Tryz.ntmps33
   go_wp2
   refine d5W 2 ?_;rw[d5B]
   go_wp2
   rw[d5B]
   go_wp2
   go_ret
   exact⟨rfl,rfl⟩
 . have heq:=Tryz.a5h a b;rw[d4F hab]at heq ⊢;clear hab
   go_enter Tryz.func33,Tryz.ntmps33
   go_wp2
   refine d5W 2 ?_;rw[d5B]
   go_wp2
   rw[d5B]
   go_wp2
   go_ret
   exact⟨rfl,rfl⟩
end Go.Proofs.YtapnoejokajcoaaGreatDoor
