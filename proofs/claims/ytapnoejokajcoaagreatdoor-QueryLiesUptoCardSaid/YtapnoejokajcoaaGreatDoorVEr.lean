/- 1 texts, one behind the other. -/
import Derived.Test.YtapnoejokajcoaaGreatDoorChecked
import Derived.WalkKit
import Derived.LaidEql
import Derived.Stop.Asserts
import Derived.RowKitTokens
import Derived.Test.YtapnoejokajcoaaGreatDoorV1
import Derived.Test.YtapnoejokajcoaaGreatDoorV3
set_option linter.defProp false
set_option linter.unusedVariables false
set_option linter.unusedSimpArgs false
set_option maxRecDepth 100000
noncomputable section
def d4S:=@Go.run_callFunc_extern
def d5R:=@Go.rounds_succ
def d6j:=@Go.run_typeAssert_lacksB
def d6k:=@Go.wp_loop_rounds
def d7T:=@Go.run_eql_iface_types
def d7l:=@Go.run_typeAssert_hasB
namespace Go.Proofs.YtapnoejokajcoaaGreatDoor
open Go.RowKit Go.Extern.Stop Go.Stop Go.Extern
def Tryz.a0Q(v:Value)(w:World):(Extern.ReflectliteType.typeOf #[.iface 67 v]).run Tryz.prog w=.ok (.iface 177 (.agg #[.pointer (some ⟨4,67,none⟩)])) w:=by kernel_rfl
def Tryz.X4(w:World):((Extern.ReflectliteType.method fun t=>do Go.Extern.Rtype.noPackHeld "Comparable" t;(fun a=>Value.bool a.comparable) <$> typeInfo t) #[.agg #[.pointer (some ⟨4,67,none⟩)]]).run Tryz.prog w=.ok (.bool true) w:=by kernel_rfl
def Tryz.J9(v:Value)(w:World):(Go.method 432 177 v "Comparable").run Tryz.prog w=.ok (270,v) w:=by kernel_rfl
def Tryz.b5U(v:Value)(xT:TypeId)(w:World):(Instr.typeAssert (.iface 67 v) xT 179 true).run Tryz.prog w=.ok (.tuple #[.nilIface,.bool false]) w:=d6j Tryz.underlying179 (by kernel_rfl) (by kernel_rfl) v xT w
def Tryz.Y3(v:Value)(xT:TypeId)(w:World):(Instr.typeAssert (.iface 67 v) xT 182 true).run Tryz.prog w=.ok (.tuple #[.nilIface,.bool false]) w:=d6j Tryz.underlying182 (by kernel_rfl) (by kernel_rfl) v xT w
def Tryz.R6(v:Value)(xT:TypeId)(w:World):(Instr.typeAssert (.iface 67 v) xT 184 true).run Tryz.prog w=.ok (.tuple #[.nilIface,.bool false]) w:=d6j Tryz.underlying184 (by kernel_rfl) (by kernel_rfl) v xT w
def Tryz.a5g(a b:Int)(w:World):(binOp .eql 43 (.iface 67 (.int .i64 a)) (.iface 67 (.int .i64 b))).run Tryz.prog w=.ok (.bool (decide (a=b))) w:=by
 have h:=Wk.c3O (a:=a) (b:=b) Tryz.runUnderlying43 Tryz.typeInfo67 (by kernel_rfl) Tryz.runUnderlying67 w;show(do pure (Value.bool (<- Op.equal 43 (.iface 67 (.int .i64 a)) (.iface 67 (.int .i64 b)))):Sem Value).run Tryz.prog w=_
 rw[d4A,h,d4y];rfl
def c6K(b:Int)(w:World):Calls Tryz.prog 33 #[.nilIface,.iface 67 (.int .i64 b)] w fun e w'=>e=.returned (.bool false)/\w'=w:=by
 have heq:(binOp .eql 43 .nilIface (.iface 67 (.int .i64 b))).run Tryz.prog w=.ok (.bool false) w:=by
  have h:=Wk.c0L (t:=67) (v:=.int .i64 b) Tryz.runUnderlying43 w;show(do pure (Value.bool (<- Op.equal 43 .nilIface (.iface 67 (.int .i64 b)))):Sem Value).run Tryz.prog w=_
  rw[d4A,h,d4y];rfl
 go_enter Tryz.func33,Tryz.ntmps33
 go_wp2
 go_ret
 exact⟨rfl,rfl⟩
set_option maxHeartbeats 1600000 in
def b8s(a b:Int)(w:World):Calls Tryz.prog 33 #[.iface 67 (.int .i64 a),.iface 67 (.int .i64 b)] w fun e w'=>e=.returned (.bool (decide (a=b)))/\w'=w:=by
 have h8:=@d4S Tryz.prog 69 _ Extern.ReflectliteType.typeOf Tryz.func69 (by kernel_rfl) (by kernel_rfl) (by kernel_rfl) (by kernel_rfl);have h32:=@d4S Tryz.prog 270 _ (Extern.ReflectliteType.method fun t=>do Go.Extern.Rtype.noPackHeld "Comparable" t;pure (.bool (<- typeInfo t).comparable)) Tryz.func270 (by kernel_rfl) (by kernel_rfl) (by kernel_rfl) (by kernel_rfl);have tT:=Tryz.a0Q;have cT:=Tryz.X4;have mR:=Tryz.J9;have nE:=Tryz.b5U;have uE:=Tryz.Y3;have vE:=Tryz.R6;by_cases hab:a=b
 . subst hab;have heq:=Tryz.a5g a a;rw[d4K rfl]at heq ⊢
   go_enter Tryz.func33,Tryz.ntmps33
   go_wp2
   refine d6k 1 ?_;rw[d5R]
   go_wp2
   go_ret
   exact⟨rfl,rfl⟩
 . have heq:=Tryz.a5g a b;rw[d4T hab]at heq ⊢;clear hab
   go_enter Tryz.func33,Tryz.ntmps33
   go_wp2
   refine d6k 1 ?_;rw[d5R]
   go_wp2
   go_ret
   exact⟨rfl,rfl⟩
def Tryz.c33(v:Value)(xT:TypeId)(w:World):(Instr.typeAssert (.iface 205 v) xT 179 true).run Tryz.prog w=.ok (.tuple #[.nilIface,.bool false]) w:=d6j Tryz.underlying179 (by kernel_rfl) (by kernel_rfl) v xT w
def Tryz.b7S(v:Value)(xT:TypeId)(w:World):(Instr.typeAssert (.iface 205 v) xT 182 true).run Tryz.prog w=.ok (.tuple #[.iface 205 v,.bool true]) w:=d7l Tryz.underlying182 (by kernel_rfl) v xT w
def Tryz.a5D(v:Value)(w:World):(Go.method 432 205 v "Unwrap").run Tryz.prog w=.ok (282,v) w:=by kernel_rfl
def Tryz.c1h(v:Value)(b:Int)(w:World):(binOp .eql 43 (.iface 205 v) (.iface 67 (.int .i64 b))).run Tryz.prog w=.ok (.bool false) w:=d7T 205 67 v (.int .i64 b) Tryz.underlying43 (by decide) w
set_option maxHeartbeats 1600000 in
def c2n(v:Value)(a b:Int)(w:World):Calls Tryz.prog 33 #[.iface 205 (.agg #[.int .i64 a]),.iface 67 (.int .i64 b)] w fun e w'=>e=.returned (.bool (decide (a=b)))/\∃o,w'=w.alloc o:=by
 have h8:=@d4S Tryz.prog 69 _ Extern.ReflectliteType.typeOf Tryz.func69 (by kernel_rfl) (by kernel_rfl) (by kernel_rfl) (by kernel_rfl);have h32:=@d4S Tryz.prog 270 _ (Extern.ReflectliteType.method fun t=>do Go.Extern.Rtype.noPackHeld "Comparable" t;pure (.bool (<- typeInfo t).comparable)) Tryz.func270 (by kernel_rfl) (by kernel_rfl) (by kernel_rfl) (by kernel_rfl);have tT:=Tryz.a0Q;have cT:=Tryz.X4;have mR:=Tryz.J9;have nE:=Tryz.b5U;have uE:=Tryz.Y3;have vE:=Tryz.R6;have nF:=Tryz.c33;have uF:=Tryz.b7S;have mF:=Tryz.a5D;have eF:=Tryz.c1h;by_cases hab:a=b
 . subst hab;have heq:=Tryz.a5g a a;rw[d4K rfl]at heq ⊢
   go_enter Tryz.func33,Tryz.ntmps33
   go_wp2
   refine d6k 2 ?_;rw[d5R]
   go_wp2
   rw[d5R]
   go_wp2
   go_ret
   exact⟨rfl,_,rfl⟩
 . have heq:=Tryz.a5g a b;rw[d4T hab]at heq ⊢;clear hab
   go_enter Tryz.func33,Tryz.ntmps33
   go_wp2
   refine d6k 2 ?_;rw[d5R]
   go_wp2
   rw[d5R]
   go_wp2
   go_ret
   exact⟨rfl,_,rfl⟩
def Tryz.c46(v:Value)(xT:TypeId)(w:World):(Instr.typeAssert (.iface 195 v) xT 179 true).run Tryz.prog w=.ok (.tuple #[.nilIface,.bool false]) w:=d6j Tryz.underlying179 (by kernel_rfl) (by kernel_rfl) v xT w
def Tryz.b81(v:Value)(xT:TypeId)(w:World):(Instr.typeAssert (.iface 195 v) xT 182 true).run Tryz.prog w=.ok (.tuple #[.iface 195 v,.bool true]) w:=d7l Tryz.underlying182 (by kernel_rfl) v xT w
def Tryz.a5P(v:Value)(w:World):(Go.method 432 195 v "Unwrap").run Tryz.prog w=.ok (280,v) w:=by kernel_rfl
def Tryz.b8x(v:Value)(b:Int)(w:World):(binOp .eql 43 (.iface 195 v) (.iface 67 (.int .i64 b))).run Tryz.prog w=.ok (.bool false) w:=d7T 195 67 v (.int .i64 b) Tryz.underlying43 (by decide) w
set_option maxHeartbeats 1600000 in
def c3V(k:Nat)(a b:Int)(w:World)(hc:w.cell? ⟨k,1,none⟩=some (.int .i64 a)):Calls Tryz.prog 33 #[.iface 195 (.pointer (some ⟨k,0,none⟩)),.iface 67 (.int .i64 b)] w fun e w'=>e=.returned (.bool (decide (a=b)))/\w'=w:=by
 have h8:=@d4S Tryz.prog 69 _ Extern.ReflectliteType.typeOf Tryz.func69 (by kernel_rfl) (by kernel_rfl) (by kernel_rfl) (by kernel_rfl);have h32:=@d4S Tryz.prog 270 _ (Extern.ReflectliteType.method fun t=>do Go.Extern.Rtype.noPackHeld "Comparable" t;pure (.bool (<- typeInfo t).comparable)) Tryz.func270 (by kernel_rfl) (by kernel_rfl) (by kernel_rfl) (by kernel_rfl);have tT:=Tryz.a0Q;have cT:=Tryz.X4;have mR:=Tryz.J9;have nE:=Tryz.b5U;have uE:=Tryz.Y3;have vE:=Tryz.R6;have nF:=Tryz.c46;have uF:=Tryz.b81;have mF:=Tryz.a5P;have eF:=Tryz.b8x;by_cases hab:a=b
 . subst hab;have heq:=Tryz.a5g a a;rw[d4K rfl]at heq ⊢
   go_enter Tryz.func33,Tryz.ntmps33
   go_wp2
   refine d6k 2 ?_;rw[d5R]
   go_wp2
   rw[d5R]
   go_wp2
   go_ret
   exact⟨rfl,rfl⟩
 . have heq:=Tryz.a5g a b;rw[d4T hab]at heq ⊢;clear hab
   go_enter Tryz.func33,Tryz.ntmps33
   go_wp2
   refine d6k 2 ?_;rw[d5R]
   go_wp2
   rw[d5R]
   go_wp2
   go_ret
   exact⟨rfl,rfl⟩
def Tryz.c2L(v:Value)(xT:TypeId)(w:World):(Instr.typeAssert (.iface 105 v) xT 179 true).run Tryz.prog w=.ok (.tuple #[.nilIface,.bool false]) w:=d6j Tryz.underlying179 (by kernel_rfl) (by kernel_rfl) v xT w
def Tryz.b7Y(v:Value)(xT:TypeId)(w:World):(Instr.typeAssert (.iface 105 v) xT 182 true).run Tryz.prog w=.ok (.tuple #[.iface 105 v,.bool true]) w:=d7l Tryz.underlying182 (by kernel_rfl) v xT w
def Tryz.a5x(v:Value)(w:World):(Go.method 432 105 v "Unwrap").run Tryz.prog w=.ok (264,v) w:=by kernel_rfl
def Tryz.b9N(v:Value)(b:Int)(w:World):(binOp .eql 43 (.iface 105 v) (.iface 67 (.int .i64 b))).run Tryz.prog w=.ok (.bool false) w:=d7T 105 67 v (.int .i64 b) Tryz.underlying43 (by decide) w
set_option maxHeartbeats 1600000 in
def c3s(k:Nat)(a b:Int)(w:World)(hc:w.cell? ⟨k,1,none⟩=some (.iface 67 (.int .i64 a))):Calls Tryz.prog 33 #[.iface 105 (.pointer (some ⟨k,0,none⟩)),.iface 67 (.int .i64 b)] w fun e w'=>e=.returned (.bool (decide (a=b)))/\w'=w:=by
 have h8:=@d4S Tryz.prog 69 _ Extern.ReflectliteType.typeOf Tryz.func69 (by kernel_rfl) (by kernel_rfl) (by kernel_rfl) (by kernel_rfl);have h32:=@d4S Tryz.prog 270 _ (Extern.ReflectliteType.method fun t=>do Go.Extern.Rtype.noPackHeld "Comparable" t;pure (.bool (<- typeInfo t).comparable)) Tryz.func270 (by kernel_rfl) (by kernel_rfl) (by kernel_rfl) (by kernel_rfl);have tT:=Tryz.a0Q;have cT:=Tryz.X4;have mR:=Tryz.J9;have nE:=Tryz.b5U;have uE:=Tryz.Y3;have vE:=Tryz.R6;have nF:=Tryz.c2L;have uF:=Tryz.b7Y;have mF:=Tryz.a5x;have eF:=Tryz.b9N;by_cases hab:a=b
 . subst hab;have heq:=Tryz.a5g a a;rw[d4K rfl]at heq ⊢
   go_enter Tryz.func33,Tryz.ntmps33
   go_wp2
   refine d6k 2 ?_;rw[d5R]
   go_wp2
   rw[d5R]
   go_wp2
   go_ret
   exact⟨rfl,rfl⟩
 . have heq:=Tryz.a5g a b;rw[d4T hab]at heq ⊢;clear hab
   go_enter Tryz.func33,Tryz.ntmps33
   go_wp2
   refine d6k 2 ?_;rw[d5R]
   go_wp2
   rw[d5R]
   go_wp2
   go_ret
   exact⟨rfl,rfl⟩
end Go.Proofs.YtapnoejokajcoaaGreatDoor
