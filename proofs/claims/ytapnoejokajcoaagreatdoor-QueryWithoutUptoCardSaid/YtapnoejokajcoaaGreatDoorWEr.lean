/- 1 texts, one behind the other. -/
import Derived.Test.YtapnoejokajcoaaGreatDoorChecked
import Derived.WalkKit
import Derived.LaidEql
import Derived.Stop.Asserts
import Derived.RowKitTokens
import Derived.Test.YtapnoejokajcoaaGreatDoorW1
import Derived.Test.YtapnoejokajcoaaGreatDoorW3
set_option linter.defProp false
set_option linter.unusedVariables false
set_option linter.unusedSimpArgs false
set_option maxRecDepth 100000
noncomputable section
def d5p:=@Go.run_callFunc_extern
def d6J:=@Go.run_typeAssert_lacksB
def d6K:=@Go.wp_loop_rounds
def d6q:=@Go.rounds_succ
def d7J:=@Go.run_typeAssert_hasB
def d8r:=@Go.run_eql_iface_types
namespace Go.Proofs.YtapnoejokajcoaaGreatDoor
open Go.RowKit Go.Extern.Stop Go.Stop Go.Extern
def Tryz.a0X(v:Value)(w:World):(Extern.ReflectliteType.typeOf #[.iface 67 v]).run Tryz.prog w=.ok (.iface 177 (.agg #[.pointer (some ⟨4,67,none⟩)])) w:=by kernel_rfl
def Tryz.Y1(w:World):((Extern.ReflectliteType.method fun t=>do Go.Extern.Rtype.noPackHeld "Comparable" t;(fun a=>Value.bool a.comparable) <$> typeInfo t) #[.agg #[.pointer (some ⟨4,67,none⟩)]]).run Tryz.prog w=.ok (.bool true) w:=by kernel_rfl
def Tryz.K4(v:Value)(w:World):(Go.method 432 177 v "Comparable").run Tryz.prog w=.ok (270,v) w:=by kernel_rfl
def Tryz.b6e(v:Value)(xT:TypeId)(w:World):(Instr.typeAssert (.iface 67 v) xT 179 true).run Tryz.prog w=.ok (.tuple #[.nilIface,.bool false]) w:=d6J Tryz.underlying179 (by kernel_rfl) (by kernel_rfl) v xT w
def Tryz.Y9(v:Value)(xT:TypeId)(w:World):(Instr.typeAssert (.iface 67 v) xT 182 true).run Tryz.prog w=.ok (.tuple #[.nilIface,.bool false]) w:=d6J Tryz.underlying182 (by kernel_rfl) (by kernel_rfl) v xT w
def Tryz.S3(v:Value)(xT:TypeId)(w:World):(Instr.typeAssert (.iface 67 v) xT 184 true).run Tryz.prog w=.ok (.tuple #[.nilIface,.bool false]) w:=d6J Tryz.underlying184 (by kernel_rfl) (by kernel_rfl) v xT w
def Tryz.a5p(a b:Int)(w:World):(binOp .eql 43 (.iface 67 (.int .i64 a)) (.iface 67 (.int .i64 b))).run Tryz.prog w=.ok (.bool (decide (a=b))) w:=by
 have h:=Wk.c4a (a:=a) (b:=b) Tryz.runUnderlying43 Tryz.typeInfo67 (by kernel_rfl) Tryz.runUnderlying67 w;show(do pure (Value.bool (<- Op.equal 43 (.iface 67 (.int .i64 a)) (.iface 67 (.int .i64 b)))):Sem Value).run Tryz.prog w=_
 rw[d4X,h,d4V];rfl
def c77(b:Int)(w:World):Calls Tryz.prog 33 #[.nilIface,.iface 67 (.int .i64 b)] w fun e w'=>e=.returned (.bool false)/\w'=w:=by
 have heq:(binOp .eql 43 .nilIface (.iface 67 (.int .i64 b))).run Tryz.prog w=.ok (.bool false) w:=by
  have h:=Wk.c1b (t:=67) (v:=.int .i64 b) Tryz.runUnderlying43 w;show(do pure (Value.bool (<- Op.equal 43 .nilIface (.iface 67 (.int .i64 b)))):Sem Value).run Tryz.prog w=_
  rw[d4X,h,d4V];rfl
 go_enter Tryz.func33,Tryz.ntmps33
 go_wp2
 go_ret
 exact⟨rfl,rfl⟩
set_option maxHeartbeats 1600000 in
def b8P(a b:Int)(w:World):Calls Tryz.prog 33 #[.iface 67 (.int .i64 a),.iface 67 (.int .i64 b)] w fun e w'=>e=.returned (.bool (decide (a=b)))/\w'=w:=by
 have h8:=@d5p Tryz.prog 69 _ Extern.ReflectliteType.typeOf Tryz.func69 (by kernel_rfl) (by kernel_rfl) (by kernel_rfl) (by kernel_rfl);have h32:=@d5p Tryz.prog 270 _ (Extern.ReflectliteType.method fun t=>do Go.Extern.Rtype.noPackHeld "Comparable" t;pure (.bool (<- typeInfo t).comparable)) Tryz.func270 (by kernel_rfl) (by kernel_rfl) (by kernel_rfl) (by kernel_rfl);have tT:=Tryz.a0X;have cT:=Tryz.Y1;have mR:=Tryz.K4;have nE:=Tryz.b6e;have uE:=Tryz.Y9;have vE:=Tryz.S3;by_cases hab:a=b
 . subst hab;have heq:=Tryz.a5p a a;rw[d5e rfl]at heq ⊢
   go_enter Tryz.func33,Tryz.ntmps33
   go_wp2
   refine d6K 1 ?_;rw[d6q]
   go_wp2
   go_ret
   exact⟨rfl,rfl⟩
 . have heq:=Tryz.a5p a b;rw[d5q hab]at heq ⊢;clear hab
   go_enter Tryz.func33,Tryz.ntmps33
   go_wp2
   refine d6K 1 ?_;rw[d6q]
   go_wp2
   go_ret
   exact⟨rfl,rfl⟩
def Tryz.c3r(v:Value)(xT:TypeId)(w:World):(Instr.typeAssert (.iface 205 v) xT 179 true).run Tryz.prog w=.ok (.tuple #[.nilIface,.bool false]) w:=d6J Tryz.underlying179 (by kernel_rfl) (by kernel_rfl) v xT w
def Tryz.b8e(v:Value)(xT:TypeId)(w:World):(Instr.typeAssert (.iface 205 v) xT 182 true).run Tryz.prog w=.ok (.tuple #[.iface 205 v,.bool true]) w:=d7J Tryz.underlying182 (by kernel_rfl) v xT w
def Tryz.a5M(v:Value)(w:World):(Go.method 432 205 v "Unwrap").run Tryz.prog w=.ok (282,v) w:=by kernel_rfl
def Tryz.c1H(v:Value)(b:Int)(w:World):(binOp .eql 43 (.iface 205 v) (.iface 67 (.int .i64 b))).run Tryz.prog w=.ok (.bool false) w:=d8r 205 67 v (.int .i64 b) Tryz.underlying43 (by decide) w
set_option maxHeartbeats 1600000 in
def c2M(v:Value)(a b:Int)(w:World):Calls Tryz.prog 33 #[.iface 205 (.agg #[.int .i64 a]),.iface 67 (.int .i64 b)] w fun e w'=>e=.returned (.bool (decide (a=b)))/\∃o,w'=w.alloc o:=by
 have h8:=@d5p Tryz.prog 69 _ Extern.ReflectliteType.typeOf Tryz.func69 (by kernel_rfl) (by kernel_rfl) (by kernel_rfl) (by kernel_rfl);have h32:=@d5p Tryz.prog 270 _ (Extern.ReflectliteType.method fun t=>do Go.Extern.Rtype.noPackHeld "Comparable" t;pure (.bool (<- typeInfo t).comparable)) Tryz.func270 (by kernel_rfl) (by kernel_rfl) (by kernel_rfl) (by kernel_rfl);have tT:=Tryz.a0X;have cT:=Tryz.Y1;have mR:=Tryz.K4;have nE:=Tryz.b6e;have uE:=Tryz.Y9;have vE:=Tryz.S3;have nF:=Tryz.c3r;have uF:=Tryz.b8e;have mF:=Tryz.a5M;have eF:=Tryz.c1H;by_cases hab:a=b
 . subst hab;have heq:=Tryz.a5p a a;rw[d5e rfl]at heq ⊢
   go_enter Tryz.func33,Tryz.ntmps33
   go_wp2
   refine d6K 2 ?_;rw[d6q]
   go_wp2
   rw[d6q]
   go_wp2
   go_ret
   exact⟨rfl,_,rfl⟩
 . have heq:=Tryz.a5p a b;rw[d5q hab]at heq ⊢;clear hab
   go_enter Tryz.func33,Tryz.ntmps33
   go_wp2
   refine d6K 2 ?_;rw[d6q]
   go_wp2
   rw[d6q]
   go_wp2
   go_ret
   exact⟨rfl,_,rfl⟩
def Tryz.c4s(v:Value)(xT:TypeId)(w:World):(Instr.typeAssert (.iface 195 v) xT 179 true).run Tryz.prog w=.ok (.tuple #[.nilIface,.bool false]) w:=d6J Tryz.underlying179 (by kernel_rfl) (by kernel_rfl) v xT w
def Tryz.b8n(v:Value)(xT:TypeId)(w:World):(Instr.typeAssert (.iface 195 v) xT 182 true).run Tryz.prog w=.ok (.tuple #[.iface 195 v,.bool true]) w:=d7J Tryz.underlying182 (by kernel_rfl) v xT w
def Tryz.a5Y(v:Value)(w:World):(Go.method 432 195 v "Unwrap").run Tryz.prog w=.ok (280,v) w:=by kernel_rfl
def Tryz.b8U(v:Value)(b:Int)(w:World):(binOp .eql 43 (.iface 195 v) (.iface 67 (.int .i64 b))).run Tryz.prog w=.ok (.bool false) w:=d8r 195 67 v (.int .i64 b) Tryz.underlying43 (by decide) w
set_option maxHeartbeats 1600000 in
def c4h(k:Nat)(a b:Int)(w:World)(hc:w.cell? ⟨k,1,none⟩=some (.int .i64 a)):Calls Tryz.prog 33 #[.iface 195 (.pointer (some ⟨k,0,none⟩)),.iface 67 (.int .i64 b)] w fun e w'=>e=.returned (.bool (decide (a=b)))/\w'=w:=by
 have h8:=@d5p Tryz.prog 69 _ Extern.ReflectliteType.typeOf Tryz.func69 (by kernel_rfl) (by kernel_rfl) (by kernel_rfl) (by kernel_rfl);have h32:=@d5p Tryz.prog 270 _ (Extern.ReflectliteType.method fun t=>do Go.Extern.Rtype.noPackHeld "Comparable" t;pure (.bool (<- typeInfo t).comparable)) Tryz.func270 (by kernel_rfl) (by kernel_rfl) (by kernel_rfl) (by kernel_rfl);have tT:=Tryz.a0X;have cT:=Tryz.Y1;have mR:=Tryz.K4;have nE:=Tryz.b6e;have uE:=Tryz.Y9;have vE:=Tryz.S3;have nF:=Tryz.c4s;have uF:=Tryz.b8n;have mF:=Tryz.a5Y;have eF:=Tryz.b8U;by_cases hab:a=b
 . subst hab;have heq:=Tryz.a5p a a;rw[d5e rfl]at heq ⊢
   go_enter Tryz.func33,Tryz.ntmps33
   go_wp2
   refine d6K 2 ?_;rw[d6q]
   go_wp2
   rw[d6q]
   go_wp2
   go_ret
   exact⟨rfl,rfl⟩
 . have heq:=Tryz.a5p a b;rw[d5q hab]at heq ⊢;clear hab
   go_enter Tryz.func33,Tryz.ntmps33
   go_wp2
   refine d6K 2 ?_;rw[d6q]
   go_wp2
   rw[d6q]
   go_wp2
   go_ret
   exact⟨rfl,rfl⟩
def Tryz.c3c(v:Value)(xT:TypeId)(w:World):(Instr.typeAssert (.iface 105 v) xT 179 true).run Tryz.prog w=.ok (.tuple #[.nilIface,.bool false]) w:=d6J Tryz.underlying179 (by kernel_rfl) (by kernel_rfl) v xT w
def Tryz.b8k(v:Value)(xT:TypeId)(w:World):(Instr.typeAssert (.iface 105 v) xT 182 true).run Tryz.prog w=.ok (.tuple #[.iface 105 v,.bool true]) w:=d7J Tryz.underlying182 (by kernel_rfl) v xT w
def Tryz.a5G(v:Value)(w:World):(Go.method 432 105 v "Unwrap").run Tryz.prog w=.ok (264,v) w:=by kernel_rfl
def Tryz.c0b(v:Value)(b:Int)(w:World):(binOp .eql 43 (.iface 105 v) (.iface 67 (.int .i64 b))).run Tryz.prog w=.ok (.bool false) w:=d8r 105 67 v (.int .i64 b) Tryz.underlying43 (by decide) w
set_option maxHeartbeats 1600000 in
def c3P(k:Nat)(a b:Int)(w:World)(hc:w.cell? ⟨k,1,none⟩=some (.iface 67 (.int .i64 a))):Calls Tryz.prog 33 #[.iface 105 (.pointer (some ⟨k,0,none⟩)),.iface 67 (.int .i64 b)] w fun e w'=>e=.returned (.bool (decide (a=b)))/\w'=w:=by
 have h8:=@d5p Tryz.prog 69 _ Extern.ReflectliteType.typeOf Tryz.func69 (by kernel_rfl) (by kernel_rfl) (by kernel_rfl) (by kernel_rfl);have h32:=@d5p Tryz.prog 270 _ (Extern.ReflectliteType.method fun t=>do Go.Extern.Rtype.noPackHeld "Comparable" t;pure (.bool (<- typeInfo t).comparable)) Tryz.func270 (by kernel_rfl) (by kernel_rfl) (by kernel_rfl) (by kernel_rfl);have tT:=Tryz.a0X;have cT:=Tryz.Y1;have mR:=Tryz.K4;have nE:=Tryz.b6e;have uE:=Tryz.Y9;have vE:=Tryz.S3;have nF:=Tryz.c3c;have uF:=Tryz.b8k;have mF:=Tryz.a5G;have eF:=Tryz.c0b;by_cases hab:a=b
 . subst hab;have heq:=Tryz.a5p a a;rw[d5e rfl]at heq ⊢
   go_enter Tryz.func33,Tryz.ntmps33
   go_wp2
   refine d6K 2 ?_;rw[d6q]
   go_wp2
   rw[d6q]
   go_wp2
   go_ret
   exact⟨rfl,rfl⟩
 . have heq:=Tryz.a5p a b;rw[d5q hab]at heq ⊢;clear hab
   go_enter Tryz.func33,Tryz.ntmps33
   go_wp2
   refine d6K 2 ?_;rw[d6q]
   go_wp2
   rw[d6q]
   go_wp2
   go_ret
   exact⟨rfl,rfl⟩
end Go.Proofs.YtapnoejokajcoaaGreatDoor
