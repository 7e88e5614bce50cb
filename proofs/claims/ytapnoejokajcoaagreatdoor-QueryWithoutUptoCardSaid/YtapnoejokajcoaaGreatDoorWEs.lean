/- 1 texts, one behind the other. -/
import Derived.Test.YtapnoejokajcoaaGreatDoorWEr
set_option linter.defProp false
set_option linter.unusedVariables false
set_option linter.unusedSimpArgs false
set_option maxRecDepth 100000
noncomputable section
def d5G:=@Go.World.cell?_alloc_lt
def d6D:=@Array.getElem?_eq_none
def d6y:=@Go.World.frozen?_alloc_old
namespace Go.Proofs.YtapnoejokajcoaaGreatDoor
open Go.RowKit Go.Extern.Stop Go.Stop Go.Extern
def Tryz.c61(v:Value)(xT:TypeId)(w:World):(Instr.typeAssert (.iface 67 v) xT 215 true).run Tryz.prog w=.ok (.tuple #[.nilIface,.bool false]) w:=d6J Tryz.underlying215 (by kernel_rfl) (by kernel_rfl) v xT w
def Tryz.c6k(v:Value)(xT:TypeId)(w:World):(Instr.typeAssert (.iface 105 v) xT 215 true).run Tryz.prog w=.ok (.tuple #[.nilIface,.bool false]) w:=d6J Tryz.underlying215 (by kernel_rfl) (by kernel_rfl) v xT w
def Tryz.b6R(v:Value)(w:World):(Extern.ReflectliteType.typeOf #[.iface 105 v]).run Tryz.prog w=.ok (.iface 177 (.agg #[.pointer (some ⟨4,105,none⟩)])) w:=by kernel_rfl
def Tryz.b5G(v:Value)(xT:TypeId)(w:World):(Instr.typeAssert (.iface 105 v) xT 182 true).run Tryz.prog w=.ok (.tuple #[.iface 105 v,.bool true]) w:=d7J Tryz.underlying182 (by kernel_rfl) v xT w
def Tryz.a3v(v:Value)(w:World):(Go.method 432 105 v "Unwrap").run Tryz.prog w=.ok (264,v) w:=by kernel_rfl
def c7X(t:Value)(w:World):Calls Tryz.prog 63 #[.nilIface,t] w fun e w'=>e=.returned (.bool false)/\w'=w:=by
 go_enter Tryz.func63,Tryz.ntmps63
 go_wp2
 go_ret
 exact⟨rfl,rfl⟩
def rlm(z:Sem Value)(f:TypeId->Addr->Nat->Nat->Sem Value)(v:Value) :
  ReflectliteValue.method z f #[v]=(do match <- ReflectliteValue.parts v with|none=>z|some (t,a,fl)=>f t a fl (fl%32)):=rfl
def rls(v x:Value):ReflectliteValue.set #[v,x]=(do
  let(some (dst,a,fl),some (src,b,_)):=(<- ReflectliteValue.parts v,<- ReflectliteValue.parts x)
   |unsupported (.noEntry "extern/(internal/reflectlite.Value).Set.zeroValue")
  if fl / ReflectliteValue.flagAddr%2 == 0 then unsupported (.noEntry "extern/(internal/reflectlite.Value).Set.unaddressable")
  let val <- loadVar src b
  if <- Rtype.directlyAssignable dst src then storeVar dst a val
  else if <- Rtype.implements dst src then
   if(<- Rtype.kind src) == 20 then
    match val with
    |.nilIface=>unsupported (.noEntry "extern/reflectlite: a nil value of one interface type handed on as a value of another")
    |_=>storeVar dst a val
   else storeVar dst a (.iface src val)
  else panicString ("reflectlite.Set: value of type " ++ (<- Rtype.spelt src) ++ " is not assignable to type " ++ (<- Rtype.spelt dst))
  pure (.tuple #[])):=rfl
def Tryz.a6E(h:Value)(w:World):(Go.method 432 177 (.agg #[h]) "Kind").run Tryz.prog w=.ok (259,h) w:=by kernel_rfl
def Tryz.a7d(h:Value)(w:World):(Go.method 432 177 (.agg #[h]) "Elem").run Tryz.prog w=.ok (271,.agg #[h]) w:=by kernel_rfl
def Tryz.a19(h:Value)(w:World):(Go.method 432 177 (.agg #[h]) "Implements").run Tryz.prog w=.ok (272,.agg #[h]) w:=by kernel_rfl
def Tryz.a07(h:Value)(w:World):(Go.method 432 177 (.agg #[h]) "AssignableTo").run Tryz.prog w=.ok (269,.agg #[h]) w:=by kernel_rfl
def Tryz.b5U(w:World):((ReflectliteType.abiMethod fun t=>(fun a:Nat=>Value.int IntKind.u8 (a:Int)) <$> Rtype.kind t) #[.pointer (some ⟨4,113,none⟩)]).run Tryz.prog w=.ok (.int .u8 22) w:=by kernel_rfl
def Tryz.b9m(w:World):((ReflectliteType.abiMethod fun t=>(fun a:Nat=>Value.int IntKind.u8 (a:Int)) <$> Rtype.kind t) #[.pointer (some ⟨4,67,none⟩)]).run Tryz.prog w=.ok (.int .u8 2) w:=by kernel_rfl
def Tryz.a7t(t:Addr)(w:World):(ReflectliteValue.unpack (.iface 113 (.pointer (some t)))).run Tryz.prog w=.ok (.agg #[.pointer (some ⟨4,113,none⟩),.pointer (some ⟨w.heap.size,0,none⟩),.int .u64 150]) (w.alloc (.cells #[.pointer (some t)] 113)):=by kernel_rfl
def Tryz.type113(a:Addr)(w:World):(ReflectliteValue.methodAny (ReflectliteValue.valueError "reflectlite.Value.Type" 0) (fun t _ _ _=>ReflectliteType.toType t) #[.agg #[.pointer (some ⟨4,113,none⟩),.pointer (some a),.int .u64 150]]).run Tryz.prog w=.ok (.iface 177 (.agg #[.pointer (some ⟨4,113,none⟩)])) w:=by kernel_rfl
def Tryz.b1A(a:Addr)(w:World):(ReflectliteValue.parts (.agg #[.pointer (some ⟨4,113,none⟩),.pointer (some a),.int .u64 150])).run Tryz.prog w=.ok (some (113,a,150)) w:=by kernel_rfl
def Tryz.b2w(a p:Addr)(W:World)(ha:W.cell? a=some (.pointer (some p))):(ReflectliteValue.method (ReflectliteValue.valueError "reflectlite.Value.IsNil" 0) ReflectliteValue.isNil #[.agg #[.pointer (some ⟨4,113,none⟩),.pointer (some a),.int .u64 150]]).run Tryz.prog W=.ok (.bool false) W:=by rw[rlm];simp only[d4X,Tryz.b1A,Result.andThen];simp[ReflectliteValue.isNil,loadVar,isAgg,underlying,Tryz.underlying113,ha,Result.andThen]
def Tryz.b6Y(w:World):(ReflectliteType.method ReflectliteType.elem #[.agg #[.pointer (some ⟨4,113,none⟩)]]).run Tryz.prog w=.ok (.iface 177 (.agg #[.pointer (some ⟨4,67,none⟩)])) w:=by kernel_rfl
def Tryz.a4q(w:World):(ReflectliteType.relation "Implements" ReflectliteType.implements_ #[.agg #[.pointer (some ⟨4,67,none⟩)],.iface 177 (.agg #[.pointer (some ⟨4,43,none⟩)])]).run Tryz.prog w=.ok (.bool true) w:=by kernel_rfl
def Tryz.a94(x:Int)(w:World):(ReflectliteValue.unpack (.iface 67 (.int .i64 x))).run Tryz.prog w=.ok (.agg #[.pointer (some ⟨4,67,none⟩),.pointer (some ⟨w.heap.size,0,none⟩),.int .u64 130]) (w.alloc (.cells #[.int .i64 x] 67)):=by kernel_rfl
def Tryz.b75(w:World):(Rtype.elem? 113).run Tryz.prog w=.ok (some 67) w:=by kernel_rfl
def Tryz.d3n(p:Addr)(w:World):(ReflectliteValue.mk 67 p ReflectliteValue.flagAddr).run Tryz.prog w=.ok (.agg #[.pointer (some ⟨4,67,none⟩),.pointer (some p),.int .u64 386]) w:=by kernel_rfl
def Tryz.b3g(a p:Addr)(W:World)(ha:W.cell? a=some (.pointer (some p))):(ReflectliteValue.method (ReflectliteValue.valueError "reflectlite.Value.Elem" 0) ReflectliteValue.elem #[.agg #[.pointer (some ⟨4,113,none⟩),.pointer (some a),.int .u64 150]]).run Tryz.prog W=.ok (.agg #[.pointer (some ⟨4,67,none⟩),.pointer (some p),.int .u64 386]) W:=by rw[rlm];simp only[d4X,Tryz.b1A,Result.andThen];simp[ReflectliteValue.elem,loadVar,isAgg,underlying,Tryz.underlying113,ha,Result.andThen,Tryz.b75,Tryz.d3n]
def Tryz.b9F(a:Addr)(w:World):(ReflectliteValue.parts (.agg #[.pointer (some ⟨4,67,none⟩),.pointer (some a),.int .u64 386])).run Tryz.prog w=.ok (some (67,a,386)) w:=by kernel_rfl
def Tryz.c2P(a:Addr)(w:World):(ReflectliteValue.parts (.agg #[.pointer (some ⟨4,67,none⟩),.pointer (some a),.int .u64 130])).run Tryz.prog w=.ok (some (67,a,130)) w:=by kernel_rfl
def Tryz.c1U(w:World):(Rtype.directlyAssignable 67 67).run Tryz.prog w=.ok true w:=by kernel_rfl
def Tryz.c5t(ta b:Addr)(x:Int)(old:Value)(W:World)(hb:W.cell? b=some (.int .i64 x))(ht:W.cell? ta=some old)(hf:W.frozen? ta=false):(ReflectliteValue.set #[.agg #[.pointer (some ⟨4,67,none⟩),.pointer (some ta),.int .u64 386],.agg #[.pointer (some ⟨4,67,none⟩),.pointer (some b),.int .u64 130]]).run Tryz.prog W=.ok (.tuple #[]) (W.setCell ta (.int .i64 x)):=by rw[rls];simp only[d4X,Tryz.b9F,Tryz.c2P,Result.andThen];simp[ReflectliteValue.flagAddr,loadVar,isAgg,underlying,Tryz.underlying67,hb,Result.andThen,Tryz.c1U,storeVar,Value.cells,storeCells,Addr.add];rw[run_store Tryz.prog W ta _ _ (by rfl)];simp[ht,hf]
def Tryz.a1H(w:World):(ReflectliteType.relation "AssignableTo" ReflectliteType.assignableTo #[.agg #[.pointer (some ⟨4,67,none⟩)],.iface 177 (.agg #[.pointer (some ⟨4,67,none⟩)])]).run Tryz.prog w=.ok (.bool true) w:=by kernel_rfl
def Tryz.a0J(w:World):(ReflectliteType.relation "AssignableTo" ReflectliteType.assignableTo #[.agg #[.pointer (some ⟨4,105,none⟩)],.iface 177 (.agg #[.pointer (some ⟨4,67,none⟩)])]).run Tryz.prog w=.ok (.bool false) w:=by kernel_rfl
set_option maxHeartbeats 4000000 in
def c85(x:Int)(t:Addr)(old:Value)(w:World)(hg:w.cell? ⟨0,0,none⟩=some (.iface 177 (.agg #[.pointer (some ⟨4,43,none⟩)])))(ht0:w.cell? t=some old)(hf0:w.frozen? t=false) :
  Calls Tryz.prog 63 #[.iface 67 (.int .i64 x),.iface 113 (.pointer (some t))] w fun ev w'=>ev=.returned (.bool true)/\w'=(((((w.alloc (.cells #[.pointer (some t)] 113)).alloc (.cells #[.pointer (some ⟨4,113,none⟩),.pointer (some ⟨w.heap.size,0,none⟩),.int .u64 150] 156)).alloc (.cells #[.pointer (some ⟨4,113,none⟩),.pointer (some ⟨w.heap.size,0,none⟩),.int .u64 150] 156)).alloc (.cells #[.int .i64 x] 67)).setCell t (.int .i64 x)):=by
 have h6:=@d5p Tryz.prog 104 _ (fun args=>ReflectliteValue.unpack (args.getD 0 (.tuple #[]))) Tryz.func104 (by kernel_rfl) (by kernel_rfl) (by kernel_rfl) (by kernel_rfl);have h7:=@d5p Tryz.prog 105 _ (ReflectliteValue.methodAny (ReflectliteValue.valueError "reflectlite.Value.Type" 0) (fun t _ _ _=>ReflectliteType.toType t)) Tryz.func105 (by kernel_rfl) (by kernel_rfl) (by kernel_rfl) (by kernel_rfl);have h8:=@d5p Tryz.prog 106 _ (ReflectliteValue.method (ReflectliteValue.valueError "reflectlite.Value.IsNil" 0) ReflectliteValue.isNil) Tryz.func106 (by kernel_rfl) (by kernel_rfl) (by kernel_rfl) (by kernel_rfl);have h27:=@d5p Tryz.prog 259 _ (ReflectliteType.abiMethod fun t=>do pure (.int .u8 (<- Rtype.kind t))) Tryz.func259 (by kernel_rfl) (by kernel_rfl) (by kernel_rfl) (by kernel_rfl);have h37:=@d5p Tryz.prog 271 _ (ReflectliteType.method ReflectliteType.elem) Tryz.func271 (by kernel_rfl) (by kernel_rfl) (by kernel_rfl) (by kernel_rfl);have h38:=@d5p Tryz.prog 272 _ (ReflectliteType.relation "Implements" ReflectliteType.implements_) Tryz.func272 (by kernel_rfl) (by kernel_rfl) (by kernel_rfl) (by kernel_rfl);have h10:=@d5p Tryz.prog 69 _ ReflectliteType.typeOf Tryz.func69 (by kernel_rfl) (by kernel_rfl) (by kernel_rfl) (by kernel_rfl);have h35:=@d5p Tryz.prog 269 _ (ReflectliteType.relation "AssignableTo" ReflectliteType.assignableTo) Tryz.func269 (by kernel_rfl) (by kernel_rfl) (by kernel_rfl) (by kernel_rfl);have h11:=@d5p Tryz.prog 150 _ (ReflectliteValue.method (ReflectliteValue.valueError "reflectlite.Value.Elem" 0) ReflectliteValue.elem) Tryz.func150 (by kernel_rfl) (by kernel_rfl) (by kernel_rfl) (by kernel_rfl);have h12:=@d5p Tryz.prog 151 _ ReflectliteValue.set Tryz.func151 (by kernel_rfl) (by kernel_rfl) (by kernel_rfl) (by kernel_rfl);have tE:=Tryz.a0X;have tF:=Tryz.b6R;have mA:=Tryz.a07;have a1:=Tryz.a1H;have a2:=Tryz.a0J;have v25:=Tryz.a94;have f6:=Tryz.a7t;have f7:=Tryz.type113;have mK:=Tryz.a6E;have mE:=Tryz.a7d;have mI:=Tryz.a19;have k27:=Tryz.b5U;have k25:=Tryz.b9m;have e27:=Tryz.b6Y;have i25:=Tryz.a4q;have q1:=Tryz.c61;have q2:=Tryz.c6k;have q3:=Tryz.Y9;have q4:=Tryz.S3;have q5:=Tryz.b5G;have q6:=Tryz.a3v;have hlt:0<w.heap.size:=by
  rcases d5B 0 w.heap.size with h|h
  . exact h
  . simp[World.cell?,d6D h]at hg
 have htl:t.block<w.heap.size:=by
  rcases d5B t.block w.heap.size with h|h
  . exact h
  . simp[World.cell?,d6D h]at ht0
 have n8:=Tryz.b2w ⟨w.heap.size,0,none⟩ t ((w.alloc (.cells #[.pointer (some t)] 113)).alloc (.cells #[.pointer (some ⟨4,113,none⟩),.pointer (some ⟨w.heap.size,0,none⟩),.int .u64 150] 156)) (by simp);have hg2:((w.alloc (.cells #[.pointer (some t)] 113)).alloc (.cells #[.pointer (some ⟨4,113,none⟩),.pointer (some ⟨w.heap.size,0,none⟩),.int .u64 150] 156)).cell? ⟨0,0,none⟩=some (.iface 177 (.agg #[.pointer (some ⟨4,43,none⟩)])):=by rw[d5G _ _ ⟨0,0,none⟩ (by simp <;> omega),d5G _ _ ⟨0,0,none⟩ hlt];exact hg
 have el:=Tryz.b3g ⟨w.heap.size,0,none⟩ t (((w.alloc (.cells #[.pointer (some t)] 113)).alloc (.cells #[.pointer (some ⟨4,113,none⟩),.pointer (some ⟨w.heap.size,0,none⟩),.int .u64 150] 156)).alloc (.cells #[.pointer (some ⟨4,113,none⟩),.pointer (some ⟨w.heap.size,0,none⟩),.int .u64 150] 156)) (by rw[d5G _ _ ⟨w.heap.size,0,none⟩ (by simp;omega),d5G _ _ ⟨w.heap.size,0,none⟩ (by simp)];simp);have st:=Tryz.c5t t ⟨w.heap.size+1+1+1,0,none⟩ x old ((((w.alloc (.cells #[.pointer (some t)] 113)).alloc (.cells #[.pointer (some ⟨4,113,none⟩),.pointer (some ⟨w.heap.size,0,none⟩),.int .u64 150] 156)).alloc (.cells #[.pointer (some ⟨4,113,none⟩),.pointer (some ⟨w.heap.size,0,none⟩),.int .u64 150] 156)).alloc (.cells #[.int .i64 x] 67))
  (by rw[World.cell?_alloc_at _ _ _ _ (by simp)];rfl)
  (by rw[d5G _ _ t (by simp;omega),d5G _ _ t (by simp;omega),d5G _ _ t (by simp;omega),d5G _ _ t htl];exact ht0)
  (by rw[d6y _ _ t (by simp;omega),d6y _ _ t (by simp;omega),d6y _ _ t (by simp;omega),d6y _ _ t (Nat.ne_of_lt htl)];exact hf0)
 go_enter Tryz.func63,Tryz.ntmps63
 go_wp2
 refine d6K 1 ?_;rw[d6q]
 go_wp2
 go_ret
 exact⟨rfl,rfl⟩
set_option maxHeartbeats 4000000 in
def b8f(k:Nat)(x:Int)(t:Addr)(old:Value)(w:World)(hc:w.cell? ⟨k,1,none⟩=some (.iface 67 (.int .i64 x)))(hg:w.cell? ⟨0,0,none⟩=some (.iface 177 (.agg #[.pointer (some ⟨4,43,none⟩)])))(ht0:w.cell? t=some old)(hf0:w.frozen? t=false) :
  Calls Tryz.prog 63 #[.iface 105 (.pointer (some ⟨k,0,none⟩)),.iface 113 (.pointer (some t))] w fun ev w'=>ev=.returned (.bool true)/\w'=(((((w.alloc (.cells #[.pointer (some t)] 113)).alloc (.cells #[.pointer (some ⟨4,113,none⟩),.pointer (some ⟨w.heap.size,0,none⟩),.int .u64 150] 156)).alloc (.cells #[.pointer (some ⟨4,113,none⟩),.pointer (some ⟨w.heap.size,0,none⟩),.int .u64 150] 156)).alloc (.cells #[.int .i64 x] 67)).setCell t (.int .i64 x)):=by
 have h6:=@d5p Tryz.prog 104 _ (fun args=>ReflectliteValue.unpack (args.getD 0 (.tuple #[]))) Tryz.func104 (by kernel_rfl) (by kernel_rfl) (by kernel_rfl) (by kernel_rfl);have h7:=@d5p Tryz.prog 105 _ (ReflectliteValue.methodAny (ReflectliteValue.valueError "reflectlite.Value.Type" 0) (fun t _ _ _=>ReflectliteType.toType t)) Tryz.func105 (by kernel_rfl) (by kernel_rfl) (by kernel_rfl) (by kernel_rfl);have h8:=@d5p Tryz.prog 106 _ (ReflectliteValue.method (ReflectliteValue.valueError "reflectlite.Value.IsNil" 0) ReflectliteValue.isNil) Tryz.func106 (by kernel_rfl) (by kernel_rfl) (by kernel_rfl) (by kernel_rfl);have h27:=@d5p Tryz.prog 259 _ (ReflectliteType.abiMethod fun t=>do pure (.int .u8 (<- Rtype.kind t))) Tryz.func259 (by kernel_rfl) (by kernel_rfl) (by kernel_rfl) (by kernel_rfl);have h37:=@d5p Tryz.prog 271 _ (ReflectliteType.method ReflectliteType.elem) Tryz.func271 (by kernel_rfl) (by kernel_rfl) (by kernel_rfl) (by kernel_rfl);have h38:=@d5p Tryz.prog 272 _ (ReflectliteType.relation "Implements" ReflectliteType.implements_) Tryz.func272 (by kernel_rfl) (by kernel_rfl) (by kernel_rfl) (by kernel_rfl);have h10:=@d5p Tryz.prog 69 _ ReflectliteType.typeOf Tryz.func69 (by kernel_rfl) (by kernel_rfl) (by kernel_rfl) (by kernel_rfl);have h35:=@d5p Tryz.prog 269 _ (ReflectliteType.relation "AssignableTo" ReflectliteType.assignableTo) Tryz.func269 (by kernel_rfl) (by kernel_rfl) (by kernel_rfl) (by kernel_rfl);have h11:=@d5p Tryz.prog 150 _ (ReflectliteValue.method (ReflectliteValue.valueError "reflectlite.Value.Elem" 0) ReflectliteValue.elem) Tryz.func150 (by kernel_rfl) (by kernel_rfl) (by kernel_rfl) (by kernel_rfl);have h12:=@d5p Tryz.prog 151 _ ReflectliteValue.set Tryz.func151 (by kernel_rfl) (by kernel_rfl) (by kernel_rfl) (by kernel_rfl);have tE:=Tryz.a0X;have tF:=Tryz.b6R;have mA:=Tryz.a07;have a1:=Tryz.a1H;have a2:=Tryz.a0J;have v25:=Tryz.a94;have f6:=Tryz.a7t;have f7:=Tryz.type113;have mK:=Tryz.a6E;have mE:=Tryz.a7d;have mI:=Tryz.a19;have k27:=Tryz.b5U;have k25:=Tryz.b9m;have e27:=Tryz.b6Y;have i25:=Tryz.a4q;have q1:=Tryz.c61;have q2:=Tryz.c6k;have q3:=Tryz.Y9;have q4:=Tryz.S3;have q5:=Tryz.b5G;have q6:=Tryz.a3v;have hlt:0<w.heap.size:=by
  rcases d5B 0 w.heap.size with h|h
  . exact h
  . simp[World.cell?,d6D h]at hg
 have htl:t.block<w.heap.size:=by
  rcases d5B t.block w.heap.size with h|h
  . exact h
  . simp[World.cell?,d6D h]at ht0
 have n8:=Tryz.b2w ⟨w.heap.size,0,none⟩ t ((w.alloc (.cells #[.pointer (some t)] 113)).alloc (.cells #[.pointer (some ⟨4,113,none⟩),.pointer (some ⟨w.heap.size,0,none⟩),.int .u64 150] 156)) (by simp);have hg2:((w.alloc (.cells #[.pointer (some t)] 113)).alloc (.cells #[.pointer (some ⟨4,113,none⟩),.pointer (some ⟨w.heap.size,0,none⟩),.int .u64 150] 156)).cell? ⟨0,0,none⟩=some (.iface 177 (.agg #[.pointer (some ⟨4,43,none⟩)])):=by rw[d5G _ _ ⟨0,0,none⟩ (by simp <;> omega),d5G _ _ ⟨0,0,none⟩ hlt];exact hg
 have hkl:k<w.heap.size:=by
  rcases d5B k w.heap.size with h|h
  . exact h
  . simp[World.cell?,d6D h]at hc
 have hc3:(((w.alloc (.cells #[.pointer (some t)] 113)).alloc (.cells #[.pointer (some ⟨4,113,none⟩),.pointer (some ⟨w.heap.size,0,none⟩),.int .u64 150] 156)).alloc (.cells #[.pointer (some ⟨4,113,none⟩),.pointer (some ⟨w.heap.size,0,none⟩),.int .u64 150] 156)).cell? ⟨k,1,none⟩=some (.iface 67 (.int .i64 x)):=by rw[d5G _ _ ⟨k,1,none⟩ (by simp;omega),d5G _ _ ⟨k,1,none⟩ (by simp;omega),d5G _ _ ⟨k,1,none⟩ hkl];exact hc
 have el:=Tryz.b3g ⟨w.heap.size,0,none⟩ t (((w.alloc (.cells #[.pointer (some t)] 113)).alloc (.cells #[.pointer (some ⟨4,113,none⟩),.pointer (some ⟨w.heap.size,0,none⟩),.int .u64 150] 156)).alloc (.cells #[.pointer (some ⟨4,113,none⟩),.pointer (some ⟨w.heap.size,0,none⟩),.int .u64 150] 156)) (by rw[d5G _ _ ⟨w.heap.size,0,none⟩ (by simp;omega),d5G _ _ ⟨w.heap.size,0,none⟩ (by simp)];simp);have st:=Tryz.c5t t ⟨w.heap.size+1+1+1,0,none⟩ x old ((((w.alloc (.cells #[.pointer (some t)] 113)).alloc (.cells #[.pointer (some ⟨4,113,none⟩),.pointer (some ⟨w.heap.size,0,none⟩),.int .u64 150] 156)).alloc (.cells #[.pointer (some ⟨4,113,none⟩),.pointer (some ⟨w.heap.size,0,none⟩),.int .u64 150] 156)).alloc (.cells #[.int .i64 x] 67))
  (by rw[World.cell?_alloc_at _ _ _ _ (by simp)];rfl)
  (by rw[d5G _ _ t (by simp;omega),d5G _ _ t (by simp;omega),d5G _ _ t (by simp;omega),d5G _ _ t htl];exact ht0)
  (by rw[d6y _ _ t (by simp;omega),d6y _ _ t (by simp;omega),d6y _ _ t (by simp;omega),d6y _ _ t (Nat.ne_of_lt htl)];exact hf0)
 go_enter Tryz.func63,Tryz.ntmps63
 go_wp2
 refine d6K 2 ?_;rw[d6q]
 go_wp2
 rw[d6q]
 go_wp2
 go_ret
 exact⟨rfl,rfl⟩
end Go.Proofs.YtapnoejokajcoaaGreatDoor
