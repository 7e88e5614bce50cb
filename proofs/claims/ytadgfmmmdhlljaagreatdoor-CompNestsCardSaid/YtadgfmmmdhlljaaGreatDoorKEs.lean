/- 1 texts, one behind the other. -/
import Derived.Test.YtadgfmmmdhlljaaGreatDoorKEr
set_option linter.unusedVariables false
set_option linter.unusedSimpArgs false
set_option maxRecDepth 100000
section
namespace Go.Proofs.YtadgfmmmdhlljaaGreatDoor
open Go.RowKit Go.Extern.Stop Go.Stop Go.Extern
theorem as_nil (t : Value) (w : World) : Calls Tryz.prog 33 #[.nilIface,t] w fun e w'=>e = .returned (.bool false) /\ w' = w:=by
 go_enter Tryz.func33,Tryz.ntmps33
 go_wp2
 go_ret
 exact ⟨rfl,rfl⟩
theorem rlm (z : Sem Value) (f : TypeId -> Addr -> Nat -> Nat -> Sem Value) (v : Value) :
  ReflectliteValue.method z f #[v] = (do match <- ReflectliteValue.parts v with | none=>z | some (t,a,fl)=>f t a fl (fl % 32)):=rfl
theorem rls (v x : Value) : ReflectliteValue.set #[v,x] = (do
  let (some (dst,a,fl),some (src,b,_)):=(<- ReflectliteValue.parts v,<- ReflectliteValue.parts x)
   | unsupported (.noEntry "extern/(internal/reflectlite.Value).Set.zeroValue")
  if fl / ReflectliteValue.flagAddr % 2 == 0 then unsupported (.noEntry "extern/(internal/reflectlite.Value).Set.unaddressable")
  let val <- loadVar src b
  if <- Rtype.directlyAssignable dst src then storeVar dst a val
  else if <- Rtype.implements dst src then
   if (<- Rtype.kind src) == 20 then
    match val with
    | .nilIface=>unsupported (.noEntry "extern/reflectlite: a nil value of one interface type handed on as a value of another")
    | _=>storeVar dst a val
   else storeVar dst a (.iface src val)
  else panicString ("reflectlite.Set: value of type " ++ (<- Rtype.spelt src) ++ " is not assignable to type " ++ (<- Rtype.spelt dst))
  pure (.tuple #[])):=rfl
theorem Tryz.methodKind (h : Value) (w : World) : (Go.method 298 116 (.agg #[h]) "Kind").run Tryz.prog w = .ok (133,h) w:=by kernel_rfl
theorem Tryz.methodElem (h : Value) (w : World) : (Go.method 298 116 (.agg #[h]) "Elem").run Tryz.prog w = .ok (145,.agg #[h]) w:=by kernel_rfl
theorem Tryz.methodImplements (h : Value) (w : World) : (Go.method 298 116 (.agg #[h]) "Implements").run Tryz.prog w = .ok (146,.agg #[h]) w:=by kernel_rfl
theorem Tryz.methodAssignableTo (h : Value) (w : World) : (Go.method 298 116 (.agg #[h]) "AssignableTo").run Tryz.prog w = .ok (143,.agg #[h]) w:=by kernel_rfl
theorem Tryz.kind94 (w : World) : ((ReflectliteType.abiMethod fun t=>(fun a : Nat=>Value.int IntKind.u8 (a : Int)) <$> Rtype.kind t) #[.pointer (some ⟨4,94,none⟩)]).run Tryz.prog w = .ok (.int .u8 22) w:=by kernel_rfl
theorem Tryz.kind73 (w : World) : ((ReflectliteType.abiMethod fun t=>(fun a : Nat=>Value.int IntKind.u8 (a : Int)) <$> Rtype.kind t) #[.pointer (some ⟨4,73,none⟩)]).run Tryz.prog w = .ok (.int .u8 22) w:=by kernel_rfl
theorem Tryz.kind47 (w : World) : ((ReflectliteType.abiMethod fun t=>(fun a : Nat=>Value.int IntKind.u8 (a : Int)) <$> Rtype.kind t) #[.pointer (some ⟨4,47,none⟩)]).run Tryz.prog w = .ok (.int .u8 2) w:=by kernel_rfl
theorem Tryz.kind71 (w : World) : ((ReflectliteType.abiMethod fun t=>(fun a : Nat=>Value.int IntKind.u8 (a : Int)) <$> Rtype.kind t) #[.pointer (some ⟨4,71,none⟩)]).run Tryz.prog w = .ok (.int .u8 22) w:=by kernel_rfl
theorem Tryz.valueOf94 (t : Addr) (w : World) : (ReflectliteValue.unpack (.iface 94 (.pointer (some t)))).run Tryz.prog w = .ok (.agg #[.pointer (some ⟨4,94,none⟩),.pointer (some ⟨w.heap.size,0,none⟩),.int .u64 150]) (w.alloc (.cells #[.pointer (some t)] 94)):=by kernel_rfl
theorem Tryz.type94 (a : Addr) (w : World) : (ReflectliteValue.methodAny (ReflectliteValue.valueError "reflectlite.Value.Type" 0) (fun t _ _ _=>ReflectliteType.toType t) #[.agg #[.pointer (some ⟨4,94,none⟩),.pointer (some a),.int .u64 150]]).run Tryz.prog w = .ok (.iface 116 (.agg #[.pointer (some ⟨4,94,none⟩)])) w:=by kernel_rfl
theorem Tryz.parts94 (a : Addr) (w : World) : (ReflectliteValue.parts (.agg #[.pointer (some ⟨4,94,none⟩),.pointer (some a),.int .u64 150])).run Tryz.prog w = .ok (some (94,a,150)) w:=by kernel_rfl
theorem Tryz.isNil94 (a p : Addr) (W : World) (ha : W.cell? a = some (.pointer (some p))) : (ReflectliteValue.method (ReflectliteValue.valueError "reflectlite.Value.IsNil" 0) ReflectliteValue.isNil #[.agg #[.pointer (some ⟨4,94,none⟩),.pointer (some a),.int .u64 150]]).run Tryz.prog W = .ok (.bool false) W:=by
 rw [rlm]
 simp only [Sem.run_bind,Tryz.parts94,Result.andThen]
 simp [ReflectliteValue.isNil,loadVar,isAgg,underlying,Tryz.underlying94,ha,Result.andThen]
theorem Tryz.elem94 (w : World) : (ReflectliteType.method ReflectliteType.elem #[.agg #[.pointer (some ⟨4,94,none⟩)]]).run Tryz.prog w = .ok (.iface 116 (.agg #[.pointer (some ⟨4,47,none⟩)])) w:=by kernel_rfl
theorem Tryz.implements47 (w : World) : (ReflectliteType.relation "Implements" ReflectliteType.implements_ #[.agg #[.pointer (some ⟨4,47,none⟩)],.iface 116 (.agg #[.pointer (some ⟨4,26,none⟩)])]).run Tryz.prog w = .ok (.bool true) w:=by kernel_rfl
theorem Tryz.valueOf47 (x : Int) (w : World) : (ReflectliteValue.unpack (.iface 47 (.int .i64 x))).run Tryz.prog w = .ok (.agg #[.pointer (some ⟨4,47,none⟩),.pointer (some ⟨w.heap.size,0,none⟩),.int .u64 130]) (w.alloc (.cells #[.int .i64 x] 47)):=by kernel_rfl
theorem Tryz.elemOf94 (w : World) : (Rtype.elem? 94).run Tryz.prog w = .ok (some 47) w:=by kernel_rfl
theorem Tryz.mk47 (p : Addr) (w : World) : (ReflectliteValue.mk 47 p ReflectliteValue.flagAddr).run Tryz.prog w = .ok (.agg #[.pointer (some ⟨4,47,none⟩),.pointer (some p),.int .u64 386]) w:=by kernel_rfl
theorem Tryz.elemV94 (a p : Addr) (W : World) (ha : W.cell? a = some (.pointer (some p))) : (ReflectliteValue.method (ReflectliteValue.valueError "reflectlite.Value.Elem" 0) ReflectliteValue.elem #[.agg #[.pointer (some ⟨4,94,none⟩),.pointer (some a),.int .u64 150]]).run Tryz.prog W = .ok (.agg #[.pointer (some ⟨4,47,none⟩),.pointer (some p),.int .u64 386]) W:=by
 rw [rlm]
 simp only [Sem.run_bind,Tryz.parts94,Result.andThen]
 simp [ReflectliteValue.elem,loadVar,isAgg,underlying,Tryz.underlying94,ha,Result.andThen,Tryz.elemOf94,Tryz.mk47]
theorem Tryz.parts47a (a : Addr) (w : World) : (ReflectliteValue.parts (.agg #[.pointer (some ⟨4,47,none⟩),.pointer (some a),.int .u64 386])).run Tryz.prog w = .ok (some (47,a,386)) w:=by kernel_rfl
theorem Tryz.parts47 (a : Addr) (w : World) : (ReflectliteValue.parts (.agg #[.pointer (some ⟨4,47,none⟩),.pointer (some a),.int .u64 130])).run Tryz.prog w = .ok (some (47,a,130)) w:=by kernel_rfl
theorem Tryz.direct47 (w : World) : (Rtype.directlyAssignable 47 47).run Tryz.prog w = .ok true w:=by kernel_rfl
theorem Tryz.set47 (ta b : Addr) (x : Int) (old : Value) (W : World) (hb : W.cell? b = some (.int .i64 x)) (ht : W.cell? ta = some old) (hf : W.frozen? ta = false) : (ReflectliteValue.set #[.agg #[.pointer (some ⟨4,47,none⟩),.pointer (some ta),.int .u64 386],.agg #[.pointer (some ⟨4,47,none⟩),.pointer (some b),.int .u64 130]]).run Tryz.prog W = .ok (.tuple #[]) (W.setCell ta (.int .i64 x)):=by
 rw [rls]
 simp only [Sem.run_bind,Tryz.parts47a,Tryz.parts47,Result.andThen]
 simp [ReflectliteValue.flagAddr,loadVar,isAgg,underlying,Tryz.underlying47,hb,Result.andThen,Tryz.direct47,storeVar,Value.cells,storeCells,Addr.add]
 rw [run_store Tryz.prog W ta _ _ (by rfl)]
 simp [ht,hf]
theorem Tryz.valueOf73 (t : Addr) (w : World) : (ReflectliteValue.unpack (.iface 73 (.pointer (some t)))).run Tryz.prog w = .ok (.agg #[.pointer (some ⟨4,73,none⟩),.pointer (some ⟨w.heap.size,0,none⟩),.int .u64 150]) (w.alloc (.cells #[.pointer (some t)] 73)):=by kernel_rfl
theorem Tryz.type73 (a : Addr) (w : World) : (ReflectliteValue.methodAny (ReflectliteValue.valueError "reflectlite.Value.Type" 0) (fun t _ _ _=>ReflectliteType.toType t) #[.agg #[.pointer (some ⟨4,73,none⟩),.pointer (some a),.int .u64 150]]).run Tryz.prog w = .ok (.iface 116 (.agg #[.pointer (some ⟨4,73,none⟩)])) w:=by kernel_rfl
theorem Tryz.parts73 (a : Addr) (w : World) : (ReflectliteValue.parts (.agg #[.pointer (some ⟨4,73,none⟩),.pointer (some a),.int .u64 150])).run Tryz.prog w = .ok (some (73,a,150)) w:=by kernel_rfl
theorem Tryz.isNil73 (a p : Addr) (W : World) (ha : W.cell? a = some (.pointer (some p))) : (ReflectliteValue.method (ReflectliteValue.valueError "reflectlite.Value.IsNil" 0) ReflectliteValue.isNil #[.agg #[.pointer (some ⟨4,73,none⟩),.pointer (some a),.int .u64 150]]).run Tryz.prog W = .ok (.bool false) W:=by
 rw [rlm]
 simp only [Sem.run_bind,Tryz.parts73,Result.andThen]
 simp [ReflectliteValue.isNil,loadVar,isAgg,underlying,Tryz.underlying73,ha,Result.andThen]
theorem Tryz.elem73 (w : World) : (ReflectliteType.method ReflectliteType.elem #[.agg #[.pointer (some ⟨4,73,none⟩)]]).run Tryz.prog w = .ok (.iface 116 (.agg #[.pointer (some ⟨4,71,none⟩)])) w:=by kernel_rfl
theorem Tryz.implements71 (w : World) : (ReflectliteType.relation "Implements" ReflectliteType.implements_ #[.agg #[.pointer (some ⟨4,71,none⟩)],.iface 116 (.agg #[.pointer (some ⟨4,26,none⟩)])]).run Tryz.prog w = .ok (.bool true) w:=by kernel_rfl
theorem Tryz.valueOf71 (x : Addr) (w : World) : (ReflectliteValue.unpack (.iface 71 (.pointer (some x)))).run Tryz.prog w = .ok (.agg #[.pointer (some ⟨4,71,none⟩),.pointer (some ⟨w.heap.size,0,none⟩),.int .u64 150]) (w.alloc (.cells #[.pointer (some x)] 71)):=by kernel_rfl
theorem Tryz.elemOf73 (w : World) : (Rtype.elem? 73).run Tryz.prog w = .ok (some 71) w:=by kernel_rfl
theorem Tryz.mk71 (p : Addr) (w : World) : (ReflectliteValue.mk 71 p ReflectliteValue.flagAddr).run Tryz.prog w = .ok (.agg #[.pointer (some ⟨4,71,none⟩),.pointer (some p),.int .u64 406]) w:=by kernel_rfl
theorem Tryz.elemV73 (a p : Addr) (W : World) (ha : W.cell? a = some (.pointer (some p))) : (ReflectliteValue.method (ReflectliteValue.valueError "reflectlite.Value.Elem" 0) ReflectliteValue.elem #[.agg #[.pointer (some ⟨4,73,none⟩),.pointer (some a),.int .u64 150]]).run Tryz.prog W = .ok (.agg #[.pointer (some ⟨4,71,none⟩),.pointer (some p),.int .u64 406]) W:=by
 rw [rlm]
 simp only [Sem.run_bind,Tryz.parts73,Result.andThen]
 simp [ReflectliteValue.elem,loadVar,isAgg,underlying,Tryz.underlying73,ha,Result.andThen,Tryz.elemOf73,Tryz.mk71]
theorem Tryz.parts71a (a : Addr) (w : World) : (ReflectliteValue.parts (.agg #[.pointer (some ⟨4,71,none⟩),.pointer (some a),.int .u64 406])).run Tryz.prog w = .ok (some (71,a,406)) w:=by kernel_rfl
theorem Tryz.parts71 (a : Addr) (w : World) : (ReflectliteValue.parts (.agg #[.pointer (some ⟨4,71,none⟩),.pointer (some a),.int .u64 150])).run Tryz.prog w = .ok (some (71,a,150)) w:=by kernel_rfl
theorem Tryz.direct71 (w : World) : (Rtype.directlyAssignable 71 71).run Tryz.prog w = .ok true w:=by kernel_rfl
theorem Tryz.set71 (ta b : Addr) (x : Addr) (old : Value) (W : World) (hb : W.cell? b = some (.pointer (some x))) (ht : W.cell? ta = some old) (hf : W.frozen? ta = false) : (ReflectliteValue.set #[.agg #[.pointer (some ⟨4,71,none⟩),.pointer (some ta),.int .u64 406],.agg #[.pointer (some ⟨4,71,none⟩),.pointer (some b),.int .u64 150]]).run Tryz.prog W = .ok (.tuple #[]) (W.setCell ta (.pointer (some x))):=by
 rw [rls]
 simp only [Sem.run_bind,Tryz.parts71a,Tryz.parts71,Result.andThen]
 simp [ReflectliteValue.flagAddr,loadVar,isAgg,underlying,Tryz.underlying71,hb,Result.andThen,Tryz.direct71,storeVar,Value.cells,storeCells,Addr.add]
 rw [run_store Tryz.prog W ta _ _ (by rfl)]
 simp [ht,hf]
theorem Tryz.assignable47_47 (w : World) : (ReflectliteType.relation "AssignableTo" ReflectliteType.assignableTo #[.agg #[.pointer (some ⟨4,47,none⟩)],.iface 116 (.agg #[.pointer (some ⟨4,47,none⟩)])]).run Tryz.prog w = .ok (.bool true) w:=by kernel_rfl
theorem Tryz.assignable71_71 (w : World) : (ReflectliteType.relation "AssignableTo" ReflectliteType.assignableTo #[.agg #[.pointer (some ⟨4,71,none⟩)],.iface 116 (.agg #[.pointer (some ⟨4,71,none⟩)])]).run Tryz.prog w = .ok (.bool true) w:=by kernel_rfl
theorem Tryz.assignable47_71 (w : World) : (ReflectliteType.relation "AssignableTo" ReflectliteType.assignableTo #[.agg #[.pointer (some ⟨4,47,none⟩)],.iface 116 (.agg #[.pointer (some ⟨4,71,none⟩)])]).run Tryz.prog w = .ok (.bool false) w:=by kernel_rfl
theorem Tryz.assignable71_47 (w : World) : (ReflectliteType.relation "AssignableTo" ReflectliteType.assignableTo #[.agg #[.pointer (some ⟨4,71,none⟩)],.iface 116 (.agg #[.pointer (some ⟨4,47,none⟩)])]).run Tryz.prog w = .ok (.bool false) w:=by kernel_rfl
theorem Tryz.assignable134_47 (w : World) : (ReflectliteType.relation "AssignableTo" ReflectliteType.assignableTo #[.agg #[.pointer (some ⟨4,134,none⟩)],.iface 116 (.agg #[.pointer (some ⟨4,47,none⟩)])]).run Tryz.prog w = .ok (.bool false) w:=by kernel_rfl
theorem Tryz.assignable134_71 (w : World) : (ReflectliteType.relation "AssignableTo" ReflectliteType.assignableTo #[.agg #[.pointer (some ⟨4,134,none⟩)],.iface 116 (.agg #[.pointer (some ⟨4,71,none⟩)])]).run Tryz.prog w = .ok (.bool false) w:=by kernel_rfl
end Go.Proofs.YtadgfmmmdhlljaaGreatDoor
end
