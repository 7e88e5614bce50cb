/- 1 texts, one behind the other. -/
import Derived.Test.YtadgfmmmdhlljaaGreatDoorKEs
set_option linter.unusedVariables false
set_option linter.unusedSimpArgs false
set_option maxRecDepth 100000
section
namespace Go.Proofs.YtadgfmmmdhlljaaGreatDoor
open Go.RowKit Go.Extern.Stop Go.Stop Go.Extern
set_option maxHeartbeats 4000000 in
theorem asE_no (x : Int) (t : Addr) (old : Value) (w : World) (hg : w.cell? ⟨0,0,none⟩ = some (.iface 116 (.agg #[.pointer (some ⟨4,26,none⟩)]))) (ht0 : w.cell? t = some old) (hf0 : w.frozen? t = false) :
  Calls Tryz.prog 33 #[.iface 47 (.int .i64 x),.iface 94 (.pointer (some t))] w fun ev w'=>ev = .returned (.bool true) /\ w' = (((((w.alloc (.cells #[.pointer (some t)] 94)).alloc (.cells #[.pointer (some ⟨4,94,none⟩),.pointer (some ⟨w.heap.size,0,none⟩),.int .u64 150] 102)).alloc (.cells #[.pointer (some ⟨4,94,none⟩),.pointer (some ⟨w.heap.size,0,none⟩),.int .u64 150] 102)).alloc (.cells #[.int .i64 x] 47)).setCell t (.int .i64 x)):=by
 have h6:=@run_callFunc_extern Tryz.prog 54 _ (fun args=>ReflectliteValue.unpack (args.getD 0 (.tuple #[]))) Tryz.func54 (by kernel_rfl) (by kernel_rfl) (by kernel_rfl) (by kernel_rfl)
 have h7:=@run_callFunc_extern Tryz.prog 55 _ (ReflectliteValue.methodAny (ReflectliteValue.valueError "reflectlite.Value.Type" 0) (fun t _ _ _=>ReflectliteType.toType t)) Tryz.func55 (by kernel_rfl) (by kernel_rfl) (by kernel_rfl) (by kernel_rfl)
 have h8:=@run_callFunc_extern Tryz.prog 56 _ (ReflectliteValue.method (ReflectliteValue.valueError "reflectlite.Value.IsNil" 0) ReflectliteValue.isNil) Tryz.func56 (by kernel_rfl) (by kernel_rfl) (by kernel_rfl) (by kernel_rfl)
 have h27:=@run_callFunc_extern Tryz.prog 133 _ (ReflectliteType.abiMethod fun t=>do pure (.int .u8 (<- Rtype.kind t))) Tryz.func133 (by kernel_rfl) (by kernel_rfl) (by kernel_rfl) (by kernel_rfl)
 have h37:=@run_callFunc_extern Tryz.prog 145 _ (ReflectliteType.method ReflectliteType.elem) Tryz.func145 (by kernel_rfl) (by kernel_rfl) (by kernel_rfl) (by kernel_rfl)
 have h38:=@run_callFunc_extern Tryz.prog 146 _ (ReflectliteType.relation "Implements" ReflectliteType.implements_) Tryz.func146 (by kernel_rfl) (by kernel_rfl) (by kernel_rfl) (by kernel_rfl)
 have h10:=@run_callFunc_extern Tryz.prog 40 _ ReflectliteType.typeOf Tryz.func40 (by kernel_rfl) (by kernel_rfl) (by kernel_rfl) (by kernel_rfl)
 have h35:=@run_callFunc_extern Tryz.prog 143 _ (ReflectliteType.relation "AssignableTo" ReflectliteType.assignableTo) Tryz.func143 (by kernel_rfl) (by kernel_rfl) (by kernel_rfl) (by kernel_rfl)
 have h11:=@run_callFunc_extern Tryz.prog 77 _ (ReflectliteValue.method (ReflectliteValue.valueError "reflectlite.Value.Elem" 0) ReflectliteValue.elem) Tryz.func77 (by kernel_rfl) (by kernel_rfl) (by kernel_rfl) (by kernel_rfl)
 have h12:=@run_callFunc_extern Tryz.prog 78 _ ReflectliteValue.set Tryz.func78 (by kernel_rfl) (by kernel_rfl) (by kernel_rfl) (by kernel_rfl)
 have tE:=Tryz.isTypeOf
 have tF:=Tryz.typeOfF
 have mA:=Tryz.methodAssignableTo
 have a1:=Tryz.assignable47_47
 have a2:=Tryz.assignable71_47
 have v25:=Tryz.valueOf47
 have f6:=Tryz.valueOf94
 have f7:=Tryz.type94
 have mK:=Tryz.methodKind
 have mE:=Tryz.methodElem
 have mI:=Tryz.methodImplements
 have k27:=Tryz.kind94
 have k25:=Tryz.kind47
 have e27:=Tryz.elem94
 have i25:=Tryz.implements47
 have q1:=Tryz.noAsE
 have q2:=Tryz.noAsF
 have q3:=Tryz.noUnwrapE
 have q4:=Tryz.noUnwrapsE
 have q5:=Tryz.unwrapF
 have q6:=Tryz.methodUnwrapF
 have hlt : 0 < w.heap.size:=by
  rcases Nat.lt_or_ge 0 w.heap.size with h | h
  . exact h
  . simp [World.cell?,Array.getElem?_eq_none h] at hg
 have htl : t.block < w.heap.size:=by
  rcases Nat.lt_or_ge t.block w.heap.size with h | h
  . exact h
  . simp [World.cell?,Array.getElem?_eq_none h] at ht0
 have n8:=Tryz.isNil94 ⟨w.heap.size,0,none⟩ t ((w.alloc (.cells #[.pointer (some t)] 94)).alloc (.cells #[.pointer (some ⟨4,94,none⟩),.pointer (some ⟨w.heap.size,0,none⟩),.int .u64 150] 102)) (by simp)
 have hg2 : ((w.alloc (.cells #[.pointer (some t)] 94)).alloc (.cells #[.pointer (some ⟨4,94,none⟩),.pointer (some ⟨w.heap.size,0,none⟩),.int .u64 150] 102)).cell? ⟨0,0,none⟩ = some (.iface 116 (.agg #[.pointer (some ⟨4,26,none⟩)])):=by
  rw [World.cell?_alloc_lt _ _ ⟨0,0,none⟩ (by simp <;> omega),World.cell?_alloc_lt _ _ ⟨0,0,none⟩ hlt]; exact hg
 have el:=Tryz.elemV94 ⟨w.heap.size,0,none⟩ t (((w.alloc (.cells #[.pointer (some t)] 94)).alloc (.cells #[.pointer (some ⟨4,94,none⟩),.pointer (some ⟨w.heap.size,0,none⟩),.int .u64 150] 102)).alloc (.cells #[.pointer (some ⟨4,94,none⟩),.pointer (some ⟨w.heap.size,0,none⟩),.int .u64 150] 102)) (by rw [World.cell?_alloc_lt _ _ ⟨w.heap.size,0,none⟩ (by simp; omega),World.cell?_alloc_lt _ _ ⟨w.heap.size,0,none⟩ (by simp)]; simp)
 have st:=Tryz.set47 t ⟨w.heap.size + 1 + 1 + 1,0,none⟩ x old ((((w.alloc (.cells #[.pointer (some t)] 94)).alloc (.cells #[.pointer (some ⟨4,94,none⟩),.pointer (some ⟨w.heap.size,0,none⟩),.int .u64 150] 102)).alloc (.cells #[.pointer (some ⟨4,94,none⟩),.pointer (some ⟨w.heap.size,0,none⟩),.int .u64 150] 102)).alloc (.cells #[.int .i64 x] 47))
  (by rw [World.cell?_alloc_at _ _ _ _ (by simp)]; rfl)
  (by rw [World.cell?_alloc_lt _ _ t (by simp; omega),World.cell?_alloc_lt _ _ t (by simp; omega),World.cell?_alloc_lt _ _ t (by simp; omega),World.cell?_alloc_lt _ _ t htl]; exact ht0)
  (by rw [World.frozen?_alloc_old _ _ t (by simp; omega),World.frozen?_alloc_old _ _ t (by simp; omega),World.frozen?_alloc_old _ _ t (by simp; omega),World.frozen?_alloc_old _ _ t (Nat.ne_of_lt htl)]; exact hf0)
 go_enter Tryz.func33,Tryz.ntmps33
 go_wp2
 refine wp_loop_rounds 1 ?_
 rw [rounds_succ]
 go_wp2
 go_ret
 exact ⟨rfl,rfl⟩
set_option maxHeartbeats 4000000 in
theorem asE_fault (k : Nat) (x : Int) (t : Addr) (old : Value) (w : World) (hc : w.cell? ⟨k,1,none⟩ = some (.int .i64 x)) (hg : w.cell? ⟨0,0,none⟩ = some (.iface 116 (.agg #[.pointer (some ⟨4,26,none⟩)]))) (ht0 : w.cell? t = some old) (hf0 : w.frozen? t = false) :
  Calls Tryz.prog 33 #[.iface 71 (.pointer (some ⟨k,0,none⟩)),.iface 94 (.pointer (some t))] w fun ev w'=>ev = .returned (.bool true) /\ w' = (((((w.alloc (.cells #[.pointer (some t)] 94)).alloc (.cells #[.pointer (some ⟨4,94,none⟩),.pointer (some ⟨w.heap.size,0,none⟩),.int .u64 150] 102)).alloc (.cells #[.pointer (some ⟨4,94,none⟩),.pointer (some ⟨w.heap.size,0,none⟩),.int .u64 150] 102)).alloc (.cells #[.int .i64 x] 47)).setCell t (.int .i64 x)):=by
 have h6:=@run_callFunc_extern Tryz.prog 54 _ (fun args=>ReflectliteValue.unpack (args.getD 0 (.tuple #[]))) Tryz.func54 (by kernel_rfl) (by kernel_rfl) (by kernel_rfl) (by kernel_rfl)
 have h7:=@run_callFunc_extern Tryz.prog 55 _ (ReflectliteValue.methodAny (ReflectliteValue.valueError "reflectlite.Value.Type" 0) (fun t _ _ _=>ReflectliteType.toType t)) Tryz.func55 (by kernel_rfl) (by kernel_rfl) (by kernel_rfl) (by kernel_rfl)
 have h8:=@run_callFunc_extern Tryz.prog 56 _ (ReflectliteValue.method (ReflectliteValue.valueError "reflectlite.Value.IsNil" 0) ReflectliteValue.isNil) Tryz.func56 (by kernel_rfl) (by kernel_rfl) (by kernel_rfl) (by kernel_rfl)
 have h27:=@run_callFunc_extern Tryz.prog 133 _ (ReflectliteType.abiMethod fun t=>do pure (.int .u8 (<- Rtype.kind t))) Tryz.func133 (by kernel_rfl) (by kernel_rfl) (by kernel_rfl) (by kernel_rfl)
 have h37:=@run_callFunc_extern Tryz.prog 145 _ (ReflectliteType.method ReflectliteType.elem) Tryz.func145 (by kernel_rfl) (by kernel_rfl) (by kernel_rfl) (by kernel_rfl)
 have h38:=@run_callFunc_extern Tryz.prog 146 _ (ReflectliteType.relation "Implements" ReflectliteType.implements_) Tryz.func146 (by kernel_rfl) (by kernel_rfl) (by kernel_rfl) (by kernel_rfl)
 have h10:=@run_callFunc_extern Tryz.prog 40 _ ReflectliteType.typeOf Tryz.func40 (by kernel_rfl) (by kernel_rfl) (by kernel_rfl) (by kernel_rfl)
 have h35:=@run_callFunc_extern Tryz.prog 143 _ (ReflectliteType.relation "AssignableTo" ReflectliteType.assignableTo) Tryz.func143 (by kernel_rfl) (by kernel_rfl) (by kernel_rfl) (by kernel_rfl)
 have h11:=@run_callFunc_extern Tryz.prog 77 _ (ReflectliteValue.method (ReflectliteValue.valueError "reflectlite.Value.Elem" 0) ReflectliteValue.elem) Tryz.func77 (by kernel_rfl) (by kernel_rfl) (by kernel_rfl) (by kernel_rfl)
 have h12:=@run_callFunc_extern Tryz.prog 78 _ ReflectliteValue.set Tryz.func78 (by kernel_rfl) (by kernel_rfl) (by kernel_rfl) (by kernel_rfl)
 have tE:=Tryz.isTypeOf
 have tF:=Tryz.typeOfF
 have mA:=Tryz.methodAssignableTo
 have a1:=Tryz.assignable47_47
 have a2:=Tryz.assignable71_47
 have v25:=Tryz.valueOf47
 have f6:=Tryz.valueOf94
 have f7:=Tryz.type94
 have mK:=Tryz.methodKind
 have mE:=Tryz.methodElem
 have mI:=Tryz.methodImplements
 have k27:=Tryz.kind94
 have k25:=Tryz.kind47
 have e27:=Tryz.elem94
 have i25:=Tryz.implements47
 have q1:=Tryz.noAsE
 have q2:=Tryz.noAsF
 have q3:=Tryz.noUnwrapE
 have q4:=Tryz.noUnwrapsE
 have q5:=Tryz.unwrapF
 have q6:=Tryz.methodUnwrapF
 have hlt : 0 < w.heap.size:=by
  rcases Nat.lt_or_ge 0 w.heap.size with h | h
  . exact h
  . simp [World.cell?,Array.getElem?_eq_none h] at hg
 have htl : t.block < w.heap.size:=by
  rcases Nat.lt_or_ge t.block w.heap.size with h | h
  . exact h
  . simp [World.cell?,Array.getElem?_eq_none h] at ht0
 have n8:=Tryz.isNil94 ⟨w.heap.size,0,none⟩ t ((w.alloc (.cells #[.pointer (some t)] 94)).alloc (.cells #[.pointer (some ⟨4,94,none⟩),.pointer (some ⟨w.heap.size,0,none⟩),.int .u64 150] 102)) (by simp)
 have hg2 : ((w.alloc (.cells #[.pointer (some t)] 94)).alloc (.cells #[.pointer (some ⟨4,94,none⟩),.pointer (some ⟨w.heap.size,0,none⟩),.int .u64 150] 102)).cell? ⟨0,0,none⟩ = some (.iface 116 (.agg #[.pointer (some ⟨4,26,none⟩)])):=by
  rw [World.cell?_alloc_lt _ _ ⟨0,0,none⟩ (by simp <;> omega),World.cell?_alloc_lt _ _ ⟨0,0,none⟩ hlt]; exact hg
 have hkl : k < w.heap.size:=by
  rcases Nat.lt_or_ge k w.heap.size with h | h
  . exact h
  . simp [World.cell?,Array.getElem?_eq_none h] at hc
 have hc3 : (((w.alloc (.cells #[.pointer (some t)] 94)).alloc (.cells #[.pointer (some ⟨4,94,none⟩),.pointer (some ⟨w.heap.size,0,none⟩),.int .u64 150] 102)).alloc (.cells #[.pointer (some ⟨4,94,none⟩),.pointer (some ⟨w.heap.size,0,none⟩),.int .u64 150] 102)).cell? ⟨k,1,none⟩ = some (.int .i64 x):=by
  rw [World.cell?_alloc_lt _ _ ⟨k,1,none⟩ (by simp; omega),World.cell?_alloc_lt _ _ ⟨k,1,none⟩ (by simp; omega),World.cell?_alloc_lt _ _ ⟨k,1,none⟩ hkl]; exact hc
 have el:=Tryz.elemV94 ⟨w.heap.size,0,none⟩ t (((w.alloc (.cells #[.pointer (some t)] 94)).alloc (.cells #[.pointer (some ⟨4,94,none⟩),.pointer (some ⟨w.heap.size,0,none⟩),.int .u64 150] 102)).alloc (.cells #[.pointer (some ⟨4,94,none⟩),.pointer (some ⟨w.heap.size,0,none⟩),.int .u64 150] 102)) (by rw [World.cell?_alloc_lt _ _ ⟨w.heap.size,0,none⟩ (by simp; omega),World.cell?_alloc_lt _ _ ⟨w.heap.size,0,none⟩ (by simp)]; simp)
 have st:=Tryz.set47 t ⟨w.heap.size + 1 + 1 + 1,0,none⟩ x old ((((w.alloc (.cells #[.pointer (some t)] 94)).alloc (.cells #[.pointer (some ⟨4,94,none⟩),.pointer (some ⟨w.heap.size,0,none⟩),.int .u64 150] 102)).alloc (.cells #[.pointer (some ⟨4,94,none⟩),.pointer (some ⟨w.heap.size,0,none⟩),.int .u64 150] 102)).alloc (.cells #[.int .i64 x] 47))
  (by rw [World.cell?_alloc_at _ _ _ _ (by simp)]; rfl)
  (by rw [World.cell?_alloc_lt _ _ t (by simp; omega),World.cell?_alloc_lt _ _ t (by simp; omega),World.cell?_alloc_lt _ _ t (by simp; omega),World.cell?_alloc_lt _ _ t htl]; exact ht0)
  (by rw [World.frozen?_alloc_old _ _ t (by simp; omega),World.frozen?_alloc_old _ _ t (by simp; omega),World.frozen?_alloc_old _ _ t (by simp; omega),World.frozen?_alloc_old _ _ t (Nat.ne_of_lt htl)]; exact hf0)
 go_enter Tryz.func33,Tryz.ntmps33
 go_wp2
 refine wp_loop_rounds 2 ?_
 rw [rounds_succ]
 go_wp2
 rw [rounds_succ]
 go_wp2
 go_ret
 exact ⟨rfl,rfl⟩
set_option maxHeartbeats 4000000 in
theorem asF_no (x : Int) (t : Addr) (old : Value) (w : World) (hg : w.cell? ⟨0,0,none⟩ = some (.iface 116 (.agg #[.pointer (some ⟨4,26,none⟩)]))) (ht0 : w.cell? t = some old) (hf0 : w.frozen? t = false) :
  Calls Tryz.prog 33 #[.iface 47 (.int .i64 x),.iface 73 (.pointer (some t))] w fun ev w'=>ev = .returned (.bool false) /\ w' = (((w.alloc (.cells #[.pointer (some t)] 73)).alloc (.cells #[.pointer (some ⟨4,73,none⟩),.pointer (some ⟨w.heap.size,0,none⟩),.int .u64 150] 102)).alloc (.cells #[.pointer (some ⟨4,73,none⟩),.pointer (some ⟨w.heap.size,0,none⟩),.int .u64 150] 102)):=by
 have h6:=@run_callFunc_extern Tryz.prog 54 _ (fun args=>ReflectliteValue.unpack (args.getD 0 (.tuple #[]))) Tryz.func54 (by kernel_rfl) (by kernel_rfl) (by kernel_rfl) (by kernel_rfl)
 have h7:=@run_callFunc_extern Tryz.prog 55 _ (ReflectliteValue.methodAny (ReflectliteValue.valueError "reflectlite.Value.Type" 0) (fun t _ _ _=>ReflectliteType.toType t)) Tryz.func55 (by kernel_rfl) (by kernel_rfl) (by kernel_rfl) (by kernel_rfl)
 have h8:=@run_callFunc_extern Tryz.prog 56 _ (ReflectliteValue.method (ReflectliteValue.valueError "reflectlite.Value.IsNil" 0) ReflectliteValue.isNil) Tryz.func56 (by kernel_rfl) (by kernel_rfl) (by kernel_rfl) (by kernel_rfl)
 have h27:=@run_callFunc_extern Tryz.prog 133 _ (ReflectliteType.abiMethod fun t=>do pure (.int .u8 (<- Rtype.kind t))) Tryz.func133 (by kernel_rfl) (by kernel_rfl) (by kernel_rfl) (by kernel_rfl)
 have h37:=@run_callFunc_extern Tryz.prog 145 _ (ReflectliteType.method ReflectliteType.elem) Tryz.func145 (by kernel_rfl) (by kernel_rfl) (by kernel_rfl) (by kernel_rfl)
 have h38:=@run_callFunc_extern Tryz.prog 146 _ (ReflectliteType.relation "Implements" ReflectliteType.implements_) Tryz.func146 (by kernel_rfl) (by kernel_rfl) (by kernel_rfl) (by kernel_rfl)
 have h10:=@run_callFunc_extern Tryz.prog 40 _ ReflectliteType.typeOf Tryz.func40 (by kernel_rfl) (by kernel_rfl) (by kernel_rfl) (by kernel_rfl)
 have h35:=@run_callFunc_extern Tryz.prog 143 _ (ReflectliteType.relation "AssignableTo" ReflectliteType.assignableTo) Tryz.func143 (by kernel_rfl) (by kernel_rfl) (by kernel_rfl) (by kernel_rfl)
 have h11:=@run_callFunc_extern Tryz.prog 77 _ (ReflectliteValue.method (ReflectliteValue.valueError "reflectlite.Value.Elem" 0) ReflectliteValue.elem) Tryz.func77 (by kernel_rfl) (by kernel_rfl) (by kernel_rfl) (by kernel_rfl)
 have h12:=@run_callFunc_extern Tryz.prog 78 _ ReflectliteValue.set Tryz.func78 (by kernel_rfl) (by kernel_rfl) (by kernel_rfl) (by kernel_rfl)
 have tE:=Tryz.isTypeOf
 have tF:=Tryz.typeOfF
 have mA:=Tryz.methodAssignableTo
 have a1:=Tryz.assignable47_71
 have a2:=Tryz.assignable71_71
 have v25:=Tryz.valueOf71
 have f6:=Tryz.valueOf73
 have f7:=Tryz.type73
 have mK:=Tryz.methodKind
 have mE:=Tryz.methodElem
 have mI:=Tryz.methodImplements
 have k27:=Tryz.kind73
 have k25:=Tryz.kind71
 have e27:=Tryz.elem73
 have i25:=Tryz.implements71
 have q1:=Tryz.noAsE
 have q2:=Tryz.noAsF
 have q3:=Tryz.noUnwrapE
 have q4:=Tryz.noUnwrapsE
 have q5:=Tryz.unwrapF
 have q6:=Tryz.methodUnwrapF
 have hlt : 0 < w.heap.size:=by
  rcases Nat.lt_or_ge 0 w.heap.size with h | h
  . exact h
  . simp [World.cell?,Array.getElem?_eq_none h] at hg
 have htl : t.block < w.heap.size:=by
  rcases Nat.lt_or_ge t.block w.heap.size with h | h
  . exact h
  . simp [World.cell?,Array.getElem?_eq_none h] at ht0
 have n8:=Tryz.isNil73 ⟨w.heap.size,0,none⟩ t ((w.alloc (.cells #[.pointer (some t)] 73)).alloc (.cells #[.pointer (some ⟨4,73,none⟩),.pointer (some ⟨w.heap.size,0,none⟩),.int .u64 150] 102)) (by simp)
 have hg2 : ((w.alloc (.cells #[.pointer (some t)] 73)).alloc (.cells #[.pointer (some ⟨4,73,none⟩),.pointer (some ⟨w.heap.size,0,none⟩),.int .u64 150] 102)).cell? ⟨0,0,none⟩ = some (.iface 116 (.agg #[.pointer (some ⟨4,26,none⟩)])):=by
  rw [World.cell?_alloc_lt _ _ ⟨0,0,none⟩ (by simp <;> omega),World.cell?_alloc_lt _ _ ⟨0,0,none⟩ hlt]; exact hg
 go_enter Tryz.func33,Tryz.ntmps33
 go_wp2
 refine wp_loop_rounds 1 ?_
 rw [rounds_succ]
 go_wp2
 go_ret
 exact ⟨rfl,rfl⟩
set_option maxHeartbeats 4000000 in
theorem asF_fault (x : Addr) (t : Addr) (old : Value) (w : World) (hg : w.cell? ⟨0,0,none⟩ = some (.iface 116 (.agg #[.pointer (some ⟨4,26,none⟩)]))) (ht0 : w.cell? t = some old) (hf0 : w.frozen? t = false) :
  Calls Tryz.prog 33 #[.iface 71 (.pointer (some x)),.iface 73 (.pointer (some t))] w fun ev w'=>ev = .returned (.bool true) /\ w' = (((((w.alloc (.cells #[.pointer (some t)] 73)).alloc (.cells #[.pointer (some ⟨4,73,none⟩),.pointer (some ⟨w.heap.size,0,none⟩),.int .u64 150] 102)).alloc (.cells #[.pointer (some ⟨4,73,none⟩),.pointer (some ⟨w.heap.size,0,none⟩),.int .u64 150] 102)).alloc (.cells #[.pointer (some x)] 71)).setCell t (.pointer (some x))):=by
 have h6:=@run_callFunc_extern Tryz.prog 54 _ (fun args=>ReflectliteValue.unpack (args.getD 0 (.tuple #[]))) Tryz.func54 (by kernel_rfl) (by kernel_rfl) (by kernel_rfl) (by kernel_rfl)
 have h7:=@run_callFunc_extern Tryz.prog 55 _ (ReflectliteValue.methodAny (ReflectliteValue.valueError "reflectlite.Value.Type" 0) (fun t _ _ _=>ReflectliteType.toType t)) Tryz.func55 (by kernel_rfl) (by kernel_rfl) (by kernel_rfl) (by kernel_rfl)
 have h8:=@run_callFunc_extern Tryz.prog 56 _ (ReflectliteValue.method (ReflectliteValue.valueError "reflectlite.Value.IsNil" 0) ReflectliteValue.isNil) Tryz.func56 (by kernel_rfl) (by kernel_rfl) (by kernel_rfl) (by kernel_rfl)
 have h27:=@run_callFunc_extern Tryz.prog 133 _ (ReflectliteType.abiMethod fun t=>do pure (.int .u8 (<- Rtype.kind t))) Tryz.func133 (by kernel_rfl) (by kernel_rfl) (by kernel_rfl) (by kernel_rfl)
 have h37:=@run_callFunc_extern Tryz.prog 145 _ (ReflectliteType.method ReflectliteType.elem) Tryz.func145 (by kernel_rfl) (by kernel_rfl) (by kernel_rfl) (by kernel_rfl)
 have h38:=@run_callFunc_extern Tryz.prog 146 _ (ReflectliteType.relation "Implements" ReflectliteType.implements_) Tryz.func146 (by kernel_rfl) (by kernel_rfl) (by kernel_rfl) (by kernel_rfl)
 have h10:=@run_callFunc_extern Tryz.prog 40 _ ReflectliteType.typeOf Tryz.func40 (by kernel_rfl) (by kernel_rfl) (by kernel_rfl) (by kernel_rfl)
 have h35:=@run_callFunc_extern Tryz.prog 143 _ (ReflectliteType.relation "AssignableTo" ReflectliteType.assignableTo) Tryz.func143 (by kernel_rfl) (by kernel_rfl) (by kernel_rfl) (by kernel_rfl)
 have h11:=@run_callFunc_extern Tryz.prog 77 _ (ReflectliteValue.method (ReflectliteValue.valueError "reflectlite.Value.Elem" 0) ReflectliteValue.elem) Tryz.func77 (by kernel_rfl) (by kernel_rfl) (by kernel_rfl) (by kernel_rfl)
 have h12:=@run_callFunc_extern Tryz.prog 78 _ ReflectliteValue.set Tryz.func78 (by kernel_rfl) (by kernel_rfl) (by kernel_rfl) (by kernel_rfl)
 have tE:=Tryz.isTypeOf
 have tF:=Tryz.typeOfF
 have mA:=Tryz.methodAssignableTo
 have a1:=Tryz.assignable47_71
 have a2:=Tryz.assignable71_71
 have v25:=Tryz.valueOf71
 have f6:=Tryz.valueOf73
 have f7:=Tryz.type73
 have mK:=Tryz.methodKind
 have mE:=Tryz.methodElem
 have mI:=Tryz.methodImplements
 have k27:=Tryz.kind73
 have k25:=Tryz.kind71
 have e27:=Tryz.elem73
 have i25:=Tryz.implements71
 have q1:=Tryz.noAsE
 have q2:=Tryz.noAsF
 have q3:=Tryz.noUnwrapE
 have q4:=Tryz.noUnwrapsE
 have q5:=Tryz.unwrapF
 have q6:=Tryz.methodUnwrapF
 have hlt : 0 < w.heap.size:=by
  rcases Nat.lt_or_ge 0 w.heap.size with h | h
  . exact h
  . simp [World.cell?,Array.getElem?_eq_none h] at hg
 have htl : t.block < w.heap.size:=by
  rcases Nat.lt_or_ge t.block w.heap.size with h | h
  . exact h
  . simp [World.cell?,Array.getElem?_eq_none h] at ht0
 have n8:=Tryz.isNil73 ⟨w.heap.size,0,none⟩ t ((w.alloc (.cells #[.pointer (some t)] 73)).alloc (.cells #[.pointer (some ⟨4,73,none⟩),.pointer (some ⟨w.heap.size,0,none⟩),.int .u64 150] 102)) (by simp)
 have hg2 : ((w.alloc (.cells #[.pointer (some t)] 73)).alloc (.cells #[.pointer (some ⟨4,73,none⟩),.pointer (some ⟨w.heap.size,0,none⟩),.int .u64 150] 102)).cell? ⟨0,0,none⟩ = some (.iface 116 (.agg #[.pointer (some ⟨4,26,none⟩)])):=by
  rw [World.cell?_alloc_lt _ _ ⟨0,0,none⟩ (by simp <;> omega),World.cell?_alloc_lt _ _ ⟨0,0,none⟩ hlt]; exact hg
 have el:=Tryz.elemV73 ⟨w.heap.size,0,none⟩ t (((w.alloc (.cells #[.pointer (some t)] 73)).alloc (.cells #[.pointer (some ⟨4,73,none⟩),.pointer (some ⟨w.heap.size,0,none⟩),.int .u64 150] 102)).alloc (.cells #[.pointer (some ⟨4,73,none⟩),.pointer (some ⟨w.heap.size,0,none⟩),.int .u64 150] 102)) (by rw [World.cell?_alloc_lt _ _ ⟨w.heap.size,0,none⟩ (by simp; omega),World.cell?_alloc_lt _ _ ⟨w.heap.size,0,none⟩ (by simp)]; simp)
 have st:=Tryz.set71 t ⟨w.heap.size + 1 + 1 + 1,0,none⟩ x old ((((w.alloc (.cells #[.pointer (some t)] 73)).alloc (.cells #[.pointer (some ⟨4,73,none⟩),.pointer (some ⟨w.heap.size,0,none⟩),.int .u64 150] 102)).alloc (.cells #[.pointer (some ⟨4,73,none⟩),.pointer (some ⟨w.heap.size,0,none⟩),.int .u64 150] 102)).alloc (.cells #[.pointer (some x)] 71))
  (by rw [World.cell?_alloc_at _ _ _ _ (by simp)]; rfl)
  (by rw [World.cell?_alloc_lt _ _ t (by simp; omega),World.cell?_alloc_lt _ _ t (by simp; omega),World.cell?_alloc_lt _ _ t (by simp; omega),World.cell?_alloc_lt _ _ t htl]; exact ht0)
  (by rw [World.frozen?_alloc_old _ _ t (by simp; omega),World.frozen?_alloc_old _ _ t (by simp; omega),World.frozen?_alloc_old _ _ t (by simp; omega),World.frozen?_alloc_old _ _ t (Nat.ne_of_lt htl)]; exact hf0)
 go_enter Tryz.func33,Tryz.ntmps33
 go_wp2
 refine wp_loop_rounds 1 ?_
 rw [rounds_succ]
 go_wp2
 go_ret
 exact ⟨rfl,rfl⟩
set_option maxHeartbeats 4000000 in
theorem asE_w134 (v : Value) (x : Int) (t : Addr) (old : Value) (w : World) (hg : w.cell? ⟨0,0,none⟩ = some (.iface 116 (.agg #[.pointer (some ⟨4,26,none⟩)]))) (ht0 : w.cell? t = some old) (hf0 : w.frozen? t = false) :
  Calls Tryz.prog 33 #[.iface 134 (.agg #[v,.int .i64 x]),.iface 94 (.pointer (some t))] w fun ev w'=>ev = .returned (.bool true) /\ w' = ((((((w.alloc (.cells #[.pointer (some t)] 94)).alloc (.cells #[.pointer (some ⟨4,94,none⟩),.pointer (some ⟨w.heap.size,0,none⟩),.int .u64 150] 102)).alloc (.cells #[.pointer (some ⟨4,94,none⟩),.pointer (some ⟨w.heap.size,0,none⟩),.int .u64 150] 102)).alloc (.cells #[v,.int .i64 x] 134)).alloc (.cells #[.int .i64 x] 47)).setCell t (.int .i64 x)):=by
 have h6:=@run_callFunc_extern Tryz.prog 54 _ (fun args=>ReflectliteValue.unpack (args.getD 0 (.tuple #[]))) Tryz.func54 (by kernel_rfl) (by kernel_rfl) (by kernel_rfl) (by kernel_rfl)
 have h7:=@run_callFunc_extern Tryz.prog 55 _ (ReflectliteValue.methodAny (ReflectliteValue.valueError "reflectlite.Value.Type" 0) (fun t _ _ _=>ReflectliteType.toType t)) Tryz.func55 (by kernel_rfl) (by kernel_rfl) (by kernel_rfl) (by kernel_rfl)
 have h8:=@run_callFunc_extern Tryz.prog 56 _ (ReflectliteValue.method (ReflectliteValue.valueError "reflectlite.Value.IsNil" 0) ReflectliteValue.isNil) Tryz.func56 (by kernel_rfl) (by kernel_rfl) (by kernel_rfl) (by kernel_rfl)
 have h27:=@run_callFunc_extern Tryz.prog 133 _ (ReflectliteType.abiMethod fun t=>do pure (.int .u8 (<- Rtype.kind t))) Tryz.func133 (by kernel_rfl) (by kernel_rfl) (by kernel_rfl) (by kernel_rfl)
 have h37:=@run_callFunc_extern Tryz.prog 145 _ (ReflectliteType.method ReflectliteType.elem) Tryz.func145 (by kernel_rfl) (by kernel_rfl) (by kernel_rfl) (by kernel_rfl)
 have h38:=@run_callFunc_extern Tryz.prog 146 _ (ReflectliteType.relation "Implements" ReflectliteType.implements_) Tryz.func146 (by kernel_rfl) (by kernel_rfl) (by kernel_rfl) (by kernel_rfl)
 have h10:=@run_callFunc_extern Tryz.prog 40 _ ReflectliteType.typeOf Tryz.func40 (by kernel_rfl) (by kernel_rfl) (by kernel_rfl) (by kernel_rfl)
 have h35:=@run_callFunc_extern Tryz.prog 143 _ (ReflectliteType.relation "AssignableTo" ReflectliteType.assignableTo) Tryz.func143 (by kernel_rfl) (by kernel_rfl) (by kernel_rfl) (by kernel_rfl)
 have h11:=@run_callFunc_extern Tryz.prog 77 _ (ReflectliteValue.method (ReflectliteValue.valueError "reflectlite.Value.Elem" 0) ReflectliteValue.elem) Tryz.func77 (by kernel_rfl) (by kernel_rfl) (by kernel_rfl) (by kernel_rfl)
 have h12:=@run_callFunc_extern Tryz.prog 78 _ ReflectliteValue.set Tryz.func78 (by kernel_rfl) (by kernel_rfl) (by kernel_rfl) (by kernel_rfl)
 have tE:=Tryz.isTypeOf
 have tF:=Tryz.typeOfF
 have mA:=Tryz.methodAssignableTo
 have a1:=Tryz.assignable47_47
 have a2:=Tryz.assignable71_47
 have v25:=Tryz.valueOf47
 have f6:=Tryz.valueOf94
 have f7:=Tryz.type94
 have mK:=Tryz.methodKind
 have mE:=Tryz.methodElem
 have mI:=Tryz.methodImplements
 have k27:=Tryz.kind94
 have k25:=Tryz.kind47
 have e27:=Tryz.elem94
 have i25:=Tryz.implements47
 have q1:=Tryz.noAsE
 have q2:=Tryz.noAsF
 have q3:=Tryz.noUnwrapE
 have q4:=Tryz.noUnwrapsE
 have q5:=Tryz.unwrapF
 have q6:=Tryz.methodUnwrapF
 have hlt : 0 < w.heap.size:=by
  rcases Nat.lt_or_ge 0 w.heap.size with h | h
  . exact h
  . simp [World.cell?,Array.getElem?_eq_none h] at hg
 have htl : t.block < w.heap.size:=by
  rcases Nat.lt_or_ge t.block w.heap.size with h | h
  . exact h
  . simp [World.cell?,Array.getElem?_eq_none h] at ht0
 have n8:=Tryz.isNil94 ⟨w.heap.size,0,none⟩ t ((w.alloc (.cells #[.pointer (some t)] 94)).alloc (.cells #[.pointer (some ⟨4,94,none⟩),.pointer (some ⟨w.heap.size,0,none⟩),.int .u64 150] 102)) (by simp)
 have hg2 : ((w.alloc (.cells #[.pointer (some t)] 94)).alloc (.cells #[.pointer (some ⟨4,94,none⟩),.pointer (some ⟨w.heap.size,0,none⟩),.int .u64 150] 102)).cell? ⟨0,0,none⟩ = some (.iface 116 (.agg #[.pointer (some ⟨4,26,none⟩)])):=by
  rw [World.cell?_alloc_lt _ _ ⟨0,0,none⟩ (by simp <;> omega),World.cell?_alloc_lt _ _ ⟨0,0,none⟩ hlt]; exact hg
 have w1:=Tryz.typeOf134
 have w2:=Tryz.noAs134
 have w3:=Tryz.unwrap134
 have w4:=Tryz.methodUnwrap134
 have w5:=Tryz.assignable134_47
 have el:=Tryz.elemV94 ⟨w.heap.size,0,none⟩ t ((((w.alloc (.cells #[.pointer (some t)] 94)).alloc (.cells #[.pointer (some ⟨4,94,none⟩),.pointer (some ⟨w.heap.size,0,none⟩),.int .u64 150] 102)).alloc (.cells #[.pointer (some ⟨4,94,none⟩),.pointer (some ⟨w.heap.size,0,none⟩),.int .u64 150] 102)).alloc (.cells #[v,.int .i64 x] 134)) (by rw [World.cell?_alloc_lt _ _ ⟨w.heap.size,0,none⟩ (by simp; omega),World.cell?_alloc_lt _ _ ⟨w.heap.size,0,none⟩ (by simp; omega),World.cell?_alloc_lt _ _ ⟨w.heap.size,0,none⟩ (by simp)]; simp)
 have st:=Tryz.set47 t ⟨w.heap.size + 1 + 1 + 1 + 1,0,none⟩ x old (((((w.alloc (.cells #[.pointer (some t)] 94)).alloc (.cells #[.pointer (some ⟨4,94,none⟩),.pointer (some ⟨w.heap.size,0,none⟩),.int .u64 150] 102)).alloc (.cells #[.pointer (some ⟨4,94,none⟩),.pointer (some ⟨w.heap.size,0,none⟩),.int .u64 150] 102)).alloc (.cells #[v,.int .i64 x] 134)).alloc (.cells #[.int .i64 x] 47))
  (by rw [World.cell?_alloc_at _ _ _ _ (by simp)]; rfl)
  (by rw [World.cell?_alloc_lt _ _ t (by simp; omega),World.cell?_alloc_lt _ _ t (by simp; omega),World.cell?_alloc_lt _ _ t (by simp; omega),World.cell?_alloc_lt _ _ t (by simp; omega),World.cell?_alloc_lt _ _ t htl]; exact ht0)
  (by rw [World.frozen?_alloc_old _ _ t (by simp; omega),World.frozen?_alloc_old _ _ t (by simp; omega),World.frozen?_alloc_old _ _ t (by simp; omega),World.frozen?_alloc_old _ _ t (by simp; omega),World.frozen?_alloc_old _ _ t (Nat.ne_of_lt htl)]; exact hf0)
 go_enter Tryz.func33,Tryz.ntmps33
 go_wp2
 refine wp_loop_rounds 2 ?_
 rw [rounds_succ]
 go_wp2
 rw [rounds_succ]
 go_wp2
 go_ret
 exact ⟨rfl,rfl⟩
set_option maxHeartbeats 4000000 in
theorem asF_w134 (v : Value) (x : Int) (t : Addr) (old : Value) (w : World) (hg : w.cell? ⟨0,0,none⟩ = some (.iface 116 (.agg #[.pointer (some ⟨4,26,none⟩)]))) (ht0 : w.cell? t = some old) (hf0 : w.frozen? t = false) :
  Calls Tryz.prog 33 #[.iface 134 (.agg #[v,.int .i64 x]),.iface 73 (.pointer (some t))] w fun ev w'=>ev = .returned (.bool false) /\ w' = (((w.alloc (.cells #[.pointer (some t)] 73)).alloc (.cells #[.pointer (some ⟨4,73,none⟩),.pointer (some ⟨w.heap.size,0,none⟩),.int .u64 150] 102)).alloc (.cells #[.pointer (some ⟨4,73,none⟩),.pointer (some ⟨w.heap.size,0,none⟩),.int .u64 150] 102)).alloc (.cells #[v,.int .i64 x] 134):=by
 have h6:=@run_callFunc_extern Tryz.prog 54 _ (fun args=>ReflectliteValue.unpack (args.getD 0 (.tuple #[]))) Tryz.func54 (by kernel_rfl) (by kernel_rfl) (by kernel_rfl) (by kernel_rfl)
 have h7:=@run_callFunc_extern Tryz.prog 55 _ (ReflectliteValue.methodAny (ReflectliteValue.valueError "reflectlite.Value.Type" 0) (fun t _ _ _=>ReflectliteType.toType t)) Tryz.func55 (by kernel_rfl) (by kernel_rfl) (by kernel_rfl) (by kernel_rfl)
 have h8:=@run_callFunc_extern Tryz.prog 56 _ (ReflectliteValue.method (ReflectliteValue.valueError "reflectlite.Value.IsNil" 0) ReflectliteValue.isNil) Tryz.func56 (by kernel_rfl) (by kernel_rfl) (by kernel_rfl) (by kernel_rfl)
 have h27:=@run_callFunc_extern Tryz.prog 133 _ (ReflectliteType.abiMethod fun t=>do pure (.int .u8 (<- Rtype.kind t))) Tryz.func133 (by kernel_rfl) (by kernel_rfl) (by kernel_rfl) (by kernel_rfl)
 have h37:=@run_callFunc_extern Tryz.prog 145 _ (ReflectliteType.method ReflectliteType.elem) Tryz.func145 (by kernel_rfl) (by kernel_rfl) (by kernel_rfl) (by kernel_rfl)
 have h38:=@run_callFunc_extern Tryz.prog 146 _ (ReflectliteType.relation "Implements" ReflectliteType.implements_) Tryz.func146 (by kernel_rfl) (by kernel_rfl) (by kernel_rfl) (by kernel_rfl)
 have h10:=@run_callFunc_extern Tryz.prog 40 _ ReflectliteType.typeOf Tryz.func40 (by kernel_rfl) (by kernel_rfl) (by kernel_rfl) (by kernel_rfl)
 have h35:=@run_callFunc_extern Tryz.prog 143 _ (ReflectliteType.relation "AssignableTo" ReflectliteType.assignableTo) Tryz.func143 (by kernel_rfl) (by kernel_rfl) (by kernel_rfl) (by kernel_rfl)
 have h11:=@run_callFunc_extern Tryz.prog 77 _ (ReflectliteValue.method (ReflectliteValue.valueError "reflectlite.Value.Elem" 0) ReflectliteValue.elem) Tryz.func77 (by kernel_rfl) (by kernel_rfl) (by kernel_rfl) (by kernel_rfl)
 have h12:=@run_callFunc_extern Tryz.prog 78 _ ReflectliteValue.set Tryz.func78 (by kernel_rfl) (by kernel_rfl) (by kernel_rfl) (by kernel_rfl)
 have tE:=Tryz.isTypeOf
 have tF:=Tryz.typeOfF
 have mA:=Tryz.methodAssignableTo
 have a1:=Tryz.assignable47_71
 have a2:=Tryz.assignable71_71
 have v25:=Tryz.valueOf71
 have f6:=Tryz.valueOf73
 have f7:=Tryz.type73
 have mK:=Tryz.methodKind
 have mE:=Tryz.methodElem
 have mI:=Tryz.methodImplements
 have k27:=Tryz.kind73
 have k25:=Tryz.kind71
 have e27:=Tryz.elem73
 have i25:=Tryz.implements71
 have q1:=Tryz.noAsE
 have q2:=Tryz.noAsF
 have q3:=Tryz.noUnwrapE
 have q4:=Tryz.noUnwrapsE
 have q5:=Tryz.unwrapF
 have q6:=Tryz.methodUnwrapF
 have hlt : 0 < w.heap.size:=by
  rcases Nat.lt_or_ge 0 w.heap.size with h | h
  . exact h
  . simp [World.cell?,Array.getElem?_eq_none h] at hg
 have htl : t.block < w.heap.size:=by
  rcases Nat.lt_or_ge t.block w.heap.size with h | h
  . exact h
  . simp [World.cell?,Array.getElem?_eq_none h] at ht0
 have n8:=Tryz.isNil73 ⟨w.heap.size,0,none⟩ t ((w.alloc (.cells #[.pointer (some t)] 73)).alloc (.cells #[.pointer (some ⟨4,73,none⟩),.pointer (some ⟨w.heap.size,0,none⟩),.int .u64 150] 102)) (by simp)
 have hg2 : ((w.alloc (.cells #[.pointer (some t)] 73)).alloc (.cells #[.pointer (some ⟨4,73,none⟩),.pointer (some ⟨w.heap.size,0,none⟩),.int .u64 150] 102)).cell? ⟨0,0,none⟩ = some (.iface 116 (.agg #[.pointer (some ⟨4,26,none⟩)])):=by
  rw [World.cell?_alloc_lt _ _ ⟨0,0,none⟩ (by simp <;> omega),World.cell?_alloc_lt _ _ ⟨0,0,none⟩ hlt]; exact hg
 have w1:=Tryz.typeOf134
 have w2:=Tryz.noAs134
 have w3:=Tryz.unwrap134
 have w4:=Tryz.methodUnwrap134
 have w5:=Tryz.assignable134_71
 go_enter Tryz.func33,Tryz.ntmps33
 go_wp2
 refine wp_loop_rounds 2 ?_
 rw [rounds_succ]
 go_wp2
 rw [rounds_succ]
 go_wp2
 go_ret
 exact ⟨rfl,rfl⟩
end Go.Proofs.YtadgfmmmdhlljaaGreatDoor
end
