/- Strings: comparing, joining, the length. -/
import Derived.Test.YtdgcgifigkfeaaaWkO
namespace Go.Wk
open Go

theorem sv_toList (s : Str) : (⟨s.toArray⟩ : ByteArray).toList = s := by
  rw [Go.ByteArray.toList_eq]
theorem sv_size (s : Str) : (⟨s.toArray⟩ : ByteArray).size = s.length := by simp [ByteArray.size]
theorem sv_append (s t : Str) : (⟨s.toArray⟩ : ByteArray) ++ ⟨t.toArray⟩ = ⟨(s ++ t).toArray⟩ := by
  apply ByteArray.ext
  simp
section
variable {P : Program} {m : Bool} {n : Nat} {ops : List Oper} {Q : Exit → Fr → World → Prop} {rest : List Oper} {f : Fr} {w : World} {d : Nat} {T T' ty : TypeId} {pos : String} {after : Array Edge} {x y : Operand} {s t : Str}
theorem S_eqlS (hx : ev f x = sv s) (hy : ev f y = sv t) (hn : Nat.blt d n = true) (K : WL P m n ops Q rest (upd f d (.bool (decide (s = t)))) w) :
    WL P m n ops Q (⟨some d, .binOp .eql T x y T', ty, pos, after, none⟩ :: rest) f w :=
  WL_val rfl rfl hn (v := .bool (decide (s = t))) (fun _ _ => by
    simp only [sv] at hx hy
    simp [execOp, hx, hy, eqGuard, binOp, go_sem, Op.stringOp, sv_toList]
    by_cases h : s = t <;> simp [h]) K
theorem S_neqS (hx : ev f x = sv s) (hy : ev f y = sv t) (hn : Nat.blt d n = true) (K : WL P m n ops Q rest (upd f d (.bool (decide (s ≠ t)))) w) :
    WL P m n ops Q (⟨some d, .binOp .neq T x y T', ty, pos, after, none⟩ :: rest) f w :=
  WL_val rfl rfl hn (v := .bool (decide (s ≠ t))) (fun _ _ => by
    simp only [sv] at hx hy
    simp [execOp, hx, hy, eqGuard, binOp, go_sem, Op.stringOp, sv_toList]
    by_cases h : s = t <;> simp [h]) K
theorem S_addS (hx : ev f x = sv s) (hy : ev f y = sv t) (hl : s.length + t.length ≤ 9223372036854775807) (hn : Nat.blt d n = true) (K : WL P m n ops Q rest (upd f d (sv (s ++ t))) w) :
    WL P m n ops Q (⟨some d, .binOp .add T x y T', ty, pos, after, none⟩ :: rest) f w :=
  WL_val rfl rfl hn (v := sv (s ++ t)) (fun _ _ => by
    simp only [sv] at hx hy ⊢
    have h1 : ¬ (((⟨s.toArray⟩ : ByteArray).size + (⟨t.toArray⟩ : ByteArray).size : Nat) : Int) > IntKind.i64.max := by
      rw [sv_size, sv_size]
      have : IntKind.i64.max = 9223372036854775807 := by decide
      omega
    simp only [execOp, hx, hy, binOp, Op.stringOp, if_neg h1, sv_append]
    simp [eqGuard, go_sem]) K
end
end Go.Wk
