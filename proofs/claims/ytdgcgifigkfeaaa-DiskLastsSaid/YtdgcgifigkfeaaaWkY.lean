/- Interfaces: made, compared with none or with another one that holds a number, asked for methods that are missing. -/
import Derived.Test.YtdgcgifigkfeaaaWkX
namespace Go.Wk
open Go

section
variable {P : Program} {n : Nat} {ops : List Oper} {Q : Exit → Fr → World → Prop} {rest : List Oper} {f : Fr} {w : World} {d : Nat} {T T' ty A : TypeId} {pos : String} {after : Array Edge} {x y : Operand} {t t' : TypeId} {u v zv : Value} {k : IntKind} {a b : Int} {m : Bool} {info : TypeInfo} {ms want : Array (String × TypeId)}
theorem S_makeI {X : TypeDesc} (hT : ∀ w, (underlying T).run P w = .ok X w) (hX : (match X with | .interface _ => false | _ => true) = true) (hv : ev f x = v) (hn : Nat.blt d n = true) (K : WL P m n ops Q rest (upd f d (.iface T v)) w) :
    WL P m n ops Q (⟨some d, .makeInterface T x, ty, pos, after, none⟩ :: rest) f w :=
  WL_val rfl rfl hn (v := .iface T v) (fun w1 _ => by
    subst hv
    simp only [execOp, Instr.makeInterface, Sem.run_bind, hT, Result.andThen_ok]
    cases X <;> first | rfl | (simp at hX)) K
theorem eqI_nil0 (hT : ∀ w, (underlying T).run P w = .ok (.interface ms) w) (w : World) : (Op.equal T .nilIface .nilIface).run P w = .ok true w := by
  have h : ∀ d, (Op.equalIn (d + 1) T .nilIface .nilIface).run P w = .ok true w := fun d => by
    unfold Op.equalIn; rw [Sem.run_bind, hT, Result.andThen_ok]; rfl
  exact h 9999
theorem eqI_nil1 (hT : ∀ w, (underlying T).run P w = .ok (.interface ms) w) (w : World) : (Op.equal T (.iface t v) .nilIface).run P w = .ok false w := by
  have h : ∀ d, (Op.equalIn (d + 1) T (.iface t v) .nilIface).run P w = .ok false w := fun d => by
    unfold Op.equalIn; rw [Sem.run_bind, hT, Result.andThen_ok]; rfl
  exact h 9999
theorem eqI_nil2 (hT : ∀ w, (underlying T).run P w = .ok (.interface ms) w) (w : World) : (Op.equal T .nilIface (.iface t v)).run P w = .ok false w := by
  have h : ∀ d, (Op.equalIn (d + 1) T .nilIface (.iface t v)).run P w = .ok false w := fun d => by
    unfold Op.equalIn; rw [Sem.run_bind, hT, Result.andThen_ok]; rfl
  exact h 9999
theorem S_eqlN (hT : ∀ w, (underlying T).run P w = .ok (.interface ms) w) (hx : ev f x = .iface t v) (hn : Nat.blt d n = true) (K : WL P m n ops Q rest (upd f d (.bool false)) w) :
    WL P m n ops Q (⟨some d, .binOp .eql T x (.const .nilIface) T', ty, pos, after, none⟩ :: rest) f w :=
  WL_val rfl rfl hn (v := .bool false) (fun w1 _ => by
    have hy : ev f (.const .nilIface) = Value.nilIface := rfl
    simp [execOp, hx, hy, eqGuard, binOp, go_sem, eqI_nil1 hT]) K
theorem S_eqlN0 (hT : ∀ w, (underlying T).run P w = .ok (.interface ms) w) (hx : ev f x = .nilIface) (hn : Nat.blt d n = true) (K : WL P m n ops Q rest (upd f d (.bool true)) w) :
    WL P m n ops Q (⟨some d, .binOp .eql T x (.const .nilIface) T', ty, pos, after, none⟩ :: rest) f w :=
  WL_val rfl rfl hn (v := .bool true) (fun w1 _ => by
    have hy : ev f (.const .nilIface) = Value.nilIface := rfl
    simp [execOp, hx, hy, eqGuard, binOp, go_sem, eqI_nil0 hT]) K
theorem S_neqN (hT : ∀ w, (underlying T).run P w = .ok (.interface ms) w) (hx : ev f x = .iface t v) (hn : Nat.blt d n = true) (K : WL P m n ops Q rest (upd f d (.bool true)) w) :
    WL P m n ops Q (⟨some d, .binOp .neq T x (.const .nilIface) T', ty, pos, after, none⟩ :: rest) f w :=
  WL_val rfl rfl hn (v := .bool true) (fun w1 _ => by
    have hy : ev f (.const .nilIface) = Value.nilIface := rfl
    simp [execOp, hx, hy, eqGuard, binOp, go_sem, eqI_nil1 hT]) K
theorem S_neqN0 (hT : ∀ w, (underlying T).run P w = .ok (.interface ms) w) (hx : ev f x = .nilIface) (hn : Nat.blt d n = true) (K : WL P m n ops Q rest (upd f d (.bool false)) w) :
    WL P m n ops Q (⟨some d, .binOp .neq T x (.const .nilIface) T', ty, pos, after, none⟩ :: rest) f w :=
  WL_val rfl rfl hn (v := .bool false) (fun w1 _ => by
    have hy : ev f (.const .nilIface) = Value.nilIface := rfl
    simp [execOp, hx, hy, eqGuard, binOp, go_sem, eqI_nil0 hT]) K
/-- Two interfaces that hold numbers. -/
theorem eqI_int (hT : ∀ w, (underlying T).run P w = .ok (.interface ms) w) (hI : ∀ w, (typeInfo t).run P w = .ok info w) (hc : info.comparable = true) (hU : ∀ w, (underlying t).run P w = .ok (.int k) w) (w : World) :
    (Op.equal T (.iface t (.int k a)) (.iface t (.int k b))).run P w = .ok (decide (a = b)) w := by
  have h : ∀ d, (Op.equalIn (d + 2) T (.iface t (.int k a)) (.iface t (.int k b))).run P w = .ok (decide (a = b)) w := fun d => by
    unfold Op.equalIn; rw [Sem.run_bind, hT, Result.andThen_ok]
    simp only [ne_eq, not_true_eq_false, if_false, Sem.run_bind, hI, Result.andThen_ok, hc, Bool.not_true, Bool.false_eq_true]
    unfold Op.equalIn; rw [Sem.run_bind, hU, Result.andThen_ok]
    simp only [if_true, Sem.run_pure]
    congr 1
  exact h 9998
end
end Go.Wk
