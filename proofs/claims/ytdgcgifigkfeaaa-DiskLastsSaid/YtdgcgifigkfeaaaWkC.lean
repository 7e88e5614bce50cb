/- One rule for each operation that computes. -/
import Derived.Test.YtdgcgifigkfeaaaWkB
namespace Go.Wk
open Go

section
variable {P : Program} {m : Bool} {n : Nat} {ops : List Oper} {Q : Exit → Fr → World → Prop} {rest : List Oper} {f : Fr} {w w' : World} {d : Nat} {v : Value}
variable {ty T T' T2 : TypeId} {pos : String} {after : Array Edge} {x y z : Operand} {k : IntKind} {a b c : Int} {p q : Bool}

theorem S_move (hn : Nat.blt d n = true) (K : WL P m n ops Q rest (upd f d (ev f x)) w) : WL P m n ops Q (⟨some d, .move x, ty, pos, after, none⟩ :: rest) f w :=
  WL_val rfl rfl hn (v := ev f x) (fun _ _ => rfl) K
theorem S_assign (hn : Nat.blt d n = true) (K : WL P m n ops Q rest (upd f d (ev f x)) w) : WL P m n ops Q (⟨some d, .assign x, ty, pos, after, none⟩ :: rest) f w :=
  WL_val rfl rfl hn (v := ev f x) (fun _ _ => rfl) K
theorem S_pick (hx : ev f x = .bool p) (hn : Nat.blt d n = true) (K : WL P m n ops Q rest (upd f d (if p then ev f y else ev f z)) w) : WL P m n ops Q (⟨some d, .pick x y z, ty, pos, after, none⟩ :: rest) f w :=
  WL_val rfl rfl hn (v := if p then ev f y else ev f z) (fun _ _ => by simp [execOp, hx, asBool, go_sem]) K
theorem S_pick_t (hx : ev f x = .bool true) (hn : Nat.blt d n = true) (K : WL P m n ops Q rest (upd f d (ev f y)) w) : WL P m n ops Q (⟨some d, .pick x y z, ty, pos, after, none⟩ :: rest) f w :=
  S_pick hx hn K
theorem S_pick_f (hx : ev f x = .bool false) (hn : Nat.blt d n = true) (K : WL P m n ops Q rest (upd f d (ev f z)) w) : WL P m n ops Q (⟨some d, .pick x y z, ty, pos, after, none⟩ :: rest) f w :=
  S_pick hx hn K

theorem wrap64_id {a : Int} (h : -9223372036854775808 ≤ a ∧ a ≤ 9223372036854775807) : IntKind.i64.wrap a = a := IntWalk.i64_in a h

theorem S_arith {op : BinOp} (hx : ev f x = .int k a) (hy : ev f y = .int k b) (hr : ∀ w, (Op.intArith op k a b).run P w = .ok v w) (ho : op = .add ∨ op = .sub ∨ op = .mul) (hn : Nat.blt d n = true) (K : WL P m n ops Q rest (upd f d v) w) :
    WL P m n ops Q (⟨some d, .binOp op T x y T', ty, pos, after, none⟩ :: rest) f w :=
  WL_val rfl rfl hn (v := v) (fun _ _ => by have hr' := hr w; rcases ho with rfl | rfl | rfl <;> simp [Op.intArith, go_sem] at hr' <;> simp [execOp, hx, hy, eqGuard, binOp, go_sem, hr']) K
theorem S_add (hx : ev f x = .int .i64 a) (hy : ev f y = .int .i64 b) (hb : -9223372036854775808 ≤ a + b ∧ a + b ≤ 9223372036854775807) (hn : Nat.blt d n = true) (K : WL P m n ops Q rest (upd f d (.int .i64 (a + b))) w) :
    WL P m n ops Q (⟨some d, .binOp .add T x y T', ty, pos, after, none⟩ :: rest) f w :=
  S_arith hx hy (fun _ => by simp [Op.intArith, go_sem, wrap64_id hb]) (by simp) hn K
theorem S_sub (hx : ev f x = .int .i64 a) (hy : ev f y = .int .i64 b) (hb : -9223372036854775808 ≤ a - b ∧ a - b ≤ 9223372036854775807) (hn : Nat.blt d n = true) (K : WL P m n ops Q rest (upd f d (.int .i64 (a - b))) w) :
    WL P m n ops Q (⟨some d, .binOp .sub T x y T', ty, pos, after, none⟩ :: rest) f w :=
  S_arith hx hy (fun _ => by simp [Op.intArith, go_sem, wrap64_id hb]) (by simp) hn K
theorem S_mul (hx : ev f x = .int .i64 a) (hy : ev f y = .int .i64 b) (hb : -9223372036854775808 ≤ a * b ∧ a * b ≤ 9223372036854775807) (hn : Nat.blt d n = true) (K : WL P m n ops Q rest (upd f d (.int .i64 (a * b))) w) :
    WL P m n ops Q (⟨some d, .binOp .mul T x y T', ty, pos, after, none⟩ :: rest) f w :=
  S_arith hx hy (fun _ => by simp [Op.intArith, go_sem, wrap64_id hb]) (by simp) hn K
/-- Of whatever kind, wrapped. -/
theorem S_addw (hx : ev f x = .int k a) (hy : ev f y = .int k b) (hn : Nat.blt d n = true) (K : WL P m n ops Q rest (upd f d (.int k (k.wrap (a + b)))) w) :
    WL P m n ops Q (⟨some d, .binOp .add T x y T', ty, pos, after, none⟩ :: rest) f w :=
  S_arith hx hy (fun _ => by simp [Op.intArith, go_sem]) (by simp) hn K
theorem S_subw (hx : ev f x = .int k a) (hy : ev f y = .int k b) (hn : Nat.blt d n = true) (K : WL P m n ops Q rest (upd f d (.int k (k.wrap (a - b)))) w) :
    WL P m n ops Q (⟨some d, .binOp .sub T x y T', ty, pos, after, none⟩ :: rest) f w :=
  S_arith hx hy (fun _ => by simp [Op.intArith, go_sem]) (by simp) hn K
theorem S_mulw (hx : ev f x = .int k a) (hy : ev f y = .int k b) (hn : Nat.blt d n = true) (K : WL P m n ops Q rest (upd f d (.int k (k.wrap (a * b)))) w) :
    WL P m n ops Q (⟨some d, .binOp .mul T x y T', ty, pos, after, none⟩ :: rest) f w :=
  S_arith hx hy (fun _ => by simp [Op.intArith, go_sem]) (by simp) hn K
theorem S_quo (hx : ev f x = .int k a) (hy : ev f y = .int k b) (hb : b ≠ 0) (hn : Nat.blt d n = true) (K : WL P m n ops Q rest (upd f d (.int k (k.wrap (a.tdiv b)))) w) :
    WL P m n ops Q (⟨some d, .binOp .quo T x y T', ty, pos, after, none⟩ :: rest) f w :=
  WL_val rfl rfl hn (v := .int k (k.wrap (a.tdiv b))) (fun _ _ => by simp [execOp, hx, hy, eqGuard, binOp, go_sem, Op.intDiv, hb]) K
theorem S_rem (hx : ev f x = .int k a) (hy : ev f y = .int k b) (hb : b ≠ 0) (hn : Nat.blt d n = true) (K : WL P m n ops Q rest (upd f d (.int k (a.tmod b))) w) :
    WL P m n ops Q (⟨some d, .binOp .rem T x y T', ty, pos, after, none⟩ :: rest) f w :=
  WL_val rfl rfl hn (v := .int k (a.tmod b)) (fun _ _ => by simp [execOp, hx, hy, eqGuard, binOp, go_sem, Op.intDiv, hb]) K

theorem S_shr {k' : IntKind} (hx : ev f x = .int k a) (hy : ev f y = .int k' b) (hb : 0 ≤ b) (hn : Nat.blt d n = true) (K : WL P m n ops Q rest (upd f d (.int k (a.fdiv (2 ^ min b.toNat k.bits)))) w) :
    WL P m n ops Q (⟨some d, .binOp .shr T x y T', ty, pos, after, none⟩ :: rest) f w :=
  WL_val rfl rfl hn (v := .int k (a.fdiv (2 ^ min b.toNat k.bits))) (fun _ _ => by simp [execOp, hx, hy, eqGuard, binOp, go_sem, Op.shift, Int.not_lt.2 hb]) K
theorem S_shl {k' : IntKind} (hx : ev f x = .int k a) (hy : ev f y = .int k' b) (hb : 0 ≤ b) (hn : Nat.blt d n = true) (K : WL P m n ops Q rest (upd f d (.int k (k.wrap (a * 2 ^ min b.toNat k.bits)))) w) :
    WL P m n ops Q (⟨some d, .binOp .shl T x y T', ty, pos, after, none⟩ :: rest) f w :=
  WL_val rfl rfl hn (v := .int k (k.wrap (a * 2 ^ min b.toNat k.bits))) (fun _ _ => by simp [execOp, hx, hy, eqGuard, binOp, go_sem, Op.shift, Int.not_lt.2 hb]) K
theorem S_and (hx : ev f x = .int k a) (hy : ev f y = .int k b) (hn : Nat.blt d n = true) (K : WL P m n ops Q rest (upd f d (.int k (k.wrap (BitVec.ofInt k.bits a &&& BitVec.ofInt k.bits b).toNat))) w) :
    WL P m n ops Q (⟨some d, .binOp .and T x y T', ty, pos, after, none⟩ :: rest) f w :=
  WL_val rfl rfl hn (v := .int k (k.wrap (BitVec.ofInt k.bits a &&& BitVec.ofInt k.bits b).toNat)) (fun _ _ => by simp [execOp, hx, hy, eqGuard, binOp, go_sem, Op.intBits]) K
theorem S_or (hx : ev f x = .int k a) (hy : ev f y = .int k b) (hn : Nat.blt d n = true) (K : WL P m n ops Q rest (upd f d (.int k (k.wrap (BitVec.ofInt k.bits a ||| BitVec.ofInt k.bits b).toNat))) w) :
    WL P m n ops Q (⟨some d, .binOp .or T x y T', ty, pos, after, none⟩ :: rest) f w :=
  WL_val rfl rfl hn (v := .int k (k.wrap (BitVec.ofInt k.bits a ||| BitVec.ofInt k.bits b).toNat)) (fun _ _ => by simp [execOp, hx, hy, eqGuard, binOp, go_sem, Op.intBits]) K
theorem S_xor (hx : ev f x = .int k a) (hy : ev f y = .int k b) (hn : Nat.blt d n = true) (K : WL P m n ops Q rest (upd f d (.int k (k.wrap (BitVec.ofInt k.bits a ^^^ BitVec.ofInt k.bits b).toNat))) w) :
    WL P m n ops Q (⟨some d, .binOp .xor T x y T', ty, pos, after, none⟩ :: rest) f w :=
  WL_val rfl rfl hn (v := .int k (k.wrap (BitVec.ofInt k.bits a ^^^ BitVec.ofInt k.bits b).toNat)) (fun _ _ => by simp [execOp, hx, hy, eqGuard, binOp, go_sem, Op.intBits]) K

theorem S_lss (hx : ev f x = .int k a) (hy : ev f y = .int k b) (hn : Nat.blt d n = true) (K : WL P m n ops Q rest (upd f d (.bool (decide (a < b)))) w) :
    WL P m n ops Q (⟨some d, .binOp .lss T x y T', ty, pos, after, none⟩ :: rest) f w :=
  WL_val rfl rfl hn (v := .bool (decide (a < b))) (fun _ _ => by simp [execOp, hx, hy, eqGuard, binOp, go_sem, Op.intCmp]) K
theorem S_leq (hx : ev f x = .int k a) (hy : ev f y = .int k b) (hn : Nat.blt d n = true) (K : WL P m n ops Q rest (upd f d (.bool (decide (a ≤ b)))) w) :
    WL P m n ops Q (⟨some d, .binOp .leq T x y T', ty, pos, after, none⟩ :: rest) f w :=
  WL_val rfl rfl hn (v := .bool (decide (a ≤ b))) (fun _ _ => by simp [execOp, hx, hy, eqGuard, binOp, go_sem, Op.intCmp]) K
theorem S_gtr (hx : ev f x = .int k a) (hy : ev f y = .int k b) (hn : Nat.blt d n = true) (K : WL P m n ops Q rest (upd f d (.bool (decide (b < a)))) w) :
    WL P m n ops Q (⟨some d, .binOp .gtr T x y T', ty, pos, after, none⟩ :: rest) f w :=
  WL_val rfl rfl hn (v := .bool (decide (b < a))) (fun _ _ => by simp [execOp, hx, hy, eqGuard, binOp, go_sem, Op.intCmp]) K
theorem S_geq (hx : ev f x = .int k a) (hy : ev f y = .int k b) (hn : Nat.blt d n = true) (K : WL P m n ops Q rest (upd f d (.bool (decide (b ≤ a)))) w) :
    WL P m n ops Q (⟨some d, .binOp .geq T x y T', ty, pos, after, none⟩ :: rest) f w :=
  WL_val rfl rfl hn (v := .bool (decide (b ≤ a))) (fun _ _ => by simp [execOp, hx, hy, eqGuard, binOp, go_sem, Op.intCmp]) K
theorem S_eql (hx : ev f x = .int k a) (hy : ev f y = .int k b) (hn : Nat.blt d n = true) (K : WL P m n ops Q rest (upd f d (.bool (decide (a = b)))) w) :
    WL P m n ops Q (⟨some d, .binOp .eql T x y T', ty, pos, after, none⟩ :: rest) f w :=
  WL_val rfl rfl hn (v := .bool (decide (a = b))) (fun _ _ => by simp [execOp, hx, hy, eqGuard, binOp, go_sem, Op.intCmp]; by_cases h : a = b <;> simp [h]) K
theorem S_neq (hx : ev f x = .int k a) (hy : ev f y = .int k b) (hn : Nat.blt d n = true) (K : WL P m n ops Q rest (upd f d (.bool (decide (a ≠ b)))) w) :
    WL P m n ops Q (⟨some d, .binOp .neq T x y T', ty, pos, after, none⟩ :: rest) f w :=
  WL_val rfl rfl hn (v := .bool (decide (a ≠ b))) (fun _ _ => by simp [execOp, hx, hy, eqGuard, binOp, go_sem, Op.intCmp]; by_cases h : a = b <;> simp [h]) K
theorem eqB {w : World} {p q : Bool} (hT : ∀ w, (underlying T).run P w = .ok .bool w) : (Op.equal T (.bool p) (.bool q)).run P w = .ok (decide (p = q)) w := by
  have h : ∀ d, (Op.equalIn (d + 1) T (.bool p) (.bool q)).run P w = .ok (decide (p = q)) w := fun d => by
    unfold Op.equalIn
    rw [Sem.run_bind, hT, Result.andThen_ok]
    cases p <;> cases q <;> rfl
  exact h 9999
theorem eqS {w : World} {a b : ByteArray} (hT : ∀ w, (underlying T).run P w = .ok .string w) : (Op.equal T (.string a) (.string b)).run P w = .ok (a == b) w := by
  have h : ∀ d, (Op.equalIn (d + 1) T (.string a) (.string b)).run P w = .ok (a == b) w := fun d => by
    unfold Op.equalIn
    rw [Sem.run_bind, hT, Result.andThen_ok]
    rfl
  exact h 9999
theorem S_eqlB {q : Bool} (hT : ∀ w, (underlying T).run P w = .ok .bool w) (hx : ev f x = .bool p) (hy : ev f y = .bool q) (hn : Nat.blt d n = true) (K : WL P m n ops Q rest (upd f d (.bool (decide (p = q)))) w) :
    WL P m n ops Q (⟨some d, .binOp .eql T x y T', ty, pos, after, none⟩ :: rest) f w :=
  WL_val rfl rfl hn (v := .bool (decide (p = q))) (fun _ _ => by simp [execOp, hx, hy, eqGuard, binOp, go_sem, eqB hT]) K
theorem S_neqB {q : Bool} (hT : ∀ w, (underlying T).run P w = .ok .bool w) (hx : ev f x = .bool p) (hy : ev f y = .bool q) (hn : Nat.blt d n = true) (K : WL P m n ops Q rest (upd f d (.bool (decide (p ≠ q)))) w) :
    WL P m n ops Q (⟨some d, .binOp .neq T x y T', ty, pos, after, none⟩ :: rest) f w :=
  WL_val rfl rfl hn (v := .bool (decide (p ≠ q))) (fun _ _ => by cases p <;> cases q <;> simp [execOp, hx, hy, eqGuard, binOp, go_sem, eqB hT]) K
theorem S_eqlBT {q : Bool} (hT : ∀ w, (underlying T).run P w = .ok .bool w) (hx : ev f x = .bool p) (hy : ev f y = .bool q) (h : p = q) (hn : Nat.blt d n = true) (K : WL P m n ops Q rest (upd f d (.bool true)) w) :
    WL P m n ops Q (⟨some d, .binOp .eql T x y T', ty, pos, after, none⟩ :: rest) f w := S_eqlB hT hx hy hn (by rw [decide_eq_true h]; exact K)
theorem S_neqBF {q : Bool} (hT : ∀ w, (underlying T).run P w = .ok .bool w) (hx : ev f x = .bool p) (hy : ev f y = .bool q) (h : p = q) (hn : Nat.blt d n = true) (K : WL P m n ops Q rest (upd f d (.bool false)) w) :
    WL P m n ops Q (⟨some d, .binOp .neq T x y T', ty, pos, after, none⟩ :: rest) f w := S_neqB hT hx hy hn (by rw [decide_eq_false (fun k => k h)]; exact K)
theorem S_not (hx : ev f x = .bool p) (hn : Nat.blt d n = true) (K : WL P m n ops Q rest (upd f d (.bool (!p))) w) : WL P m n ops Q (⟨some d, .unOp .not T x, ty, pos, after, none⟩ :: rest) f w :=
  WL_val rfl rfl hn (v := .bool (!p)) (fun _ _ => by simp [execOp, hx, Op.unary, go_sem]) K
theorem S_neg (hx : ev f x = .int k a) (hn : Nat.blt d n = true) (K : WL P m n ops Q rest (upd f d (.int k (k.wrap (0 - a)))) w) : WL P m n ops Q (⟨some d, .unOp .neg T x, ty, pos, after, none⟩ :: rest) f w :=
  WL_val rfl rfl hn (v := .int k (k.wrap (0 - a))) (fun _ _ => by simp [execOp, hx, Op.unary, Op.intArith, go_sem]) K
theorem S_extract {vs : Array Value} {i : Nat} (hx : ev f x = .tuple vs) (hi : vs[i]? = some v) (hn : Nat.blt d n = true) (K : WL P m n ops Q rest (upd f d v) w) : WL P m n ops Q (⟨some d, .extract x i, ty, pos, after, none⟩ :: rest) f w :=
  WL_val rfl rfl hn (v := v) (fun _ _ => by simp [execOp, hx, Instr.extract, hi, go_sem]) K
theorem S_makeFunc {fn : Fn} {xs ys : List Operand} (hn : Nat.blt d n = true) (K : WL P m n ops Q rest (upd f d (.func fn (xs.map (ev f)).toArray (ys.map (ev f)).toArray)) w) : WL P m n ops Q (⟨some d, .makeFunc fn xs.toArray ys.toArray, ty, pos, after, none⟩ :: rest) f w :=
  WL_val rfl rfl hn (v := .func fn (xs.map (ev f)).toArray (ys.map (ev f)).toArray) (fun _ _ => by simp [execOp, Instr.makeFunc, go_sem]) K
theorem S_len {A : Option Addr} {mm cp : Nat} {E : TypeId} (hT : ∀ w, (underlying T).run P w = .ok (.slice E) w) (hx : ev f x = .slice A mm cp) (hn : Nat.blt d n = true) (K : WL P m n ops Q rest (upd f d (.int .i64 mm)) w) :
    WL P m n ops Q (⟨some d, .call ⟨.builtin .len, #[x], #[T]⟩, ty, pos, after, none⟩ :: rest) f w :=
  WL_val rfl rfl hn (v := .int .i64 mm) (fun _ _ => by simp [Builtin.len_, hx, hT, go_sem]) K
theorem S_lenS {s : ByteArray} (hT : ∀ w, (underlying T).run P w = .ok .string w) (hx : ev f x = .string s) (hn : Nat.blt d n = true) (K : WL P m n ops Q rest (upd f d (.int .i64 s.size)) w) :
    WL P m n ops Q (⟨some d, .call ⟨.builtin .len, #[x], #[T]⟩, ty, pos, after, none⟩ :: rest) f w :=
  WL_val rfl rfl hn (v := .int .i64 s.size) (fun _ _ => by simp [Builtin.len_, hx, hT, go_sem]) K
theorem S_max {Ts : Array TypeId} (hx : ev f x = .int k a) (hy : ev f y = .int k b) (hn : Nat.blt d n = true) (K : WL P m n ops Q rest (upd f d (.int k (max a b))) w) :
    WL P m n ops Q (⟨some d, .call ⟨.builtin .max, #[x, y], Ts⟩, ty, pos, after, none⟩ :: rest) f w :=
  WL_val rfl rfl hn (v := .int k (max a b)) (fun _ _ => by
    have e : (if b > a then b else a) = max a b := by rw [Int.max_def]; split <;> split <;> omega
    simp [Builtin.max_, Builtin.max2, hx, hy, go_sem]; exact e) K
theorem S_min {Ts : Array TypeId} (hx : ev f x = .int k a) (hy : ev f y = .int k b) (hn : Nat.blt d n = true) (K : WL P m n ops Q rest (upd f d (.int k (min a b))) w) :
    WL P m n ops Q (⟨some d, .call ⟨.builtin .min, #[x, y], Ts⟩, ty, pos, after, none⟩ :: rest) f w :=
  WL_val rfl rfl hn (v := .int k (min a b)) (fun _ _ => by
    have e : (if b < a then b else a) = min a b := by rw [Int.min_def]; split <;> split <;> omega
    simp [Builtin.min_, Builtin.min2, hx, hy, go_sem]; exact e) K
/-- A call of a function of the program by name. -/
theorem S_call {Kf : FuncId} {xs : Array Operand} {Ts : Array TypeId} {args : List Value} {R : Value → World → Prop} (hK : ∀ as w, (callFunc Kf as).run P w = .ok (.enter Kf as) w) (ha : xs.toList.map (ev f) = args)
    (hc : CallR P Kf args w R) (hn : Nat.blt d n = true) (K : ∀ v w', R v w' → WL P false n ops Q rest (upd f d v) w') : WL P false n ops Q (⟨some d, .call ⟨.value (.func Kf), xs, Ts⟩, ty, pos, after, none⟩ :: rest) f w :=
  WL_enter rfl rfl hn (K := Kf) (args := args) (fun _ _ => by
    have : xs.map (ev f) = args.toArray := by rw [← ha]; apply Array.ext'; simp
    simp [execOp, resolve, Deferred.ofValue, invoke, ev, this, go_sem, hK]) hc K
/-- A call that gives a known value and turns nothing. -/
theorem S_callQ {Kf : FuncId} {xs : Array Operand} {Ts : Array TypeId} {args : List Value} {val : Value} (hK : ∀ as w, (callFunc Kf as).run P w = .ok (.enter Kf as) w) (ha : xs.toList.map (ev f) = args)
    (hc : CallR P Kf args w (fun v w' => v = val ∧ w' = w)) (hn : Nat.blt d n = true) (K : WL P false n ops Q rest (upd f d val) w) : WL P false n ops Q (⟨some d, .call ⟨.value (.func Kf), xs, Ts⟩, ty, pos, after, none⟩ :: rest) f w :=
  S_call hK ha hc hn (fun _ _ h => by rw [h.1, h.2]; exact K)
/-- A call that gives a known value. -/
theorem S_callE {Kf : FuncId} {xs : Array Operand} {Ts : Array TypeId} {args : List Value} {val : Value} {R : World → Prop} (hK : ∀ as w, (callFunc Kf as).run P w = .ok (.enter Kf as) w) (ha : xs.toList.map (ev f) = args)
    (hc : CallR P Kf args w (fun v w' => v = val ∧ R w')) (hn : Nat.blt d n = true) (K : ∀ w', R w' → WL P false n ops Q rest (upd f d val) w') : WL P false n ops Q (⟨some d, .call ⟨.value (.func Kf), xs, Ts⟩, ty, pos, after, none⟩ :: rest) f w :=
  S_call hK ha hc hn (fun _ w' h => by rw [h.1]; exact K w' h.2)
theorem S_callN {Kf : FuncId} {xs : Array Operand} {Ts : Array TypeId} {args : List Value} {R : Value → World → Prop} (hK : ∀ as w, (callFunc Kf as).run P w = .ok (.enter Kf as) w) (ha : xs.toList.map (ev f) = args)
    (hc : CallR P Kf args w R) (K : ∀ v w', R v w' → WL P false n ops Q rest f w') : WL P false n ops Q (⟨none, .call ⟨.value (.func Kf), xs, Ts⟩, ty, pos, after, none⟩ :: rest) f w :=
  WL_enterN rfl rfl (K := Kf) (args := args) (fun _ _ => by
    have : xs.map (ev f) = args.toArray := by rw [← ha]; apply Array.ext'; simp
    simp [execOp, resolve, Deferred.ofValue, invoke, ev, this, go_sem, hK]) hc K
/-- A call of a function value. -/
theorem S_callV {Kf : FuncId} {xs : Array Operand} {Ts : Array TypeId} {args : List Value} {cap : Array Value} {R : Value → World → Prop} (hv : ev f z = .func (.func Kf) #[] cap) (hK : ∀ as w, (callFunc Kf as).run P w = .ok (.enter Kf as) w)
    (ha : xs.toList.map (ev f) ++ cap.toList = args) (hc : CallR P Kf args w R) (hn : Nat.blt d n = true) (K : ∀ v w', R v w' → WL P false n ops Q rest (upd f d v) w') : WL P false n ops Q (⟨some d, .call ⟨.value z, xs, Ts⟩, ty, pos, after, none⟩ :: rest) f w :=
  WL_enter rfl rfl hn (K := Kf) (args := args) (fun _ _ => by
    have : xs.map (ev f) ++ cap = args.toArray := by rw [← ha]; apply Array.ext'; simp
    simp [execOp, resolve, Deferred.ofValue, invoke, hv, this, go_sem, hK]) hc K
end
end Go.Wk
