/- Regions and calls: one rule for each operation. -/
import Derived.Test.YtdgcgifigkfeaaaWkA
import Derived.WalkKit
namespace Go.Wk
open Go

/-! ### Calls -/
def CallR (P : Program) (K : FuncId) (args : List Value) (w : World) (R : Value → World → Prop) : Prop :=
  ∀ w1, Sim w w1 → Calls P K args.toArray w1 fun e w2 => ∃ v w', e = .returned v ∧ Sim w' w2 ∧ R v w'
theorem CallR.mono {P : Program} {K : FuncId} {args : List Value} {w : World} {R R' : Value → World → Prop} (h : CallR P K args w R) (hr : ∀ v w', R v w' → R' v w') : CallR P K args w R' :=
  fun w1 hs => Calls.mono (h w1 hs) fun _ _ ⟨v, w', e, s, r⟩ => ⟨v, w', e, s, hr _ _ r⟩

def nth : List Value → Nat → Value
  | [], _ => undef
  | v :: _, 0 => v
  | _ :: r, t + 1 => nth r t
theorem nth_eq (l : List Value) : ∀ t, l.toArray.getD t undef = nth l t := by
  induction l with
  | nil => intro t; simp [nth]
  | cons v r ih => intro t; cases t with
    | zero => simp [nth]
    | succ t => have := ih t; simp [nth] at this ⊢; exact this

def Ret1 (t : Nat) (R : Value → World → Prop) : Exit → Fr → World → Prop
  | .ret, f, w => R (f t) w
  | .normal, f, w => R (f t) w
  | _, _, _ => False
def Ret2 (t u : Nat) (R : Value → World → Prop) : Exit → Fr → World → Prop
  | .ret, f, w => R (.tuple #[f t, f u]) w
  | .normal, f, w => R (.tuple #[f t, f u]) w
  | _, _, _ => False
def Ret3 (t u s : Nat) (R : Value → World → Prop) : Exit → Fr → World → Prop
  | .ret, f, w => R (.tuple #[f t, f u, f s]) w
  | .normal, f, w => R (.tuple #[f t, f u, f s]) w
  | _, _, _ => False
def Ret0 (R : Value → World → Prop) : Exit → Fr → World → Prop
  | .ret, _, w => R (.tuple #[]) w
  | .normal, _, w => R (.tuple #[]) w
  | _, _, _ => False

theorem is_enter (args : List Value) (n : Nat) (h : args.length ≤ n) : Is { tmps := args.toArray ++ Array.replicate (n - args.toArray.size) undef, defers := [] } (nth args) n := by
  refine ⟨by simp; omega, fun t => ?_, rfl⟩
  rw [← nth_eq]
  by_cases ht : t < args.length
  · simp [Array.getElem?_append, ht]
  · have : args.toArray[t]? = none := by simp; omega
    simp only [Array.getD_eq_getD_getElem?, this, Array.getElem?_append, List.size_toArray, ht, if_false]
    rw [Array.getElem?_replicate]
    split <;> rfl

section
variable {P : Program} {K : FuncId} {fn : Func} {c : Code} {args : List Value} {w : World} {R : Value → World → Prop} {n : Nat}
theorem Call_enter (hf : P.funcs[K]? = some fn) (hb : fn.body = some c) (hn : fn.ntmps = n) (hs : Nat.ble args.length n = true) (Q : Exit → Fr → World → Prop)
    (hq : ∀ e a w1 f w, Is a f n → Sim w w1 → Q e f w → bodyPost P fn (fun e w2 => ∃ v w', e = .returned v ∧ Sim w' w2 ∧ R v w') e a w1) (h : W P n c Q (nth args) w) : CallR P K args w R := by
  subst hn
  exact fun w1 hw => calls_of_wp hf hb (Go.wp_mono (h _ w1 (is_enter args _ (Nat.le_of_ble_eq_true hs)) hw) fun e a w ⟨f, v, hf, hv, q⟩ => hq e a w f v hf hv q)
theorem Call1 {t : Nat} (hf : P.funcs[K]? = some fn) (hb : fn.body = some c) (hn : fn.ntmps = n) (hr : fn.results = #[.tmp t]) (hs : Nat.ble args.length n = true) (h : W P n c (Ret1 t R) (nth args) w) : CallR P K args w R :=
  Call_enter hf hb hn hs _ (fun e a w1 f w hf hv q => by
    cases e with
    | ret => exact ⟨hf.defers, _, results_tmp hr _ _ _, _, w, rfl, hv, by rw [hf.get]; exact q⟩
    | normal => exact ⟨hf.defers, _, results_tmp hr _ _ _, _, w, rfl, hv, by rw [hf.get]; exact q⟩
    | _ => exact q.elim) h
theorem Call0 (hf : P.funcs[K]? = some fn) (hb : fn.body = some c) (hn : fn.ntmps = n) (hr : fn.results = #[]) (hs : Nat.ble args.length n = true) (h : W P n c (Ret0 R) (nth args) w) : CallR P K args w R :=
  Call_enter hf hb hn hs _ (fun e a w1 f w hf hv q => by
    cases e with
    | ret => exact ⟨hf.defers, _, results_none hr _ _ _, _, w, rfl, hv, q⟩
    | normal => exact ⟨hf.defers, _, results_none hr _ _ _, _, w, rfl, hv, q⟩
    | _ => exact q.elim) h
theorem Call2 {t u : Nat} (hf : P.funcs[K]? = some fn) (hb : fn.body = some c) (hn : fn.ntmps = n) (hr : fn.results = #[.tmp t, .tmp u]) (hs : Nat.ble args.length n = true) (h : W P n c (Ret2 t u R) (nth args) w) : CallR P K args w R :=
  Call_enter hf hb hn hs _ (fun e a w1 f w hf hv q => by
    cases e with
    | ret => exact ⟨hf.defers, _, results_tmp2 hr _ _ _, _, w, rfl, hv, by rw [hf.get, hf.get]; exact q⟩
    | normal => exact ⟨hf.defers, _, results_tmp2 hr _ _ _, _, w, rfl, hv, by rw [hf.get, hf.get]; exact q⟩
    | _ => exact q.elim) h
theorem results_tmp3' {fn : Func} {t u s : Tmp} (h : fn.results = #[.tmp t, .tmp u, .tmp s]) (tmps : Array Value) (P : Program) (w : World) :
    (results fn tmps).run P w = .ok (.tuple #[tmps.getD t undef, tmps.getD u undef, tmps.getD s undef]) w := by
  simp [results, h]
theorem Call3 {t u s : Nat} (hf : P.funcs[K]? = some fn) (hb : fn.body = some c) (hn : fn.ntmps = n) (hr : fn.results = #[.tmp t, .tmp u, .tmp s]) (hs : Nat.ble args.length n = true) (h : W P n c (Ret3 t u s R) (nth args) w) : CallR P K args w R :=
  Call_enter hf hb hn hs _ (fun e a w1 f w hf hv q => by
    cases e with
    | ret => exact ⟨hf.defers, _, results_tmp3' hr _ _ _, _, w, rfl, hv, by rw [hf.get, hf.get, hf.get]; exact q⟩
    | normal => exact ⟨hf.defers, _, results_tmp3' hr _ _ _, _, w, rfl, hv, by rw [hf.get, hf.get, hf.get]; exact q⟩
    | _ => exact q.elim) h
end

/-! ### Regions -/
theorem blt_lt {a b : Nat} (h : Nat.blt a b = true) : a < b := Nat.le_of_ble_eq_true h
def dstAt : List Oper → Nat → Option Nat
  | [], _ => none
  | o :: _, 0 => o.dst
  | _ :: r, t + 1 => dstAt r t
theorem dstAt_eq (l : List Oper) : ∀ t, (l.toArray[t]?).bind (·.dst) = dstAt l t := by
  induction l with
  | nil => intro t; simp [dstAt]
  | cons v r ih => intro t; cases t with
    | zero => simp [dstAt]
    | succ t => have := ih t; simp [dstAt] at this ⊢; exact this
def putF (f : Fr) (d : Option Nat) (v : Value) : Fr := match d with | some t => upd f t v | none => f
/-- One operation without its guard, in every world but for the count of draws; nothing turns. -/
def RunQ (P : Program) (o : Oper) (f : Fr) (w : World) (v : Value) : Prop := ∀ w1, Sim w w1 → (execOp (ev f) o).run P w1 = .ok (.value v) w1
/-- A guard: is the operation wanted? -/
def Wanted (ops : List Oper) (n : Nat) (f : Fr) : Option (Nat × Bool) → Bool → Prop
  | none, b => b = true
  | some (j, want), b => ∃ dj, dstAt ops j = some dj ∧ dj < n ∧ ((f dj = .bool want ∧ b = true) ∨ ((f dj = .bool (!want) ∨ f dj = undef) ∧ b = false))
/-- Quiet operations, one behind the other (for a region that draws its order). -/
def QL (P : Program) (n : Nat) (ops : List Oper) (Q : Exit → Fr → World → Prop) : List Oper → Fr → World → Prop
  | [], f, w => Q .normal f w
  | o :: rest, f, w => ∃ d b v, o.dst = some d ∧ d < n ∧ Wanted ops n f o.guard b ∧ (b = true → RunQ P o f w v) ∧ (b = false → v = undef) ∧ QL P n ops Q rest (upd f d v) w
/-- The operations of a region, one behind the other: in the order of the text (m = false); or quiet ones (m = true). -/
def WL (P : Program) (m : Bool) (n : Nat) (ops : List Oper) (Q : Exit → Fr → World → Prop) (l : List Oper) (f : Fr) (w : World) : Prop :=
  match m with
  | false => ∀ a w1, Is a f n → Sim w w1 → wpList P ops.toArray (lift n Q) l a w1
  | true => QL P n ops Q l f w

section
variable {P : Program} {m : Bool} {n : Nat} {ops : List Oper} {Q : Exit → Fr → World → Prop} {rest : List Oper} {f : Fr} {w w' : World} {d : Nat} {v : Value} {o : Oper}
theorem W_region {id : Nat} {l : List Oper} (h : WL P false n l Q l f w) : W P n (.region id l.toArray false) Q f w := fun a w1 ha hs => wp_region_lit (h a w1 ha hs)
theorem WL_nil (h : Q .normal f w) : WL P m n ops Q [] f w := by
  cases m with
  | false => exact fun _ _ ha hs => ⟨f, w, ha, hs, h⟩
  | true => exact h
theorem WL_step (hg : o.guard = none) (h : ∀ a w1, Is a f n → Sim w w1 → o.wp P a w1 (wpList P ops.toArray (lift n Q) rest) (lift n Q)) : WL P false n ops Q (o :: rest) f w := fun a w1 ha hs => by
  unfold wpList
  rw [if_pos (by simp [Region.wanted, hg])]
  exact .inl (h a w1 ha hs)
/-- A quiet operation. -/
theorem WL_val (hg : o.guard = none) (hd : o.dst = some d) (hn : Nat.blt d n = true) (hr : RunQ P o f w v) (k : WL P m n ops Q rest (upd f d v) w) : WL P m n ops Q (o :: rest) f w := by
  cases m with
  | false =>
    refine WL_step hg fun a w1 ha hs => ?_
    unfold Oper.wp
    rw [ha.eval, hr w1 hs, Oper.upon_value, hd]
    exact k _ w1 (ha.put (blt_lt hn) v) hs
  | true => exact ⟨d, true, v, hd, blt_lt hn, by rw [hg]; exact rfl, fun _ => hr, fun h => (by cases h), k⟩
/-- An operation that gives a value and turns the world. -/
theorem WL_valW (hg : o.guard = none) (hd : o.dst = some d) (hn : Nat.blt d n = true) (hr : ∀ w1, Sim w w1 → ∃ v w2 w', (execOp (ev f) o).run P w1 = .ok (.value v) w2 ∧ Sim w' w2 ∧ WL P false n ops Q rest (upd f d v) w') : WL P false n ops Q (o :: rest) f w :=
  WL_step hg fun a w1 ha hs => by
    obtain ⟨v, w2, w', hr, hs', k⟩ := hr w1 hs
    unfold Oper.wp
    rw [ha.eval, hr, Oper.upon_value, hd]
    exact k _ _ (ha.put (blt_lt hn) v) hs'
theorem WL_valN (hg : o.guard = none) (hd : o.dst = none) (hr : ∀ w1, Sim w w1 → ∃ v w2 w', (execOp (ev f) o).run P w1 = .ok (.value v) w2 ∧ Sim w' w2 ∧ WL P false n ops Q rest f w') : WL P false n ops Q (o :: rest) f w :=
  WL_step hg fun a w1 ha hs => by
    obtain ⟨v, w2, w', hr, hs', k⟩ := hr w1 hs
    unfold Oper.wp
    rw [ha.eval, hr, Oper.upon_value, hd]
    exact k _ _ ha hs'
theorem WL_skip (hg : o.guard = none) (hd : o.dst = none) (hr : ∀ w1, Sim w w1 → ∃ w2 w', (execOp (ev f) o).run P w1 = .ok .skip w2 ∧ Sim w' w2 ∧ WL P false n ops Q rest f w') : WL P false n ops Q (o :: rest) f w :=
  WL_step hg fun a w1 ha hs => by
    obtain ⟨w2, w', hr, hs', k⟩ := hr w1 hs
    unfold Oper.wp
    rw [ha.eval, hr, Oper.upon_skip, hd]
    exact k _ _ ha hs'
theorem WL_enter {K : FuncId} {args : List Value} {R : Value → World → Prop} (hg : o.guard = none) (hd : o.dst = some d) (hn : Nat.blt d n = true) (hr : ∀ w1, Sim w w1 → (execOp (ev f) o).run P w1 = .ok (.enter K args.toArray) w1)
    (hc : CallR P K args w R) (k : ∀ v w', R v w' → WL P false n ops Q rest (upd f d v) w') : WL P false n ops Q (o :: rest) f w :=
  WL_step hg fun a w1 ha hs => by
    unfold Oper.wp
    rw [ha.eval, hr w1 hs, Oper.upon_enter]
    refine Calls.mono (hc w1 hs) ?_
    rintro e w2 ⟨v, w', rfl, hs', r⟩
    simp only [hd]
    exact k v w' r _ _ (ha.put (blt_lt hn) v) hs'
theorem WL_enterN {K : FuncId} {args : List Value} {R : Value → World → Prop} (hg : o.guard = none) (hd : o.dst = none) (hr : ∀ w1, Sim w w1 → (execOp (ev f) o).run P w1 = .ok (.enter K args.toArray) w1)
    (hc : CallR P K args w R) (k : ∀ v w', R v w' → WL P false n ops Q rest f w') : WL P false n ops Q (o :: rest) f w :=
  WL_step hg fun a w1 ha hs => by
    unfold Oper.wp
    rw [ha.eval, hr w1 hs, Oper.upon_enter]
    refine Calls.mono (hc w1 hs) ?_
    rintro e w2 ⟨v, w', rfl, hs', r⟩
    simp only [hd]
    exact k v w' r _ _ ha hs'
theorem yielded_eq {a : Act} (ha : Is a f n) {j dj : Nat} (hj : dstAt ops j = some dj) (hn : dj < n) {x : Value} (hv : f dj = x) : yielded ops.toArray a.tmps j = match x with | .bool b => some b | _ => none := by
  have h1 : (ops.toArray[j]?).bind (·.dst) = some dj := by rw [dstAt_eq]; exact hj
  have hs := ha.size
  have h2 : a.tmps[dj]? = some x := by
    have hlt : dj < a.tmps.size := by omega
    have := ha.get dj
    rw [hv] at this
    simp [hlt] at this ⊢
    exact this
  have h3 : ((ops.toArray[j]?).bind (·.dst)).bind (a.tmps[·]?) = some x := by rw [h1]; exact h2
  unfold yielded
  rw [h3]
  cases x <;> rfl
variable {dst : Option Nat} {op : Op} {ty : TypeId} {pos : String} {after : Array Edge} {j dj : Nat} {want : Bool}
theorem WL_on (hj : dstAt ops j = some dj) (hn : Nat.blt dj n = true) (hv : f dj = .bool want) (k : WL P m n ops Q (⟨dst, op, ty, pos, after, none⟩ :: rest) f w) :
    WL P m n ops Q (⟨dst, op, ty, pos, after, some (j, want)⟩ :: rest) f w := by
  cases m with
  | false =>
    intro a w1 ha hs
    have h := k a w1 ha hs
    unfold wpList at h ⊢
    rw [if_pos (by simp [Region.wanted])] at h
    rw [if_pos (by simp [Region.wanted, yielded_eq ha hj (blt_lt hn) hv])]
    exact h
  | true =>
    obtain ⟨d, b, v, hd, hdn, hw, hr, hu, k⟩ := k
    have hb : b = true := hw
    subst hb
    exact ⟨d, true, v, hd, hdn, ⟨dj, hj, blt_lt hn, .inl ⟨hv, rfl⟩⟩, hr, hu, k⟩
theorem WL_off (hj : dstAt ops j = some dj) (hn : Nat.blt dj n = true) (hd : Nat.blt d n = true) (hv : f dj = .bool (!want)) (k : WL P m n ops Q rest (upd f d undef) w) :
    WL P m n ops Q (⟨some d, op, ty, pos, after, some (j, want)⟩ :: rest) f w := by
  cases m with
  | false =>
    intro a w1 ha hs
    unfold wpList
    rw [if_neg (by simp [Region.wanted, yielded_eq ha hj (blt_lt hn) hv])]
    exact k _ w1 (ha.put (blt_lt hd) _) hs
  | true => exact ⟨d, false, undef, rfl, blt_lt hd, ⟨dj, hj, blt_lt hn, .inr ⟨.inl hv, rfl⟩⟩, fun h => (by cases h), fun _ => rfl, k⟩
theorem WL_off0 (hj : dstAt ops j = some dj) (hn : Nat.blt dj n = true) (hd : Nat.blt d n = true) (hv : f dj = undef) (k : WL P m n ops Q rest (upd f d undef) w) :
    WL P m n ops Q (⟨some d, op, ty, pos, after, some (j, want)⟩ :: rest) f w := by
  cases m with
  | false =>
    intro a w1 ha hs
    unfold wpList
    rw [if_neg (by simp [Region.wanted, yielded_eq ha hj (blt_lt hn) hv, undef])]
    exact k _ w1 (ha.put (blt_lt hd) _) hs
  | true => exact ⟨d, false, undef, rfl, blt_lt hd, ⟨dj, hj, blt_lt hn, .inr ⟨.inr hv, rfl⟩⟩, fun h => (by cases h), fun _ => rfl, k⟩
theorem WL_offN (hj : dstAt ops j = some dj) (hn : Nat.blt dj n = true) (hv : f dj = .bool (!want)) (k : WL P false n ops Q rest f w) :
    WL P false n ops Q (⟨none, op, ty, pos, after, some (j, want)⟩ :: rest) f w := fun a w1 ha hs => by
  unfold wpList
  rw [if_neg (by simp [Region.wanted, yielded_eq ha hj (blt_lt hn) hv])]
  exact k _ w1 ha hs
theorem WL_offN0 (hj : dstAt ops j = some dj) (hn : Nat.blt dj n = true) (hv : f dj = undef) (k : WL P false n ops Q rest f w) :
    WL P false n ops Q (⟨none, op, ty, pos, after, some (j, want)⟩ :: rest) f w := fun a w1 ha hs => by
  unfold wpList
  rw [if_neg (by simp [Region.wanted, yielded_eq ha hj (blt_lt hn) hv, undef])]
  exact k _ w1 ha hs
end
end Go.Wk
