/- 15 texts, one behind the other. -/
import Derived.Test.YtadgfmmmdhlljaaDoorJ2
set_option linter.unusedVariables false
set_option linter.unusedSimpArgs false
section
namespace Go.Rx
open Go Go.Wk Go.Wl
section
variable {E : Env} {m : Bool} {n : Nat} {ops : List Oper} {Q : Exit → Fr → World → Prop} {rest : List Oper} {f : Fr} {w : World} {d : Nat}
variable {ty T T' : TypeId} {pos : String} {after : Array Edge} {x y z : Operand} {k k' : IntKind} {a b : Int} {ρ : Env1} {Z : Nat → Prop}
theorem wrap64 {a : Int} (h : in64 a) : IntKind.i64.wrap a = a := wrap64_id h
theorem wrap64_in (a : Int) : InI (IntKind.i64.wrap a) := by
  unfold IntKind.wrap InI
  simp only [IntKind.bits, IntKind.signed, Bool.true_and]
  split <;> rename_i h <;> simp at h <;> omega
theorem wrapK {k : IntKind} (a : Int) : k = .i64 → InI (k.wrap a) := fun e => by subst e; exact wrap64_in a
theorem tmod_in {a b : Int} (h : InI a) : InI (a.tmod b) := by
  unfold InI at *
  rcases Int.le_total 0 a with h0 | h0
  · have h1 := Int.tmod_nonneg b h0
    have h2 : a.tmod b ≤ a := by
      have := Int.natAbs_tmod a b
      have := Nat.mod_le a.natAbs b.natAbs
      omega
    omega
  · have h1 : (-a).tmod b = -(a.tmod b) := Int.neg_tmod a b
    have h3 := Int.tmod_nonneg b (a := -a) (by omega)
    have h2 : (-a).tmod b ≤ -a := by
      have := Int.natAbs_tmod (-a) b
      have := Nat.mod_le (-a).natAbs b.natAbs
      omega
    omega
theorem fdiv_in {a : Int} {p : Nat} (h : InI a) : InI (a.fdiv (2 ^ p)) := by
  unfold InI at *
  have hp : (0 : Int) < 2 ^ p := Int.pow_pos (by omega)
  rw [Int.fdiv_eq_ediv_of_nonneg _ (by omega)]
  constructor
  · rw [Int.le_ediv_iff_mul_le hp]
    have : (-9223372036854775808 : Int) * 2 ^ p ≤ -9223372036854775808 * 1 := Int.mul_le_mul_of_nonpos_left (by omega) (by omega)
    omega
  · rcases Int.lt_or_le a 0 with h0 | h0
    · have := Int.ediv_neg_of_neg_of_pos h0 hp; omega
    · have := Int.ediv_le_self (2 ^ p) h0; omega
abbrev KQ (E : Env) (m : Bool) (n : Nat) (ops : List Oper) (Q : Exit → Fr → World → Prop) (rest : List Oper) (f : Fr) (w : World) (d : Nat) (ρ : Env1) (Z : Nat → Prop) (q : Q1 E.N) : Prop :=
  ∀ v, Rep E.N E.T ρ Z w v q.v → allP q.hy → WL E.P m n ops Q rest (upd f d v) w
theorem KQ.bln {p : Prop} [dc : Decidable p] {q : Q1 E.N} (K : KQ E m n ops Q rest f w d ρ Z q) (h : bln p = some q) : WL E.P m n ops Q rest (upd f d (.bool (decide p))) w := by
  cases h; exact K _ .bl trivial
theorem KQ.q0 {s : E.SV} {q : Q1 E.N} (K : KQ E m n ops Q rest f w d ρ Z q) (h : q0 s = some q) {v : Value} (hv : Rep E.N E.T ρ Z w v s) : WL E.P m n ops Q rest (upd f d v) w := by
  cases h; exact K _ hv trivial
theorem binInt_ok {op : BinOp} {q : Q1 E.N} (hx : ev f x = .int k a) (hy : ev f y = .int k' b) (ha : k = .i64 → InI a) (hk : isShift op = false → k = k') (h : binInt op k a b = some q) (ho : allP q.ob) (hn : Nat.blt d n = true) (K : KQ E m n ops Q rest f w d ρ Z q) :
    WL E.P m n ops Q (⟨some d, .binOp op T x y T', ty, pos, after, none⟩ :: rest) f w := by
  cases op with
  | add =>
    obtain rfl := hk rfl
    cases k <;> first | (simp only [binInt] at h; exact S_addw hx hy hn (K.q0 h (.int (wrapK _)))) | (simp only [binInt, Option.some.injEq] at h; subst h; exact S_add hx hy ho.1 hn (K _ (.int fun _ => ho.1) trivial))
  | sub =>
    obtain rfl := hk rfl
    cases k <;> first | (simp only [binInt] at h; exact S_subw hx hy hn (K.q0 h (.int (wrapK _)))) | (simp only [binInt, Option.some.injEq] at h; subst h; exact S_sub hx hy ho.1 hn (K _ (.int fun _ => ho.1) trivial))
  | mul =>
    obtain rfl := hk rfl
    cases k <;> first | (simp only [binInt] at h; exact S_mulw hx hy hn (K.q0 h (.int (wrapK _)))) | (simp only [binInt, Option.some.injEq] at h; subst h; exact S_mul hx hy ho.1 hn (K _ (.int fun _ => ho.1) trivial))
  | quo =>
    obtain rfl := hk rfl
    cases k <;> first | (simp only [binInt, Option.some.injEq] at h; subst h; exact S_quo hx hy ho.1 hn (K _ (.int (wrapK _)) trivial)) | (simp only [binInt, Option.some.injEq] at h; subst h; refine S_quo hx hy ho.1 hn ?_; rw [wrap64 ho.2.1]; exact K _ (.int fun _ => ho.2.1) trivial)
  | rem => obtain rfl := hk rfl; simp only [binInt, Option.some.injEq] at h; subst h; exact S_rem hx hy ho.1 hn (K _ (.int fun e => tmod_in (ha e)) trivial)
  | shr => simp only [binInt, Option.some.injEq] at h; subst h; exact S_shr hx hy ho.1 hn (K _ (.int fun e => fdiv_in (ha e)) trivial)
  | shl => simp only [binInt, Option.some.injEq] at h; subst h; exact S_shl hx hy ho.1 hn (K _ (.int (wrapK _)) trivial)
  | and => obtain rfl := hk rfl; simp only [binInt] at h; exact S_and hx hy hn (K.q0 h (.int (wrapK _)))
  | or => obtain rfl := hk rfl; simp only [binInt] at h; exact S_or hx hy hn (K.q0 h (.int (wrapK _)))
  | xor => obtain rfl := hk rfl; simp only [binInt] at h; exact S_xor hx hy hn (K.q0 h (.int (wrapK _)))
  | eql => obtain rfl := hk rfl; simp only [binInt] at h; exact S_eql hx hy hn (K.bln h)
  | neq => obtain rfl := hk rfl; simp only [binInt] at h; exact S_neq hx hy hn (K.bln h)
  | lss => obtain rfl := hk rfl; simp only [binInt] at h; exact S_lss hx hy hn (K.bln h)
  | leq => obtain rfl := hk rfl; simp only [binInt] at h; exact S_leq hx hy hn (K.bln h)
  | gtr => obtain rfl := hk rfl; simp only [binInt] at h; exact S_gtr hx hy hn (K.bln h)
  | geq => obtain rfl := hk rfl; simp only [binInt] at h; exact S_geq hx hy hn (K.bln h)
  | andNot => simp [binInt] at h
theorem binNum_ok {op : BinOp} {q : Q1 E.N} (hx : ev f x = .int k a) (hy : ev f y = .int k' b) (ha : k = .i64 → InI a) (h : binNum op k k' a b = some q) (ho : allP q.ob) (hn : Nat.blt d n = true) (K : KQ E m n ops Q rest f w d ρ Z q) :
    WL E.P m n ops Q (⟨some d, .binOp op T x y T', ty, pos, after, none⟩ :: rest) f w := by
  unfold binNum at h
  cases hs : isShift op with
  | true => rw [hs, cond_true] at h; exact binInt_ok hx hy ha (fun e => by rw [hs] at e; cases e) h ho hn K
  | false =>
    rw [hs, cond_false] at h
    split at h
    · rename_i e; exact binInt_ok hx hy ha (fun _ => e) h ho hn K
    · cases h
theorem u8_sub (a b : UInt8) : Value.int .u8 (IntKind.u8.wrap ((a.toNat : Int) - (b.toNat : Int))) = bv (a - b) := by
  unfold bv; congr 1
  rw [UInt8.toNat_sub]
  have ha := a.toNat_lt; have hb := b.toNat_lt
  simp only [IntKind.wrap, IntKind.bits, IntKind.signed, Bool.false_and, Bool.false_eq_true, if_false]
  omega
theorem u8_and (a b : UInt8) : Value.int .u8 (IntKind.u8.wrap (BitVec.ofInt IntKind.u8.bits (a.toNat : Int) &&& BitVec.ofInt IntKind.u8.bits (b.toNat : Int)).toNat) = bv (a &&& b) := by
  have ha := a.toNat_lt; have hb := b.toNat_lt
  have e1 : BitVec.ofInt IntKind.u8.bits (a.toNat : Int) = a.toBitVec := by
    apply BitVec.eq_of_toNat_eq; simp [IntKind.bits]
  have e2 : BitVec.ofInt IntKind.u8.bits (b.toNat : Int) = b.toBitVec := by
    apply BitVec.eq_of_toNat_eq; simp [IntKind.bits]
  rw [e1, e2]
  have e3 : ((a.toBitVec &&& b.toBitVec).toNat) = (a &&& b).toNat := rfl
  have h3 := (a &&& b).toNat_lt
  unfold bv; congr 1
  show IntKind.u8.wrap (((a.toBitVec &&& b.toBitVec).toNat : Nat) : Int) = _
  rw [e3]
  simp only [IntKind.wrap, IntKind.bits, IntKind.signed, Bool.false_and, Bool.false_eq_true, if_false]
  omega
theorem dec_iff {p q : Prop} [Decidable p] [Decidable q] (h : p ↔ q) : decide p = decide q := by simp [h]
theorem binByte_ok {op : BinOp} {a b : UInt8} {q : Q1 E.N} (hx : ev f x = bv a) (hy : ev f y = bv b) (h : binByte op a b = some q) (ho : allP q.ob) (hn : Nat.blt d n = true) (K : KQ E m n ops Q rest f w d ρ Z q) :
    WL E.P m n ops Q (⟨some d, .binOp op T x y T', ty, pos, after, none⟩ :: rest) f w := by
  have hx' : ev f x = .int .u8 a.toNat := hx
  have hy' : ev f y = .int .u8 b.toNat := hy
  cases op with
  | add => simp only [binByte] at h; exact S_addB hx hy hn (K.q0 h .byte)
  | sub => simp only [binByte] at h; refine S_subw hx' hy' hn ?_; rw [u8_sub]; exact K.q0 h .byte
  | and => simp only [binByte] at h; refine S_and hx' hy' hn ?_; rw [u8_and]; exact K.q0 h .byte
  | eql => simp only [binByte] at h; refine S_eql hx' hy' hn ?_; rw [dec_iff (show ((a.toNat : Int) = b.toNat) ↔ a = b by rw [Int.ofNat_inj]; exact UInt8.toNat_inj)]; exact K.bln h
  | neq => simp only [binByte] at h; refine S_neq hx' hy' hn ?_; rw [dec_iff (show ((a.toNat : Int) ≠ b.toNat) ↔ a ≠ b by rw [Ne, Ne, Int.ofNat_inj, UInt8.toNat_inj])]; exact K.bln h
  | lss => simp only [binByte] at h; refine S_lss hx' hy' hn ?_; rw [dec_iff (show ((a.toNat : Int) < b.toNat) ↔ a < b by rw [Int.ofNat_lt, UInt8.lt_iff_toNat_lt])]; exact K.bln h
  | leq => simp only [binByte] at h; refine S_leq hx' hy' hn ?_; rw [dec_iff (show ((a.toNat : Int) ≤ b.toNat) ↔ a ≤ b by rw [Int.ofNat_le, UInt8.le_iff_toNat_le])]; exact K.bln h
  | gtr => simp only [binByte] at h; refine S_gtr hx' hy' hn ?_; rw [dec_iff (show ((b.toNat : Int) < a.toNat) ↔ b < a by rw [Int.ofNat_lt, UInt8.lt_iff_toNat_lt])]; exact K.bln h
  | geq => simp only [binByte] at h; refine S_geq hx' hy' hn ?_; rw [dec_iff (show ((b.toNat : Int) ≤ a.toNat) ↔ b ≤ a by rw [Int.ofNat_le, UInt8.le_iff_toNat_le])]; exact K.bln h
  | _ => simp [binByte] at h
theorem binStr_ok {op : BinOp} {a b : Str} {q : Q1 E.N} (hx : ev f x = sv a) (hy : ev f y = sv b) (h : binStr op a b = some q) (ho : allP q.ob) (hn : Nat.blt d n = true) (K : KQ E m n ops Q rest f w d ρ Z q) :
    WL E.P m n ops Q (⟨some d, .binOp op T x y T', ty, pos, after, none⟩ :: rest) f w := by
  cases op with
  | add => simp only [binStr, Option.some.injEq] at h; subst h; exact S_addS hx hy ho.1 hn (K _ (.str (by rw [List.length_append]; exact ho.1)) trivial)
  | eql => simp only [binStr] at h; exact S_eqlS hx hy hn (K.bln h)
  | neq => simp only [binStr] at h; exact S_neqS hx hy hn (K.bln h)
  | _ => simp [binStr] at h
end
end Go.Rx
end
section
namespace Go.Rx
open Go Go.Wk Go.Wl
theorem lk_mem {β : Type} {l : List (Nat × β)} {j : Nat} {x : β} (h : lk l j = some x) : ∃ i : Nat, l[i]? = some (j, x) ∧ (∀ y, upd1 l j y = l.set i (j, y)) ∧ rmv l j = l.eraseIdx i := by
  induction l with
  | nil => cases h
  | cons p r ih =>
    unfold lk at h
    cases hb : Nat.beq p.1 j with
    | true =>
      rw [hb, cond_true] at h; cases h
      have e := Nat.eq_of_beq_eq_true hb
      refine ⟨0, ?_, fun y => ?_, ?_⟩
      · simp [← e]
      · simp [upd1, hb, e]
      · simp [rmv, hb]
    | false =>
      rw [hb, cond_false] at h
      obtain ⟨i, h1, h2, h3⟩ := ih h
      exact ⟨i + 1, by simpa using h1, fun y => by simp [upd1, hb, h2], by simp [rmv, hb, h3]⟩
section
variable {E : Env} {C : Ctx} {m : Bool} {n : Nat} {ops : List Oper} {Q : Exit → Fr → World → Prop} {rest : List Oper} {f : Fr} {w : World} {d : Nat}
variable {ty T T' : TypeId} {pos : String} {after : Array Edge} {x y z : Operand} {k k' : IntKind} {a b : Int} {ρ : Env1} {Z : Nat → Prop} {its : Items E.N} {nx : Nat} {q : Q1 E.N}
theorem Mem.at (hm : Mem E C ρ Z w its nx) {id : Nat} {i : Item E.N} (h : lk its id = some i) : holds E.N E.T ρ id Z w i := by
  obtain ⟨j, hj, _⟩ := lk_mem h
  exact hm.sep.at j (t := toIt E.N E.T ρ C.B0 id i) (by simp [toIts, hj])
theorem Rep.boolv {v : Value} {s : E.SV} {p : Prop} {dc : Decidable p} (h : Rep E.N E.T ρ Z w v s) (e : prop s = some ⟨p, dc⟩) : v = .bool (@decide p dc) := by
  cases h with
  | tt => cases e; rfl
  | ff => cases e; rfl
  | bl => cases e; rfl
  | _ => cases e
theorem S_eqlErr {ms : Array (String × TypeId)} {e : Err} (hT : ∀ w, (underlying T).run E.P w = .ok (.interface ms) w) (hx : RepE E.T Z w (ev f x) e) (hn : Nat.blt d n = true) (K : WL E.P m n ops Q rest (upd f d (.bool (decide (e = .nil)))) w) :
    WL E.P m n ops Q (⟨some d, .binOp .eql T x (.const .nilIface) T', ty, pos, after, none⟩ :: rest) f w := by
  have hy : ev f (.const .nilIface) = Value.nilIface := rfl
  generalize hv : ev f x = v at hx
  cases hx with
  | nil =>
    rw [decide_eq_true rfl] at K
    exact WL_val rfl rfl hn (v := .bool true) (fun w1 _ => by simp [execOp, hv, hy, eqGuard, Go.binOp, go_sem, eqI_nil0 hT]) K
  | no h =>
    rw [decide_eq_false (by simp)] at K
    exact WL_val rfl rfl hn (v := .bool false) (fun w1 _ => by simp [execOp, hv, hy, eqGuard, Go.binOp, go_sem, eqI_nil1 hT]) K
  | fault h1 h2 h3 h4 =>
    rw [decide_eq_false (by simp)] at K
    exact WL_val rfl rfl hn (v := .bool false) (fun w1 _ => by simp [execOp, hv, hy, eqGuard, Go.binOp, go_sem, eqI_nil1 hT]) K
  | w h1 h2 h3 =>
    rw [decide_eq_false (by simp)] at K
    exact WL_val rfl rfl hn (v := .bool false) (fun w1 _ => by simp [execOp, hv, hy, eqGuard, Go.binOp, go_sem, eqI_nil1 hT]) K
theorem S_neqErr {ms : Array (String × TypeId)} {e : Err} (hT : ∀ w, (underlying T).run E.P w = .ok (.interface ms) w) (hx : RepE E.T Z w (ev f x) e) (hn : Nat.blt d n = true) (K : WL E.P m n ops Q rest (upd f d (.bool (decide (e ≠ .nil)))) w) :
    WL E.P m n ops Q (⟨some d, .binOp .neq T x (.const .nilIface) T', ty, pos, after, none⟩ :: rest) f w := by
  have hy : ev f (.const .nilIface) = Value.nilIface := rfl
  generalize hv : ev f x = v at hx
  cases hx with
  | nil =>
    rw [decide_eq_false (by simp)] at K
    exact WL_val rfl rfl hn (v := .bool false) (fun w1 _ => by simp [execOp, hv, hy, eqGuard, Go.binOp, go_sem, eqI_nil0 hT]) K
  | no h =>
    rw [decide_eq_true (by simp)] at K
    exact WL_val rfl rfl hn (v := .bool true) (fun w1 _ => by simp [execOp, hv, hy, eqGuard, Go.binOp, go_sem, eqI_nil1 hT]) K
  | fault h1 h2 h3 h4 =>
    rw [decide_eq_true (by simp)] at K
    exact WL_val rfl rfl hn (v := .bool true) (fun w1 _ => by simp [execOp, hv, hy, eqGuard, Go.binOp, go_sem, eqI_nil1 hT]) K
  | w h1 h2 h3 =>
    rw [decide_eq_true (by simp)] at K
    exact WL_val rfl rfl hn (v := .bool true) (fun w1 _ => by simp [execOp, hv, hy, eqGuard, Go.binOp, go_sem, eqI_nil1 hT]) K
theorem S_eqlPt {e : TypeId} {a : Addr} (hT : ∀ w, (underlying T).run E.P w = .ok (.pointer e) w) (hx : ev f x = .pointer (some a)) (hy : ev f y = .pointer none) (hn : Nat.blt d n = true) (K : WL E.P m n ops Q rest (upd f d (.bool false)) w) :
    WL E.P m n ops Q (⟨some d, .binOp .eql T x y T', ty, pos, after, none⟩ :: rest) f w :=
  WL_val rfl rfl hn (v := .bool false) (fun w1 _ => by simp [execOp, hx, hy, eqGuard, Go.binOp, go_sem, eqP_nil1 hT]) K
theorem S_neqPt {e : TypeId} {a : Addr} (hT : ∀ w, (underlying T).run E.P w = .ok (.pointer e) w) (hx : ev f x = .pointer (some a)) (hy : ev f y = .pointer none) (hn : Nat.blt d n = true) (K : WL E.P m n ops Q rest (upd f d (.bool true)) w) :
    WL E.P m n ops Q (⟨some d, .binOp .neq T x y T', ty, pos, after, none⟩ :: rest) f w :=
  WL_val rfl rfl hn (v := .bool true) (fun w1 _ => by simp [execOp, hx, hy, eqGuard, Go.binOp, go_sem, eqP_nil1 hT]) K
theorem S_eqlPn {e : TypeId} (hT : ∀ w, (underlying T).run E.P w = .ok (.pointer e) w) (hx : ev f x = .pointer none) (hy : ev f y = .pointer none) (hn : Nat.blt d n = true) (K : WL E.P m n ops Q rest (upd f d (.bool true)) w) :
    WL E.P m n ops Q (⟨some d, .binOp .eql T x y T', ty, pos, after, none⟩ :: rest) f w :=
  WL_val rfl rfl hn (v := .bool true) (fun w1 _ => by simp [execOp, hx, hy, eqGuard, Go.binOp, go_sem, eqP_nil0 hT]) K
theorem S_neqPn {e : TypeId} (hT : ∀ w, (underlying T).run E.P w = .ok (.pointer e) w) (hx : ev f x = .pointer none) (hy : ev f y = .pointer none) (hn : Nat.blt d n = true) (K : WL E.P m n ops Q rest (upd f d (.bool false)) w) :
    WL E.P m n ops Q (⟨some d, .binOp .neq T x y T', ty, pos, after, none⟩ :: rest) f w :=
  WL_val rfl rfl hn (v := .bool false) (fun w1 _ => by simp [execOp, hx, hy, eqGuard, Go.binOp, go_sem, eqP_nil0 hT]) K
theorem eqS_nil0 {e : TypeId} (hT : ∀ w, (underlying T).run E.P w = .ok (.slice e) w) {n c n' c' : Nat} (w1 : World) : (Op.equal T (.slice none n c) (.slice none n' c')).run E.P w1 = .ok true w1 := by
  have h : ∀ d, (Op.equalIn (d + 1) T (.slice none n c) (.slice none n' c')).run E.P w1 = .ok true w1 := fun d => by
    unfold Op.equalIn; rw [Sem.run_bind, hT, Result.andThen_ok]; rfl
  exact h 9999
theorem eqS_nil1 {e : TypeId} (hT : ∀ w, (underlying T).run E.P w = .ok (.slice e) w) {a : Addr} {n c n' c' : Nat} (w1 : World) : (Op.equal T (.slice (some a) n c) (.slice none n' c')).run E.P w1 = .ok false w1 := by
  have h : ∀ d, (Op.equalIn (d + 1) T (.slice (some a) n c) (.slice none n' c')).run E.P w1 = .ok false w1 := fun d => by
    unfold Op.equalIn; rw [Sem.run_bind, hT, Result.andThen_ok]; rfl
  exact h 9999
theorem S_eqlSn {e : TypeId} {n' c n1 c1 : Nat} (hT : ∀ w, (underlying T).run E.P w = .ok (.slice e) w) (hx : ev f x = .slice none n' c) (hy : ev f y = .slice none n1 c1) (hn : Nat.blt d n = true) (K : WL E.P m n ops Q rest (upd f d (.bool true)) w) :
    WL E.P m n ops Q (⟨some d, .binOp .eql T x y T', ty, pos, after, none⟩ :: rest) f w :=
  WL_val rfl rfl hn (v := .bool true) (fun w1 _ => by simp [execOp, hx, hy, eqGuard, Go.binOp, go_sem, eqS_nil0 hT]) K
theorem S_neqSn {e : TypeId} {n' c n1 c1 : Nat} (hT : ∀ w, (underlying T).run E.P w = .ok (.slice e) w) (hx : ev f x = .slice none n' c) (hy : ev f y = .slice none n1 c1) (hn : Nat.blt d n = true) (K : WL E.P m n ops Q rest (upd f d (.bool false)) w) :
    WL E.P m n ops Q (⟨some d, .binOp .neq T x y T', ty, pos, after, none⟩ :: rest) f w :=
  WL_val rfl rfl hn (v := .bool false) (fun w1 _ => by simp [execOp, hx, hy, eqGuard, Go.binOp, go_sem, eqS_nil0 hT]) K
theorem S_eqlSo {e : TypeId} {a : Addr} {n' c n1 c1 : Nat} (hT : ∀ w, (underlying T).run E.P w = .ok (.slice e) w) (hx : ev f x = .slice (some a) n' c) (hy : ev f y = .slice none n1 c1) (hn : Nat.blt d n = true) (K : WL E.P m n ops Q rest (upd f d (.bool false)) w) :
    WL E.P m n ops Q (⟨some d, .binOp .eql T x y T', ty, pos, after, none⟩ :: rest) f w :=
  WL_val rfl rfl hn (v := .bool false) (fun w1 _ => by simp [execOp, hx, hy, eqGuard, Go.binOp, go_sem, eqS_nil1 hT]) K
theorem S_neqSo {e : TypeId} {a : Addr} {n' c n1 c1 : Nat} (hT : ∀ w, (underlying T).run E.P w = .ok (.slice e) w) (hx : ev f x = .slice (some a) n' c) (hy : ev f y = .slice none n1 c1) (hn : Nat.blt d n = true) (K : WL E.P m n ops Q rest (upd f d (.bool true)) w) :
    WL E.P m n ops Q (⟨some d, .binOp .neq T x y T', ty, pos, after, none⟩ :: rest) f w :=
  WL_val rfl rfl hn (v := .bool true) (fun w1 _ => by simp [execOp, hx, hy, eqGuard, Go.binOp, go_sem, eqS_nil1 hT]) K
theorem sliceIs_run (h : (E.sliceOf T).isSome = true) : ∃ e, ∀ w, (underlying T).run E.P w = .ok (.slice e) w := by
  unfold Env.sliceOf at h
  split at h
  · rename_i e he; exact ⟨e, run_und he⟩
  · cases h
theorem isPtr_run (h : E.isPtr T = true) : ∃ e, ∀ w, (underlying T).run E.P w = .ok (.pointer e) w := by
  unfold Env.isPtr at h
  split at h
  · rename_i e hu; exact ⟨e, run_und hu⟩
  · cases h
theorem isIface_run (h : E.isIface T = true) : ∃ ms, ∀ w, (underlying T).run E.P w = .ok (.interface ms) w := by
  unfold Env.isIface at h
  split at h
  · rename_i e hu; exact ⟨e, run_und hu⟩
  · cases h
theorem isBool_run (h : E.isBool T = true) : ∀ w, (underlying T).run E.P w = .ok .bool w := by
  unfold Env.isBool at h
  split at h
  · rename_i hu; exact run_und hu
  · cases h
theorem isStr_run (h : E.isStr T = true) : ∀ w, (underlying T).run E.P w = .ok .string w := by
  unfold Env.isStr at h
  split at h
  · rename_i hu; exact run_und hu
  · cases h
theorem sliceOf_run {e : Nat} (h : E.sliceOf T = some e) : ∀ w, (underlying T).run E.P w = .ok (.slice e) w := by
  unfold Env.sliceOf at h
  split at h
  · rename_i e' hu; cases h; exact run_und hu
  · cases h
theorem intOf_run {k : IntKind} (h : E.intOf T = some k) : ∀ w, (underlying T).run E.P w = .ok (.int k) w := by
  unfold Env.intOf at h
  split at h
  · rename_i e' hu; cases h; exact run_und hu
  · cases h
theorem szOk_run {e t : Nat} (h : E.szOk e t = true) : ∀ w, (sizeOf e).run E.P w = .ok (E.N.tb t).r.sz w := by
  unfold Env.szOk at h
  split at h
  · rename_i s hs
    have := Nat.eq_of_beq_eq_true h; subst this
    exact run_size hs
  · cases h
theorem bif_some {α : Type} {b : Bool} {o : Option α} {r : α} (h : (bif b then o else none) = some r) : b = true ∧ o = some r := by
  cases b with
  | true => exact ⟨rfl, h⟩
  | false => cases h
theorem eq_struct2 {P : Program} {d : Nat} {t : TypeId} {f0 f1 : Field} {xs ys : Array Value} {a0 b0 a1 b1 : Value} {r0 r1 : Bool} {w : World} (hu : ∀ w, (underlying t).run P w = .ok (.struct #[f0, f1]) w) (n0 : f0.name ≠ "_") (n1 : f1.name ≠ "_") (hh : P.stoodInHeld t = false)
    (p0 : (Go.part f0.type xs f0.offset).run P w = .ok a0 w) (q0 : (Go.part f0.type ys f0.offset).run P w = .ok b0 w) (p1 : (Go.part f1.type xs f1.offset).run P w = .ok a1 w) (q1 : (Go.part f1.type ys f1.offset).run P w = .ok b1 w)
    (e0 : (Op.equalIn d f0.type a0 b0).run P w = .ok r0 w) (e1 : (Op.equalIn d f1.type a1 b1).run P w = .ok r1 w) : (Op.equalIn (d + 1) t (.agg xs) (.agg ys)).run P w = .ok (r0 && r1) w := by
  unfold Op.equalIn; rw [Sem.run_bind, hu, Result.andThen_ok]
  simp only []
  cases r0 <;> cases r1 <;> simp [Sem.run_bind, hh, n0, n1, p0, q0, p1, q1, e0, e1, Sem.run_pure, Result.andThen_ok]
theorem bytes_beq (s t : Str) : (ByteArray.mk s.toArray == ByteArray.mk t.toArray) = decide (s = t) := by
  show (s.toArray == t.toArray) = decide (s = t)
  by_cases e : s = t
  · subst e; rw [decide_eq_true rfl]; exact beq_self_eq_true _
  · rw [decide_eq_false e]; exact beq_eq_false_iff_ne.2 (fun h => e (by simpa using h))
/-- A leaf: no struct; equal ars told. -/
theorem eqLeaf_ok {t : Nat} {a b : E.SV} {p : Prop} {dp : Decidable p} {u v : Value} {w : World} (h : eqLeaf E t a b = some ⟨p, dp⟩) (hu : Rep E.N E.T ρ Z w u a) (hv : Rep E.N E.T ρ Z w v b) (d : Nat) (w1 : World) : (isAgg t).run E.P w1 = .ok false w1 ∧ (Op.equalIn (d + 1) t u v).run E.P w1 = .ok (@decide p dp) w1 := by
  unfold eqLeaf at h
  cases a with
  | int k x =>
    cases b with
    | int k' y =>
      simp only at h
      split at h
      · rename_i kk hi
        split at h
        · rename_i hk
          cases h
          subst hk
          have hr := intOf_run hi w1
          cases hu with | int _ => cases hv with | int _ =>
          refine ⟨by simp [isAgg, Sem.run_bind, hr, Result.andThen_ok], ?_⟩
          unfold Op.equalIn; rw [Sem.run_bind, hr, Result.andThen_ok]
          simp only [if_true, Sem.run_pure]
          congr 1
        · cases h
      · cases h
    | _ => cases h
  | str s =>
    cases b with
    | str s' =>
      obtain ⟨hs, h⟩ := bif_some h
      cases h
      have hr := isStr_run hs w1
      cases hu with | str _ => cases hv with | str _ =>
      refine ⟨by simp [isAgg, Sem.run_bind, hr, Result.andThen_ok], ?_⟩
      unfold Op.equalIn; rw [Sem.run_bind, hr, Result.andThen_ok]
      exact congrArg (Result.ok · w1) (bytes_beq s s')
    | _ => cases h
  | _ => cases h
theorem part_at {P : Program} {t : TypeId} {cs : Array Value} {o : Nat} {v : Value} {w : World} (ha : (isAgg t).run P w = .ok false w) (hc : cs[o]? = some v) : (Go.part t cs o).run P w = .ok v w := by
  simp [Go.part, Sem.run_bind, ha, Result.andThen_ok, hc]
theorem S_eqA {P : Program} {m : Bool} {n : Nat} {ops : List Oper} {Q : Exit → Fr → World → Prop} {rest : List Oper} {f : Fr} {w : World} {d : Nat} {T T' ty : TypeId} {pos : String} {after : Array Edge} {x y : Operand} {xs ys : Array Value} {b : Bool} (hx : ev f x = .agg xs) (hy : ev f y = .agg ys) (hg : P.eqGuardType P.depth T = false) (he : ∀ w, (Op.equal T (.agg xs) (.agg ys)).run P w = .ok b w) (hn : Nat.blt d n = true) (K : WL P m n ops Q rest (upd f d (.bool b)) w) :
    WL P m n ops Q (⟨some d, .binOp .eql T x y T', ty, pos, after, none⟩ :: rest) f w :=
  WL_val rfl rfl hn (v := .bool b) (fun w1 _ => by simp [execOp, hx, hy, eqGuard, binOp, go_sem, he, hg]) K
theorem S_neA {P : Program} {m : Bool} {n : Nat} {ops : List Oper} {Q : Exit → Fr → World → Prop} {rest : List Oper} {f : Fr} {w : World} {d : Nat} {T T' ty : TypeId} {pos : String} {after : Array Edge} {x y : Operand} {xs ys : Array Value} {b : Bool} (hx : ev f x = .agg xs) (hy : ev f y = .agg ys) (hg : P.eqGuardType P.depth T = false) (he : ∀ w, (Op.equal T (.agg xs) (.agg ys)).run P w = .ok b w) (hn : Nat.blt d n = true) (K : WL P m n ops Q rest (upd f d (.bool (!b))) w) :
    WL P m n ops Q (⟨some d, .binOp .neq T x y T', ty, pos, after, none⟩ :: rest) f w :=
  WL_val rfl rfl hn (v := .bool (!b)) (fun w1 _ => by simp [execOp, hx, hy, eqGuard, binOp, go_sem, he, hg]) K
theorem qEq2_ok {op : BinOp} {ls ms : List E.SV} {cs ds : List Value} (hx : ev f x = .agg cs.toArray) (hy : ev f y = .agg ds.toArray) (hl : RepL E.N E.T ρ Z w cs ls) (hm : RepL E.N E.T ρ Z w ds ms) (h : qEq2 E op T ls ms = some q) (hn : Nat.blt d n = true) (K : KQ E m n ops Q rest f w d ρ Z q) :
    WL E.P m n ops Q (⟨some d, .binOp op T x y T', ty, pos, after, none⟩ :: rest) f w := by
  unfold qEq2 at h
  split at h
  · rename_i fs hT
    split at h
    · rename_i f0 f1 a0 a1 b0 b1 hfs
      obtain ⟨hb, h⟩ := bif_some h
      simp only [Bool.and_eq_true, Bool.not_eq_true', bne_iff_ne, ne_eq] at hb
      obtain ⟨⟨⟨⟨⟨g1, g2⟩, g3⟩, g4⟩, g5⟩, g6⟩ := hb
      have g5 := Nat.eq_of_beq_eq_true g5
      have g6 := Nat.eq_of_beq_eq_true g6
      obtain ⟨v0, r0, rfl, hv0, _, hl⟩ := RepL.cons_inv hl
      obtain ⟨v1, r1, rfl, hv1, _, hl⟩ := RepL.cons_inv hl
      obtain rfl := RepL.nil_inv hl
      obtain ⟨u0, s0, rfl, hu0, _, hm⟩ := RepL.cons_inv hm
      obtain ⟨u1, s1, rfl, hu1, _, hm⟩ := RepL.cons_inv hm
      obtain rfl := RepL.nil_inv hm
      split at h
      · rename_i p dp q' dq e0 e1
        have hfs' : fs = #[f0, f1] := by apply Array.ext'; simpa using hfs
        have hu : ∀ w, (underlying T).run E.P w = .ok (.struct #[f0, f1]) w := fun w => by rw [← hfs']; exact run_underlying hT w
        have he : ∀ w1, (Op.equal T (.agg #[v0, v1]) (.agg #[u0, u1])).run E.P w1 = .ok (@decide p dp && @decide q' dq) w1 := fun w1 => by
          obtain ⟨i0, k0⟩ := eqLeaf_ok e0 hv0 hu0 9998 w1
          obtain ⟨i1, k1⟩ := eqLeaf_ok e1 hv1 hu1 9998 w1
          exact eq_struct2 (d := 9999) hu g3 g4 g1 (part_at i0 (by rw [g5]; rfl)) (part_at i0 (by rw [g5]; rfl)) (part_at i1 (by rw [g6]; rfl)) (part_at i1 (by rw [g6]; rfl)) k0 k1
        cases op with
        | eql =>
          simp only at h
          refine S_eqA hx hy g2 he hn ?_
          have : (@decide p dp && @decide q' dq) = @decide (p ∧ q') inferInstance := by
            by_cases hp : p <;> by_cases hq : q' <;> simp [hp, hq]
          rw [this]
          exact K.bln h
        | neq =>
          simp only at h
          refine S_neA hx hy g2 he hn ?_
          have : (!(@decide p dp && @decide q' dq)) = @decide (¬ (p ∧ q')) inferInstance := by
            by_cases hp : p <;> by_cases hq : q' <;> simp [hp, hq]
          rw [this]
          exact K.bln h
        | _ => cases h
      · cases h
    · cases h
  · cases h
theorem qBin_ok {op : BinOp} {sx sy : E.SV} (hx : Rep E.N E.T ρ Z w (ev f x) sx) (hy : Rep E.N E.T ρ Z w (ev f y) sy) (h : qBin E op T (isC y) sx sy = some q) (ho : allP q.ob) (hn : Nat.blt d n = true) (K : KQ E m n ops Q rest f w d ρ Z q) :
    WL E.P m n ops Q (⟨some d, .binOp op T x y T', ty, pos, after, none⟩ :: rest) f w := by
  have boolc : ∀ {s : E.SV}, Rep E.N E.T ρ Z w (ev f x) s → (bif E.isBool T then (match prop s, prop sy with | some ⟨p, d⟩, some ⟨q, e⟩ => binBool op p q d e | _, _ => none) else none) = some q → WL E.P m n ops Q (⟨some d, .binOp op T x y T', ty, pos, after, none⟩ :: rest) f w := fun {s} hs h => by
    obtain ⟨hb, h⟩ := bif_some h
    have hT := isBool_run hb
    cases hp : prop s with
    | none => rw [hp] at h; cases h
    | some pd =>
      obtain ⟨p, dp⟩ := pd
      cases hq : prop sy with
      | none => rw [hp, hq] at h; cases h
      | some qd =>
        obtain ⟨p', dp'⟩ := qd
        rw [hp, hq] at h
        have e1 := hs.boolv hp
        have e2 := hy.boolv hq
        cases op with
        | eql =>
          simp only [binBool] at h
          refine S_eqlB hT e1 e2 hn ?_
          rw [dec_iff (show (@decide p dp = @decide p' dp') ↔ (p ↔ p') by rw [decide_eq_decide])]
          exact K.bln h
        | neq =>
          simp only [binBool] at h
          refine S_neqB hT e1 e2 hn ?_
          rw [dec_iff (show (@decide p dp ≠ @decide p' dp') ↔ ¬ (p ↔ p') by rw [Ne, decide_eq_decide])]
          exact K.bln h
        | _ => simp [binBool] at h
  unfold qBin at h
  cases sx with
  | int k a =>
    cases sy with
    | int k' b =>
      generalize hvx : ev f x = vx at hx
      generalize hvy : ev f y = vy at hy
      cases hx with
      | int ha => cases hy with
        | int hb => exact binNum_ok hvx hvy ha h ho hn K
    | _ => cases h
  | byte a =>
    cases sy with
    | byte b =>
      generalize hvx : ev f x = vx at hx
      generalize hvy : ev f y = vy at hy
      cases hx; cases hy
      exact binByte_ok hvx hvy h ho hn K
    | _ => cases h
  | str a =>
    cases sy with
    | str b =>
      generalize hvx : ev f x = vx at hx
      generalize hvy : ev f y = vy at hy
      cases hx; cases hy
      exact binStr_ok hvx hvy h ho hn K
    | _ => cases h
  | err a =>
    cases sy with
    | err b =>
      cases b with
      | nil =>
        have ⟨hi, h2⟩ := bif_some h
        clear h
        simp only [Bool.and_eq_true] at hi
        obtain ⟨hc, hi⟩ := hi
        obtain ⟨ms, hT⟩ := isIface_run hi
        cases y with
        | const v =>
          have hx' : RepE E.T Z w (ev f x) a := by
            generalize ev f x = vx at hx
            cases hx with
            | err hx => exact hx
          have hv : v = .nilIface := by
            change Rep E.N E.T ρ Z w v _ at hy
            cases hy with
            | err hy => cases hy; rfl
          subst hv
          cases op with
          | eql => simp only [binErr] at h2; exact S_eqlErr hT hx' hn (K.bln h2)
          | neq => simp only [binErr] at h2; exact S_neqErr hT hx' hn (K.bln h2)
          | _ => simp [binErr] at h2
        | _ => cases hc
      | _ => cases h
    | _ => cases h
  | ref id off =>
    cases sy with
    | con v =>
      cases v with
      | pointer a =>
        cases a with
        | none =>
          obtain ⟨hi, h⟩ := bif_some h
          obtain ⟨e, hT⟩ := isPtr_run hi
          generalize hvx : ev f x = vx at hx
          generalize hvy : ev f y = vy at hy
          cases hx; cases hy
          cases op with
          | eql => simp only [binNil] at h; exact S_eqlPt hT hvx hvy hn (K.q0 h .ff)
          | neq => simp only [binNil] at h; exact S_neqPt hT hvx hvy hn (K.q0 h .tt)
          | _ => simp [binNil] at h
        | some a => cases h
      | _ => cases h
    | _ => cases h
  | con u =>
    cases sy with
    | con v =>
      cases u with
      | pointer a =>
        cases v with
        | pointer b =>
          cases a with
          | none =>
            cases b with
            | none =>
              obtain ⟨hi, h⟩ := bif_some h
              obtain ⟨e, hT⟩ := isPtr_run hi
              generalize hvx : ev f x = vx at hx
              generalize hvy : ev f y = vy at hy
              cases hx; cases hy
              cases op with
              | eql => simp only [binNil] at h; exact S_eqlPn hT hvx hvy hn (K.q0 h .tt)
              | neq => simp only [binNil] at h; exact S_neqPn hT hvx hvy hn (K.q0 h .ff)
              | _ => simp [binNil] at h
            | some b => cases h
          | some a => cases h
        | _ => cases h
      | _ => cases h
    | _ => cases h
  | tt => exact boolc hx h
  | ff => exact boolc hx h
  | bl p dp => exact boolc hx h
  | agg ls =>
    cases sy with
    | agg ms =>
      generalize hvx : ev f x = vx at hx
      generalize hvy : ev f y = vy at hy
      obtain ⟨cs, rfl, hl⟩ := Rep.agg_inv hx
      obtain ⟨ds, rfl, hm⟩ := Rep.agg_inv hy
      exact qEq2_ok hvx hvy hl hm h hn K
    | _ => cases h
  | nils =>
    cases sy with
    | nils =>
      obtain ⟨hi, h⟩ := bif_some h
      obtain ⟨e, hT⟩ := sliceIs_run hi
      generalize hvx : ev f x = vx at hx
      generalize hvy : ev f y = vy at hy
      cases hx; cases hy
      cases op with
      | eql => simp only [binNils] at h; cases h; exact S_eqlSn hT hvx hvy hn (K.q0 rfl .tt)
      | neq => simp only [binNils] at h; cases h; exact S_neqSn hT hvx hvy hn (K.q0 rfl .ff)
      | _ => simp [binNils] at h
    | _ => cases h
  | sl t l =>
    cases sy with
    | nils =>
      obtain ⟨hi, h⟩ := bif_some h
      obtain ⟨e, hT⟩ := sliceIs_run hi
      generalize hvx : ev f x = vx at hx
      generalize hvy : ev f y = vy at hy
      cases hy
      have hA : l ≠ [] → ∃ a n' c, ev f x = .slice (some a) n' c := fun hne => by
        rw [hvx]
        cases hx with | sl hx =>
        obtain ⟨_, A, cap, e1, ⟨hn0, hcap⟩, _⟩ := hx
        simp only [List.cons.injEq, and_true] at e1
        subst e1
        cases A with
        | some a => exact ⟨a, _, _, rfl⟩
        | none =>
          have := hn0 rfl
          have := List.length_pos_iff.2 hne
          omega
      cases op with
      | eql =>
        simp only [binNils] at h
        cases h
        obtain ⟨a, n', c, ha⟩ := hA ho.1
        exact S_eqlSo hT ha hvy hn (K _ .ff trivial)
      | neq =>
        simp only [binNils] at h
        cases h
        obtain ⟨a, n', c, ha⟩ := hA ho.1
        exact S_neqSo hT ha hvy hn (K _ .tt trivial)
      | _ => simp [binNils] at h
    | _ => cases h
  | _ => exact boolc hx h
end
end Go.Rx
end
section
namespace Go.Rx
open Go Go.Wk Go.Wl
section
variable {N : Uni} {T : ErrT} {ρ : Env1} {Z : Nat → Prop} {w : World} {v : Value} {s : SV N} {cs : List Value} {ss : List (SV N)}
theorem RepL.drop (h : RepL N T ρ Z w cs ss) : ∀ o : Nat, RepL N T ρ Z w (cs.drop o) (ss.drop o) := by
  intro o
  induction o generalizing cs ss with
  | zero => exact h
  | succ o ih =>
    cases ss with
    | nil => have := RepL.nil_inv h; subst this; exact RepL.nil
    | cons s ss => obtain ⟨v, r, rfl, _, _, h⟩ := RepL.cons_inv h; exact ih h
theorem RepL.take (h : RepL N T ρ Z w cs ss) : ∀ o : Nat, RepL N T ρ Z w (cs.take o) (ss.take o) := by
  intro o
  induction o generalizing cs ss with
  | zero => exact RepL.nil
  | succ o ih =>
    cases ss with
    | nil => have := RepL.nil_inv h; subst this; exact RepL.nil
    | cons s ss => obtain ⟨v, r, rfl, h1, hp, h⟩ := RepL.cons_inv h; exact Rep.agg1 h1 hp (ih h)
theorem RepL.app {c2 : List Value} {s2 : List (SV N)} (h : RepL N T ρ Z w cs ss) (h2 : RepL N T ρ Z w c2 s2) : RepL N T ρ Z w (cs ++ c2) (ss ++ s2) := by
  induction ss generalizing cs with
  | nil => have := RepL.nil_inv h; subst this; exact h2
  | cons s ss ih => obtain ⟨v, r, rfl, h1, hp, h⟩ := RepL.cons_inv h; exact Rep.agg1 h1 hp (ih h)
theorem RepL.set1 (h : RepL N T ρ Z w cs ss) (h1 : Rep N T ρ Z w v s) (hp : plain1 v = true) : ∀ o : Nat, RepL N T ρ Z w (cs.set o v) (ss.set o s) := by
  intro o
  induction o generalizing cs ss with
  | zero =>
    cases ss with
    | nil => have := RepL.nil_inv h; subst this; exact RepL.nil
    | cons s' ss => obtain ⟨v', r, rfl, _, _, h⟩ := RepL.cons_inv h; exact Rep.agg1 h1 hp h
  | succ o ih =>
    cases ss with
    | nil => have := RepL.nil_inv h; subst this; exact RepL.nil
    | cons s' ss => obtain ⟨v', r, rfl, h2, hp2, h⟩ := RepL.cons_inv h; exact Rep.agg1 h2 hp2 (ih h)
def leafy : SV N → Bool
  | .un => false
  | .undef => false
  | .agg _ => false
  | .tup _ => false
  | _ => true
theorem Rep.plain_of (h : Rep N T ρ Z w v s) (hf : leafy s = true) : plain1 v = true := by
  cases h with
  | un => cases hf
  | undef => cases hf
  | agg0 => cases hf
  | agg1 h hp r => cases hf
  | tup0 => cases hf
  | tup1 h r => cases hf
  | con h => exact h
  | sl h => obtain ⟨A, cap, rfl⟩ := dSlice_val h; rfl
  | err h => cases h <;> rfl
  | _ => rfl
theorem plain_cells {v : Value} (h : plain1 v = true) : v.cells = #[v] := cells_sz1 h
end
section
variable {E : Env} {C : Ctx} {m : Bool} {n : Nat} {ops : List Oper} {Q : Exit → Fr → World → Prop} {rest : List Oper} {f : Fr} {w : World} {d : Nat}
variable {ty T T' : TypeId} {pos : String} {after : Array Edge} {x y z : Operand} {k k' : IntKind} {a b : Int} {ρ : Env1} {Z : Nat → Prop} {its : Items E.N} {nx : Nat} {q : Q1 E.N}
theorem Rep.leaves {v : Value} {s : E.SV} (h : Rep E.N E.T ρ Z w v s) (hf : flat s = true) : RepL E.N E.T ρ Z w v.cells.toList (leaves s) := by
  cases s with
  | agg vs => obtain ⟨cs, rfl, h⟩ := Rep.agg_inv h; exact h
  | un => cases hf
  | undef => cases hf
  | tup vs => cases hf
  | _ => have hp := h.plain_of rfl; rw [plain_cells hp]; exact Rep.agg1 h hp Rep.agg0
theorem RepL.setLeaves {cs c : List Value} {ss vs : List E.SV} {o : Nat} (h : RepL E.N E.T ρ Z w cs ss) (hc : RepL E.N E.T ρ Z w c vs) : RepL E.N E.T ρ Z w (splice cs o c) (setLeaves E ss o vs) := by
  induction vs generalizing cs ss c o with
  | nil => have := RepL.nil_inv hc; subst this; exact h
  | cons s vs ih => obtain ⟨v, r, rfl, h1, hp, h2⟩ := RepL.cons_inv hc; exact ih (h.set1 h1 hp o) h2
theorem setLeaves_len {ss vs : List E.SV} {o : Nat} : (Rx.setLeaves E ss o vs).length = ss.length := by
  induction vs generalizing ss o with
  | nil => rfl
  | cons s vs ih => rw [Rx.setLeaves, ih, List.length_set]
theorem qUn_ok {op : UnOp} {sx : E.SV} (hx : Rep E.N E.T ρ Z w (ev f x) sx) (h : qUn op sx = some q) (ho : allP q.ob) (hn : Nat.blt d n = true) (K : KQ E m n ops Q rest f w d ρ Z q) :
    WL E.P m n ops Q (⟨some d, .unOp op T x, ty, pos, after, none⟩ :: rest) f w := by
  generalize hv : ev f x = vx at hx
  unfold qUn at h
  cases hx with
  | tt => cases op <;> first | exact S_not hv hn (K.q0 h .ff) | cases h
  | ff => cases op <;> first | exact S_not hv hn (K.q0 h .tt) | cases h
  | @bl p dp =>
    cases op with
    | not =>
      refine S_not hv hn ?_
      rw [show (!@decide p dp) = decide (¬ p) by simp]
      exact K.bln h
    | _ => cases h
  | @int k a ha =>
    cases op with
    | neg =>
      cases k with
      | i64 =>
        simp only [Option.some.injEq] at h; subst h
        refine S_neg hv hn ?_
        rw [wrap64 ho.1]; exact K _ (.int fun _ => ho.1) trivial
      | _ => cases h
    | _ => cases h
  | _ => cases h
theorem tup_get {cs : List Value} {vs : List E.SV} (h : Rep E.N E.T ρ Z w (.tuple cs.toArray) (.tup vs)) : ∀ (i : Nat) (s : E.SV), vs[i]? = some s → ∃ v, cs[i]? = some v ∧ Rep E.N E.T ρ Z w v s := by
  induction vs generalizing cs with
  | nil => intro i s e; simp at e
  | cons s vs ih =>
    obtain ⟨v, r, rfl, h1, h2⟩ := Rep.tup_cons h
    intro i s' e
    cases i with
    | zero => simp at e; subst e; exact ⟨v, rfl, h1⟩
    | succ i => simp at e; simpa using ih h2 i s' e
theorem qExtract_ok {i : Nat} {sx : E.SV} (hx : Rep E.N E.T ρ Z w (ev f x) sx) (h : qExtract i sx = some q) (hn : Nat.blt d n = true) (K : KQ E m n ops Q rest f w d ρ Z q) :
    WL E.P m n ops Q (⟨some d, .extract x i, ty, pos, after, none⟩ :: rest) f w := by
  generalize hv : ev f x = vx at hx
  cases sx with
  | tup vs =>
    simp only [qExtract] at h
    obtain ⟨cs, rfl⟩ := Rep.tup_inv hx
    split at h
    · rename_i s hs
      obtain ⟨v, h1, h2⟩ := tup_get hx i s hs
      exact S_extract hv (by simpa using h1) hn (K.q0 h h2)
    · cases h
  | _ => cases h
theorem qIndexAddr_ok {sx si : E.SV} (hm : Mem E C ρ Z w its nx) (hx : Rep E.N E.T ρ Z w (ev f x) sx) (hy : Rep E.N E.T ρ Z w (ev f y) si) (h : qIndexAddr E its T si sx = some q) (ho : allP q.ob) (hn : Nat.blt d n = true) (K : KQ E m n ops Q rest f w d ρ Z q) :
    WL E.P m n ops Q (⟨some d, .indexAddr T x y, ty, pos, after, none⟩ :: rest) f w := by
  unfold qIndexAddr at h
  split at h
  · rename_i e hs
    have hT := sliceOf_run hs
    generalize hvx : ev f x = vx at hx
    generalize hvy : ev f y = vy at hy
    cases sx with
    | sl t l =>
      cases si with
      | int k a =>
        obtain ⟨h1, h⟩ := bif_some h
        simp only [Option.some.injEq] at h; subst h
        cases hx with
        | sl hx =>
          cases hy with
          | int _ =>
            obtain ⟨A, cap, rfl⟩ := dSlice_val hx
            exact Z_index hx hT (szOk_run h1) rfl hvx hvy ho.1 ho.2.1 hn (K _ (.fel (off := 0) hx ho.1 ho.2.1) trivial)
      | _ => cases h
    | acc id =>
      simp only at h
      split at h
      · rename_i k a t l hi
        obtain ⟨h1, h⟩ := bif_some h
        simp only [Option.some.injEq] at h; subst h
        cases hx with
        | acc hx =>
          cases hy with
          | int _ =>
            obtain ⟨L, hL, hn1, _, hac⟩ := hm.at hi
            rw [hx] at hL; cases hL
            exact Z_indexAc hac hT (szOk_run h1) hvx hvy ho.1 (by rw [hn1]; exact ho.2.1) hn (K _ (.el (off := 0) hx ho.1 (by rw [hn1]; exact ho.2.1)) trivial)
      · cases h
    | _ => cases h
  · cases h
theorem fld_run {fi o nn : Nat} (h : E.fld T fi = some (o, nn)) : ∃ fs fd, (∀ w, (underlying T).run E.P w = .ok (.struct fs) w) ∧ fs[fi]? = some fd ∧ (∀ w, (sizeOf fd.type).run E.P w = .ok nn w) ∧ fd.offset = o := by
  unfold Env.fld at h
  split at h
  · rename_i fs hu
    split at h
    · rename_i fd hf
      split at h
      · rename_i sz hs
        simp only [Option.some.injEq, Prod.mk.injEq] at h
        obtain ⟨rfl, rfl⟩ := h
        exact ⟨fs, fd, run_und hu, hf, run_size hs, rfl⟩
      · cases h
    · cases h
  · cases h
theorem qFieldAddr_ok {sx : E.SV} {fi o nn : Nat} (hx : Rep E.N E.T ρ Z w (ev f x) sx) (hf : E.fld T fi = some (o, nn)) (hp : Nat.blt 0 nn = true) (h : qFieldAddr o sx = some q) (hn : Nat.blt d n = true) (K : KQ E m n ops Q rest f w d ρ Z q) :
    WL E.P m n ops Q (⟨some d, .fieldAddr T x fi, ty, pos, after, none⟩ :: rest) f w := by
  obtain ⟨fs, fd, hT, hfd, hz, rfl⟩ := fld_run hf
  have hp := blt_lt hp
  obtain ⟨mm, rfl⟩ : ∃ mm, nn = mm + 1 := ⟨nn - 1, by omega⟩
  generalize hv : ev f x = vx at hx
  unfold qFieldAddr at h
  cases hx with
  | ref hL => exact S_fieldAddr hT hfd hz hv hn (K.q0 h (.ref hL))
  | el hL h0 h1 => refine Z_field hT hfd hz hv hn (K.q0 h ?_); rw [Nat.add_assoc]; exact .el hL h0 h1
  | fel hL h0 h1 => refine Z_field hT hfd hz hv hn (K.q0 h ?_); rw [Nat.add_assoc]; exact .fel hL h0 h1
  | _ => cases h
theorem agg_run {b : Bool} (h : E.aggOf T = some b) : ∀ w, (isAgg T).run E.P w = .ok b w := run_agg h
theorem Cells.part {b o : Nat} {cs : List Value} (h : Cells w b o cs) (j k : Nat) : Cells w b (o + j) ((cs.drop j).take k) := by
  obtain ⟨C, T, z, hh, hc⟩ := h
  refine ⟨C, T, z, hh, fun i hi => ?_⟩
  simp only [List.length_take, List.length_drop] at hi
  rw [Nat.add_assoc, hc (j + i) (by omega), List.getElem?_take, if_pos (by omega), List.getElem?_drop]
theorem Cells.one {b o : Nat} {cs : List Value} {v : Value} (h : Cells w b o cs) {j : Nat} (hj : cs[j]? = some v) : Cells w b (o + j) [v] := by
  obtain ⟨C, T, z, hh, hc⟩ := h
  have hlt : j < cs.length := by
    rcases Nat.lt_or_ge j cs.length with h | h
    · exact h
    · rw [List.getElem?_eq_none h] at hj; cases hj
  refine ⟨C, T, z, hh, fun i hi => ?_⟩
  simp at hi; subst hi
  rw [Nat.add_zero, hc j hlt, hj]; rfl
/-- A part of cells that are told. -/
theorem part_ok {ls : List E.SV} {cs : List Value} {off : Nat} {s : E.SV} {ad : Addr} (hc : ∀ j, ∃ b o, ad = ⟨b, o, none⟩ ∧ (∀ k, Cells w b (o + j) ((cs.drop j).take k)) ∧ ∀ v, cs[j]? = some v → Cells w b (o + j) [v]) (hr : RepL E.N E.T ρ Z w cs ls) (h : part E ls off T = some s)
    (hx : ev f x = .pointer (some ⟨ad.block, ad.off + off, none⟩)) (hn : Nat.blt d n = true) (K : ∀ v, Rep E.N E.T ρ Z w v s → WL E.P m n ops Q rest (upd f d v) w) :
    WL E.P m n ops Q (⟨some d, .load T x, ty, pos, after, none⟩ :: rest) f w := by
  obtain ⟨b, o, rfl, h1, h2⟩ := hc off
  unfold part at h
  split at h
  · rename_i ha
    split at h
    · rename_i nn hs
      obtain ⟨hle, h⟩ := bif_some h
      simp only [Option.some.injEq] at h; subst h
      have hle := Nat.le_of_ble_eq_true hle
      have hlen := hr.len
      exact S_loadAgg (agg_run ha) (run_size hs) (cs := (cs.drop off).take nn) (by simp only [List.length_take, List.length_drop]; omega) hx (h1 nn) hn (K _ ((hr.drop off).take nn))
    · cases h
  · rename_i ha
    obtain ⟨v, hv, hrep, _⟩ := hr.get off s h
    exact S_load1 (agg_run ha) hx (h2 v hv) hn (K v hrep)
  · cases h
theorem cellsA_part {A : Option Addr} {q0 : Nat} {cs : List Value} (h : CellsA w (eA A q0) cs) : ∀ j, ∃ b o, eA A q0 = ⟨b, o, none⟩ ∧ (∀ k, Cells w b (o + j) ((cs.drop j).take k)) ∧ ∀ v, cs[j]? = some v → Cells w b (o + j) [v] := fun j => by
  obtain ⟨hs, hc⟩ := h
  refine ⟨(eA A q0).block, (eA A q0).off, ?_, fun k => Cells.part hc j k, fun v hv => Cells.one hc hv⟩
  generalize eA A q0 = a at hs
  obtain ⟨b, o, s⟩ := a; simp only at hs; subst hs; rfl
theorem eA_plus (A : Option Addr) (q0 off : Nat) : eA A (q0 + off) = ⟨(eA A q0).block, (eA A q0).off + off, none⟩ := by
  cases A with
  | none => rfl
  | some a => obtain ⟨b, o, s⟩ := a; simp [eA, Nat.add_assoc]
theorem hy_all {ps : List Prop} (h : ∀ p ∈ ps, p) : allP ps := by
  induction ps with
  | nil => trivial
  | cons p ps ih => exact ⟨h p (by simp), ih fun q hq => h q (by simp [hq])⟩
theorem qEl_ok {t off : Nat} {l : List (E.N.U t)} {i : Int} {A : Option Addr} {c : List Value} (hc : CellsA w (eA A (i.toNat * (E.N.tb t).r.sz)) c) (hr : (E.N.tb t).r.rd Z w c (ix l i)) (h : qEl E t l i off T = some q)
    (hx : ev f x = .pointer (some (eA A (i.toNat * (E.N.tb t).r.sz + off)))) (hn : Nat.blt d n = true) (K : KQ E m n ops Q rest f w d ρ Z q) :
    WL E.P m n ops Q (⟨some d, .load T x, ty, pos, after, none⟩ :: rest) f w := by
  unfold qEl at h
  split at h
  · rename_i yy hty
    split at h
    · rename_i s hs
      simp only [Option.some.injEq] at h; subst h
      rw [eA_plus] at hx
      exact part_ok (cellsA_part hc) (yy.sv_ok hr) hs hx hn (fun v hv => K v hv (hy_all (yy.hy_ok hr)))
    · cases h
  · cases h
theorem qLoad_ok {sx : E.SV} (hm : Mem E C ρ Z w its nx) (hx : Rep E.N E.T ρ Z w (ev f x) sx) (h : qLoad its T sx = some q) (hn : Nat.blt d n = true) (K : KQ E m n ops Q rest f w d ρ Z q) :
    WL E.P m n ops Q (⟨some d, .load T x, ty, pos, after, none⟩ :: rest) f w := by
  generalize hv : ev f x = vx at hx
  cases sx with
  | ref id off =>
    simp only [qLoad] at h
    split at h
    · rename_i Ty cells hi
      split at h
      · rename_i s hs
        cases hx with
        | ref hL =>
          obtain ⟨L, cs, hL', hbs, ho, hr⟩ := hm.at hi
          rw [hL] at hL'; cases hL'
          exact part_ok (ad := ⟨_, 0, none⟩) (fun j => ⟨_, 0, rfl, fun k => Cells.part ho.all j k, fun v hv => Cells.one ho.all hv⟩) hr hs (by simpa using hv) hn (fun v hv => K.q0 h hv)
      · cases h
    · cases h
  | fel t l i off =>
    cases hx with
    | fel hL h0 h1 =>
      obtain ⟨c, hc, hr⟩ := cell_ix (q := i.toNat * (E.N.tb t).r.sz) (o := 0) hL (Sub.self _) rfl (Nat.add_zero _).symm h0 h1
      exact qEl_ok hc hr h hv hn K
  | el id t' i off =>
    simp only [qLoad] at h
    split at h
    · rename_i t l hi
      have ⟨ht, h2⟩ := bif_some h
      clear h
      have := Nat.eq_of_beq_eq_true ht; subst this
      cases hx with
      | el hL h0 h1 =>
        obtain ⟨L, hL', hn1, _, hac⟩ := hm.at hi
        rw [hL] at hL'; cases hL'
        obtain ⟨c, hc, hr⟩ := cell_ac (q := i.toNat * (E.N.tb t).r.sz) (o := 0) hac (Sub.self _) rfl (Nat.add_zero _).symm h0 h1
        exact qEl_ok hc hr h2 hv hn K
    · cases h
  | _ => cases h
theorem qNil_ok {sx : E.SV} (hx : Rep E.N E.T ρ Z w (ev f x) sx) (h : qNil sx = some q) (hn : Nat.blt d n = true) (K : KQ E m n ops Q rest f w d ρ Z q) :
    WL E.P m n ops Q (⟨some d, .nilCheck x, ty, pos, after, none⟩ :: rest) f w := by
  generalize hv : ev f x = vx at hx
  unfold qNil at h
  cases hx with
  | ref hL => exact S_nilCheck hv hn (K.q0 h (.ref hL))
  | _ => cases h
theorem qIndex_ok {sx si : E.SV} (hx : Rep E.N E.T ρ Z w (ev f x) sx) (hy : Rep E.N E.T ρ Z w (ev f y) si) (h : qIndex E T si sx = some q) (ho : allP q.ob) (hn : Nat.blt d n = true) (K : KQ E m n ops Q rest f w d ρ Z q) :
    WL E.P m n ops Q (⟨some d, .index T x y, ty, pos, after, none⟩ :: rest) f w := by
  generalize hvx : ev f x = vx at hx
  generalize hvy : ev f y = vy at hy
  unfold qIndex at h
  cases hx with
  | str hl =>
    cases hy with
    | int ha =>
      obtain ⟨hs, h⟩ := bif_some h
      simp only [Option.some.injEq] at h; subst h
      exact S_indexT (isStr_run hs) hvx hvy ho.1 ho.2.1 hn (K _ .byte trivial)
    | _ => cases h
  | _ => cases h
end
end Go.Rx
end
section
namespace Go.Rx
open Go Go.Wk Go.Wl
section
variable {E : Env} {C : Ctx} {m : Bool} {n : Nat} {ops : List Oper} {Q : Exit → Fr → World → Prop} {rest : List Oper} {f : Fr} {w : World} {d : Nat}
variable {ty T T' : TypeId} {pos : String} {after : Array Edge} {x y z : Operand} {k k' : IntKind} {a b : Int} {ρ : Env1} {Z : Nat → Prop} {its : Items E.N} {nx : Nat} {q : Q1 E.N}
/-- A slice of a slice that reads. -/
theorem slice_rd {α : Type} {r : Rd α} {D : Nat → Prop} {A : Option Addr} {l : List α} {cap a b : Nat} (h : (dSlice r).rd D w [.slice A l.length cap] l) (h1 : a ≤ b) (h2 : b ≤ l.length) :
    (dSlice r).rd D w [.slice (if cap = a then A else A.map (·.add (a * r.sz))) (b - a) (cap - a)] ((l.take b).drop a) := by
  obtain ⟨hl, A', cap', e, ⟨h0, hc⟩, hr⟩ := h
  simp at e; obtain ⟨rfl, rfl⟩ := e
  have hlen : ((l.take b).drop a).length = b - a := by rw [List.length_drop, List.length_take]; omega
  refine ⟨by omega, _, _, by rw [hlen], ⟨fun hA => ?_, by omega⟩, fun i hi => ?_⟩
  · split at hA
    · omega
    · cases A with
      | none => have := h0 rfl; omega
      | some a => cases hA
  · rw [hlen] at hi
    obtain ⟨bb, o, c, rfl, hb, hcc, hrr⟩ := hr (a + i) (by omega)
    have e1 : ((l.take b).drop a)[i]'(by rw [hlen]; exact hi) = l[a + i]'(by omega) := by rw [List.getElem_drop, List.getElem_take]
    rw [e1]
    rw [if_neg (by omega)]
    refine ⟨bb, o + a * r.sz, c, ?_, hb, by rw [Nat.add_assoc, ← Nat.add_mul]; exact hcc, hrr⟩
    simp only [Option.map_some, Option.some.injEq, Addr.add]
    split
    · rename_i h; simp [h]
    · rfl
theorem S_sliceL {e nn cap sz : Nat} {A : Option Addr} {lo hi : Option Operand} {a b : Int} (hT : ∀ w, (underlying T).run E.P w = .ok (.slice e) w) (hz : ∀ w, (sizeOf e).run E.P w = .ok sz w) (hx : ev f x = .slice A nn cap)
    (hlo : match lo with | some o => ev f o = .int .i64 a | none => a = 0) (hhi : match hi with | some o => ev f o = .int .i64 b | none => b = nn) (h0 : 0 ≤ a ∧ a ≤ b ∧ b ≤ nn) (hc : nn ≤ cap) (hn : Nat.blt d n = true)
    (K : WL E.P m n ops Q rest (upd f d (.slice (if cap = a.toNat then A else A.map (·.add (a.toNat * sz))) (b.toNat - a.toNat) (cap - a.toNat))) w) : WL E.P m n ops Q (⟨some d, .slice T x lo hi none, ty, pos, after, none⟩ :: rest) f w :=
  WL_val rfl rfl hn (fun _ _ => by
    have hb0 : 0 ≤ b := by omega
    have hb1 : b ≤ (cap : Int) := by omega
    have hbn : b.toNat ≤ cap := by omega
    have hab : a ≤ ((b.toNat : Nat) : Int) := by omega
    cases lo with
    | none =>
      simp only at hlo; subst hlo
      cases hi with
      | none => simp only at hhi; subst hhi; simp [execOp, hx, Instr.sliceAt, Instr.slice, Instr.sliceBounds, hT, hz, go_sem]
      | some o2 => simp only at hhi; simp [execOp, hx, hhi, Instr.sliceAt, Instr.slice, Instr.sliceBounds, Instr.sliceBound, asIntOf, hT, hz, go_sem, hb0, hb1]
    | some o1 =>
      simp only at hlo
      cases hi with
      | none => simp only at hhi; subst hhi; simp [execOp, hx, hlo, Instr.sliceAt, Instr.slice, Instr.sliceBounds, Instr.sliceBound, asIntOf, hT, hz, go_sem, h0.1, h0.2.1]
      | some o2 => simp only at hhi; simp [execOp, hx, hlo, hhi, Instr.sliceAt, Instr.slice, Instr.sliceBounds, Instr.sliceBound, asIntOf, hT, hz, go_sem, hb0, hb1, h0.1, hab]; try (intro h; omega)) K
theorem asI_rd {s : E.SV} {v : Value} {a : Int} (h : Rep E.N E.T ρ Z w v s) (e : asI s = some a) : v = .int .i64 a := by
  cases h with
  | @int k x _ => cases k <;> simp [asI] at e; subst e; rfl
  | _ => simp [asI] at e
def LoP (f : Fr) (lo : Option Operand) (a z : Int) : Prop := match lo with | some o => ev f o = .int .i64 a | none => a = z
theorem asIO_rd {e : Operand → E.SV} (he : ∀ o, Rep E.N E.T ρ Z w (ev f o) (e o)) {lo : Option Operand} {a : Option Int} (h : asIO e lo = some a) (z : Int) :
    LoP f lo (a.getD z) z := by
  cases lo with
  | none => simp [asIO] at h; subst h; rfl
  | some o =>
    simp only [asIO, Option.map_eq_some_iff] at h
    obtain ⟨b, hb, rfl⟩ := h
    exact asI_rd (he o) hb
theorem qSlice_ok {e : Operand → E.SV} (he : ∀ o, Rep E.N E.T ρ Z w (ev f o) (e o)) {lo hi : Option Operand} {a b : Option Int} (ha : asIO e lo = some a) (hb : asIO e hi = some b) (h : qSlice E T a b (e x) = some q) (ho : allP q.ob) (hn : Nat.blt d n = true) (K : KQ E m n ops Q rest f w d ρ Z q) :
    WL E.P m n ops Q (⟨some d, .slice T x lo hi none, ty, pos, after, none⟩ :: rest) f w := by
  have hx := he x
  generalize hv : ev f x = vx at hx
  generalize e x = sx at hx h
  have key : ∀ (len : Nat), allP (cutP len a b) → LoP f lo (a.getD 0) 0 ∧ LoP f hi (b.getD len) len ∧ 0 ≤ a.getD 0 ∧ a.getD 0 ≤ b.getD len ∧ b.getD len ≤ len ∧
      ∀ (α : Type) (l : List α), l.length = len → cutL l a b = (l.take (b.getD len).toNat).drop (a.getD 0).toNat := fun len ho => by
    refine ⟨asIO_rd he ha 0, asIO_rd he hb len, ?_⟩
    cases a with
    | none =>
      cases b with
      | none => exact ⟨by simp, by simp, by simp, fun α l hl => by simp [cutL, ← hl]⟩
      | some b => exact ⟨by simp, by simpa using ho.1, ho.2.1, fun α l hl => by simp [cutL]⟩
    | some a =>
      cases b with
      | none => exact ⟨ho.1, ho.2.1, by simp, fun α l hl => by simp [cutL, ← hl]⟩
      | some b => exact ⟨ho.1, ho.2.1, ho.2.2.1, fun α l hl => by simp [cutL]⟩
  unfold qSlice at h
  cases sx with
  | str s =>
    have ⟨hs, h2⟩ := bif_some h
    simp only [Option.some.injEq] at h2; subst h2
    cases hx with
    | str hl =>
      obtain ⟨k1, k2, k3, k4, k5, k6⟩ := key s.length ho
      refine S_sliceT (isStr_run hs) hv k1 k2 ⟨k3, k4, k5⟩ hn ?_
      rw [← k6 _ s rfl]
      exact K _ (.str (by rw [k6 _ s rfl, List.length_drop, List.length_take]; omega)) trivial
  | sl t l =>
    simp only at h
    split at h
    · rename_i ee hs
      have ⟨h1, h2⟩ := bif_some h
      simp only [Option.some.injEq] at h2; subst h2
      cases hx with
      | sl hx =>
        obtain ⟨A, cap, rfl⟩ := dSlice_val hx
        obtain ⟨k1, k2, k3, k4, k5, k6⟩ := key l.length ho
        have hcap : l.length ≤ cap := by
          obtain ⟨_, A', cap', e', ⟨_, hc⟩, _⟩ := hx
          simp at e'; omega
        refine S_sliceL (sliceOf_run hs) (szOk_run h1) hv k1 k2 ⟨k3, k4, k5⟩ hcap hn ?_
        refine K _ (.sl ?_) trivial
        rw [k6 _ l rfl]
        exact slice_rd hx (by omega) (by omega)
    · cases h
  | _ => cases h
theorem wrapE_ok {vs : List E.SV} {cs : List Value} {e : Err} (hr : RepL E.N E.T ρ Z w cs vs) (h : wrapE E T vs = some e) : RepE E.T Z w (.iface T (.agg cs.toArray)) e := by
  unfold wrapE at h
  split at h
  · cases h
  · rename_i k hk
    split at h
    · cases h
      obtain ⟨v1, r1, rfl, h1, _, hr⟩ := RepL.cons_inv hr
      obtain ⟨v2, r2, rfl, h2, _, hr⟩ := RepL.cons_inv hr
      obtain rfl := RepL.nil_inv hr
      cases h1 with | str hs =>
      cases h2 with | int hi =>
      exact .w hk (hi rfl) (fun h => by omega)
    · cases h
      obtain ⟨v2, r2, rfl, h2, _, hr⟩ := RepL.cons_inv hr
      obtain rfl := RepL.nil_inv hr
      cases h2 with | int hi =>
      exact .w (s := []) hk (hi rfl) (fun h => by omega)
    · cases h
      obtain ⟨v2, r2, rfl, h2, _, hr⟩ := RepL.cons_inv hr
      obtain rfl := RepL.nil_inv hr
      cases h2 with | err h2 =>
      cases h2 with | no hi =>
      exact .w (s := []) hk hi (fun h => by omega)
    · rename_i k'
      obtain rfl := RepL.nil_inv hr
      split at h
      · rename_i hle
        cases h
        exact .w (s := []) hk ⟨by omega, by omega⟩ (fun _ => by push_cast; omega)
      · cases h
    · cases h
def notIface : TypeDesc → Bool
  | .interface _ => false
  | _ => true
theorem aggOf_run (h : E.aggOf T = some true) : ∃ X : TypeDesc, (∀ w, (underlying T).run E.P w = .ok X w) ∧ notIface X = true := by
  unfold Env.aggOf at h
  split at h
  · rename_i fs hu; exact ⟨_, run_und hu, rfl⟩
  · rename_i a b hu; exact ⟨_, run_und hu, rfl⟩
  · cases h
  · cases h
theorem qMakeI_agg {vs : List E.SV} (hx : Rep E.N E.T ρ Z w (ev f x) (.agg vs)) (h : qMakeI E T (.agg vs) = some q) (hn : Nat.blt d n = true) (K : KQ E m n ops Q rest f w d ρ Z q) :
    WL E.P m n ops Q (⟨some d, .makeInterface T x, ty, pos, after, none⟩ :: rest) f w := by
  simp only [qMakeI] at h
  split at h
  · rename_i hT
    split at h
    · rename_i e he
      obtain ⟨X, h1, h2⟩ := aggOf_run hT
      obtain ⟨cs, hv, hr⟩ := Rep.agg_inv hx
      exact S_makeI h1 (by cases X <;> first | rfl | cases h2) hv hn (K.q0 h (.err (wrapE_ok hr he)))
    · cases h
  · cases h
theorem qMakeI_ok {sx : E.SV} (hx : Rep E.N E.T ρ Z w (ev f x) sx) (h : qMakeI E T sx = some q) (hn : Nat.blt d n = true) (K : KQ E m n ops Q rest f w d ρ Z q) :
    WL E.P m n ops Q (⟨some d, .makeInterface T x, ty, pos, after, none⟩ :: rest) f w := by
  generalize hv : ev f x = vx at hx
  unfold qMakeI at h
  cases hx with
  | @int k a ha =>
    cases k with
    | i64 =>
      have ⟨h1, h2⟩ := bif_some h
      simp only [Bool.and_eq_true] at h1
      obtain ⟨e1, e2⟩ := h1
      have e1 := Nat.eq_of_beq_eq_true e1
      cases hi : E.intOf T with
      | none => rw [hi] at e2; cases e2
      | some k =>
        refine S_makeI (intOf_run hi) rfl hv hn (K.q0 h2 (.err ?_))
        rw [e1]; exact .no (ha rfl)
    | _ => cases h
  | ref hL =>
    have ⟨h1, h2⟩ := bif_some h
    simp only [Bool.and_eq_true] at h1
    obtain ⟨e, hT⟩ := isPtr_run h1.1
    exact S_makeI hT rfl hv hn (K.q0 h2 (.ifc (.ref hL)))
  | agg0 => exact qMakeI_agg (vs := []) (by rw [hv]; exact .agg0) h hn K
  | agg1 h1 hp r => exact qMakeI_agg (by rw [hv]; exact .agg1 h1 hp r) h hn K
  | _ => cases h
theorem mapM_flds {fs : List Field} {fl : List (Nat × Nat)} (h : fs.mapM (fun f => (E.size f.type).map fun s => (f.offset, s)) = some fl) (w : World) : (fs.mapM (fun (fd : Field) => do pure (fd.offset, ← sizeOf fd.type)) : Sem (List (Nat × Nat))).run E.P w = .ok fl w := by
  induction fs generalizing fl with
  | nil => simp at h; subst h; rfl
  | cons f fs ih =>
    rw [List.mapM_cons] at h
    simp only [Option.bind_eq_bind, Option.bind_eq_some_iff, Option.pure_def, Option.some.injEq, Option.map_eq_some_iff] at h
    obtain ⟨p, ⟨s, hs, rfl⟩, r, hr, rfl⟩ := h
    rw [List.mapM_cons]
    simp only [Sem.run_bind, run_size hs, Result.andThen_ok, Sem.run_pure, ih hr]
theorem buildP_ok {e : Operand → E.SV} (he : ∀ o, Rep E.N E.T ρ Z w (ev f o) (e o)) {fl : List (Nat × Nat)} : ∀ {ps : List (Nat × Operand)} {ls ls' : List E.SV} {cs : List Value}, buildP E fl e ps ls = some ls' → RepL E.N E.T ρ Z w cs ls →
    fillOk fl cs.length (ps.map fun p => (p.1, ev f p.2)) = true ∧ RepL E.N E.T ρ Z w (fillL fl cs (ps.map fun p => (p.1, ev f p.2))) ls'
  | [], ls, ls', cs, h, hr => by cases h; exact ⟨rfl, hr⟩
  | p :: ps, ls, ls', cs, h, hr => by
    unfold buildP at h
    split at h
    · rename_i o nn hp
      have ⟨h1, h2⟩ := bif_some h
      simp only [Bool.and_eq_true] at h1
      obtain ⟨⟨a1, a2⟩, a3⟩ := h1
      have a2 := Nat.eq_of_beq_eq_true a2
      have a3 := Nat.le_of_ble_eq_true a3
      have hl := (he p.2).leaves a1
      have hlen := hl.len
      have hcl := hr.len
      have hlt : p.1 < fl.length := by
        rcases Nat.lt_or_ge p.1 fl.length with h | h
        · exact h
        · rw [List.getElem?_eq_none h] at hp; cases hp
      have hd : fl.getD p.1 (0, 0) = (o, nn) := by simp [List.getD_eq_getElem?_getD, hp]
      have ih := buildP_ok he h2 (hr.setLeaves (o := o) hl)
      rw [splice_length] at ih
      refine ⟨?_, ?_⟩
      · simp only [List.map_cons, fillOk, hd, Bool.and_eq_true]
        refine ⟨⟨⟨Nat.ble_eq_true_of_le hlt, ?_⟩, Nat.ble_eq_true_of_le ?_⟩, ih.1⟩
        · rw [show (ev f p.2).cells.size = nn by rw [← Array.length_toList, hlen, a2]]; exact Nat.beq_refl nn
        · show o + (ev f p.2).cells.size ≤ _
          rw [show (ev f p.2).cells.size = nn by rw [← Array.length_toList, hlen, a2], hcl]; exact a3
      · simp only [List.map_cons, fillL, hd]
        exact ih.2
    · cases h
/-- The cells of a constant. -/
theorem cst0_rep {v : Value} (hi : okc v = true) : Rep E.N E.T ρ Z w v (cst0 v) := by
  cases v with
  | int k x =>
    cases k with
    | u8 =>
      simp only [okc, Bool.and_eq_true, decide_eq_true_eq] at hi
      have e : Value.int .u8 x = bv (UInt8.ofNat x.toNat) := by
        unfold bv; rw [UInt8.toNat_ofNat']; congr 1
        have : x.toNat % 2 ^ 8 = x.toNat := Nat.mod_eq_of_lt (by omega)
        omega
      show Rep E.N E.T ρ Z w (.int .u8 x) (.byte (UInt8.ofNat x.toNat))
      rw [e]; exact .byte
    | i64 => simp only [okc, Bool.and_eq_true, decide_eq_true_eq] at hi; exact .int fun _ => hi
    | _ => exact .int fun e => by cases e
  | bool b =>
    cases b
    · exact .ff
    · exact .tt
  | string b =>
    have e : Value.string b = sv b.data.toList := by cases b; simp [sv]
    show Rep E.N E.T ρ Z w (.string b) (.str b.data.toList)
    rw [e]; exact .str (Nat.le_of_ble_eq_true hi)
  | slice a n c =>
    cases a with
    | none =>
      cases n with
      | zero =>
        cases c with
        | zero => exact .nils
        | succ c => exact .con rfl
      | succ n => exact .con rfl
    | some a => exact .con rfl
  | nilIface => exact .err .nil
  | agg cs => cases hi
  | tuple cs => cases hi
  | _ => exact .con rfl
theorem okc_plain {v : Value} (h : okc v = true) : plain1 v = true := by
  cases v with
  | agg cs => cases h
  | tuple cs => cases h
  | _ => rfl
theorem cst1_rep {v : Value} : Rep E.N E.T ρ Z w v (cst1 v) := by
  unfold cst1
  cases h : okc v with
  | true => exact cst0_rep h
  | false => exact .un
theorem cst_rep {v : Value} : Rep E.N E.T ρ Z w v (cst v) := by
  unfold cst
  split
  · rename_i cs
    cases h : cs.toList.all okc with
    | false => exact .un
    | true =>
      rw [cond_true]
      have key : ∀ l : List Value, l.all okc = true → RepL E.N E.T ρ Z w l (l.map cst0) := by
        intro l
        induction l with
        | nil => exact fun _ => RepL.nil
        | cons v r ih =>
          intro h
          simp only [List.all_cons, Bool.and_eq_true] at h
          exact Rep.agg1 (cst0_rep h.1) (okc_plain h.1) (ih h.2)
      exact key _ h
  · exact cst1_rep
theorem qBuild_ok {e : Operand → E.SV} (he : ∀ o, Rep E.N E.T ρ Z w (ev f o) (e o)) {ps : Array (Nat × Operand)} (h : qBuild E e T ps.toList = some q) (hn : Nat.blt d n = true) (K : KQ E m n ops Q rest f w d ρ Z q) :
    WL E.P m n ops Q (⟨some d, .build T ps, ty, pos, after, none⟩ :: rest) f w := by
  unfold qBuild at h
  split at h
  · rename_i ls fl hz hf
    split at h
    · rename_i ls' hb
      unfold Env.zero at hz
      simp only [Option.map_eq_some_iff] at hz
      obtain ⟨zv, hz, hc⟩ := hz
      have hr : Rep E.N E.T ρ Z w zv (.agg ls) := by rw [← hc]; exact cst_rep
      obtain ⟨cs, rfl, hr⟩ := Rep.agg_inv hr
      obtain ⟨h1, h2⟩ := buildP_ok he hb hr
      unfold Env.flds at hf
      split at hf
      · rename_i fs hu
        refine S_build (run_und hu) (run_zero hz) (pl := fl.toArray) (fun w => ?_) (by simpa [Value.cells] using h1) rfl hn (K.q0 h (by simpa [Value.cells, RepL] using h2))
        have := mapM_flds hf w
        rw [Array.mapM_eq_mapM_toList]
        show (List.mapM (fun (fd : Field) => do pure (fd.offset, ← sizeOf fd.type)) fs.toList >>= fun l => pure l.toArray : Sem (Array (Nat × Nat))).run E.P w = _
        rw [Sem.run_bind, this]; rfl
      · cases hf
    · cases h
  · cases h
theorem castBytes {t : Nat} (h : E.N.tb t = ⟨UInt8, dByte, ⟨0⟩⟩) (l : List (E.N.U t)) (e : List (E.N.U t) = Str) {v : Value} :
    ((dSlice (E.N.tb t).r).rd Z w [v] l → (dSlice dByte).rd Z w [v] (cast e l)) ∧ (∀ bs, Ac (E.N.tb t).r Z w v l bs → Ac dByte Z w v (cast e l) bs) := by
  revert l e
  unfold Uni.U
  rw [h]
  intro l e
  exact ⟨fun h => h, fun _ h => h⟩
theorem qBytes_ok {t : Nat} {l : List (E.N.U t)} {S D : Nat} (hd : E.isStr D = true) (h : qBytes E S t l = some q) (hx : (dSlice (E.N.tb t).r).rd Z w [ev f x] l ∨ ∃ bs, Ac (E.N.tb t).r Z w (ev f x) l bs ∧ l.length ≤ 9223372036854775807) (hn : Nat.blt d n = true) (K : KQ E m n ops Q rest f w d ρ Z q) :
    WL E.P m n ops Q (⟨some d, .convert S D x, ty, pos, after, none⟩ :: rest) f w := by
  unfold qBytes at h
  split at h
  · rename_i e hs
    split at h
    · rename_i hi
      split at h
      · rename_i s hb
        unfold bytesOf at hb
        split at hb
        · rename_i yy hy
          split at hb
          · rename_i h8 hb8
            simp only [Option.some.injEq] at hb; subst hb
            have hc := castBytes (Z := Z) (w := w) (v := ev f x) h8.down l (by rw [Uni.U, h8.down])
            have hl : (cast (by rw [Uni.U, h8.down]) l : Str).length = l.length := by
              have : ∀ (α β : Type) (e : α = β) (l : List α) (e2 : List α = List β), (cast e2 l : List β).length = l.length := by intro α β e l e2; subst e; rfl
              exact this (E.N.U t) UInt8 (by rw [Uni.U, h8.down]) l _
            rcases hx with hx | ⟨bs, hx, hlen⟩
            · exact S_bytesStr (sliceOf_run hs) (isStr_run hd) (intOf_run hi) (Src.data (hc.1 hx)) hn (K.q0 h (.str (dSlice_len (hc.1 hx))))
            · exact S_bytesStr (sliceOf_run hs) (isStr_run hd) (intOf_run hi) (Src.ac (hc.2 bs hx)) hn (K.q0 h (.str (by rw [hl]; exact hlen)))
          · cases hb
        · cases hb
      · cases h
    · cases h
  · cases h
theorem byteK {c : UInt8} {k : IntKind} (h : k ≠ .i8) : k.wrap (c.toNat : Int) = c.toNat := by
  have := c.toNat_lt
  cases k <;> simp [IntKind.wrap, IntKind.bits, IntKind.signed] at * <;> omega
theorem qConvert_ok {S D : Nat} {sx : E.SV} (hm : Mem E C ρ Z w its nx) (hx : Rep E.N E.T ρ Z w (ev f x) sx) (h : qConvert E its S D sx = some q) (hn : Nat.blt d n = true) (K : KQ E m n ops Q rest f w d ρ Z q) :
    WL E.P m n ops Q (⟨some d, .convert S D x, ty, pos, after, none⟩ :: rest) f w := by
  generalize hv : ev f x = vx at hx
  cases sx with
  | byte c =>
    simp only [qConvert] at h
    split at h
    · rename_i k0 k hk0 hk
      cases hx
      have hv' : ev f x = .int .u8 c.toNat := hv
      have ci : ∀ (hk8 : k ≠ .i8), WL E.P m n ops Q rest (upd f d (.int k c.toNat)) w → WL E.P m n ops Q (⟨some d, .convert S D x, ty, pos, after, none⟩ :: rest) f w := fun hk8 K => S_convI (intOf_run hk0) (intOf_run hk) hv' hn (by rw [byteK hk8]; exact K)
      cases k with
      | u8 => exact ci (by decide) (K.q0 h .byte)
      | i8 => cases h
      | i64 => refine ci (by decide) (K.q0 h (.int fun _ => ?_)); have := c.toNat_lt; unfold InI; omega
      | _ => exact ci (by decide) (K.q0 h (.int fun e => by cases e))
    · cases h
  | int ks a =>
    simp only [qConvert] at h
    split at h
    · rename_i k0 k hk0 hk
      cases hx
      cases k with
      | u8 => exact S_convB (intOf_run hk0) (intOf_run hk) hv hn (K.q0 h .byte)
      | _ => exact S_convI (intOf_run hk0) (intOf_run hk) hv hn (K.q0 h (.int (wrapK a)))
    · cases h
  | sl t l =>
    simp only [qConvert] at h
    have ⟨h1, h2⟩ := bif_some h
    cases hx with
    | sl hx => exact qBytes_ok h1 h2 (.inl (by rw [hv]; exact hx)) hn K
  | acc id =>
    simp only [qConvert] at h
    split at h
    · rename_i t l hi
      have ⟨h1, h2⟩ := bif_some h
      cases hx with
      | acc hL =>
        obtain ⟨L, hL', hn1, hlen, hac⟩ := hm.at hi
        rw [hL] at hL'; cases hL'
        exact qBytes_ok h1 h2 (.inr ⟨_, by rw [hv]; exact hac, hlen⟩) hn K
    · cases h
  | _ => cases h
theorem qMM_ok {mx : Bool} {Ts : Array TypeId} {sx sy : E.SV} (hx : Rep E.N E.T ρ Z w (ev f x) sx) (hy : Rep E.N E.T ρ Z w (ev f y) sy) (h : qMM mx sx sy = some q) (hn : Nat.blt d n = true) (K : KQ E m n ops Q rest f w d ρ Z q) :
    WL E.P m n ops Q (⟨some d, .call ⟨.builtin (bif mx then .max else .min), #[x, y], Ts⟩, ty, pos, after, none⟩ :: rest) f w := by
  generalize hvx : ev f x = vx at hx
  generalize hvy : ev f y = vy at hy
  unfold qMM at h
  split at h
  · rename_i k a k' b
    split at h
    · rename_i e; subst e
      cases hx with
      | int ha =>
        cases hy with
        | int hb =>
          have hr : ∀ c, c = a ∨ c = b → k = .i64 → InI c := fun c hc e => by
            rcases hc with h | h
            · rw [h]; exact ha e
            · rw [h]; exact hb e
          cases mx with
          | true => exact S_max hvx hvy hn (K.q0 h (.int (hr _ (by show max a b = a ∨ max a b = b; omega))))
          | false => exact S_min hvx hvy hn (K.q0 h (.int (hr _ (by show min a b = a ∨ min a b = b; omega))))
    · cases h
  · cases h
theorem qLen_ok {sx : E.SV} {n0 : Int} (hm : Mem E C ρ Z w its nx) (hx : Rep E.N E.T ρ Z w (ev f x) sx) (h : lenOf its T sx = some n0) (hn : Nat.blt d n = true) (K : ∀ v, Rep E.N E.T ρ Z w v (.int .i64 n0 : E.SV) → WL E.P m n ops Q rest (upd f d v) w) :
    WL E.P m n ops Q (⟨some d, .call ⟨.builtin .len, #[x], #[T]⟩, ty, pos, after, none⟩ :: rest) f w := by
  generalize hvx : ev f x = vx at hx
  have inI : ∀ k : Nat, k ≤ 9223372036854775807 → InI (k : Int) := fun k hk => by unfold InI; omega
  unfold lenOf at h
  cases hb : E.isStr T with
  | true =>
    rw [hb, cond_true] at h
    cases sx with
    | str s =>
      simp only [Option.some.injEq] at h; subst h
      cases hx with
      | str hl => exact S_lenT (isStr_run hb) hvx hn (K _ (.int fun _ => inI _ hl))
    | _ => cases h
  | false =>
    rw [hb, cond_false] at h
    cases hs : E.sliceOf T with
    | none => rw [hs] at h; cases h
    | some e =>
      rw [hs] at h
      replace h : lenS its sx = some n0 := h
      cases sx with
      | sl t l =>
        simp only [lenS, Option.some.injEq] at h; subst h
        cases hx with
        | sl hx => obtain ⟨A, cap, rfl⟩ := dSlice_val hx; exact S_len (sliceOf_run hs) hvx hn (K _ (.int fun _ => inI _ (dSlice_len hx)))
      | nils =>
        simp only [lenS, Option.some.injEq] at h; subst h
        cases hx
        exact S_len (sliceOf_run hs) hvx hn (K _ (.int fun _ => by unfold InI; omega))
      | acc id =>
        simp only [lenS] at h
        split at h
        · rename_i t l hi
          simp only [Option.some.injEq] at h; subst h
          cases hx with
          | acc hL =>
            obtain ⟨L, hL', hn1, hlen, hac⟩ := hm.at hi
            rw [hL] at hL'; cases hL'
            refine S_len (sliceOf_run hs) hvx hn ?_
            rw [hn1]; exact K _ (.int fun _ => inI _ hlen)
        · cases h
      | _ => cases h
theorem arr1 {α : Type} {a : Array α} {x : α} (h : a.toList = [x]) : a = #[x] := by apply Array.ext'; simpa using h
theorem arr2 {α : Type} {a : Array α} {x y : α} (h : a.toList = [x, y]) : a = #[x, y] := by apply Array.ext'; simpa using h
theorem qCall_ok {e : Operand → E.SV} (hm : Mem E C ρ Z w its nx) (he : ∀ o, Rep E.N E.T ρ Z w (ev f o) (e o)) {c : Call} (h : qCall E its e c = some q) (hn : Nat.blt d n = true) (K : KQ E m n ops Q rest f w d ρ Z q) :
    WL E.P m n ops Q (⟨some d, .call c, ty, pos, after, none⟩ :: rest) f w := by
  obtain ⟨cal, args, Ts⟩ := c
  unfold qCall at h
  cases cal with
  | builtin b =>
    simp only [qBuiltin] at h
    cases b with
    | len =>
      simp only at h
      split at h
      · rename_i xx TT ha hT
        obtain rfl := arr1 ha
        obtain rfl := arr1 hT
        split at h
        · rename_i n0 hl
          exact qLen_ok hm (he xx) hl hn (fun v hv => K.q0 h hv)
        · cases h
      · cases h
    | min =>
      simp only at h
      split at h
      · rename_i xx yy ha
        obtain rfl := arr2 ha
        exact qMM_ok (mx := false) (he xx) (he yy) h hn K
      · cases h
    | max =>
      simp only at h
      split at h
      · rename_i xx yy ha
        obtain rfl := arr2 ha
        exact qMM_ok (mx := true) (he xx) (he yy) h hn K
      · cases h
    | _ => cases h
  | _ => cases h
/-- Every step that turns nothing is ars it is told. -/
theorem stepQ_ok {e : Operand → E.SV} (hm : Mem E C ρ Z w its nx) (he : ∀ o, Rep E.N E.T ρ Z w (ev f o) (e o)) {op : Op} (h : stepQ E its e op = some q) (ho : allP q.ob) (hn : Nat.blt d n = true) (K : KQ E m n ops Q rest f w d ρ Z q) :
    WL E.P m n ops Q (⟨some d, op, ty, pos, after, none⟩ :: rest) f w := by
  unfold stepQ at h
  cases op with
  | move x => exact S_move hn (K.q0 h (he x))
  | assign x => exact S_assign hn (K.q0 h (he x))
  | pick c a b =>
    simp only at h
    have hc := he c
    generalize e c = sc at h hc
    generalize hv : ev f c = vc at hc
    unfold qPick at h
    cases hc with
    | tt => exact S_pick_t hv hn (K.q0 h (he a))
    | ff => exact S_pick_f hv hn (K.q0 h (he b))
    | _ => cases h
  | binOp op T x y T' => exact qBin_ok (he x) (he y) h ho hn K
  | unOp op T x => exact qUn_ok (he x) h ho hn K
  | extract x i => exact qExtract_ok (he x) h hn K
  | indexAddr T x i => exact qIndexAddr_ok hm (he x) (he i) h ho hn K
  | fieldAddr T x fi =>
    simp only at h
    split at h
    · rename_i o nn hf
      have ⟨h1, h2⟩ := bif_some h
      exact qFieldAddr_ok (he x) hf h1 h2 hn K
    · cases h
  | load T x => exact qLoad_ok hm (he x) h hn K
  | nilCheck x => exact qNil_ok (he x) h hn K
  | index T x i => exact qIndex_ok (he x) (he i) h ho hn K
  | slice T x lo hi mx =>
    simp only at h
    split at h
    · rename_i a b ha hb
      exact qSlice_ok he ha hb h ho hn K
    · cases h
  | makeInterface T x => exact qMakeI_ok (he x) h hn K
  | build T ps => exact qBuild_ok he h hn K
  | convert S D x => exact qConvert_ok hm (he x) h hn K
  | makeFunc fn first caps =>
    simp only at h
    cases fn with
    | func K' =>
      have ⟨h1, h2⟩ := bif_some h
      simp only [Bool.and_eq_true] at h1
      obtain ⟨h1, h3⟩ := h1
      have h1 := Nat.eq_of_beq_eq_true h1
      obtain rfl : first = #[] := Array.eq_empty_of_size_eq_zero h1
      have ec : caps = caps.toList.toArray := by simp
      rw [ec]
      refine S_makeFunc (xs := []) (ys := caps.toList) hn (K.q0 h2 (.clo ?_))
      have key : ∀ l : List Operand, (l.map e).all isRef = true → RepL E.N E.T ρ Z w (l.map (ev f)) (l.map e) := by
        intro l
        induction l with
        | nil => exact fun _ => RepL.nil
        | cons o l ih =>
          intro h
          simp only [List.map_cons, List.all_cons, Bool.and_eq_true] at h
          refine Rep.agg1 (he o) ((he o).plain_of ?_) (ih h.2)
          have h' := h.1
          generalize e o = so at h'
          cases so <;> first | rfl | cases h'
      exact key _ h3
    | _ => cases h
  | call c => exact qCall_ok hm he h hn K
  | _ => cases h
end
end Go.Rx
end
section
namespace Go.Rx
open Go Go.Wk Go.Wl
section
variable {B0 : List Nat} {w0 w w' : World} {Z Z' : Nat → Prop} {l l' : List It}
/-- A part told in other words. -/
structure Like (B0 : List Nat) (Z : Nat → Prop) (w : World) (t t' : It) : Prop where
  P : t'.P Z w
  stab : t'.Stab
  F : ∀ b ∈ t'.F, b ∈ t.F
  O : t'.O = B0
theorem Sep.sel (hs : Sep B0 w0 Z w l) (φ : Nat → Nat) (inj : ∀ i j, i < l'.length → j < l'.length → φ i = φ j → i = j) (h : ∀ (i : Nat) (t' : It), l'[i]? = some t' → ∃ t, l[φ i]? = some t ∧ Like B0 Z w t t') : Sep B0 w0 Z w l' := by
  have lt : ∀ {i : Nat} {t : It}, l'[i]? = some t → i < l'.length := fun {i t} h => by
    rcases Nat.lt_or_ge i l'.length with h1 | h1
    · exact h1
    · rw [List.getElem?_eq_none h1] at h; cases h
  refine ⟨hs.ext, hs.zlt, fun i t' hi => ?_, fun i j s t hi hj hne b hb hb' => ?_⟩
  · obtain ⟨t, ht, lk⟩ := h i t' hi
    have ok := hs.ok _ t ht
    exact ⟨lk.P, lk.stab, fun b hb => ok.lt b (lk.F b hb), fun b hb => ok.notZ b (lk.F b hb), fun b hb => by
      rw [lk.O]
      rcases ok.org b (lk.F b hb) with h | h
      · exact .inl (ok.org0 b h)
      · exact .inr h, fun b hb => by rw [lk.O] at hb; exact hb⟩
  · obtain ⟨s1, hs1, lk1⟩ := h i s hi
    obtain ⟨t1, ht1, lk2⟩ := h j t hj
    exact hs.apart _ _ s1 t1 hs1 ht1 (fun e => hne (inj i j (lt hi) (lt hj) e)) b (lk1.F b hb) (lk2.F b hb')
theorem Sep.conv (hs : Sep B0 w0 Z w l) (hl : l'.length = l.length) (h : ∀ (i : Nat) (t t' : It), l[i]? = some t → l'[i]? = some t' → Like B0 Z w t t') : Sep B0 w0 Z w l' :=
  Sep.sel hs (fun i => i) (fun _ _ _ _ e => e) fun i t' hi => by
    have hlt : i < l.length := by
      rcases Nat.lt_or_ge i l'.length with h1 | h1
      · omega
      · rw [List.getElem?_eq_none h1] at hi; cases hi
    exact ⟨l[i], by simp [hlt], h i _ t' (by simp [hlt]) hi⟩
theorem Sep.conv1 (hs : Sep B0 w0 Z w l) (hO : ∀ (i : Nat) (t : It), l[i]? = some t → t.O = B0) (j : Nat) {t t' : It} (hj : l[j]? = some t) (lk : Like B0 Z w t t') : Sep B0 w0 Z w (l.set j t') :=
  Sep.conv hs (by simp) fun i s s' hi hi' => by
    by_cases e : i = j
    · subst e
      have hlt : i < l.length := by
        rcases Nat.lt_or_ge i l.length with h1 | h1
        · exact h1
        · rw [List.getElem?_eq_none h1] at hj; cases hj
      rw [List.getElem?_set_self hlt] at hi'
      cases hi'
      rw [hj] at hi; cases hi
      exact lk
    · rw [List.getElem?_set_ne (Ne.symm e)] at hi'
      rw [hi] at hi'; cases hi'
      exact ⟨hs.at i hi, (hs.ok i s hi).stab, fun _ h => h, hO i s hi⟩
end
section
variable {N : Uni} {T : ErrT} {ρ ρ' : Env1} {B0 : List Nat} {Z Z' : Nat → Prop} {w w' : World} {id : Nat} {i : Item N}
theorem foot_own {L : Loc} {Ty : Nat} {cells : List (SV N)} (h : ρ id = some L) : foot N ρ id (.own Ty cells) = L.bs := by simp [foot, h]
theorem foot_ac {L : Loc} {t : Nat} {l : List (N.U t)} (h : ρ id = some L) : foot N ρ id (.ac t l) = L.bs := by simp [foot, h]
theorem foot_ob {L : Loc} {k fid : Nat} {x : N.O k} (h : ρ fid = some L) : foot N ρ id (.ob k fid x) = L.bs := by simp [foot, h]
theorem toIt_stab : (toIt N T ρ B0 id i).Stab := fun Z Z' B w w' h x hB hZ => by
  have hZ' : ∀ b, Z b → b < w.heap.size → Z' b := fun b h _ => hZ b h
  cases i with
  | own Ty cells =>
    obtain ⟨L, cs, hL, hbs, ho, hr⟩ := h
    have hF : ∀ b ∈ B, b ∈ [L.b] ∨ Z b → w.heap.size ≤ b := fun b hb h => hB b hb (by
      rcases h with h | h
      · left; show b ∈ foot N ρ id (.own Ty cells); rw [foot_own hL]; rw [hbs]; exact h
      · exact .inr h)
    exact ⟨L, cs, hL, hbs, ho.ext x (fun hm => by have := hF _ hm (.inl (by simp)); have := ho.lt; omega), hr.stab x (fun b hb hz => hF b hb (.inr hz)) hZ' (fun _ _ h => h)⟩
  | ac t l =>
    obtain ⟨L, hL, hn, hl, hac⟩ := h
    exact ⟨L, hL, hn, hl, hac.stab x (fun b hb h => hB b hb (by
      rcases h with h | h
      · left; show b ∈ foot N ρ id (.ac t l); rw [foot_ac hL]; exact h
      · exact .inr h)) hZ⟩
  | fz t l =>
    obtain ⟨L, hL, hn, hr⟩ := h
    exact ⟨L, hL, hn, Rd.mono _ hr x (fun b hb hz => hB b hb (.inr hz)) hZ'⟩
  | ob k fid x' =>
    obtain ⟨L, Lf, hL, hf, ho⟩ := h
    exact ⟨L, Lf, hL, hf, ((N.oj k).ob L.b).stab Z Z' B w w' ho x (fun b hb h => hB b hb (by
      rcases h with h | h
      · left; show b ∈ foot N ρ id (.ob k fid x'); rw [foot_ob hf]; exact h
      · exact .inr h)) hZ⟩
theorem holds_sub (hρ : ∀ i L, ρ i = some L → ρ' i = some L) (h : holds N T ρ id Z w i) : holds N T ρ' id Z w i ∧ foot N ρ' id i = foot N ρ id i := by
  cases i with
  | own Ty cells => obtain ⟨L, cs, hL, hbs, ho, hr⟩ := h; exact ⟨⟨L, cs, hρ _ _ hL, hbs, ho, Rep.sub hr hρ⟩, by rw [foot_own hL, foot_own (hρ _ _ hL)]⟩
  | ac t l => obtain ⟨L, hL, r⟩ := h; exact ⟨⟨L, hρ _ _ hL, r⟩, by rw [foot_ac hL, foot_ac (hρ _ _ hL)]⟩
  | fz t l => obtain ⟨L, hL, r⟩ := h; exact ⟨⟨L, hρ _ _ hL, r⟩, rfl⟩
  | ob k fid x => obtain ⟨L, Lf, hL, hf, r⟩ := h; exact ⟨⟨L, Lf, hρ _ _ hL, hρ _ _ hf, r⟩, by rw [foot_ob hf, foot_ob (hρ _ _ hf)]⟩
theorem like_sub (hρ : ∀ i L, ρ i = some L → ρ' i = some L) (h : holds N T ρ id Z w i) : Like B0 Z w (toIt N T ρ B0 id i) (toIt N T ρ' B0 id i) :=
  ⟨(holds_sub hρ h).1, toIt_stab, fun b hb => by show b ∈ foot N ρ id i; rw [← (holds_sub (T := T) hρ h).2]; exact hb, rfl⟩
theorem like_refl (h : holds N T ρ id Z w i) : Like B0 Z w (toIt N T ρ B0 id i) (toIt N T ρ B0 id i) := ⟨h, toIt_stab, fun _ h => h, rfl⟩
theorem toIts_get {its : Items N} {k : Nat} {t : It} (h : (toIts N T ρ B0 its)[k]? = some t) : ∃ p, its[k]? = some p ∧ t = toIt N T ρ B0 p.1 p.2 := by
  simp only [toIts, List.getElem?_map, Option.map_eq_some_iff] at h
  obtain ⟨p, hp, rfl⟩ := h
  exact ⟨p, hp, rfl⟩
theorem toIts_O {its : Items N} {k : Nat} {t : It} (h : (toIts N T ρ B0 its)[k]? = some t) : t.O = B0 := by obtain ⟨p, _, rfl⟩ := toIts_get h; rfl
end
/-- What turned between two places of a walk. -/
structure Tn (ρ : Env1) (Z : Nat → Prop) (w : World) (ρ' : Env1) (Z' : Nat → Prop) (w' : World) : Prop where
  rho : ∀ i L, ρ i = some L → ρ' i = some L
  z : ∀ b, Z b → b < w.heap.size → Z' b
  ext : ∃ B, Ext B w w' ∧ ∀ b ∈ B, Z b → w.heap.size ≤ b
theorem Tn.refl (ρ : Env1) (Z : Nat → Prop) (w : World) : Tn ρ Z w ρ Z w := ⟨fun _ _ h => h, fun _ h _ => h, [], Ext.refl _ _, fun _ h => by cases h⟩
theorem Tn.rep {N : Uni} {T : ErrT} {ρ ρ' : Env1} {Z Z' : Nat → Prop} {w w' : World} (h : Tn ρ Z w ρ' Z' w') {v : Value} {s : SV N} (r : Rep N T ρ Z w v s) : Rep N T ρ' Z' w' v s := by
  obtain ⟨B, x, hB⟩ := h.ext
  exact r.stab x hB h.z h.rho
theorem Tn.trans {ρ ρ1 ρ2 : Env1} {Z Z1 Z2 : Nat → Prop} {w w1 w2 : World} (h : Tn ρ Z w ρ1 Z1 w1) (k : Tn ρ1 Z1 w1 ρ2 Z2 w2) : Tn ρ Z w ρ2 Z2 w2 := by
  obtain ⟨B, x, hB⟩ := h.ext
  obtain ⟨B', x', hB'⟩ := k.ext
  refine ⟨fun i L e => k.rho _ _ (h.rho _ _ e), fun b hz hb => k.z b (h.z b hz hb) (by have := x.size; omega), B ++ B'.filter (fun b => decide (b < w.heap.size)), x.trans x' (fun b hb => .inl (by simp [hb])) (fun b hb => ?_), fun b hb hz => ?_⟩
  · by_cases e : b < w.heap.size
    · left; simp [hb, e]
    · right; omega
  · rcases List.mem_append.1 hb with hb | hb
    · exact hB b hb hz
    · simp only [List.mem_filter, decide_eq_true_eq] at hb
      have := hB' b hb.1 (h.z b hz hb.2)
      have := x.size
      omega
section
variable {E : Env} {C : Ctx} {ρ ρ' : Env1} {Z Z' : Nat → Prop} {w w' : World} {its : Items E.N} {nx : Nat}
def rset (ρ : Env1) (id : Nat) (L : Loc) : Env1 := fun i => if i = id then some L else ρ i
theorem rset_self {id : Nat} {L : Loc} : rset ρ id L id = some L := by simp [rset]
theorem rset_sub {id : Nat} {L : Loc} (h : ρ id = none) : ∀ i L', ρ i = some L' → rset ρ id L i = some L' := fun i L' e => by
  unfold rset
  split
  · rename_i he; subst he; rw [h] at e; cases e
  · exact e
theorem Mem.holds (hm : Mem E C ρ Z w its nx) {k : Nat} {p : Nat × Item E.N} (h : its[k]? = some p) : holds E.N E.T ρ p.1 Z w p.2 :=
  hm.sep.at k (t := toIt E.N E.T ρ C.B0 p.1 p.2) (by simp [toIts, h])
/-- Parts chosen of a memory, and told by more places. -/
theorem Mem.sel {its' : Items E.N} {nx' : Nat} (hm : Mem E C ρ Z w its nx) (hρ : ∀ i L, ρ i = some L → ρ' i = some L) (hfr : ∀ i, nx' ≤ i → ρ' i = none) (φ : Nat → Nat) (inj : ∀ i j, i < its'.length → j < its'.length → φ i = φ j → i = j) (h : ∀ (i : Nat) (p : Nat × Item E.N), its'[i]? = some p → its[φ i]? = some p) : Mem E C ρ' Z w its' nx' :=
  ⟨Sep.sel hm.sep φ (fun i j hi hj => inj i j (by simpa [toIts] using hi) (by simpa [toIts] using hj)) fun i t' hi => by
    obtain ⟨p, hp, rfl⟩ := toIts_get hi
    have hq := h i p hp
    exact ⟨_, by simp [toIts, hq], like_sub hρ (hm.holds hq)⟩, hfr, fun i L e => hρ _ _ (hm.ge i L e), hm.zge, hm.zle⟩
/-- Memory that a step laid behind it, ars a part with a name. -/
theorem Mem.laid {t : It} {i : Item E.N} {L : Loc} (hm : Mem E C ρ Z w its nx) (hs : Sep C.B0 C.w0 Z w' (t :: toIts E.N E.T ρ C.B0 its)) (hh : Go.Rx.holds E.N E.T (rset ρ nx L) nx Z w' i) (hF : ∀ b ∈ foot E.N (rset ρ nx L) nx i, b ∈ t.F) : Mem E C (rset ρ nx L) Z w' ((nx, i) :: its) (nx + 1) := by
  have hρ := rset_sub (L := L) (hm.fr nx (Nat.le_refl _))
  refine ⟨Sep.conv hs (by simp [toIts]) fun k s s' hk hk' => ?_, fun j hj => ?_, fun j L' e => hρ _ _ (hm.ge j L' e), hm.zge, hm.zle⟩
  · cases k with
    | zero =>
      simp [toIts] at hk hk'
      subst hk; subst hk'
      exact ⟨hh, toIt_stab, hF, rfl⟩
    | succ k =>
      have hk : (toIts E.N E.T ρ C.B0 its)[k]? = some s := hk
      have hk' : (toIts E.N E.T (rset ρ nx L) C.B0 its)[k]? = some s' := hk'
      obtain ⟨p, hp, rfl⟩ := toIts_get hk
      obtain ⟨p', hp', rfl⟩ := toIts_get hk'
      rw [hp] at hp'; cases hp'
      exact like_sub hρ (hs.at (k + 1) (t := toIt E.N E.T ρ C.B0 p.1 p.2) (by simp [toIts, hp]))
  · unfold rset
    rw [if_neg (by omega)]; exact hm.fr j (by omega)
theorem Tn.laid {id : Nat} {L : Loc} (h : ρ id = none) (x : Ext [] w w') : Tn ρ Z w (rset ρ id L) Z w' := ⟨rset_sub h, fun _ h _ => h, [], x, fun _ h => by cases h⟩
end
end Go.Rx
end
section
namespace Go.Rx
open Go Go.Wk Go.Wl
/-- A call whose arguments are lent: it lays nothing that its answer hangs on. -/
def LendOK (E : Env) (K : Nat) (args : List E.SV) (c : CR E.N) : Prop :=
  ∀ (D : Nat → Prop) (w : World) (vs : List Value), (∀ b, D b → b < w.heap.size) → E.G.is D w → Rep E.N E.T (fun _ => none) D w (.tuple vs.toArray) (.tup args) → CallR E.P K vs w (fun v w' => Ext [] w w' ∧ Rep E.N E.T (fun _ => none) (fun _ => False) w' v c.r ∧ allP c.hy)
/-- A method of a thing. -/
def ObcOK (E : Env) (K : Nat) (o : OC E.N) (x : E.N.O o.k) (args : List E.SV) (r : OR E.N o.k) : Prop :=
  ∀ (Z D : Nat → Prop) (w : World) (vs : List Value) (b : Nat) (F : List Nat), (∀ b, Z b → b < w.heap.size) → (∀ b, D b → b < w.heap.size) → (∀ b ∈ F, ¬ Z b ∧ ¬ D b) → ((E.N.oj o.k).ob b).is Z w x F → E.G.is D w → Rep E.N E.T (fun _ => none) D w (.tuple vs.toArray) (.tup args) →
    CallR E.P K (.pointer (some ⟨b, 0, none⟩) :: vs) w (fun v w' => ∃ F', ((E.N.oj o.k).ob b).is Z w' r.x F' ∧ Turn w w' F F' ∧ Rep E.N E.T (fun _ => none) (fun _ => False) w' v r.r ∧ allP r.hy)
/-- A call that writes a number's own cell. -/
def WrcOK (E : Env) (K : Nat) (o : WC E.N) (a : E.SV) (x : Int) (r : WR E.N) : Prop :=
  ∀ (D : Nat → Prop) (w : World) (v : Value) (b : Nat), (∀ b, D b → b < w.heap.size) → ¬ D b → E.G.is D w → Rep E.N E.T (fun _ => none) D w v a → Own w b o.S [.int .i64 x] → InI x →
    CallR E.P K [v, .iface o.T (.pointer (some ⟨b, 0, none⟩))] w (fun v' w' => Ext [b] w w' ∧ Own w' b o.S [.int .i64 r.x] ∧ InI r.x ∧ Rep E.N E.T (fun _ => none) (fun _ => False) w' v' r.r ∧ allP r.hy)
structure EnvOK (E : Env) : Prop where
  mixed : E.P.follows .mixedOrders = true
  zob : ∀ T k x, E.zob T = some ⟨k, x⟩ → ∃ zv, E.zeroV T = some zv ∧ ∀ Z w b, Own w b T zv.cells.toList → ((E.N.oj k).ob b).is Z w x [b]
  call : ∀ K, ((E.con K).isSome || (E.obc K).isSome || (E.inl K).isSome || (E.wrc K).isSome) = true → ∀ ars w, (callFunc K ars).run E.P w = .ok (.enter K ars) w
  inl : ∀ K fn, E.inl K = some fn → E.P.funcs[K]? = some fn
  con : ∀ K f args nx c, E.con K = some f → f args nx = some c → args.all pureS = true → allP c.ob → ConOK E.P E.N E.T E.G K args nx c
  lend : ∀ K f args nx c, E.con K = some f → E.lend K = true → f args nx = some c → c.its = [] → allP c.ob → LendOK E K args c
  obc : ∀ K o x args r, E.obc K = some o → o.C x args = some r → allP r.ob → ObcOK E K o x args r
  wrc : ∀ K o a x r, E.wrc K = some o → o.C a x = some r → allP r.ob → WrcOK E K o a x r
/-- What turned, ars a part of memory. -/
def tnI (Z : Nat → Prop) (w : World) : It := ⟨[], [], fun Z' w' => (∀ b, Z b → b < w.heap.size → Z' b) ∧ ∃ B, Ext B w w' ∧ ∀ b ∈ B, Z b → w.heap.size ≤ b⟩
theorem tnI_stab {Z : Nat → Prop} {w : World} : (tnI Z w).Stab := fun Z1 Z2 B w1 w2 h x hB hZ => by
  obtain ⟨h1, B', x', hB'⟩ := h
  have t1 : Tn (fun _ => none) Z w (fun _ => none) Z1 w1 := ⟨fun _ _ h => h, h1, B', x', hB'⟩
  have t2 : Tn (fun _ => none) Z1 w1 (fun _ => none) Z2 w2 := ⟨fun _ _ h => h, fun b hz _ => hZ b hz, B, x, fun b hb hz => hB b hb (.inr hz)⟩
  have t := t1.trans t2
  exact ⟨t.z, t.ext⟩
section
variable {E : Env} {C : Ctx} {n : Nat} {ops : List Oper} {Q : Exit → Fr → World → Prop} {rest : List Oper} {f : Fr} {w w' : World} {d : Nat}
variable {ty T T' : TypeId} {pos : String} {after : Array Edge} {x y z : Operand} {a b : Int} {ρ ρ' : Env1} {Z Z' : Nat → Prop} {its lkd : Items E.N} {nx : Nat} {s : S1 E.N}
theorem Mem.tn (hm : Mem E C ρ Z w its nx) : Sep C.B0 C.w0 Z w (tnI Z w :: toIts E.N E.T ρ C.B0 its) := Wl.Sep.fact hm.sep (t := tnI Z w) ⟨fun _ h _ => h, [], Ext.refl _ _, fun _ h => by cases h⟩ tnI_stab rfl rfl
theorem tn_of {k : Nat} {l : List It} {B0 : List Nat} {w0 : World} (hs : Sep B0 w0 Z' w' l) (hk : l[k]? = some (tnI Z w)) (hρ : ∀ i L, ρ i = some L → ρ' i = some L) : Tn ρ Z w ρ' Z' w' := by
  have h := hs.at k hk
  exact ⟨hρ, h.1, h.2⟩
abbrev KE (E : Env) (C : Ctx) (n : Nat) (ops : List Oper) (Q : Exit → Fr → World → Prop) (rest : List Oper) (f : Fr) (w : World) (d : Option Nat) (ρ : Env1) (Z : Nat → Prop) (lkd : Items E.N) (s : S1 E.N) : Prop :=
  ∀ v ρ' Z' w', Mem E C ρ' Z' w' (s.items ++ lkd) s.nx → Tn ρ Z w ρ' Z' w' → Rep E.N E.T ρ' Z' w' v s.v → allP s.hy → WL E.P false n ops Q rest (putF f d v) w'
theorem sepdrop1 {B0 : List Nat} {w0 : World} {t u : It} {l : List It} (hs : Sep B0 w0 Z w (t :: u :: l)) : Sep B0 w0 Z w (t :: l) :=
  ⟨hs.ext, hs.zlt, fun k s hk => by
    cases k with
    | zero => exact hs.ok 0 s hk
    | succ k => exact hs.ok (k + 2) s hk, fun j k s v hj hk hne => by
    cases j with
    | zero =>
      cases k with
      | zero => exact absurd rfl hne
      | succ k => exact hs.apart 0 (k + 2) s v hj hk (by omega)
    | succ j =>
      cases k with
      | zero => exact hs.apart (j + 2) 0 s v hj hk (by omega)
      | succ k => exact hs.apart (j + 2) (k + 2) s v hj hk (by omega)⟩
/-- A part that a step lays: named, and told. -/
theorem Mem.lay {t : It} {i : Item E.N} {L : Loc} (hm : Mem E C ρ Z w its nx) (hs : Sep C.B0 C.w0 Z w' (t :: tnI Z w :: toIts E.N E.T ρ C.B0 its)) (hh : Go.Rx.holds E.N E.T (rset ρ nx L) nx Z w' i) (hF : ∀ b ∈ foot E.N (rset ρ nx L) nx i, b ∈ t.F) : Mem E C (rset ρ nx L) Z w' ((nx, i) :: its) (nx + 1) ∧ Tn ρ Z w (rset ρ nx L) Z w' :=
  ⟨hm.laid (sepdrop1 hs) hh hF, tn_of (k := 1) hs rfl (rset_sub (hm.fr nx (Nat.le_refl _)))⟩
theorem sAlloc_ok (hE : EnvOK E) (hm : Mem E C ρ Z w (its ++ lkd) nx) (h : sAlloc its nx T = some s) (hn : Nat.blt d n = true) (K : KE E C n ops Q rest f w (some d) ρ Z lkd s) :
    WL E.P false n ops Q (⟨some d, .alloc T, ty, pos, after, none⟩ :: rest) f w := by
  unfold sAlloc at h
  split at h
  · rename_i k x hz
    simp only [Option.some.injEq] at h; subst h
    obtain ⟨zv, hzv, hob⟩ := hE.zob T k x hz
    refine Z_alloc hm.tn (run_zero hzv) hn fun b w' hs => ?_
    have ho := hs.at 0 rfl
    have ⟨m1, t1⟩ := hm.lay (i := .ob k nx x) (L := ⟨b, none, 0, 0, [b]⟩) hs ⟨_, _, rset_self, rset_self, hob Z w' b ho⟩ (fun y hy => by rw [foot_ob rset_self] at hy; exact hy)
    exact K _ _ _ _ m1 t1 (.ref rset_self) trivial
  · split at h
    · rename_i z hz
      have ⟨hf, h⟩ := bif_some h
      simp only [Option.some.injEq] at h; subst h
      unfold Env.zero at hz
      simp only [Option.map_eq_some_iff] at hz
      obtain ⟨zv, hzv, hc⟩ := hz
      refine Z_alloc hm.tn (run_zero hzv) hn fun b w' hs => ?_
      have ho := hs.at 0 rfl
      have hr : Rep E.N E.T (rset ρ nx ⟨b, none, 0, 0, [b]⟩) Z w' zv z := by rw [← hc]; exact cst_rep
      have ⟨m1, t1⟩ := hm.lay (i := .own T (leaves z)) (L := ⟨b, none, 0, 0, [b]⟩) hs ⟨_, _, rset_self, rfl, ho, hr.leaves hf⟩ (fun y hy => by rw [foot_own rset_self] at hy; exact hy)
      exact K _ _ _ _ m1 t1 (.ref rset_self) trivial
    · cases h
theorem sBox_ok {sx : E.SV} (hm : Mem E C ρ Z w (its ++ lkd) nx) (hx : Rep E.N E.T ρ Z w (ev f x) sx) (hf : flat sx = true) (hn : Nat.blt d n = true) (K : KE E C n ops Q rest f w (some d) ρ Z lkd ⟨[], [], .ref nx 0, (nx, .own T (leaves sx)) :: its, nx + 1⟩) :
    WL E.P false n ops Q (⟨some d, .box T x, ty, pos, after, none⟩ :: rest) f w := by
  refine Z_box hm.tn hn fun b w' hs => ?_
  have ho := hs.at 0 rfl
  have t0 := tn_of (ρ := ρ) (ρ' := ρ) (k := 1) hs rfl (fun _ _ h => h)
  have hr := Rep.sub (t0.rep hx) (rset_sub (L := ⟨b, none, 0, 0, [b]⟩) (hm.fr nx (Nat.le_refl _)))
  have ⟨m1, t1⟩ := hm.lay (i := .own T (leaves sx)) (L := ⟨b, none, 0, 0, [b]⟩) hs ⟨_, _, rset_self, rfl, ho, hr.leaves hf⟩ (fun y hy => by rw [foot_own rset_self] at hy; exact hy)
  exact K _ _ _ _ m1 t1 (.ref rset_self) trivial
theorem its_get {l l2 : Items E.N} {j : Nat} {p : Nat × Item E.N} (h : l[j]? = some p) : (l ++ l2)[j]? = some p := by
  have : j < l.length := by
    rcases Nat.lt_or_ge j l.length with h1 | h1
    · exact h1
    · rw [List.getElem?_eq_none h1] at h; cases h
  rw [List.getElem?_append_left this]; exact h
theorem lt_get {α : Type} {l : List α} {j : Nat} {p : α} (h : l[j]? = some p) : j < l.length := by
  rcases Nat.lt_or_ge j l.length with h1 | h1
  · exact h1
  · rw [List.getElem?_eq_none h1] at h; cases h
theorem toIts_at {l : Items E.N} {B0 : List Nat} {j : Nat} {p : Nat × Item E.N} (h : l[j]? = some p) : (toIts E.N E.T ρ B0 l)[j]? = some (toIt E.N E.T ρ B0 p.1 p.2) := by simp [toIts, h]
/-- One part turned. -/
theorem Mem.turn {j id : Nat} {i i' : Item E.N} {t' : It} (hm : Mem E C ρ Z w its nx) (hj : its[j]? = some (id, i)) (hs : Sep C.B0 C.w0 Z w' ((toIts E.N E.T ρ C.B0 its).set j t')) (hh : Go.Rx.holds E.N E.T ρ id Z w' i') (hF : ∀ b ∈ foot E.N ρ id i', b ∈ t'.F) : Mem E C ρ Z w' (its.set j (id, i')) nx := by
  refine ⟨Sep.conv hs (by simp [toIts]) fun k s s' hk hk' => ?_, hm.fr, hm.ge, hm.zge, hm.zle⟩
  obtain ⟨p', hp', rfl⟩ := toIts_get hk'
  have hlt := lt_get hj
  by_cases e : k = j
  · subst e
    rw [List.getElem?_set_self (by simpa [toIts] using hlt)] at hk
    rw [List.getElem?_set_self hlt] at hp'
    cases hk; cases hp'
    exact ⟨hh, toIt_stab, hF, rfl⟩
  · rw [List.getElem?_set_ne (Ne.symm e)] at hk hp'
    obtain ⟨p, hp, rfl⟩ := toIts_get hk
    rw [hp] at hp'; cases hp'
    exact like_refl (hs.at k (t := toIt E.N E.T ρ C.B0 p'.1 p'.2) (by rw [List.getElem?_set_ne (Ne.symm e)]; exact toIts_at hp))
theorem septn {B0 : List Nat} {w0 : World} {u : It} {l : List It} (hs : Sep B0 w0 Z w (u :: l)) : Sep B0 w0 Z w l := hs.drop
theorem sStore_ref {sx : E.SV} {id off : Nat} {S : Nat} {cells : List E.SV} (hm : Mem E C ρ Z w (its ++ lkd) nx) (ha : Rep E.N E.T ρ Z w (ev f x) (.ref id off)) (hx : Rep E.N E.T ρ Z w (ev f y) sx) (hi : lk its id = some (.own S cells)) {mm : Nat} (hz : E.size T = some mm) (hle : off + mm ≤ cells.length) (hf : flat sx = true) (hl : (leaves sx).length = mm)
    (K : KE E C n ops Q rest f w none ρ Z lkd ⟨[], [], .un, upd1 its id (.own S (setLeaves E cells off (leaves sx))), nx⟩) :
    WL E.P false n ops Q (⟨none, .store T x y, ty, pos, after, none⟩ :: rest) f w := by
  obtain ⟨j, hj, hu, _⟩ := lk_mem hi
  have hj' : (its ++ lkd)[j]? = some (id, .own S cells) := its_get hj
  obtain ⟨L, cs, hL, hbs, ho, hr⟩ := hm.holds hj'
  generalize hv : ev f x = vx at ha
  cases ha with
  | ref hL' =>
    rw [hL] at hL'; cases hL'
    have hlv := hx.leaves hf
    have hcl := hr.len
    -- the part ars a block
    have hs1 := Wl.Sep.upd hm.tn (j + 1) (t := toIt E.N E.T ρ C.B0 id (.own S cells)) (t' := iOwn L.b S cs C.B0) (w' := w) (by rw [List.getElem?_cons_succ]; exact toIts_at hj') (Ext.refl _ _) ho sOwn (fun b hb => ⟨.inl (by show b ∈ foot E.N ρ id (.own S cells); rw [foot_own hL, hbs]; exact hb), by have := ho.lt; simp at hb; omega⟩) rfl
    have hjt : j < (toIts E.N E.T ρ C.B0 (its ++ lkd)).length := by simpa [toIts] using lt_get hj'
    refine Z_store hs1 (j + 1) (E := S) (O := C.B0) (by rw [List.getElem?_set_self (by simpa using hjt)]) (run_size hz) hv (c := (ev f y).cells.toList) rfl (by rw [hlv.len, hl]) (by omega) hlv.plain fun w' hs => ?_
    rw [List.set_set] at hs
    have t1 := tn_of (Z := Z) (w := w) (ρ := ρ) (ρ' := ρ) (k := 0) hs (by simp) (fun _ _ h => h)
    have hs2 : Sep C.B0 C.w0 Z w' ((toIts E.N E.T ρ C.B0 (its ++ lkd)).set j (iOwn L.b S (splice cs off (ev f y).cells.toList) C.B0)) := septn (u := tnI Z w) (by simpa using hs)
    have m1 := hm.turn (i' := .own S (setLeaves E cells off (leaves sx))) hj' hs2 ⟨L, _, hL, hbs, hs2.at j (t := iOwn L.b S (splice cs off (ev f y).cells.toList) C.B0) (by rw [List.getElem?_set_self hjt]), RepL.setLeaves (show RepL E.N E.T ρ Z w' cs cells from t1.rep hr) (show RepL E.N E.T ρ Z w' _ _ from t1.rep hlv)⟩ (fun b hb => by rw [foot_own hL, hbs] at hb; exact hb)
    refine K .nilIface ρ Z w' ?_ t1 .un trivial
    rw [hu]
    have : (its ++ lkd).set j (id, .own S (setLeaves E cells off (leaves sx))) = its.set j (id, .own S (setLeaves E cells off (leaves sx))) ++ lkd := by rw [List.set_append_left _ _ (lt_get hj)]
    rw [← this]; exact m1
/-- What is let go, and turns no more. -/
theorem Mem.freeze {j id : Nat} {i i' : Item E.N} (hm : Mem E C ρ Z w its nx) (hj : its[j]? = some (id, i)) (hh : Go.Rx.holds E.N E.T ρ id (fun b => Z b ∨ b ∈ foot E.N ρ id i) w i') (hF : foot E.N ρ id i' = []) : Mem E C ρ (fun b => Z b ∨ b ∈ foot E.N ρ id i) w (its.set j (id, i')) nx ∧ Tn ρ Z w ρ (fun b => Z b ∨ b ∈ foot E.N ρ id i) w := by
  have hs := Wl.Sep.freeze hm.sep j (t := toIt E.N E.T ρ C.B0 id i) (t' := ⟨[], [], fun _ _ => True⟩) (toIts_at hj) trivial (fun _ _ _ _ _ _ _ _ _ => trivial) rfl rfl
  have hlt := lt_get hj
  refine ⟨⟨Sep.conv hs (by simp [toIts]) fun k s s' hk hk' => ?_, hm.fr, hm.ge, fun b hb => .inl (hm.zge b hb), fun b hb => ?_⟩, ⟨fun _ _ h => h, fun b h _ => .inl h, [], Ext.refl _ _, fun _ h => by cases h⟩⟩
  · obtain ⟨p', hp', rfl⟩ := toIts_get hk'
    by_cases e : k = j
    · subst e
      rw [List.getElem?_set_self hlt] at hp'
      cases hp'
      exact ⟨hh, toIt_stab, fun b hb => (by rw [show (toIt E.N E.T ρ C.B0 id i').F = foot E.N ρ id i' from rfl, hF] at hb; cases hb), rfl⟩
    · rw [List.getElem?_set_ne (Ne.symm e)] at hk hp'
      obtain ⟨p, hp, rfl⟩ := toIts_get hk
      rw [hp] at hp'; cases hp'
      exact like_refl (hs.at k (t := toIt E.N E.T ρ C.B0 p'.1 p'.2) (by rw [List.getElem?_set_ne (Ne.symm e)]; exact toIts_at hp))
  · rcases hb with h | h
    · exact hm.zle b h
    · have := (hm.sep.ok j _ (toIts_at hj)).org b h
      rcases this with h | h
      · exact .inr (.inl h)
      · exact .inr (.inr h)
end
end Go.Rx
end
section
namespace Go.Rx
open Go Go.Wk Go.Wl
section
variable {E : Env} {C : Ctx} {n : Nat} {ops : List Oper} {Q : Exit → Fr → World → Prop} {rest : List Oper} {f : Fr} {w w' : World} {d : Nat}
variable {ty T T' : TypeId} {pos : String} {after : Array Edge} {x y z : Operand} {a b : Int} {ρ ρ' : Env1} {Z Z' : Nat → Prop} {its its' lkd : Items E.N} {nx : Nat} {s : S1 E.N}
/-- Values told anew, one by one. -/
def Each (E : Env) (ρ : Env1) (Z Z' : Nat → Prop) (w : World) (vs vs' : List E.SV) : Prop := vs'.length = vs.length ∧ ∀ (i : Nat) (s s' : E.SV), vs[i]? = some s → vs'[i]? = some s' → ∀ v, Rep E.N E.T ρ Z w v s → Rep E.N E.T ρ Z' w v s'
theorem Each.nil : Each E ρ Z Z' w [] [] := ⟨rfl, fun i s s' h => by simp at h⟩
theorem Each.cons {s s' : E.SV} {vs vs' : List E.SV} (h : ∀ v, Rep E.N E.T ρ Z w v s → Rep E.N E.T ρ Z' w v s') (r : Each E ρ Z Z' w vs vs') : Each E ρ Z Z' w (s :: vs) (s' :: vs') :=
  ⟨by simp [r.1], fun i u u' hu hu' => by
    cases i with
    | zero => simp at hu hu'; subst hu; subst hu'; exact h
    | succ i => exact r.2 i u u' (by simpa using hu) (by simpa using hu')⟩
theorem Each.repL {vs vs' : List E.SV} (h : Each E ρ Z Z' w vs vs') {cs : List Value} (r : RepL E.N E.T ρ Z w cs vs) : RepL E.N E.T ρ Z' w cs vs' := by
  induction vs generalizing vs' cs with
  | nil =>
    have := h.1
    obtain rfl := RepL.nil_inv r
    match vs', this with
    | [], _ => exact RepL.nil
  | cons s vs ih =>
    obtain ⟨v, rr, rfl, h1, hp, h2⟩ := RepL.cons_inv r
    match vs', h.1 with
    | s' :: vs', _ => exact Rep.agg1 (h.2 0 s s' rfl rfl v h1) hp (ih (vs' := vs') ⟨by have := h.1; simpa using this, fun i u u' hu hu' => h.2 (i + 1) u u' hu hu'⟩ h2)
theorem Each.tup {vs vs' : List E.SV} (h : Each E ρ Z Z' w vs vs') {cs : List Value} (r : Rep E.N E.T ρ Z w (.tuple cs.toArray) (.tup vs)) : Rep E.N E.T ρ Z' w (.tuple cs.toArray) (.tup vs') := by
  induction vs generalizing vs' cs with
  | nil =>
    have := h.1
    generalize e : Value.tuple cs.toArray = u at r
    match vs', this with
    | [], _ => cases r with | tup0 => exact .tup0
  | cons s vs ih =>
    obtain ⟨v, rr, rfl, h1, h2⟩ := Rep.tup_cons r
    match vs', h.1 with
    | s' :: vs', _ => exact Rep.tup1 (h.2 0 s s' rfl rfl v h1) (ih (vs' := vs') ⟨by have := h.1; simpa using this, fun i u u' hu hu' => h.2 (i + 1) u u' hu hu'⟩ h2)
theorem frz0_ok : ∀ {vs vs' : List E.SV} {its its' : Items E.N} {Z : Nat → Prop}, Mem E C ρ Z w (its ++ lkd) nx → frz0 its vs = some (vs', its') → ∃ Z', Mem E C ρ Z' w (its' ++ lkd) nx ∧ Tn ρ Z w ρ Z' w ∧ Each E ρ Z Z' w vs vs'
  | [], vs', its, its', Z, hm, h => by
    simp [frz0] at h; obtain ⟨rfl, rfl⟩ := h
    exact ⟨Z, hm, Tn.refl _ _ _, Each.nil⟩
  | v :: r, vs', its, its', Z, hm, h => by
    have other : (match frz0 its r with | some (r', its') => some (v :: r', its') | none => none) = some (vs', its') → ∃ Z', Mem E C ρ Z' w (its' ++ lkd) nx ∧ Tn ρ Z w ρ Z' w ∧ Each E ρ Z Z' w (v :: r) vs' := fun h => by
      split at h
      · rename_i r' its1 hr
        simp only [Option.some.injEq, Prod.mk.injEq] at h
        obtain ⟨rfl, rfl⟩ := h
        obtain ⟨Z', hm', ht, he⟩ := frz0_ok hm hr
        exact ⟨Z', hm', ht, Each.cons (fun u hu => ht.rep hu) he⟩
      · cases h
    cases v with
    | acc id =>
      simp only [frz0] at h
      split at h
      · rename_i t l hi
        split at h
        · rename_i r' its1 hr
          simp only [Option.some.injEq, Prod.mk.injEq] at h
          obtain ⟨rfl, rfl⟩ := h
          obtain ⟨j, hj, hu, _⟩ := lk_mem hi
          obtain ⟨L, hL, hn1, hl, hac⟩ := hm.holds (its_get hj)
          have hrd := Ac.rd hac hl
          have ⟨m1, t1⟩ := hm.freeze (i' := .fz t l) (its_get hj) ⟨L, hL, hn1, by rw [foot_ac hL]; exact hrd⟩ rfl
          rw [List.set_append_left _ _ (lt_get hj), ← hu] at m1
          obtain ⟨Z', hm', ht, he⟩ := frz0_ok m1 hr
          refine ⟨Z', hm', t1.trans ht, ?_⟩
          have he' : Each E ρ Z Z' w r r' := ⟨he.1, fun i s s' hs hs' u hu => he.2 i s s' hs hs' u (t1.rep hu)⟩
          refine Each.cons (fun u hu' => ?_) he'
          cases hu' with
          | acc hL' =>
            have hL : ρ id = some L := hL
            rw [hL] at hL'; cases hL'
            have : Rep E.N E.T ρ (fun b => Z b ∨ b ∈ foot E.N ρ id (.ac t l)) w (.slice L.A L.n L.cap) (.sl t l : E.SV) := .sl (by rw [foot_ac hL]; exact hrd)
            exact ht.rep this
        · cases h
      · rename_i t l hi
        split at h
        · rename_i r' its1 hr
          simp only [Option.some.injEq, Prod.mk.injEq] at h
          obtain ⟨rfl, rfl⟩ := h
          obtain ⟨j, hj, _⟩ := lk_mem hi
          obtain ⟨L, hL, hn1, hrd⟩ := hm.holds (its_get hj)
          obtain ⟨Z', hm', ht, he⟩ := frz0_ok hm hr
          refine ⟨Z', hm', ht, Each.cons (fun u hu' => ?_) he⟩
          cases hu' with
          | acc hL' =>
            have hL : ρ id = some L := hL
            rw [hL] at hL'; cases hL'
            exact ht.rep (.sl hrd)
        · cases h
      · cases h
    | ref => cases h
    | el => cases h
    | clo => cases h
    | agg => cases h
    | tup => cases h
    | _ => exact other h
theorem frz1_ok {v v' : E.SV} (hm : Mem E C ρ Z w (its ++ lkd) nx) (h : frz1 its v = some (v', its')) : ∃ Z', Mem E C ρ Z' w (its' ++ lkd) nx ∧ Tn ρ Z w ρ Z' w ∧ ∀ u, Rep E.N E.T ρ Z w u v → Rep E.N E.T ρ Z' w u v' := by
  have other : (match frz0 its [v] with | some ([v'], its') => some (v', its') | _ => none) = some (v', its') → ∃ Z', Mem E C ρ Z' w (its' ++ lkd) nx ∧ Tn ρ Z w ρ Z' w ∧ ∀ u, Rep E.N E.T ρ Z w u v → Rep E.N E.T ρ Z' w u v' := fun h => by
    split at h
    · rename_i u its1 hf
      simp only [Option.some.injEq, Prod.mk.injEq] at h
      obtain ⟨rfl, rfl⟩ := h
      obtain ⟨Z', hm', ht, he⟩ := frz0_ok hm hf
      exact ⟨Z', hm', ht, he.2 0 _ _ rfl rfl⟩
    · cases h
  cases v with
  | agg vs =>
    simp only [frz1] at h
    split at h
    · rename_i vs' its1 hf
      simp only [Option.some.injEq, Prod.mk.injEq] at h
      obtain ⟨rfl, rfl⟩ := h
      obtain ⟨Z', hm', ht, he⟩ := frz0_ok hm hf
      refine ⟨Z', hm', ht, fun u hu => ?_⟩
      obtain ⟨cs, rfl, hr⟩ := Rep.agg_inv hu
      exact he.repL hr
    · cases h
  | _ => exact other h
theorem frz_ok : ∀ {vs vs' : List E.SV} {its its' : Items E.N} {Z : Nat → Prop}, Mem E C ρ Z w (its ++ lkd) nx → frz its vs = some (vs', its') → ∃ Z', Mem E C ρ Z' w (its' ++ lkd) nx ∧ Tn ρ Z w ρ Z' w ∧ Each E ρ Z Z' w vs vs'
  | [], vs', its, its', Z, hm, h => by
    simp [frz] at h; obtain ⟨rfl, rfl⟩ := h
    exact ⟨Z, hm, Tn.refl _ _ _, Each.nil⟩
  | v :: r, vs', its, its', Z, hm, h => by
    unfold frz at h
    split at h
    · rename_i v' its1 h1
      split at h
      · rename_i r' its2 h2
        simp only [Option.some.injEq, Prod.mk.injEq] at h
        obtain ⟨rfl, rfl⟩ := h
        obtain ⟨Z1, m1, t1, e1⟩ := frz1_ok hm h1
        obtain ⟨Z2, m2, t2, e2⟩ := frz_ok m1 h2
        exact ⟨Z2, m2, t1.trans t2, Each.cons (fun u hu => t2.rep (e1 u hu)) ⟨e2.1, fun i s s' hs hs' u hu => e2.2 i s s' hs hs' u (t1.rep hu)⟩⟩
      · cases h
    · cases h
theorem sMakeI_ok {sx : E.SV} (hm : Mem E C ρ Z w (its ++ lkd) nx) (hx : Rep E.N E.T ρ Z w (ev f x) sx) (h : sMakeI its nx T sx = some s) (hn : Nat.blt d n = true) (K : KE E C n ops Q rest f w (some d) ρ Z lkd s) :
    WL E.P false n ops Q (⟨some d, .makeInterface T x, ty, pos, after, none⟩ :: rest) f w := by
  generalize hv : ev f x = vx at hx
  cases sx with
  | ref id off =>
    simp only [sMakeI] at h
    split at h
    · rename_i S cells hi
      have ⟨h1, h2⟩ := bif_some h
      simp only [Bool.and_eq_true] at h1
      obtain ⟨⟨⟨e1, e2⟩, e3⟩, e4⟩ := h1
      have e1 := Nat.eq_of_beq_eq_true e1
      have e2 := Nat.eq_of_beq_eq_true e2
      have e3 := Nat.eq_of_beq_eq_true e3
      subst e1; subst e2; subst e3
      split at h2
      · rename_i a nn
        simp only [Option.some.injEq] at h2; subst h2
        obtain ⟨j, hj, _, hr⟩ := lk_mem hi
        obtain ⟨L, cs, hL, hbs, ho, hrep⟩ := hm.holds (its_get hj)
        cases hx with
        | ref hL' =>
          have hL : ρ id = some L := hL
          rw [hL] at hL'; cases hL'
          obtain ⟨v1, r1, rfl, ha, _, hrep⟩ := RepL.cons_inv hrep
          obtain ⟨v2, r2, rfl, hb, _, hrep⟩ := RepL.cons_inv hrep
          obtain rfl := RepL.nil_inv hrep
          cases ha with
          | int ha =>
            cases hb with
            | int hb =>
              have hs := Wl.Sep.freeze hm.sep j (t := toIt E.N E.T ρ C.B0 id (.own E.T.fs [.int .i64 a, .int .i64 nn])) (t' := ⟨[], [], fun _ _ => True⟩) (toIts_at (its_get hj)) trivial (fun _ _ _ _ _ _ _ _ _ => trivial) rfl rfl
              have hF : (toIt E.N E.T ρ C.B0 id (.own E.T.fs [.int .i64 a, .int .i64 nn])).F = [L.b] := by show foot E.N ρ id (.own E.T.fs [.int .i64 a, .int .i64 nn]) = [L.b]; rw [foot_own hL]; exact hbs
              rw [hF] at hs
              have t1 : Tn ρ Z w ρ (fun b => Z b ∨ b ∈ [L.b]) w := ⟨fun _ _ h => h, fun b h _ => .inl h, [], Ext.refl _ _, fun _ h => by cases h⟩
              have hjl := lt_get hj
              have m1 : Mem E C ρ (fun b => Z b ∨ b ∈ [L.b]) w (rmv its id ++ lkd) nx := by
                rw [hr]
                refine ⟨Sep.sel hs (fun i => if i < j then i else i + 1) (fun i k _ _ e => by have e : (if i < j then i else i + 1) = (if k < j then k else k + 1) := e; split at e <;> split at e <;> omega) fun i t' hi' => ?_, hm.fr, hm.ge, fun b hb => .inl (hm.zge b hb), fun b hb => ?_⟩
                · obtain ⟨p, hp, rfl⟩ := toIts_get hi'
                  have hpe : its.eraseIdx j ++ lkd = (its ++ lkd).eraseIdx j := by rw [List.eraseIdx_append_of_lt_length hjl]
                  rw [hpe, List.getElem?_eraseIdx] at hp
                  have key : ∀ k, k ≠ j → (its ++ lkd)[k]? = some p → ∃ t, ((toIts E.N E.T ρ C.B0 (its ++ lkd)).set j ⟨[], [], fun _ _ => True⟩)[k]? = some t ∧ Like C.B0 (fun b => Z b ∨ b ∈ [L.b]) w t (toIt E.N E.T ρ C.B0 p.1 p.2) := fun k hk hp => by
                    have e : ((toIts E.N E.T ρ C.B0 (its ++ lkd)).set j ⟨[], [], fun _ _ => True⟩)[k]? = some (toIt E.N E.T ρ C.B0 p.1 p.2) := by rw [List.getElem?_set_ne (Ne.symm hk)]; exact toIts_at hp
                    exact ⟨_, e, like_refl (hs.at k e)⟩
                  by_cases hlt : i < j
                  · rw [if_pos hlt] at hp ⊢; exact key i (by omega) hp
                  · rw [if_neg hlt] at hp ⊢; exact key (i + 1) (by omega) hp
                · rcases hb with h | h
                  · exact hm.zle b h
                  · have := (hm.sep.ok j _ (toIts_at (its_get hj))).org b (by rw [hF]; exact h)
                    rcases this with h | h
                    · exact .inr (.inl h)
                    · exact .inr (.inr h)
              obtain ⟨e, hT⟩ := isPtr_run e4
              exact S_makeI hT rfl hv hn (K _ ρ _ w m1 t1 (.err (.fault (.inr (by simp)) ho (ha rfl) (hb rfl))) trivial)
      · cases h2
    · cases h
  | _ => cases h
theorem wrapA_rep {ls : List E.SV} {cs : List Value} (h : RepL E.N E.T ρ Z w cs ls) : RepL E.N E.T ρ Z w cs (leaves (wrapA ls)) := by
  match ls, h with
  | [], h => exact h
  | [s], h =>
    obtain ⟨v, rfl, h1, hp⟩ := RepL.one_inv h
    show RepL E.N E.T ρ Z w [v] (leaves s)
    cases s with
    | agg vs => obtain ⟨cs, rfl, _⟩ := Rep.agg_inv h1; cases hp
    | _ => exact h
  | s :: u :: r, h => exact h
theorem sStoreEl_ok {sx : E.SV} {id t off : Nat} {i : Int} (hm : Mem E C ρ Z w (its ++ lkd) nx) (ha : Rep E.N E.T ρ Z w (ev f x) (.el id t i off)) (hx : Rep E.N E.T ρ Z w (ev f y) sx) (h : sStoreEl its nx T id t i off sx = some s) (K : KE E C n ops Q rest f w none ρ Z lkd s) :
    WL E.P false n ops Q (⟨none, .store T x y, ty, pos, after, none⟩ :: rest) f w := by
  unfold sStoreEl at h
  split at h
  · rename_i v its1 hf
    obtain ⟨Z1, hm1, t1, hr1⟩ := frz1_ok hm hf
    have hv := hr1 _ hx
    split at h
    · rename_i t' l hi
      split at h
      · rename_i ht
        subst ht
        split at h
        · rename_i yy hty
          have ⟨h1, h2⟩ := bif_some h
          clear h
          simp only [Bool.and_eq_true] at h1
          obtain ⟨⟨⟨⟨e1, e2⟩, e3⟩, e4⟩, e5⟩ := h1
          have e1 := Nat.le_of_ble_eq_true e1
          have e4 := Nat.eq_of_beq_eq_true e4
          split at h2
          · rename_i x' hb
            simp only [Option.some.injEq] at h2; subst h2
            obtain ⟨j, hj, hu, _⟩ := lk_mem hi
            obtain ⟨L, hL, hn1, hlen, hac⟩ := hm1.holds (its_get hj)
            cases hsz : E.size T with
            | none => rw [hsz] at e3; cases e3
            | some mm =>
              rw [hsz] at e1 e4
              simp only [Option.getD_some] at e1 e4
              generalize hvx : ev f x = vx at ha
              cases ha with
              | el hL' h0 h1 =>
                have hL : ρ id = some L := hL
                rw [hL] at hL'; cases hL'
                have hlv := hv.leaves e2
                have hjt : j < (toIts E.N E.T ρ C.B0 (its1 ++ lkd)).length := by simpa [toIts] using lt_get (its_get (l2 := lkd) hj)
                have hs1 := Wl.Sep.upd hm1.tn (j + 1) (t := toIt E.N E.T ρ C.B0 id (.ac t' l)) (t' := iAc (E.N.tb t').r (.slice L.A L.n L.cap) l L.bs C.B0) (w' := w) (by rw [List.getElem?_cons_succ]; exact toIts_at (its_get hj)) (Ext.refl _ _) hac sAc (fun b hb => ⟨.inl (by show b ∈ foot E.N ρ id (.ac t' l); rw [foot_ac hL]; exact hb), hac.lt b hb⟩) rfl
                have hget : ∀ e : E.N.U t', l.getD i.toNat e = ix l i := fun e => by
                  rw [ix_get (by omega), List.getD_eq_getElem?_getD, List.getElem?_eq_getElem (by omega)]; rfl
                have hcs : ∀ c0, (E.N.tb t').r.rd Z1 w c0 (l.getD i.toNat x') → c0.length = (E.N.tb t').r.sz → off + (ev f y).cells.toList.length ≤ (E.N.tb t').r.sz ∧ (E.N.tb t').r.rd Z1 w (splice c0 off (ev f y).cells.toList) x' := fun c0 hr hc => by
                  rw [hget] at hr
                  have hsv : RepL E.N E.T ρ Z1 w c0 (leaves (yy.sv (ix (castL rfl l) i))) := yy.sv_ok hr
                  have hl1 := hsv.len
                  have hl2 := hlv.len
                  refine ⟨by omega, yy.bk_ok (wrapA_rep (hsv.setLeaves (o := off) hlv)) hb⟩
                refine Z_storeEl hs1 (j + 1) (O := C.B0) (by rw [List.getElem?_set_self (by simpa using hjt)]) (run_size hsz) hvx rfl rfl rfl (by rw [hlv.len, e4]) h0 h1 hcs hlv.plain fun w' hs => ?_
                rw [List.set_set] at hs
                have t2 := tn_of (Z := Z1) (w := w) (ρ := ρ) (ρ' := ρ) (k := 0) hs (by simp) (fun _ _ h => h)
                have hs2 : Sep C.B0 C.w0 Z1 w' ((toIts E.N E.T ρ C.B0 (its1 ++ lkd)).set j (iAc (E.N.tb t').r (.slice L.A L.n L.cap) (l.set i.toNat x') L.bs C.B0)) := septn (u := tnI Z1 w) (by simpa using hs)
                have m1 := hm1.turn (i' := .ac t' (l.set i.toNat x')) (its_get hj) hs2 ⟨L, hL, by rw [List.length_set]; exact hn1, by rw [List.length_set]; exact hlen, hs2.at j (t := iAc (E.N.tb t').r (.slice L.A L.n L.cap) (l.set i.toNat x') L.bs C.B0) (by rw [List.getElem?_set_self hjt])⟩ (fun b hb => by rw [foot_ac hL] at hb; exact hb)
                refine K .nilIface ρ Z1 w' ?_ (t1.trans t2) .un trivial
                rw [hu, ← List.set_append_left _ _ (lt_get hj)]
                exact m1
          · cases h2
        · cases h
      · cases h
    · cases h
  · cases h
theorem elOk_run {t : Nat} (h : elOk E t = true) : (∀ w, (sizeOf t).run E.P w = .ok (E.N.tb t).r.sz w) ∧ 0 < (E.N.tb t).r.sz ∧ ∃ info zv, (∀ w, (typeInfo t).run E.P w = .ok info w) ∧ (E.bytes t).getD 0 = info.bytes ∧ 1 ≤ info.bytes ∧ (∀ w, (zeroValue t).run E.P w = .ok zv w) ∧ zv.cells.size = (E.N.tb t).r.sz ∧ E.zeroV t = some zv := by
  unfold elOk at h
  simp only [Bool.and_eq_true] at h
  obtain ⟨⟨⟨h1, h2⟩, h3⟩, h4⟩ := h
  refine ⟨szOk_run h1, blt_lt h2, ?_⟩
  cases hb : E.bytes t with
  | none => rw [hb] at h3; cases h3
  | some b =>
    rw [hb] at h3
    cases hz : E.zeroV t with
    | none => rw [hz] at h4; cases h4
    | some zv =>
      rw [hz] at h4
      have h3 := blt_lt h3
      unfold Env.bytes at hb
      simp only [Option.map_eq_some_iff] at hb
      obtain ⟨info, hi, rfl⟩ := hb
      exact ⟨info, zv, run_info hi, rfl, h3, run_zero hz, Nat.eq_of_beq_eq_true h4, rfl⟩
theorem srcL_ok {t : Nat} {sx : E.SV} {xs : List (E.N.U t)} {v : Value} (hm : Mem E C ρ Z w (its ++ lkd) nx) (hx : Rep E.N E.T ρ Z w v sx) (h : srcL E its t sx = some xs) : Src (E.N.tb t).r Z w v xs := by
  cases sx with
  | acc id =>
    simp only [srcL] at h
    split at h
    · rename_i t' l hi
      split at h
      · rename_i ht; subst ht
        simp only [Option.some.injEq] at h; subst h
        obtain ⟨j, hj, _⟩ := lk_mem hi
        obtain ⟨L, hL, hn1, hlen, hac⟩ := hm.holds (its_get hj)
        cases hx with
        | acc hL' =>
          have hL : ρ id = some L := hL
          rw [hL] at hL'; cases hL'
          exact Src.ac hac
      · cases h
    · cases h
  | _ => exact Src.data (asL_rd hx h)
end
end Go.Rx
end
section
namespace Go.Rx
open Go Go.Wk Go.Wl
section
variable {E : Env} {C : Ctx} {n : Nat} {ops : List Oper} {Q : Exit → Fr → World → Prop} {rest : List Oper} {f : Fr} {w w' : World} {d : Nat}
variable {ty T T' : TypeId} {pos : String} {after : Array Edge} {x y z : Operand} {a b : Int} {ρ ρ' : Env1} {Z Z' : Nat → Prop} {its its' lkd : Items E.N} {nx : Nat} {s : S1 E.N}
/-- A part that turned, under a new name. -/
theorem Mem.move {j id : Nat} {i i' : Item E.N} {L : Loc} {t' : It} (hm : Mem E C ρ Z w its nx) (hj : its[j]? = some (id, i)) (hs : Sep C.B0 C.w0 Z w' ((toIts E.N E.T ρ C.B0 its).set j t')) (hh : Go.Rx.holds E.N E.T (rset ρ nx L) nx Z w' i') (hF : ∀ b ∈ foot E.N (rset ρ nx L) nx i', b ∈ t'.F) : Mem E C (rset ρ nx L) Z w' ((nx, i') :: its.eraseIdx j) (nx + 1) := by
  have hρ := rset_sub (L := L) (hm.fr nx (Nat.le_refl _))
  have hjl := lt_get hj
  have hjt : j < (toIts E.N E.T ρ C.B0 its).length := by simpa [toIts] using hjl
  refine ⟨Sep.sel hs (fun k => match k with | 0 => j | k + 1 => if k < j then k else k + 1) (fun k1 k2 _ _ e => ?_) fun k t hk => ?_, fun k hk => ?_, fun k L' e => hρ _ _ (hm.ge k L' e), hm.zge, hm.zle⟩
  · cases k1 with
    | zero =>
      cases k2 with
      | zero => rfl
      | succ k2 => have e : j = (if k2 < j then k2 else k2 + 1) := e; split at e <;> omega
    | succ k1 =>
      cases k2 with
      | zero => have e : (if k1 < j then k1 else k1 + 1) = j := e; split at e <;> omega
      | succ k2 => have e : (if k1 < j then k1 else k1 + 1) = (if k2 < j then k2 else k2 + 1) := e; split at e <;> split at e <;> omega
  · cases k with
    | zero =>
      simp [toIts] at hk
      subst hk
      refine ⟨t', ?_, hh, toIt_stab, hF, rfl⟩
      show ((toIts E.N E.T ρ C.B0 its).set j t')[j]? = some t'
      rw [List.getElem?_set_self hjt]
    | succ k =>
      have hk : (toIts E.N E.T (rset ρ nx L) C.B0 (its.eraseIdx j))[k]? = some t := hk
      obtain ⟨p, hp, rfl⟩ := toIts_get hk
      rw [List.getElem?_eraseIdx] at hp
      have key : ∀ m, m ≠ j → its[m]? = some p → ∃ t, ((toIts E.N E.T ρ C.B0 its).set j t')[m]? = some t ∧ Like C.B0 Z w' t (toIt E.N E.T (rset ρ nx L) C.B0 p.1 p.2) := fun m hmj hp => by
        have e : ((toIts E.N E.T ρ C.B0 its).set j t')[m]? = some (toIt E.N E.T ρ C.B0 p.1 p.2) := by rw [List.getElem?_set_ne (Ne.symm hmj)]; exact toIts_at hp
        exact ⟨_, e, like_sub hρ (hs.at m e)⟩
      show ∃ t, ((toIts E.N E.T ρ C.B0 its).set j t')[if k < j then k else k + 1]? = some t ∧ _
      by_cases hlt : k < j
      · rw [if_pos hlt] at hp ⊢; exact key k (by omega) hp
      · rw [if_neg hlt] at hp ⊢; exact key (k + 1) (by omega) hp
  · unfold rset
    rw [if_neg (by omega)]; exact hm.fr k (by omega)
theorem len_of {k b : Nat} (h1 : 1 ≤ b) (h : k * b ≤ 140737488355328) : k ≤ 9223372036854775807 := by
  have := Nat.mul_le_mul_left k h1
  omega
theorem sAppend_ok {t : Nat} {xs : List (E.N.U t)} {sx : E.SV} (hm : Mem E C ρ Z w (its ++ lkd) nx) (hT : E.sliceOf T = some t) (hx : Rep E.N E.T ρ Z w (ev f x) sx) (hy : Src (E.N.tb t).r Z w (ev f y) xs) (h : sAppend E its nx t xs sx = some s) (ho : allP s.ob) (hn : Nat.blt d n = true) (K : KE E C n ops Q rest f w (some d) ρ Z lkd s) :
    WL E.P false n ops Q (⟨some d, .call ⟨.builtin .append, #[x, y], #[T, T]⟩, T, pos, after, none⟩ :: rest) f w := by
  generalize hvx : ev f x = vx at hx
  unfold sAppend at h
  cases sx with
  | nils =>
    have ⟨h1, h2⟩ := bif_some h
    simp only [Option.some.injEq] at h2; subst h2
    obtain ⟨hE, _, info, zv, hI, hb, hb1, hz, hzs, _⟩ := elOk_run h1
    have ho1 : xs.length * (E.bytes t).getD 0 ≤ 140737488355328 := ho.1
    rw [hb] at ho1
    cases hx
    have hs1 := Wl.Sep.fact hm.tn (t := iAc (E.N.tb t).r (.slice none 0 0) [] [] []) Ac.nil sAc rfl rfl
    refine Z_append (al := []) (xs := xs) (bs := []) (O := []) hs1 0 (by rw [hvx]; rfl) hy (sliceOf_run hT) hI hE hz hzs (by simpa using ho1) hb1 hn fun A cap bs' w' hs => ?_
    have hs' : Sep C.B0 C.w0 Z w' (iAc (E.N.tb t).r (.slice A xs.length cap) xs bs' [] :: tnI Z w :: toIts E.N E.T ρ C.B0 (its ++ lkd)) := hs
    have hac : Ac (E.N.tb t).r Z w' (.slice A xs.length cap) xs bs' := hs'.at 0 rfl
    have ⟨m1, t1⟩ := hm.lay (i := .ac t xs) (L := ⟨0, A, xs.length, cap, bs'⟩) hs' ⟨_, rset_self, rfl, len_of hb1 ho1, hac⟩ (fun y hy => by rw [foot_ac rset_self] at hy; exact hy)
    exact K _ _ _ _ m1 t1 (.acc rset_self) trivial
  | acc id =>
    simp only at h
    split at h
    · rename_i t' l hi
      split at h
      · rename_i ht
        subst ht
        have ⟨h1, h2⟩ := bif_some h
        simp only [Option.some.injEq] at h2; subst h2
        obtain ⟨hE, _, info, zv, hI, hb, hb1, hz, hzs, _⟩ := elOk_run h1
        have ho1 : (l.length + xs.length) * (E.bytes t').getD 0 ≤ 140737488355328 := ho.1
        rw [hb] at ho1
        obtain ⟨j, hj, _, hr⟩ := lk_mem hi
        obtain ⟨L, hL, hn1, hlen, hac⟩ := hm.holds (its_get hj)
        cases hx with
        | acc hL' =>
          have hL : ρ id = some L := hL
          rw [hL] at hL'; cases hL'
          have hjt : j < (toIts E.N E.T ρ C.B0 (its ++ lkd)).length := by simpa [toIts] using lt_get (its_get (l2 := lkd) hj)
          have hs1 := Wl.Sep.upd hm.tn (j + 1) (t := toIt E.N E.T ρ C.B0 id (.ac t' l)) (t' := iAc (E.N.tb t').r (.slice L.A L.n L.cap) l L.bs C.B0) (w' := w) (by rw [List.getElem?_cons_succ]; exact toIts_at (its_get hj)) (Ext.refl _ _) hac sAc (fun b hb => ⟨.inl (by show b ∈ foot E.N ρ id (.ac t' l); rw [foot_ac hL]; exact hb), hac.lt b hb⟩) rfl
          refine Z_append (al := l) (xs := xs) (bs := L.bs) (O := C.B0) hs1 (j + 1) (by rw [hvx, List.getElem?_set_self (by simpa using hjt)]) hy (sliceOf_run hT) hI hE hz hzs ho1 hb1 hn fun A cap bs' w' hs => ?_
          rw [List.set_set] at hs
          have t2 := tn_of (Z := Z) (w := w) (ρ := ρ) (ρ' := rset ρ nx ⟨0, A, (l ++ xs).length, cap, bs'⟩) (k := 0) hs (by simp) (rset_sub (hm.fr nx (Nat.le_refl _)))
          have hs2 : Sep C.B0 C.w0 Z w' ((toIts E.N E.T ρ C.B0 (its ++ lkd)).set j (iAc (E.N.tb t').r (.slice A (l ++ xs).length cap) (l ++ xs) bs' C.B0)) := septn (u := tnI Z w) (by simpa using hs)
          have m1 := hm.move (i' := .ac t' (l ++ xs)) (L := ⟨0, A, (l ++ xs).length, cap, bs'⟩) (its_get hj) hs2 ⟨_, rset_self, rfl, by rw [List.length_append]; exact len_of hb1 ho1, hs2.at j (t := iAc (E.N.tb t').r (.slice A (l ++ xs).length cap) (l ++ xs) bs' C.B0) (by rw [List.getElem?_set_self hjt])⟩ (fun b hb => by rw [foot_ac rset_self] at hb; exact hb)
          refine K _ _ _ _ ?_ t2 (.acc rset_self) trivial
          have e : (nx, Item.ac t' (l ++ xs)) :: (its ++ lkd).eraseIdx j = ((nx, Item.ac t' (castL rfl l ++ xs)) :: rmv its id) ++ lkd := by
            rw [hr, List.eraseIdx_append_of_lt_length (lt_get hj)]; rfl
          rw [← e]; exact m1
      · cases h
    · cases h
  | _ => cases h
theorem AllRd.mono {α : Type} {r : Rd α} {Z Z' : Nat → Prop} {w : World} (hZ : ∀ b, Z b → b < w.heap.size → Z' b) : ∀ {cs : List (List Value)} {xs : List α}, AllRd r Z w cs xs → AllRd r Z' w cs xs
  | [], [], _ => trivial
  | [], _ :: _, h => h.elim
  | _ :: _, [], h => h.elim
  | c :: cs, x :: xs, ⟨h1, h2⟩ => ⟨r.weak h1 hZ, AllRd.mono hZ h2⟩
theorem litL_ok {t : Nat} {yy : TyI E.N E.T t} {e : Operand → E.SV} : ∀ {ps : List (Nat × Operand)} {its its' : Items E.N} {Z : Nat → Prop} {xs : List (E.N.U t)}, Mem E C ρ Z w (its ++ lkd) nx → (∀ o, Rep E.N E.T ρ Z w (ev f o) (e o)) → litL E yy e its ps = some (xs, its') →
    ∃ Z', Mem E C ρ Z' w (its' ++ lkd) nx ∧ Tn ρ Z w ρ Z' w ∧ AllRd (E.N.tb t).r Z' w (ps.map fun p => (ev f p.2).cells.toList) xs ∧ xs.length = ps.length
  | [], its, its', Z, xs, hm, he, h => by
    simp [litL] at h; obtain ⟨rfl, rfl⟩ := h
    exact ⟨Z, hm, Tn.refl _ _ _, trivial, rfl⟩
  | p :: r, its, its', Z, xs, hm, he, h => by
    unfold litL at h
    split at h
    · rename_i v its1 hf
      obtain ⟨Z1, hm1, t1, hr1⟩ := frz1_ok hm hf
      have ⟨h1, h2⟩ := bif_some h
      split at h2
      · rename_i x xs' its2 hb hl
        simp only [Option.some.injEq, Prod.mk.injEq] at h2
        obtain ⟨rfl, rfl⟩ := h2
        obtain ⟨Z', hm', t', ha, hlen⟩ := litL_ok hm1 (fun o => t1.rep (he o)) hl
        exact ⟨Z', hm', t1.trans t', ⟨(E.N.tb t).r.weak (yy.bk_ok ((hr1 _ (he p.2)).leaves h1) hb) t'.z, ha⟩, by simp [hlen]⟩
      · cases h2
    · cases h
theorem inOrd_map {e : Operand → Value} : ∀ {ps : List (Nat × Operand)} {i : Nat}, inOrd i ps = true → inOrder i (ps.map fun p => (p.1, e p.2)) = true
  | [], _, _ => rfl
  | p :: r, i, h => by
    simp only [inOrd, Bool.and_eq_true] at h
    simp only [List.map_cons, inOrder, Bool.and_eq_true]
    exact ⟨h.1, inOrd_map h.2⟩
theorem AllRd.sizes {α : Type} {r : Rd α} {Z : Nat → Prop} {w : World} {e : Operand → Value} : ∀ {ps : List (Nat × Operand)} {xs : List α}, AllRd r Z w (ps.map fun p => (e p.2).cells.toList) xs → (ps.map fun p => (p.1, e p.2)).all (fun p => Nat.beq p.2.cells.size r.sz) = true
  | [], _, _ => rfl
  | _ :: _, [], h => h.elim
  | p :: ps, x :: xs, ⟨h1, h2⟩ => by
    simp only [List.map_cons, List.all_cons, Bool.and_eq_true]
    refine ⟨?_, AllRd.sizes h2⟩
    have := r.len h1
    rw [Array.length_toList] at this
    rw [this]; exact Nat.beq_refl _
theorem sLit_ok {e : Operand → E.SV} {len : Nat} {ps : Array (Nat × Operand)} (hm : Mem E C ρ Z w (its ++ lkd) nx) (he : ∀ o, Rep E.N E.T ρ Z w (ev f o) (e o)) (h : sLit E its nx e T len ps.toList = some s) (hn : Nat.blt d n = true) (K : KE E C n ops Q rest f w (some d) ρ Z lkd s) :
    WL E.P false n ops Q (⟨some d, .buildSlice T len ps, ty, pos, after, none⟩ :: rest) f w := by
  unfold sLit at h
  split at h
  · rename_i t hT
    split at h
    · rename_i yy hty
      have ⟨h1, h2⟩ := bif_some h
      clear h
      simp only [Bool.and_eq_true] at h1
      obtain ⟨⟨⟨h1, ho⟩, hl⟩, hsm⟩ := h1
      have hl := Nat.eq_of_beq_eq_true hl
      split at h2
      · rename_i xs its' hlit
        simp only [Option.some.injEq] at h2; subst h2
        obtain ⟨Z1, hm1, t1, ha, hlen⟩ := litL_ok hm he hlit
        obtain ⟨hE, hp, info, zv, hI, hb, hb1, hz, hzs, _⟩ := elOk_run h1
        have hsm' := Nat.le_of_ble_eq_true hsm
        refine Z_buildSlice (css := ps.toList.map fun p => (ev f p.2).cells.toList) (al := xs) hm1.tn (sliceOf_run hT) hE hz rfl (by simpa using hl) (inOrd_map ho) (AllRd.sizes ha) (by simp [List.flatMap_def, List.map_map]; rfl) hsm (by rw [hlen, hl]) ha hn fun b w' hs => ?_
        have hac := hs.at 0 rfl
        have hxl : xs.length = len := by rw [hlen, hl]
        have ⟨m1, t2⟩ := hm1.lay (i := .ac t xs) (L := ⟨0, some ⟨b, 0, none⟩, len, len, [b]⟩) hs ⟨_, rset_self, hxl.symm, by have := Nat.mul_le_mul_left len hp; omega, hac⟩ (fun y hy => by rw [foot_ac rset_self] at hy; exact hy)
        exact K _ _ _ _ m1 (t1.trans t2) (.acc rset_self) trivial
      · cases h2
    · cases h
  · cases h
theorem sMake_ok {sx sy : E.SV} (hm : Mem E C ρ Z w (its ++ lkd) nx) (hx : Rep E.N E.T ρ Z w (ev f x) sx) (hy : Rep E.N E.T ρ Z w (ev f y) sy) (h : sMake E its nx T sx sy = some s) (ho : allP s.ob) (hn : Nat.blt d n = true) (K : KE E C n ops Q rest f w (some d) ρ Z lkd s) :
    WL E.P false n ops Q (⟨some d, .makeSlice T x y, ty, pos, after, none⟩ :: rest) f w := by
  unfold sMake at h
  split at h
  · rename_i t a b hT ha hb
    split at h
    · rename_i yy hty
      have ⟨h1, h2⟩ := bif_some h
      clear h
      split at h2
      · rename_i zx hz0
        simp only [Option.some.injEq] at h2; subst h2
        obtain ⟨hE, hp, info, zv, hI, hbb, hb1, hz, hzs, hzv⟩ := elOk_run h1
        simp only [Option.bind_eq_some_iff] at hz0
        obtain ⟨sz, hsz, hbk⟩ := hz0
        have ⟨hf, hbk⟩ := bif_some hbk
        unfold Env.zero at hsz
        rw [hzv] at hsz
        simp only [Option.map_some, Option.some.injEq] at hsz
        have ho1 : 0 ≤ a := ho.1
        have ho2 : a = b := ho.2.1
        have ho3 : (((E.bytes t).getD 0 : Nat) : Int) * a ≤ 140737488355328 := ho.2.2.1
        rw [hbb] at ho3
        have ha2 : a ≤ 140737488355328 := by
          have : 1 * a ≤ (info.bytes : Int) * a := Int.mul_le_mul_of_nonneg_right (by omega) ho1
          omega
        have hx' := asI_rd hx ha
        have hy' := asI_rd hy hb
        rw [← ho2] at hy'
        have hzr : ∀ (Z : Nat → Prop) (w : World), (E.N.tb t).r.rd Z w zv.cells.toList zx := fun Z w => by
          refine yy.bk_ok (ρ := ρ) (Rep.leaves ?_ hf) hbk
          rw [← hsz]; exact cst_rep
        refine Z_makeSlice (zc := zv.cells.toList) (zx := zx) hm.tn (sliceOf_run hT) hI hE hz (by simp) rfl hp hzr hx' hy' ho1 ho3 (by omega) hn fun b w' hs => ?_
        have hac := hs.at 0 rfl
        have ⟨m1, t2⟩ := hm.lay (i := .ac t (List.replicate a.toNat zx)) (L := ⟨0, some ⟨b, 0, none⟩, a.toNat, a.toNat, [b]⟩) hs ⟨_, rset_self, by simp, by rw [List.length_replicate]; omega, hac⟩ (fun y hy => by rw [foot_ac rset_self] at hy; exact hy)
        exact K _ _ _ _ m1 t2 (.acc rset_self) trivial
      · cases h2
    · cases h
  · cases h
/-- Every step that turns memory is ars it is told. -/
theorem stepE_ok {e : Operand → E.SV} (hE : EnvOK E) (hm : Mem E C ρ Z w (its ++ lkd) nx) (he : ∀ o, Rep E.N E.T ρ Z w (ev f o) (e o)) {op : Op} {d : Option Nat} (h : stepE E its nx e op ty = some s) (ho : allP s.ob) (hn : match op with | .store _ _ _ => d = none | _ => ∃ d', d = some d' ∧ Nat.blt d' n = true) (K : KE E C n ops Q rest f w d ρ Z lkd s) :
    WL E.P false n ops Q (⟨d, op, ty, pos, after, none⟩ :: rest) f w := by
  unfold stepE at h
  cases op with
  | alloc T => obtain ⟨d', rfl, hn⟩ := hn; exact sAlloc_ok hE hm h hn K
  | box T x =>
    obtain ⟨d', rfl, hn⟩ := hn
    have ⟨h1, h2⟩ := bif_some h
    simp only [Option.some.injEq] at h2; subst h2
    exact sBox_ok hm (he x) h1 hn K
  | makeInterface T x => obtain ⟨d', rfl, hn⟩ := hn; exact sMakeI_ok hm (he x) h hn K
  | store T a x =>
    simp only at hn; subst hn
    simp only at h
    have ha := he a
    generalize e a = sa at h ha
    cases sa with
    | ref id off =>
      simp only [sStore] at h
      split at h
      · rename_i S cells hi
        have ⟨h1, h2⟩ := bif_some h
        simp only [Option.some.injEq] at h2; subst h2
        simp only [Bool.and_eq_true] at h1
        obtain ⟨⟨⟨e1, e2⟩, e3⟩, e4⟩ := h1
        cases hs : E.size T with
        | none => rw [hs] at e3; cases e3
        | some mm =>
          rw [hs] at e1 e4
          exact sStore_ref hm ha (he x) hi hs (Nat.le_of_ble_eq_true e1) e2 (Nat.eq_of_beq_eq_true e4) K
      · cases h
    | el id t i off => exact sStoreEl_ok hm ha (he x) h K
    | _ => cases h
  | buildSlice T len ps => obtain ⟨d', rfl, hn⟩ := hn; exact sLit_ok hm he h hn K
  | makeSlice T x y => obtain ⟨d', rfl, hn⟩ := hn; exact sMake_ok hm (he x) (he y) h ho hn K
  | call c =>
    obtain ⟨d', rfl, hn⟩ := hn
    obtain ⟨cal, args, Ts⟩ := c
    simp only [sCall] at h
    cases cal with
    | builtin b =>
      cases b with
      | append =>
        simp only at h
        split at h
        · rename_i x y S S' ha hT
          obtain rfl := arr2 ha
          obtain rfl := arr2 hT
          have ⟨h1, h2⟩ := bif_some h
          simp only [Bool.and_eq_true] at h1
          obtain ⟨e1, e2⟩ := h1
          have e1 := Nat.eq_of_beq_eq_true e1
          have e2 := Nat.eq_of_beq_eq_true e2
          subst e1; subst e2
          split at h2
          · rename_i t hs
            split at h2
            · rename_i xs hxs
              exact sAppend_ok hm hs (he x) (srcL_ok hm (he y) hxs) h2 ho hn K
            · cases h2
          · cases h2
        · cases h
      | _ => cases h
    | _ => cases h
  | _ => cases h
end
end Go.Rx
end
section
namespace Go.Rx
open Go Go.Wk Go.Wl
section
variable {E : Env} {C : Ctx} {n : Nat} {ops : List Oper} {Q : Exit → Fr → World → Prop} {rest : List Oper} {f : Fr} {w w' : World} {d : Nat}
variable {ty T T' : TypeId} {pos : String} {after : Array Edge} {x y z : Operand} {a b : Int} {ρ ρ' : Env1} {Z Z' : Nat → Prop} {its its' lkd : Items E.N} {nx : Nat} {s : S1 E.N}
variable {fx : Slots E.N} {st : E.St}
structure Rel (E : Env) (C : Ctx) (fx : Slots E.N) (lkd : Items E.N) (st : E.St) (ρ : Env1) (Z : Nat → Prop) (f : Fr) (w : World) : Prop where
  sl : ∀ k s, lk st.slots k = some s → Rep E.N E.T ρ Z w (f k) s
  fx : ∀ p ∈ fx, Rep E.N E.T ρ Z w (f p.1) p.2
  gs : ∀ k j b s, lk st.gs k = some (j, b, s) → (f j = .bool b → Rep E.N E.T ρ Z w (f k) s) ∧ (f j ≠ .bool b → f k = undef)
  mem : Mem E C ρ Z w (st.items ++ lkd) st.nx
  tn : Tn C.ρ0 C.Z0 C.w1 ρ Z w
  g : E.G.is C.Z0 C.w1
theorem Glob.turn {G : Glob} (h : G.is Z w) (t : Tn ρ Z w ρ' Z' w') : G.is Z' w' := by
  obtain ⟨B, x, hB⟩ := t.ext
  exact G.stab h x hB t.z
theorem Rel.glob (h : Rel E C fx lkd st ρ Z f w) : E.G.is Z w := Glob.turn h.g h.tn
theorem nrm_ok {v : Value} {s : E.SV} (hm : Mem E C ρ Z w its nx) (h : Rep E.N E.T ρ Z w v s) : Rep E.N E.T ρ Z w v (nrm its s) := by
  cases s with
  | acc id =>
    simp only [nrm]
    split
    · rename_i t l hi
      obtain ⟨L, hL, hn, hr⟩ := hm.at hi
      cases h with
      | acc hL' => rw [hL] at hL'; cases hL'; exact .sl hr
    · exact h
  | _ => exact h
theorem lk_none {β : Type} {l : List (Nat × β)} {d : Nat} (h : lk l d = none) : ∀ p ∈ l, d ≠ p.1 := by
  induction l with
  | nil => intro p hp; cases hp
  | cons q r ih =>
    unfold lk at h
    cases hb : Nat.beq q.1 d with
    | true => rw [hb, cond_true] at h; cases h
    | false =>
      rw [hb, cond_false] at h
      intro p hp
      rcases List.mem_cons.1 hp with rfl | hp
      · intro e; rw [e, Nat.beq_refl] at hb; cases hb
      · exact ih h p hp
theorem Rel.slot (h : Rel E C fx lkd st ρ Z f w) (k : Nat) : Rep E.N E.T ρ Z w (f k) (slotOf fx st k) := by
  unfold slotOf
  split
  · rename_i v hv; exact h.sl k v hv
  · split
    · rename_i v hv; obtain ⟨i, hi, _⟩ := lk_mem hv; exact h.fx (k, v) (List.mem_of_getElem? hi)
    · exact .un
/-- All of a chain of guards hold. -/
def AllG (f : Fr) (ch : List (Nat × Bool)) : Prop := ∀ j w, gmem ch j w = true → f j = .bool w
theorem AllG.nil : AllG f [] := fun j w h => by simp [gmem] at h
theorem Rel.ev (h : Rel E C fx lkd st ρ Z f w) {ch : List (Nat × Bool)} (hc : AllG f ch) (o : Operand) : Rep E.N E.T ρ Z w (ev f o) (evS fx lkd st ch o) := by
  cases o with
  | tmp t =>
    show Rep E.N E.T ρ Z w (f t) _
    simp only [evS]
    split
    · rename_i j b v hv
      cases hg : gmem ch j b with
      | true => exact nrm_ok h.mem ((h.gs t j b v hv).1 (hc j b hg))
      | false => exact .un
    · exact nrm_ok h.mem (h.slot t)
  | const v => exact cst_rep
  | global g => exact .con rfl
  | func K => exact .fn
theorem lk_cons {β : Type} {l : List (Nat × β)} {d k : Nat} {v : β} : lk ((d, v) :: l) k = if d = k then some v else lk l k := by
  show (bif Nat.beq d k then some v else lk l k) = _
  by_cases e : d = k
  · rw [if_pos e, e, Nat.beq_refl, cond_true]
  · rw [if_neg e, beq_ne e, cond_false]
theorem upd_ne {d k : Nat} {v : Value} (h : d ≠ k) : upd f d v k = f k := by rw [upd_eq, if_neg (Ne.symm h)]
theorem upd_same {d : Nat} {v : Value} : upd f d v d = v := by rw [upd_eq, if_pos rfl]
theorem gs_free {gs : List (Nat × Nat × Bool × E.SV)} {d : Nat} (h : (gs.all fun p => !Nat.beq p.2.1 d) = true) {k j : Nat} {b : Bool} {s : E.SV} (hk : lk gs k = some (j, b, s)) : j ≠ d := by
  obtain ⟨i, hi, _⟩ := lk_mem hk
  rw [List.all_eq_true] at h
  have := h _ (List.mem_of_getElem? hi)
  intro e; subst e
  simp [Nat.beq_refl] at this
theorem free_some {d : Nat} (h : free n fx st (some d) = true) : Nat.blt d n = true ∧ lk fx d = none ∧ lk st.gs d = none ∧ (st.gs.all fun p => !Nat.beq p.2.1 d) = true := by
  simp only [free, Bool.and_eq_true, Option.isNone_iff_eq_none] at h
  exact ⟨h.1.1.1, h.1.1.2, h.1.2, h.2⟩
/-- A slot is put, behind whatever turned. -/
theorem Rel.put {d : Option Nat} {v : Value} {s : E.SV} {items : Items E.N} {nx : Nat} (h : Rel E C fx lkd st ρ Z f w) (hf : free n fx st d = true) (t : Tn ρ Z w ρ' Z' w') (hm : Mem E C ρ' Z' w' (items ++ lkd) nx) (hv : Rep E.N E.T ρ' Z' w' v s) :
    Rel E C fx lkd (put ⟨st.slots, st.gs, items, nx⟩ d s) ρ' Z' (putF f d v) w' := by
  cases d with
  | none => exact ⟨fun k s hk => t.rep (h.sl k s hk), fun p hp => t.rep (h.fx p hp), fun k j b s hk => ⟨fun e => t.rep ((h.gs k j b s hk).1 e), (h.gs k j b s hk).2⟩, hm, h.tn.trans t, h.g⟩
  | some d =>
    obtain ⟨_, h2, h3, h4⟩ := free_some hf
    refine ⟨fun k s' hk => ?_, fun p hp => ?_, fun k j b s' hk => ?_, hm, h.tn.trans t, h.g⟩
    · show Rep E.N E.T ρ' Z' w' (upd f d v k) s'
      have hk : lk ((d, s) :: st.slots) k = some s' := hk
      rw [lk_cons] at hk
      by_cases e : d = k
      · rw [if_pos e] at hk; cases hk; subst e; rw [upd_same]; exact hv
      · rw [if_neg e] at hk; rw [upd_ne e]; exact t.rep (h.sl k s' hk)
    · show Rep E.N E.T ρ' Z' w' (upd f d v p.1) p.2
      rw [upd_ne (lk_none h2 p hp)]; exact t.rep (h.fx p hp)
    · have hk : lk st.gs k = some (j, b, s') := hk
      have e : d ≠ k := fun e => by subst e; rw [h3] at hk; cases hk
      have e2 : d ≠ j := Ne.symm (gs_free h4 hk)
      show (upd f d v j = _ → Rep E.N E.T ρ' Z' w' (upd f d v k) s') ∧ (upd f d v j ≠ _ → upd f d v k = _)
      rw [upd_ne e, upd_ne e2]
      exact ⟨fun e => t.rep ((h.gs k j b s' hk).1 e), (h.gs k j b s' hk).2⟩
theorem Rel.put0 {d : Option Nat} {v : Value} {s : E.SV} (h : Rel E C fx lkd st ρ Z f w) (hf : free n fx st d = true) (hv : Rep E.N E.T ρ Z w v s) : Rel E C fx lkd (Rx.put st d s) ρ Z (putF f d v) w := by
  have := h.put hf (Tn.refl ρ Z w) h.mem hv
  exact this
theorem cj_ob {ps : List Prop} {r : Prop} (h : cj ps r) : allP ps ∧ r := by
  induction ps with
  | nil => exact ⟨trivial, h⟩
  | cons p ps ih => exact ⟨⟨h.1, (ih h.2).1⟩, (ih h.2).2⟩
theorem im_hy {ps : List Prop} {r : Prop} (h : im ps r) (hp : allP ps) : r := by
  induction ps with
  | nil => exact h
  | cons p ps ih => exact ih (h hp.1) hp.2
theorem pickG_ok {m : Bool} {ch : List (Nat × Bool)} {c : Operand} {s : E.SV} (h : Rel E C fx lkd st ρ Z f w) (hc : AllG f ch) {ya yb : Operand} (hp : pickG fx lkd st ch c ya yb = some s) (hn : Nat.blt d n = true) (K : ∀ v, Rep E.N E.T ρ Z w v s → WL E.P m n ops Q rest (upd f d v) w) :
    WL E.P m n ops Q (⟨some d, .pick c ya yb, ty, pos, after, none⟩ :: rest) f w := by
  cases c with
  | tmp j =>
    simp only [pickG] at hp
    have he := h.ev hc (.tmp j)
    split at hp
    · rename_i p dp hpp
      have hv := he.boolv hpp
      refine S_pick hv hn ?_
      split at hp
      · rename_i t
        split at hp
        · rename_i j' b v hg
          have ⟨h1, h2⟩ := bif_some hp
          simp only [Bool.and_eq_true] at h1
          obtain ⟨e1, e2⟩ := h1
          have e1 := Nat.eq_of_beq_eq_true e1
          subst e1; subst e2
          split at h2
          · rename_i q dq hq
            simp only [Option.some.injEq] at h2; subst h2
            have hgs := h.gs t j true v hg
            have hv' : f j = .bool (@decide p dp) := hv
            have e : (if @decide p dp = true then Wk.ev f (.tmp t) else Wk.ev f (.const (.bool false))) = .bool (decide (p ∧ q)) := by
              by_cases hpp : p
              · rw [if_pos (by simp [hpp])]
                have hr := hgs.1 (by rw [hv']; simp [hpp])
                show f t = _
                rw [hr.boolv hq]; simp [hpp]
              · rw [if_neg (by simp [hpp])]
                show Value.bool false = _
                simp [hpp]
            rw [e]; exact K _ .bl
          · cases h2
        · cases hp
      · rename_i t
        split at hp
        · rename_i j' b v hg
          have ⟨h1, h2⟩ := bif_some hp
          simp only [Bool.and_eq_true, Bool.not_eq_true'] at h1
          obtain ⟨e1, e2⟩ := h1
          have e1 := Nat.eq_of_beq_eq_true e1
          subst e1; subst e2
          split at h2
          · rename_i q dq hq
            simp only [Option.some.injEq] at h2; subst h2
            have hgs := h.gs t j false v hg
            have hv' : f j = .bool (@decide p dp) := hv
            have e : (if @decide p dp = true then Wk.ev f (.const (.bool true)) else Wk.ev f (.tmp t)) = .bool (decide (p ∨ q)) := by
              by_cases hpp : p
              · rw [if_pos (by simp [hpp])]
                show Value.bool true = _
                simp [hpp]
              · rw [if_neg (by simp [hpp])]
                have hr := hgs.1 (by rw [hv']; simp [hpp])
                show f t = _
                rw [hr.boolv hq]; simp [hpp]
            rw [e]; exact K _ .bl
          · cases h2
        · cases hp
      · cases hp
    · cases hp
  | _ => cases hp
theorem stepG_ok {m : Bool} {ch : List (Nat × Bool)} {op : Op} {q : Q1 E.N} (h : Rel E C fx lkd st ρ Z f w) (hc : AllG f ch) (hs : stepG fx lkd st ch op = some q) (ho : allP q.ob) (hn : Nat.blt d n = true) (K : KQ E m n ops Q rest f w d ρ Z q) :
    WL E.P m n ops Q (⟨some d, op, ty, pos, after, none⟩ :: rest) f w := by
  unfold stepG at hs
  split at hs
  · rename_i v hp
    cases op with
    | pick c a b => exact pickG_ok h hc hp hn (fun v hv => K.q0 hs hv)
    | _ => cases hp
  · exact stepQ_ok h.mem (fun o => h.ev hc o) hs ho hn K
/-- What a call brings, beside what was there. -/
theorem Mem.join {new : Items E.N} {nx' : Nat} (hm : Mem E C ρ Z w its nx) (hρ : ∀ i L, ρ i = some L → ρ' i = some L) (hfr : ∀ i, nx' ≤ i → ρ' i = none) (hz : ∀ b, Z b → Z' b) (hz' : ∀ b, Z' b → Z b ∨ w.heap.size ≤ b) (hs : Sep [] w Z' w' (toIts E.N E.T ρ' [] new)) : Mem E C ρ' Z' w' (new ++ its) nx' ∧ Tn ρ Z w ρ' Z' w' := by
  have x := hs.ext
  have hold : ∀ {k : Nat} {p : Nat × Item E.N}, its[k]? = some p → Go.Rx.holds E.N E.T ρ' p.1 Z' w' p.2 ∧ (∀ b ∈ foot E.N ρ' p.1 p.2, b ∈ foot E.N ρ p.1 p.2) := fun {k p} hp => by
    have h1 : Go.Rx.holds E.N E.T ρ p.1 Z' w' p.2 := toIt_stab (B0 := C.B0) Z Z' [] w w' (hm.holds hp) x (fun _ h => by cases h) hz
    have h2 := holds_sub hρ h1
    exact ⟨h2.1, fun b hb => by rw [← h2.2]; exact hb⟩
  have oldF : ∀ {k : Nat} {p : Nat × Item E.N}, its[k]? = some p → ∀ b ∈ foot E.N ρ p.1 p.2, b < w.heap.size ∧ ¬ Z b ∧ (b ∈ C.B0 ∨ C.w0.heap.size ≤ b) := fun {k p} hp b hb => by
    have ok := hm.sep.ok k _ (toIts_at hp)
    exact ⟨ok.lt b hb, ok.notZ b hb, ok.org b hb⟩
  have newF : ∀ {k : Nat} {p : Nat × Item E.N}, new[k]? = some p → Go.Rx.holds E.N E.T ρ' p.1 Z' w' p.2 ∧ ∀ b ∈ foot E.N ρ' p.1 p.2, b < w'.heap.size ∧ ¬ Z' b ∧ w.heap.size ≤ b := fun {k p} hp => by
    have ok := hs.ok k _ (toIts_at hp)
    exact ⟨ok.holds, fun b hb => ⟨ok.lt b hb, ok.notZ b hb, by
      rcases ok.org b hb with h | h
      · cases h
      · exact h⟩⟩
  have w0le := hm.sep.ext.size
  refine ⟨⟨⟨hm.sep.ext.trans x (fun b hb => .inl hb) (fun b hb => by cases hb), hs.zlt, fun k t hk => ?_, fun j k s t hj hk hne b hb hb' => ?_⟩, hfr, fun i L e => hρ _ _ (hm.ge i L e), fun b h => hz b (hm.zge b h), fun b h => ?_⟩, ⟨hρ, fun b h _ => hz b h, [], x, fun _ h => by cases h⟩⟩
  · obtain ⟨p, hp, rfl⟩ := toIts_get hk
    by_cases hlt : k < new.length
    · rw [List.getElem?_append_left hlt] at hp
      obtain ⟨h1, h2⟩ := newF hp
      exact ⟨h1, toIt_stab, fun b hb => (h2 b hb).1, fun b hb => (h2 b hb).2.1, fun b hb => .inr (by have := (h2 b hb).2.2; omega), fun b hb => hb⟩
    · rw [List.getElem?_append_right (by omega)] at hp
      obtain ⟨h1, h2⟩ := hold hp
      exact ⟨h1, toIt_stab, fun b hb => by have := (oldF hp b (h2 b hb)).1; have := x.size; omega, fun b hb hZ => by
        have o := oldF hp b (h2 b hb)
        rcases hz' b hZ with h | h
        · exact o.2.1 h
        · omega, fun b hb => (oldF hp b (h2 b hb)).2.2, fun b hb => hb⟩
  · obtain ⟨p, hp, rfl⟩ := toIts_get hj
    obtain ⟨q, hq, rfl⟩ := toIts_get hk
    have hb : b ∈ foot E.N ρ' p.1 p.2 := hb
    have hb' : b ∈ foot E.N ρ' q.1 q.2 := hb'
    by_cases h1 : j < new.length
    · rw [List.getElem?_append_left h1] at hp
      by_cases h2 : k < new.length
      · rw [List.getElem?_append_left h2] at hq
        exact hs.apart j k _ _ (toIts_at hp) (toIts_at hq) hne b hb hb'
      · rw [List.getElem?_append_right (by omega)] at hq
        have := ((newF hp).2 b hb).2.2
        have := (oldF hq b ((hold hq).2 b hb')).1
        omega
    · rw [List.getElem?_append_right (by omega)] at hp
      by_cases h2 : k < new.length
      · rw [List.getElem?_append_left h2] at hq
        have := ((newF hq).2 b hb').2.2
        have := (oldF hp b ((hold hp).2 b hb)).1
        omega
      · rw [List.getElem?_append_right (by omega)] at hq
        exact hm.sep.apart _ _ _ _ (toIts_at hp) (toIts_at hq) (by omega) b ((hold hp).2 b hb) ((hold hq).2 b hb')
  · rcases hz' b h with h | h
    · exact hm.zle b h
    · exact .inr (.inr (by omega))
theorem tupRep {e : Operand → E.SV} (he : ∀ o, Rep E.N E.T ρ Z w (Wk.ev f o) (e o)) : ∀ (l : List Operand), Rep E.N E.T ρ Z w (.tuple (l.map (Wk.ev f)).toArray) (.tup (l.map e))
  | [] => .tup0
  | o :: l => .tup1 (he o) (tupRep he l)
theorem tupApp {cs c2 : List Value} {ss s2 : List E.SV} (h : Rep E.N E.T ρ Z w (.tuple cs.toArray) (.tup ss)) (h2 : RepL E.N E.T ρ Z w c2 s2) : Rep E.N E.T ρ Z w (.tuple (cs ++ c2).toArray) (.tup (ss ++ s2)) := by
  induction ss generalizing cs with
  | nil =>
    have : cs = [] := by
      generalize e : Value.tuple cs.toArray = u at h
      cases h with
      | tup0 => simpa using e
    subst this
    show Rep E.N E.T ρ Z w (.tuple c2.toArray) (.tup s2)
    clear h
    induction s2 generalizing c2 with
    | nil => have := RepL.nil_inv h2; subst this; exact .tup0
    | cons s r ih => obtain ⟨v, rr, rfl, h1, _, h3⟩ := RepL.cons_inv h2; exact .tup1 h1 (ih h3)
  | cons s ss ih => obtain ⟨v, r, rfl, h1, h3⟩ := Rep.tup_cons h; exact .tup1 h1 (ih h3)
theorem callee_ok {e : Operand → E.SV} (he : ∀ o, Rep E.N E.T ρ Z w (Wk.ev f o) (e o)) {c : Call} {K : Nat} {args : List E.SV} (h : callee e c = some (K, args)) : ∃ z xs Ts cap, c = ⟨.value z, xs, Ts⟩ ∧ Wk.ev f z = .func (.func K) #[] cap ∧ Rep E.N E.T ρ Z w (.tuple (xs.toList.map (Wk.ev f) ++ cap.toList).toArray) (.tup args) := by
  obtain ⟨cal, xs, Ts⟩ := c
  unfold callee at h
  cases cal with
  | value z =>
    simp only at h
    have hz := he z
    generalize hv : Wk.ev f z = vz at hz
    split at h
    · rename_i K' hk
      simp only [Option.some.injEq, Prod.mk.injEq] at h
      obtain ⟨rfl, rfl⟩ := h
      rw [hk] at hz
      cases hz with
      | fn => exact ⟨z, xs, Ts, #[], rfl, hv, by simpa using tupRep he xs.toList⟩
    · rename_i K' cs hk
      simp only [Option.some.injEq, Prod.mk.injEq] at h
      obtain ⟨rfl, rfl⟩ := h
      rw [hk] at hz
      cases hz with
      | clo hr => exact ⟨z, xs, Ts, _, rfl, hv, tupApp (tupRep he xs.toList) hr⟩
    · cases h
  | _ => cases h
theorem S_callA {z : Operand} {xs : Array Operand} {Ts : Array TypeId} {cap : Array Value} {K0 : Nat} {d : Option Nat} {R : Value → World → Prop} (hv : Wk.ev f z = .func (.func K0) #[] cap) (hK : ∀ ars w, (callFunc K0 ars).run E.P w = .ok (.enter K0 ars) w)
    (hc : CallR E.P K0 (xs.toList.map (Wk.ev f) ++ cap.toList) w R) (hn : ∀ d', d = some d' → Nat.blt d' n = true) (K : ∀ v w', R v w' → WL E.P false n ops Q rest (putF f d v) w') : WL E.P false n ops Q (⟨d, .call ⟨.value z, xs, Ts⟩, ty, pos, after, none⟩ :: rest) f w := by
  have key : ∀ w1, Sim w w1 → (execOp (Wk.ev f) ⟨d, .call ⟨.value z, xs, Ts⟩, ty, pos, after, none⟩).run E.P w1 = .ok (.enter K0 (xs.toList.map (Wk.ev f) ++ cap.toList).toArray) w1 := fun w1 _ => by
    have : xs.map (Wk.ev f) ++ cap = (xs.toList.map (Wk.ev f) ++ cap.toList).toArray := by apply Array.ext'; simp
    simp [execOp, resolve, Deferred.ofValue, invoke, hv, go_sem, hK, ← this]
  cases d with
  | none => exact WL_enterN rfl rfl key hc K
  | some d => exact WL_enter rfl rfl (hn d rfl) key hc K
theorem pureS_rep {v : Value} {s : E.SV} (hp : pureS s = true) (h : Rep E.N E.T ρ Z w v s) (ρ' : Env1) : Rep E.N E.T ρ' Z w v s := by
  have one : ∀ {v : Value} {s : E.SV}, (match s with | .int _ _ => true | .byte _ => true | .tt => true | .ff => true | .bl _ _ => true | .str _ => true | .con _ => true | .nils => true | .sl _ _ => true | .err _ => true | .fn _ => true | _ => false) = true → Rep E.N E.T ρ Z w v s → Rep E.N E.T ρ' Z w v s := fun {v s} hp h => by
    cases h with
    | int h => exact .int h
    | byte => exact .byte
    | tt => exact .tt
    | ff => exact .ff
    | bl => exact .bl
    | str h => exact .str h
    | con h => exact .con h
    | nils => exact .nils
    | sl h => exact .sl h
    | err h => exact .err h
    | fn => exact .fn
    | _ => cases hp
  cases s with
  | agg vs =>
    have ⟨cs, e, h2⟩ := Rep.agg_inv h
    subst e
    clear h
    rename RepL E.N E.T ρ Z w cs vs => h
    simp only [pureS] at hp
    show RepL E.N E.T ρ' Z w cs vs
    induction vs generalizing cs with
    | nil => have := RepL.nil_inv h; subst this; exact RepL.nil
    | cons s r ih =>
      obtain ⟨u, rr, rfl, h1, hpl, h2⟩ := RepL.cons_inv h
      simp only [List.all_cons, Bool.and_eq_true] at hp
      refine Rep.agg1 (one ?_ h1) hpl (ih hp.2 rr h2)
      have := hp.1
      cases s <;> first | rfl | cases this
  | un => cases hp
  | undef => cases hp
  | ref => cases hp
  | acc => cases hp
  | el => cases hp
  | fel => cases hp
  | tup => cases hp
  | ifc => cases hp
  | clo => cases hp
  | _ => exact one rfl h
theorem pureT_rep {cs : List Value} {ss : List E.SV} (hp : ss.all pureS = true) (h : Rep E.N E.T ρ Z w (.tuple cs.toArray) (.tup ss)) (ρ' : Env1) : Rep E.N E.T ρ' Z w (.tuple cs.toArray) (.tup ss) := by
  induction ss generalizing cs with
  | nil =>
    generalize e : Value.tuple cs.toArray = u at h ⊢
    cases h with | tup0 => exact .tup0
  | cons s ss ih =>
    obtain ⟨v, r, rfl, h1, h2⟩ := Rep.tup_cons h
    simp only [List.all_cons, Bool.and_eq_true] at hp
    exact .tup1 (pureS_rep hp.1 h1 ρ') (ih hp.2 h2)
/-- The blocks that may be looked at while some are held. -/
def seen (Z : Nat → Prop) (w : World) (F : List Nat) : Nat → Prop := fun b => b < w.heap.size ∧ b ∉ F
theorem lent_ok {F : List Nat} {cs : List Value} {ss : List E.SV} (hm : Mem E C ρ Z w its nx) (hF : ∀ b ∈ F, ¬ Z b) (hA : ∀ id t l, lk its id = some (.ac t l) → ∀ b ∈ foot E.N ρ id (.ac t l), b ∉ F) (h : Rep E.N E.T ρ Z w (.tuple cs.toArray) (.tup ss)) : Rep E.N E.T ρ (seen Z w F) w (.tuple cs.toArray) (.tup (ss.map (lent its))) := by
  have hZ : ∀ b, Z b → b < w.heap.size → seen Z w F b := fun b hz hb => ⟨hb, fun hm => hF b hm hz⟩
  have up : ∀ {v : Value} {s : E.SV}, Rep E.N E.T ρ Z w v s → Rep E.N E.T ρ (seen Z w F) w v s := fun h => h.stab (Ext.refl [] w) (fun _ h => by cases h) hZ (fun _ _ h => h)
  have one : ∀ {v : Value} {s : E.SV}, Rep E.N E.T ρ Z w v s → Rep E.N E.T ρ (seen Z w F) w v (lent0 its s) := fun {v s} h1 => by
    cases s with
    | acc id =>
      simp only [lent0]
      split
      · rename_i t l hi
        obtain ⟨L, hL, hn, hl, hac⟩ := hm.at hi
        cases h1 with
        | acc hL' =>
          rw [hL] at hL'; cases hL'
          have hrd := Ac.rd hac hl
          refine .sl (Rd.weak _ hrd fun b hb hlt => ?_)
          rcases hb with h | h
          · exact hZ b h hlt
          · exact ⟨hlt, hA id t l hi b (by rw [foot_ac hL]; exact h)⟩
      · exact up h1
    | _ => exact up h1
  have many : ∀ {vs : List E.SV} {us : List Value}, RepL E.N E.T ρ Z w us vs → RepL E.N E.T ρ (seen Z w F) w us (vs.map (lent0 its)) := fun {vs} => by
    induction vs with
    | nil => intro us h; obtain rfl := RepL.nil_inv h; exact RepL.nil
    | cons s vs ih => intro us h; obtain ⟨v, r, rfl, h1, hp, h2⟩ := RepL.cons_inv h; exact RepL.cons (one h1) hp (ih h2)
  induction ss generalizing cs with
  | nil =>
    generalize e : Value.tuple cs.toArray = u at h ⊢
    cases h with | tup0 => exact .tup0
  | cons s ss ih =>
    obtain ⟨v, r, rfl, h1, h2⟩ := Rep.tup_cons h
    refine .tup1 ?_ (ih h2)
    cases s with
    | agg vs =>
      obtain ⟨us, rfl, hr⟩ := Rep.agg_inv h1
      exact many hr
    | _ => exact one h1
end
end Go.Rx
end
section
namespace Go.Rx
open Go Go.Wk Go.Wl
def InlOK (E : Env) (inl : Inl E) : Prop :=
  ∀ (K : Nat) (args : List E.SV) (its lkd : Items E.N) (nx : Nat) (k : E.SV → Items E.N → Nat → Prop), inl K args its lkd nx k → (E.inl K).isSome = true ∧
    ∀ (C : Ctx) (ρ : Env1) (Z : Nat → Prop) (w : World) (vs : List Value), Mem E C ρ Z w (its ++ lkd) nx → E.G.is Z w → Rep E.N E.T ρ Z w (.tuple vs.toArray) (.tup args) →
      CallR E.P K vs w (fun v w' => ∃ ρ' Z' s its' nx', Mem E C ρ' Z' w' (its' ++ lkd) nx' ∧ Tn ρ Z w ρ' Z' w' ∧ Rep E.N E.T ρ' Z' w' v s ∧ k s its' nx')
section
variable {E : Env} {C : Ctx} {n : Nat} {ops : List Oper} {Q : Exit → Fr → World → Prop} {rest : List Oper} {f : Fr} {w w' : World}
variable {ty T T' : TypeId} {pos : String} {after : Array Edge} {x y z : Operand} {a b : Int} {ρ ρ' : Env1} {Z Z' : Nat → Prop} {its its' lkd : Items E.N} {nx : Nat} {s : S1 E.N}
variable {fx : Slots E.N} {st : E.St} {inl : Inl E}
theorem Mem.ext0 (hm : Mem E C ρ Z w its nx) (x : Ext [] w w') : Mem E C ρ Z w' its nx ∧ Tn ρ Z w ρ Z w' := by
  have := hm.join (new := []) (ρ' := ρ) (Z' := Z) (nx' := nx) (fun _ _ h => h) hm.fr (fun _ h => h) (fun _ h => .inl h) ⟨x, fun b hb => by have := hm.sep.zlt b hb; have := x.size; omega, fun k t h => by simp [toIts] at h, fun j k s t h => by simp [toIts] at h⟩
  exact this
theorem Rep.bare {v : Value} {s : E.SV} (h : Rep E.N E.T (fun _ => none) (fun _ => False) w v s) : Rep E.N E.T ρ Z w v s := h.stab (Ext.refl [] w) (fun _ h => by cases h) (fun _ h _ => h.elim) (fun _ _ h => by cases h)
abbrev KR (E : Env) (C : Ctx) (m : Bool) (n : Nat) (ops : List Oper) (Q : Exit → Fr → World → Prop) (rest : List Oper) (fx : Slots E.N) (lkd : Items E.N) (f : Fr) (d : Option Nat) (k : E.St → Prop) : Prop :=
  ∀ st' ρ' Z' v w', Rel E C fx lkd st' ρ' Z' (putF f d v) w' → k st' → WL E.P m n ops Q rest (putF f d v) w'
theorem free_blt {d : Option Nat} (h : free n fx st d = true) : ∀ d', d = some d' → Nat.blt d' n = true := fun d' e => by subst e; exact (free_some h).1
theorem lend_run (hE : EnvOK E) {K : Nat} {Cf : List E.SV → Nat → Option (CR E.N)} {r : CR E.N} {args : List E.SV} {vs : List Value} (hm : Mem E C ρ Z w its nx) (hc : E.con K = some Cf) (hl : E.lend K = true) (hr : Cf (args.map (lent its)) nx = some r) (hi : r.its.isEmpty = true) (hp : (args.map (lent its)).all pureS = true) (ho : allP r.ob) (hg : E.G.is Z w)
    (hv : Rep E.N E.T ρ Z w (.tuple vs.toArray) (.tup args)) : CallR E.P K vs w (fun v w' => Ext [] w w' ∧ Rep E.N E.T (fun _ => none) (fun _ => False) w' v r.r ∧ allP r.hy) := by
  have h1 := lent_ok (F := []) hm (fun _ h => by cases h) (fun _ _ _ _ _ _ h => by cases h) hv
  exact hE.lend K Cf _ _ r hc hl hr (List.isEmpty_iff.1 hi) ho (seen Z w []) w vs (fun b hb => hb.1) (E.G.stab hg (Ext.refl [] w) (fun _ h => by cases h) (fun b hz hb => ⟨hb, fun h => by cases h⟩)) (pureT_rep hp h1 _)
theorem vcCall_ok (hE : EnvOK E) (hI : InlOK E inl) {d : Option Nat} {c : Call} {k : E.St → Prop} (h : Rel E C fx lkd st ρ Z f w) (hf : free n fx st d = true) (hv : vcCall inl fx lkd st d c k) (K : KR E C false n ops Q rest fx lkd f d k) :
    WL E.P false n ops Q (⟨d, .call c, ty, pos, after, none⟩ :: rest) f w := by
  unfold vcCall at hv
  split at hv
  · exact hv.elim
  · rename_i K0 args hcal
    obtain ⟨z, xs, Ts, cap, rfl, hz, hargs⟩ := callee_ok (fun o => h.ev AllG.nil o) hcal
    have hn := free_blt hf
    split at hv
    · rename_i Cf hcon
      have hK := hE.call K0 (by rw [hcon]; rfl)
      cases hl : E.lend K0 with
      | true =>
        rw [hl, cond_true] at hv
        unfold vcLend at hv
        rw [hcon] at hv
        simp only at hv
        split at hv
        · rename_i r hr
          cases hb : (r.its.isEmpty && (args.map (lent (st.items ++ lkd))).all pureS) with
          | false => rw [hb, cond_false] at hv; exact hv.elim
          | true =>
            rw [hb, cond_true] at hv
            simp only [Bool.and_eq_true] at hb
            obtain ⟨ho, hv⟩ := cj_ob hv
            refine S_callA hz hK (lend_run hE h.mem hcon hl hr hb.1 hb.2 ho h.glob hargs) hn fun v w' ⟨x, hr', hy⟩ => ?_
            obtain ⟨m1, t1⟩ := h.mem.ext0 x
            exact K _ _ _ _ _ (h.put hf t1 m1 (Rep.bare hr')) (im_hy hv hy)
        · exact hv.elim
      | false =>
        rw [hl, cond_false] at hv
        split at hv
        · rename_i args' its hfz
          obtain ⟨Z1, hm1, t1, he⟩ := frz_ok h.mem hfz
          unfold vcCon at hv
          rw [hcon] at hv
          simp only at hv
          split at hv
          · rename_i r hr
            cases hpu : args'.all pureS with
            | false => rw [hpu] at hv; exact hv.elim
            | true =>
            rw [hpu, cond_true] at hv
            obtain ⟨ho, hv⟩ := cj_ob hv
            have ok := (hE.con K0 Cf args' st.nx r hcon hr hpu ho).run ρ Z1 w _ hm1.fr hm1.sep.zlt (Glob.turn h.glob t1) (he.tup hargs)
            refine S_callA hz hK ok hn fun v w' ⟨ρ', Z', hρ, hfr, hzz, hz', hrep, hsep, hy⟩ => ?_
            have ⟨m2, t2⟩ := hm1.join hρ hfr hzz hz' hsep
            rw [← List.append_assoc] at m2
            exact K _ _ _ _ _ (h.put hf (t1.trans t2) m2 hrep) (im_hy hv hy)
          · exact hv.elim
        · exact hv.elim
    · split at hv
      · rename_i o hobc
        have hK := hE.call K0 (by rw [hobc]; simp)
        unfold vcObc at hv
        split at hv
        · rename_i v0 args0
          split at hv
          · rename_i id off
            cases hb : (Nat.beq off 0 && (args0.map (lent (st.items ++ lkd))).all pureS) with
            | false => rw [hb, cond_false] at hv; exact hv.elim
            | true =>
              rw [hb, cond_true] at hv
              simp only [Bool.and_eq_true] at hb
              have hoff := Nat.eq_of_beq_eq_true hb.1
              subst hoff
              split at hv
              · rename_i k' fid xx hi
                split at hv
                · rename_i hk
                  obtain ⟨ok0, oC⟩ := o
                  simp only at hk
                  subst hk
                  split at hv
                  · rename_i r hr
                    obtain ⟨ho, hv⟩ := cj_ob hv
                    obtain ⟨j, hj, hu, _⟩ := lk_mem hi
                    obtain ⟨L, Lf, hL, hLf, hob⟩ := h.mem.holds (its_get (l2 := lkd) hj)
                    have hL : ρ id = some L := hL
                    have hjg := its_get (l2 := lkd) hj
                    have okj := h.mem.sep.ok j _ (toIts_at hjg)
                    have hF : (toIt E.N E.T ρ C.B0 id (.ob k' fid xx)).F = Lf.bs := by show foot E.N ρ id (.ob k' fid xx) = _; exact foot_ob hLf
                    obtain ⟨v1, vr, hvs, hv1, hvr⟩ := Rep.tup_cons hargs
                    have hv1' : v1 = .pointer (some ⟨L.b, 0, none⟩) := by
                      cases hv1 with
                      | ref hL' => rw [hL] at hL'; cases hL'; rfl
                    subst hv1'
                    have hA : ∀ id2 t l, lk (st.items ++ lkd) id2 = some (.ac t l) → ∀ b ∈ foot E.N ρ id2 (.ac t l), b ∉ Lf.bs := fun id2 t l hi2 b hb hb' => by
                      obtain ⟨j2, hj2, _⟩ := lk_mem hi2
                      have hne : j2 ≠ j := fun e => by subst e; rw [hjg] at hj2; cases hj2
                      exact h.mem.sep.apart j2 j _ _ (toIts_at hj2) (toIts_at hjg) hne b hb (by show b ∈ (toIt E.N E.T ρ C.B0 id (.ob k' fid xx)).F; rw [hF]; exact hb')
                    have hlv := pureT_rep (ρ' := fun _ => none) hb.2 (lent_ok (F := Lf.bs) h.mem (fun b hb hz => okj.notZ b (by show b ∈ (toIt E.N E.T ρ C.B0 id (.ob k' fid xx)).F; rw [hF]; exact hb) hz) hA hvr)
                    have run := hE.obc K0 _ xx _ r hobc hr ho Z (seen Z w Lf.bs) w vr L.b Lf.bs h.mem.sep.zlt (fun b hb => hb.1) (fun b hb => ⟨okj.notZ b (by show b ∈ (toIt E.N E.T ρ C.B0 id (.ob k' fid xx)).F; rw [hF]; exact hb), fun hs => hs.2 hb⟩) hob (E.G.stab h.glob (Ext.refl [] w) (fun _ h => by cases h) (fun b hz hb => ⟨hb, fun hm => okj.notZ b (by show b ∈ (toIt E.N E.T ρ C.B0 id (.ob k' fid xx)).F; rw [hF]; exact hm) hz⟩)) hlv
                    rw [← hvs] at run
                    refine S_callA hz hK run hn fun v w' ⟨F', hob', ⟨x, hF'⟩, hrep, hy⟩ => ?_
                    have lt' := ((E.N.oj k').ob L.b).lt hob'
                    have hs1 := Wl.Sep.upd h.mem.tn (j + 1) (t := toIt E.N E.T ρ C.B0 id (.ob k' fid xx)) (t' := ⟨F', C.B0, fun Z w => ((E.N.oj k').ob L.b).is Z w r.x F'⟩) (by rw [List.getElem?_cons_succ]; exact toIts_at hjg) (by rw [hF]; exact x) hob' (fun Z1 Z2 B w1 w2 h1 x1 hB hz1 => ((E.N.oj k').ob L.b).stab Z1 Z2 B w1 w2 h1 x1 hB hz1) (fun b hb => ⟨by rw [hF]; exact hF' b hb, lt' b hb⟩) rfl
                    have hjt : j < (toIts E.N E.T ρ C.B0 (st.items ++ lkd)).length := by simpa [toIts] using lt_get hjg
                    have hρ := rset_sub (L := ⟨0, none, 0, 0, F'⟩) (h.mem.fr st.nx (Nat.le_refl _))
                    have t2 := tn_of (Z := Z) (w := w) (ρ := ρ) (ρ' := rset ρ st.nx ⟨0, none, 0, 0, F'⟩) (k := 0) hs1 (by simp) hρ
                    have hs2 : Sep C.B0 C.w0 Z w' ((toIts E.N E.T ρ C.B0 (st.items ++ lkd)).set j ⟨F', C.B0, fun Z w => ((E.N.oj k').ob L.b).is Z w r.x F'⟩) := septn (u := tnI Z w) (by simpa using hs1)
                    have m1 : Mem E C (rset ρ st.nx ⟨0, none, 0, 0, F'⟩) Z w' ((st.items ++ lkd).set j (id, .ob k' st.nx r.x)) (st.nx + 1) := by
                      refine ⟨Sep.conv hs2 (by simp [toIts]) fun k s s' hk hk' => ?_, fun i hi => by unfold rset; rw [if_neg (by omega)]; exact h.mem.fr i (by omega), fun i L' e => hρ _ _ (h.mem.ge i L' e), h.mem.zge, h.mem.zle⟩
                      obtain ⟨p', hp', rfl⟩ := toIts_get hk'
                      by_cases e : k = j
                      · subst e
                        rw [List.getElem?_set_self hjt] at hk
                        rw [List.getElem?_set_self (lt_get hjg)] at hp'
                        cases hk; cases hp'
                        exact ⟨⟨L, _, hρ _ _ hL, rset_self, hob'⟩, toIt_stab, fun b hb => by
                          have hb : b ∈ foot E.N (rset ρ st.nx ⟨0, none, 0, 0, F'⟩) id (.ob k' st.nx r.x) := hb
                          rw [foot_ob rset_self] at hb; exact hb, rfl⟩
                      · rw [List.getElem?_set_ne (Ne.symm e)] at hk hp'
                        obtain ⟨p, hp, rfl⟩ := toIts_get hk
                        rw [hp] at hp'; cases hp'
                        exact like_sub hρ (hs2.at k (t := toIt E.N E.T ρ C.B0 p'.1 p'.2) (by rw [List.getElem?_set_ne (Ne.symm e)]; exact toIts_at hp))
                    rw [List.set_append_left _ _ (lt_get hj), ← hu] at m1
                    exact K _ _ _ _ _ (h.put hf t2 m1 (Rep.bare hrep)) (im_hy hv hy)
                  · exact hv.elim
                · exact hv.elim
              · exact hv.elim
          · exact hv.elim
        · exact hv.elim
      · split at hv
        · rename_i o hwrc
          have hK := hE.call K0 (by rw [hwrc]; simp)
          unfold vcWrc at hv
          split at hv
          · rename_i v0 T id off
            cases hb : (Nat.beq off 0 && Nat.beq T o.T && pureS (lent (st.items ++ lkd) v0)) with
            | false => rw [hb, cond_false] at hv; exact hv.elim
            | true =>
              rw [hb, cond_true] at hv
              simp only [Bool.and_eq_true] at hb
              have hoff := Nat.eq_of_beq_eq_true hb.1.1
              have hT := Nat.eq_of_beq_eq_true hb.1.2
              subst hoff hT
              split at hv
              · rename_i S x hi
                cases hS : Nat.beq S o.S with
                | false => rw [hS, cond_false] at hv; exact hv.elim
                | true =>
                  rw [hS, cond_true] at hv
                  have hS := Nat.eq_of_beq_eq_true hS
                  subst hS
                  split at hv
                  · rename_i r hr
                    obtain ⟨ho, hv⟩ := cj_ob hv
                    obtain ⟨j, hj, hu, _⟩ := lk_mem hi
                    have hjg := its_get (l2 := lkd) hj
                    obtain ⟨L, cs, hL, hbs, hown, hrep⟩ := h.mem.holds hjg
                    have hL : ρ id = some L := hL
                    obtain ⟨cv, cr, rfl, hcv, _, hcr⟩ := RepL.cons_inv hrep
                    obtain rfl := RepL.nil_inv hcr
                    obtain ⟨rfl, hxI⟩ : cv = .int .i64 x ∧ InI x := by cases hcv with | int h => exact ⟨rfl, h rfl⟩
                    obtain ⟨v1, vr, hvs, hv1, hvr⟩ := Rep.tup_cons hargs
                    obtain ⟨v2, vr2, hvr2, hv2, hvr3⟩ := Rep.tup_cons hvr
                    have hnil : vr2 = [] := by
                      generalize e : Value.tuple vr2.toArray = u at hvr3
                      cases hvr3 with | tup0 => simpa using e
                    have hv2' : v2 = .iface o.T (.pointer (some ⟨L.b, 0, none⟩)) := by
                      cases hv2 with
                      | ifc h => cases h with | ref hL' => rw [hL] at hL'; cases hL'; rfl
                    subst hnil hv2' hvr2
                    have okj := h.mem.sep.ok j _ (toIts_at hjg)
                    have hF : (toIt E.N E.T ρ C.B0 id (.own o.S [.int .i64 x])).F = [L.b] := by show foot E.N ρ id (.own o.S [.int .i64 x]) = _; rw [foot_own hL, hbs]
                    have hnz : ∀ b ∈ [L.b], ¬ Z b := fun b hb => okj.notZ b (by rw [hF]; exact hb)
                    have hA : ∀ id2 t l, lk (st.items ++ lkd) id2 = some (.ac t l) → ∀ b ∈ foot E.N ρ id2 (.ac t l), b ∉ [L.b] := fun id2 t l hi2 b hb hb' => by
                      obtain ⟨j2, hj2, _⟩ := lk_mem hi2
                      have hne : j2 ≠ j := fun e => by subst e; rw [hjg] at hj2; cases hj2
                      exact h.mem.sep.apart j2 j _ _ (toIts_at hj2) (toIts_at hjg) hne b hb (by rw [hF]; exact hb')
                    have hlv := pureT_rep (ρ' := fun _ => none) (ss := [lent (st.items ++ lkd) v0]) (by simp [hb.2]) (lent_ok (cs := [v1]) (ss := [v0]) (F := [L.b]) h.mem (fun b hb hz => hnz b hb hz) hA (.tup1 (cs := []) hv1 .tup0))
                    obtain ⟨u1, ur, hu1, hl1, _⟩ := Rep.tup_cons hlv
                    obtain ⟨rfl, rfl⟩ : v1 = u1 ∧ [] = ur := by cases hu1; exact ⟨rfl, rfl⟩
                    have run := hE.wrc K0 o _ x r hwrc hr ho (seen Z w [L.b]) w v1 L.b (fun b hb => hb.1) (fun hs => hs.2 (by simp)) (E.G.stab h.glob (Ext.refl [] w) (fun _ h => by cases h) (fun b hz hb => ⟨hb, fun hm => hnz b hm hz⟩)) hl1 hown hxI
                    rw [← hvs] at run
                    refine S_callA hz hK run hn fun v w' ⟨x', hown', hrx, hrep', hy⟩ => ?_
                    have hs1 := Wl.Sep.upd h.mem.tn (j + 1) (t := toIt E.N E.T ρ C.B0 id (.own o.S [.int .i64 x])) (t' := iOwn L.b o.S [.int .i64 r.x] C.B0) (w' := w') (by rw [List.getElem?_cons_succ]; exact toIts_at hjg) (by rw [hF]; exact x') hown' sOwn (fun b hb => ⟨.inl (by rw [hF]; exact hb), by have := hown'.lt; simp at hb; omega⟩) rfl
                    have hjt : j < (toIts E.N E.T ρ C.B0 (st.items ++ lkd)).length := by simpa [toIts] using lt_get hjg
                    have t1 := tn_of (Z := Z) (w := w) (ρ := ρ) (ρ' := ρ) (k := 0) hs1 (by simp) (fun _ _ h => h)
                    have hs2 : Sep C.B0 C.w0 Z w' ((toIts E.N E.T ρ C.B0 (st.items ++ lkd)).set j (iOwn L.b o.S [.int .i64 r.x] C.B0)) := septn (u := tnI Z w) (by simpa using hs1)
                    have m1 := h.mem.turn (i' := .own o.S [.int .i64 r.x]) hjg hs2 ⟨L, _, hL, hbs, hs2.at j (t := iOwn L.b o.S [.int .i64 r.x] C.B0) (by rw [List.getElem?_set_self hjt]), RepL.cons (.int fun _ => hrx) rfl RepL.nil⟩ (fun b hb => by rw [foot_own hL, hbs] at hb; exact hb)
                    rw [List.set_append_left _ _ (lt_get hj), ← hu] at m1
                    exact K _ _ _ _ _ (h.put hf t1 m1 (Rep.bare hrep')) (im_hy hv hy)
                  · exact hv.elim
              · exact hv.elim
          · exact hv.elim
        · obtain ⟨hi, hrun⟩ := hI _ _ _ _ _ _ hv
          have hK := hE.call K0 (by rw [hi]; simp)
          refine S_callA hz hK (hrun C ρ Z w _ h.mem h.glob hargs) hn fun v w' ⟨ρ', Z', s, its', nx', hm', t', hr, hk⟩ => ?_
          exact K _ _ _ _ _ (h.put hf t' hm' hr) hk
theorem vcOp_ok {q : Bool} (hE : EnvOK E) (hI : InlOK E inl) {d : Option Nat} {op : Op} {k : E.St → Prop} (h : Rel E C fx lkd st ρ Z f w) (hf : free n fx st d = true) (hv : vcOp q inl fx lkd st d op ty k) (K : KR E C q n ops Q rest fx lkd f d k) :
    WL E.P q n ops Q (⟨d, op, ty, pos, after, none⟩ :: rest) f w := by
  unfold vcOp at hv
  split at hv
  · rename_i a hs
    cases d with
    | none => exact hv.elim
    | some d =>
      obtain ⟨ho, hv⟩ := cj_ob (show cj a.ob (im a.hy (k (put st (some d) a.v))) from hv)
      exact stepG_ok h AllG.nil hs ho (free_some hf).1 fun v hr hy => K _ _ _ _ _ (h.put0 hf hr) (im_hy hv hy)
  · cases q with
    | true => exact hv.elim
    | false =>
      rw [cond_false] at hv
      split at hv
      · rename_i s hs
        cases hd : okD op d with
        | false => rw [hd] at hv; exact hv.elim
        | true =>
          rw [hd, cond_true] at hv
          obtain ⟨ho, hv⟩ := cj_ob hv
          refine stepE_ok hE h.mem (fun o => h.ev AllG.nil o) hs ho ?_ fun v ρ' Z' w' m1 t1 hr hy => K _ _ _ _ _ (h.put hf t1 m1 hr) (im_hy hv hy)
          have hb := free_blt hf
          cases op with
          | store T a x =>
            cases d with
            | none => rfl
            | some d => cases hd
          | _ =>
            cases d with
            | none => cases hd
            | some d => exact ⟨d, rfl, hb d rfl⟩
      · split at hv
        · rename_i c hc
          cases op with
          | call c' => simp only [opCall, Option.some.injEq] at hc; subst hc; exact vcCall_ok hE hI h hf hv K
          | _ => cases hc
        · exact hv.elim
end
end Go.Rx
end
section
namespace Go.Rx
open Go Go.Wk Go.Wl
section
variable {E : Env} {C : Ctx} {n : Nat} {ops : List Oper} {Q : Exit → Fr → World → Prop} {rest : List Oper} {f : Fr} {w w' : World}
variable {ty T T' : TypeId} {pos : String} {after : Array Edge} {x y z : Operand} {a b : Int} {ρ ρ' : Env1} {Z Z' : Nat → Prop} {its its' lkd : Items E.N} {nx : Nat} {s : S1 E.N}
variable {fx : Slots E.N} {st : E.St} {inl : Inl E}
theorem undef_ne {b : Bool} : (undef : Value) ≠ .bool b := fun h => by cases h
theorem chain_ok (h : Rel E C fx lkd st ρ Z f w) : ∀ (m j : Nat) (b : Bool), f j = .bool b → AllG f (chain st.gs m j b)
  | 0, _, _, _ => AllG.nil
  | m + 1, j, b, e => fun k c hk => by
    simp only [chain, gmem, List.any_cons, Bool.or_eq_true, Bool.and_eq_true] at hk
    rcases hk with ⟨h1, h2⟩ | hk
    · have h1 := Nat.eq_of_beq_eq_true h1
      subst h1
      have : b = c := by simpa using h2
      subst this; exact e
    · split at hk
      · rename_i j' b' v hg
        have hgs := h.gs j j' b' v hg
        have e' : f j' = .bool b' := by
          by_cases e2 : f j' = .bool b'
          · exact e2
          · rw [hgs.2 e2] at e; exact absurd e undef_ne
        exact chain_ok h m j' b' e' k c hk
      · simp at hk
theorem gprop_ok (h : Rel E C fx lkd st ρ Z f w) : ∀ (m j : Nat) (b : Bool) (p : Prop) (d : Decidable p), gprop fx st m j b = some ⟨p, d⟩ → (p ↔ f j = .bool b) ∧ (¬ p → f j = .bool (!b) ∨ f j = undef)
  | 0, _, _, _, _, e => by cases e
  | m + 1, j, b, p, d, e => by
    unfold gprop at e
    split at e
    · rename_i j' b' v hg
      have hgs := h.gs j j' b' v hg
      split at e
      · rename_i p1 d1 q1 e1 hp1 hq1
        have ih := gprop_ok h m j' b' q1 e1 hq1
        cases b with
        | true =>
          rw [cond_true] at e; cases e
          by_cases hq : q1
          · have hr := (hgs.1 (ih.1.1 hq)).boolv hp1
            rw [hr]
            by_cases hp : p1 <;> simp [hq, hp]
          · have hu := hgs.2 (fun e => hq (ih.1.2 e))
            rw [hu]
            exact ⟨⟨fun h => absurd h.1 hq, fun h => absurd h undef_ne⟩, fun _ => .inr rfl⟩
        | false =>
          rw [cond_false] at e; cases e
          by_cases hq : q1
          · have hr := (hgs.1 (ih.1.1 hq)).boolv hp1
            rw [hr]
            by_cases hp : p1 <;> simp [hq, hp]
          · have hu := hgs.2 (fun e => hq (ih.1.2 e))
            rw [hu]
            exact ⟨⟨fun h => absurd h.1 hq, fun h => absurd h undef_ne⟩, fun _ => .inr rfl⟩
      · cases e
    · split at e
      · rename_i p1 d1 hp1
        have hr := (h.slot j).boolv hp1
        cases b with
        | true => rw [cond_true] at e; cases e; rw [hr]; by_cases hp : p <;> simp [hp]
        | false => rw [cond_false] at e; cases e; rw [hr]; by_cases hp : p1 <;> simp [hp]
      · cases e
theorem Rel.guarded {d dj : Nat} {b : Bool} {v : Value} {s : E.SV} (h : Rel E C fx lkd st ρ Z f w) (hf : free n fx st (some d) = true) (hd : d ≠ dj) (t : Tn ρ Z w ρ Z' w') (hm : Mem E C ρ Z' w' (st.items ++ lkd) st.nx) (hv : (f dj = .bool b → Rep E.N E.T ρ Z' w' v s) ∧ (f dj ≠ .bool b → v = undef)) :
    Rel E C fx lkd ⟨(d, .un) :: st.slots, (d, dj, b, s) :: st.gs, st.items, st.nx⟩ ρ Z' (upd f d v) w' := by
  obtain ⟨_, h2, h3, h4⟩ := free_some hf
  refine ⟨fun k s' hk => ?_, fun p hp => ?_, fun k j c s' hk => ?_, hm, h.tn.trans t, h.g⟩
  · rw [lk_cons] at hk
    by_cases e : d = k
    · rw [if_pos e] at hk; cases hk; exact .un
    · rw [if_neg e] at hk; rw [upd_ne e]; exact t.rep (h.sl k s' hk)
  · rw [upd_ne (lk_none h2 p hp)]; exact t.rep (h.fx p hp)
  · rw [lk_cons] at hk
    by_cases e : d = k
    · rw [if_pos e] at hk; cases hk; subst e
      rw [upd_same, upd_ne hd]; exact hv
    · rw [if_neg e] at hk
      have e2 : d ≠ j := Ne.symm (gs_free h4 hk)
      rw [upd_ne e, upd_ne e2]
      exact ⟨fun e => t.rep ((h.gs k j c s' hk).1 e), (h.gs k j c s' hk).2⟩
theorem imp_all {p : Prop} {l : List Prop} (hp : p) (h : allP (imp p l)) : allP l := by
  induction l with
  | nil => trivial
  | cons q l ih => exact ⟨h.1 hp, ih h.2⟩
theorem imp_of {p : Prop} {l : List Prop} (h : p → allP l) : allP (imp p l) := by
  induction l with
  | nil => trivial
  | cons q l ih => exact ⟨fun hp => (h hp).1, ih fun hp => (h hp).2⟩
theorem Rel.knows {dj : Nat} {b : Bool} (h : Rel E C fx lkd st ρ Z f w) (e : f dj = .bool b) : Rel E C fx lkd (Rx.put st (some dj) (bif b then .tt else .ff)) ρ Z f w := by
  refine ⟨fun k s' hk => ?_, h.fx, h.gs, h.mem, h.tn, h.g⟩
  have hk : lk ((dj, bif b then SV.tt else SV.ff) :: st.slots) k = some s' := hk
  rw [lk_cons] at hk
  by_cases e2 : dj = k
  · rw [if_pos e2] at hk; cases hk; subst e2; rw [e]
    cases b
    · exact .ff
    · exact .tt
  · rw [if_neg e2] at hk; exact h.sl k s' hk
theorem lk_app2 {β : Type} {a b : List (Nat × β)} {k : Nat} {x : β} (h : lk (a ++ b) k = some x) : lk a k = some x ∨ lk b k = some x := by
  induction a with
  | nil => exact .inr h
  | cons p a ih =>
    have h : (bif Nat.beq p.1 k then some p.2 else lk (a ++ b) k) = some x := h
    show (bif Nat.beq p.1 k then some p.2 else lk a k) = some x ∨ _
    cases hb : Nat.beq p.1 k with
    | true => rw [hb, cond_true] at h; left; rw [cond_true]; exact h
    | false => rw [hb, cond_false] at h; rw [cond_false]; exact ih h
theorem lk_in2 {β : Type} {a : List (Nat × β)} {k : Nat} {x : β} (h : lk a k = some x) : (k, x) ∈ a := by
  obtain ⟨i, hi, _⟩ := lk_mem h
  exact List.mem_of_getElem? hi
theorem lk_filter2 {β : Type} {l : List (Nat × β)} {g : Nat → Bool} {k : Nat} {x : β} (h : lk (l.filter fun p => g p.1) k = some x) : g k = true ∧ lk l k = some x := by
  induction l with
  | nil => cases h
  | cons p l ih =>
    show _ ∧ (bif Nat.beq p.1 k then some p.2 else lk l k) = some x
    rw [List.filter_cons] at h
    by_cases hg : g p.1 = true
    · rw [if_pos hg] at h
      have h : (bif Nat.beq p.1 k then some p.2 else lk (l.filter fun p => g p.1) k) = some x := h
      cases hb : Nat.beq p.1 k with
      | true =>
        rw [hb, cond_true] at h
        rw [cond_true]
        have := Nat.eq_of_beq_eq_true hb
        exact ⟨by rw [← this]; exact hg, h⟩
      | false => rw [hb, cond_false] at h; rw [cond_false]; exact ih h
    · rw [if_neg hg] at h
      obtain ⟨h1, h2⟩ := ih h
      cases hb : Nat.beq p.1 k with
      | true =>
        have := Nat.eq_of_beq_eq_true hb
        rw [this] at hg; exact absurd h1 hg
      | false => rw [cond_false]; exact ⟨h1, h2⟩
theorem Rel.settle {dj : Nat} {b : Bool} (h : Rel E C fx lkd st ρ Z f w) (e : f dj = .bool b) : Rel E C fx lkd (Rx.settle st dj b) ρ Z f w := by
  refine ⟨fun k s' hk => ?_, h.fx, fun k j c s' hk => ?_, h.mem, h.tn, h.g⟩
  · rcases lk_app2 hk with hk | hk
    · have hm := lk_in2 hk
      rw [List.mem_filterMap] at hm
      obtain ⟨p, _, hp⟩ := hm
      split at hp
      · rename_i j w' v hl
        cases hb : Nat.beq j dj with
        | false => rw [hb, cond_false] at hp; cases hp
        | true =>
          rw [hb, cond_true] at hp
          have hj := Nat.eq_of_beq_eq_true hb
          subst hj
          simp only [Option.some.injEq, Prod.mk.injEq] at hp
          obtain ⟨rfl, rfl⟩ := hp
          have g := h.gs p.1 j w' v hl
          by_cases hw : w' = b
          · subst hw
            rw [beq_self_eq_true, cond_true]; exact g.1 e
          · have : (w' == b) = false := by simpa using hw
            rw [this, cond_false, g.2 (by rw [e]; intro x; cases x; exact hw rfl)]
            exact .undef
      · cases hp
    · exact h.sl k s' hk
  · have hk : lk (st.gs.filter (fun p => match lk st.gs p.1 with | some (j, _, _) => !Nat.beq j dj | none => false)) k = some (j, c, s') := hk
    exact h.gs k j c s' (lk_filter2 (g := fun k => match lk st.gs k with | some (j, _, _) => !Nat.beq j dj | none => false) hk).2
theorem lk_keys2 {β : Type} {a : List (Nat × β)} {k : Nat} (h : (lk a k).isNone = true) : ∀ x, (k, x) ∉ a := by
  induction a with
  | nil => intro x hx; cases hx
  | cons p a ih =>
    intro x hx
    have h : (bif Nat.beq p.1 k then some p.2 else lk a k).isNone = true := h
    cases hb : Nat.beq p.1 k with
    | true => rw [hb, cond_true] at h; cases h
    | false =>
      rw [hb, cond_false] at h
      rcases List.mem_cons.1 hx with e | hx
      · subst e; simp at hb
      · exact ih h x hx
theorem free_settle {dj : Nat} {b : Bool} {d : Option Nat} (h : free n fx st d = true) : free n fx (settle st dj b) d = true := by
  cases d with
  | none => rfl
  | some d =>
    unfold free at h ⊢
    simp only [Bool.and_eq_true] at h ⊢
    obtain ⟨⟨⟨h1, h2⟩, h3⟩, h4⟩ := h
    refine ⟨⟨⟨h1, h2⟩, ?_⟩, ?_⟩
    · cases hl : lk (settle st dj b).gs d with
      | none => rfl
      | some x =>
        have hl : lk (st.gs.filter (fun p => match lk st.gs p.1 with | some (j, _, _) => !Nat.beq j dj | none => false)) d = some x := hl
        have := (lk_filter2 (g := fun k => match lk st.gs k with | some (j, _, _) => !Nat.beq j dj | none => false) hl).2
        rw [this] at h3; cases h3
    · rw [List.all_eq_true] at h4 ⊢
      intro p hp
      exact h4 p (List.mem_filter.1 hp).1
theorem free_put {dj : Nat} {s : E.SV} {d : Option Nat} (h : free n fx st d = true) : free n fx (put st (some dj) s) d = true := by
  cases d with
  | none => rfl
  | some d => exact h
theorem off_ok {q : Bool} {j dj : Nat} {b : Bool} {d : Option Nat} {op : Op} {k : E.St → Prop} (hj : dstAt ops j = some dj) (hnj : Nat.blt dj n = true) (h : Rel E C fx lkd st ρ Z f w) (hf : free n fx st d = true) (hq : q = true → d.isSome = true) (e : f dj = .bool (!b) ∨ f dj = undef) (hk : k (put st d .undef)) (K : KR E C q n ops Q rest fx lkd f d k) :
    WL E.P q n ops Q (⟨d, op, ty, pos, after, some (j, b)⟩ :: rest) f w := by
  have hr := h.put0 (v := undef) hf .undef
  cases d with
  | some d =>
    have hn := (free_some hf).1
    rcases e with e | e
    · exact WL_off hj hnj hn e (K _ _ _ _ _ hr hk)
    · exact WL_off0 hj hnj hn e (K _ _ _ _ _ hr hk)
  | none =>
    cases q with
    | true => exact absurd (hq rfl) (by simp)
    | false =>
      rcases e with e | e
      · exact WL_offN hj hnj e (K _ _ _ _ _ hr hk)
      · exact WL_offN0 hj hnj e (K _ _ _ _ _ hr hk)
theorem vcGuard_ok {e0 q : Bool} (hE : EnvOK E) (hI : InlOK E inl) {j dj : Nat} {b : Bool} {d : Option Nat} {op : Op} {k : E.St → Prop} (hj : dstAt ops j = some dj) (hnj : Nat.blt dj n = true) (h : Rel E C fx lkd st ρ Z f w) (hf : free n fx st d = true) (hq : q = true → d.isSome = true) (hv : vcGuard n e0 q inl fx lkd st dj b d op ty k) (K : KR E C q n ops Q rest fx lkd f d k) :
    WL E.P q n ops Q (⟨d, op, ty, pos, after, some (j, b)⟩ :: rest) f w := by
  unfold vcGuard at hv
  split at hv
  · rename_i p a d' hs
    replace hs : gSel q fx lkd st dj b d op = some (p, a, d') := by
      cases e0 with
      | true => cases hs
      | false => exact hs
    unfold gSel at hs
    split at hs
    · rename_i p1 dp a1 d1 hg ho1
      cases hb : Nat.beq d1 dj with
      | true => rw [hb] at hs; cases hs
      | false =>
        rw [hb, cond_false] at hs; cases hs
        have hne : d' ≠ dj := fun e => by subst e; rw [Nat.beq_refl] at hb; cases hb
        obtain ⟨ho, hv⟩ := cj_ob hv
        obtain ⟨g1, g2⟩ := gprop_ok h 8 dj b p dp hg
        by_cases hp : p
        · have e := g1.1 hp
          have ho := imp_all hp ho
          have hc := chain_ok h 8 dj b e
          refine WL_on hj hnj e ?_
          unfold gOp at ho1
          split at ho1
          · rename_i a2 hs2
            simp only [Option.some.injEq] at ho1; subst ho1
            exact stepG_ok h hc hs2 ho (free_some hf).1 fun v hr hy => K _ _ _ _ _ (h.guarded hf hne (Tn.refl _ _ _) h.mem ⟨fun _ => hr, fun e' => absurd e e'⟩) (im_hy hv (imp_of fun _ => hy))
          · cases q with
            | true => cases ho1
            | false =>
              rw [cond_false] at ho1
              split at ho1
              · rename_i c hc2
                cases op with
                | call c' =>
                  simp only [opCall, Option.some.injEq] at hc2; subst hc2
                  unfold gCall at ho1
                  split at ho1
                  · rename_i K0 args hcal
                    obtain ⟨z, xs, Ts, cap, rfl, hz, hargs⟩ := callee_ok (fun o => h.ev hc o) hcal
                    have ⟨hl, ho2⟩ := bif_some ho1
                    split at ho2
                    · rename_i Cf hcon
                      split at ho2
                      · rename_i r hr
                        have ⟨hb2, ho3⟩ := bif_some ho2
                        simp only [Option.some.injEq] at ho3; subst ho3
                        simp only [Bool.and_eq_true] at hb2
                        refine S_callA hz (hE.call K0 (by rw [hcon]; rfl)) (lend_run hE h.mem hcon hl hr hb2.1 hb2.2 ho h.glob hargs) (free_blt hf) fun v w' ⟨x, hr', hy⟩ => ?_
                        obtain ⟨m1, t1⟩ := h.mem.ext0 x
                        exact K _ _ _ _ _ (h.guarded hf hne t1 m1 ⟨fun _ => Rep.bare hr', fun e' => absurd e e'⟩) (im_hy hv (imp_of fun _ => hy))
                      · cases ho2
                    · cases ho2
                  · cases ho1
                | _ => cases hc2
              · cases ho1
        · have e := g2 hp
          have hr := h.guarded (v := undef) (s := a.v) (b := b) hf hne (Tn.refl _ _ _) h.mem ⟨fun e' => absurd (g1.2 e') hp, fun _ => rfl⟩
          have hk := im_hy hv (imp_of fun hp' => absurd hp' hp)
          rcases e with e | e
          · exact WL_off hj hnj (free_some hf).1 e (K _ _ _ _ _ hr hk)
          · exact WL_off0 hj hnj (free_some hf).1 e (K _ _ _ _ _ hr hk)
    · cases hs
  · cases hb : ((lk st.gs dj).isNone && !q) with
    | false => rw [hb] at hv; exact hv.elim
    | true =>
      rw [hb, cond_true] at hv
      split at hv
      · rename_i p dp hp
        have hr := (h.slot dj).boolv hp
        by_cases hpp : p
        · have e : f dj = .bool true := by rw [hr]; simp [hpp]
          have hk := hv.1 hpp
          have h2 := (h.settle e).knows e
          cases b with
          | true => rw [cond_true] at hk; exact WL_on hj hnj e (vcOp_ok hE hI h2 (free_put (free_settle hf)) hk K)
          | false => rw [cond_false] at hk; exact off_ok hj hnj h2 (free_put (free_settle hf)) hq (.inl e) hk K
        · have e : f dj = .bool false := by rw [hr]; simp [hpp]
          have hk := hv.2 hpp
          have h2 := (h.settle e).knows e
          cases b with
          | true => rw [cond_true] at hk; exact off_ok hj hnj h2 (free_put (free_settle hf)) hq (.inl e) hk K
          | false => rw [cond_false] at hk; exact WL_on hj hnj e (vcOp_ok hE hI h2 (free_put (free_settle hf)) hk K)
      · exact hv.elim
theorem vcOps_ok {q : Bool} (hE : EnvOK E) (hI : InlOK E inl) {k : E.St → Prop} : ∀ (l : List Oper) (st : E.St) (ρ : Env1) (Z : Nat → Prop) (f : Fr) (w : World), Rel E C fx lkd st ρ Z f w → vcOps n q inl fx lkd ops l st k → (∀ st' ρ' Z' f' w', Rel E C fx lkd st' ρ' Z' f' w' → st'.gs = [] → k st' → Q .normal f' w') → WL E.P q n ops Q l f w
  | [], st, ρ, Z, f, w, h, hv, K => WL_nil (K ⟨st.slots, [], st.items, st.nx⟩ ρ Z f w ⟨h.sl, h.fx, fun k j b s hk => (by cases hk), h.mem, h.tn, h.g⟩ rfl hv)
  | o :: rest, st, ρ, Z, f, w, h, hv, K => by
    obtain ⟨dst, op, ty, pos, after, guard⟩ := o
    unfold vcOps at hv
    cases hb : (free n fx st dst && (!q || dst.isSome)) with
    | false => simp only [hb] at hv; exact hv.elim
    | true =>
      simp only [hb, cond_true] at hv
      simp only [Bool.and_eq_true, Bool.or_eq_true, Bool.not_eq_true'] at hb
      obtain ⟨hf, hq⟩ := hb
      have hq' : q = true → dst.isSome = true := fun e => by
        rcases hq with h | h
        · rw [e] at h; cases h
        · exact h
      have KK : KR E C q n ops Q rest fx lkd f dst (fun st => vcOps n q inl fx lkd ops rest st k) := fun st' ρ' Z' v w' hr hk => vcOps_ok hE hI rest st' ρ' Z' _ w' hr hk K
      cases guard with
      | none => exact vcOp_ok hE hI h hf hv KK
      | some g =>
        obtain ⟨j, b⟩ := g
        simp only at hv
        split at hv
        · exact hv.elim
        · rename_i dj hj
          cases hnj : Nat.blt dj n with
          | false => rw [hnj] at hv; exact hv.elim
          | true =>
            rw [hnj, cond_true] at hv
            have hslot : ∀ s, (bif (lk st.gs dj).isNone then slotOf fx st dj else .un) = s → Rep E.N E.T ρ Z w (f dj) s := fun s e => by
              subst e
              cases (lk st.gs dj).isNone with
              | true => exact h.slot dj
              | false => exact .un
            split at hv
            · rename_i e
              have hr := hslot _ e
              have e1 : f dj = .bool true := by generalize f dj = u at hr; cases hr; rfl
              cases b with
              | true => rw [cond_true] at hv; exact WL_on hj hnj e1 (vcOp_ok hE hI h hf hv KK)
              | false => rw [cond_false] at hv; exact off_ok hj hnj h hf hq' (.inl e1) hv KK
            · rename_i e
              have hr := hslot _ e
              have e1 : f dj = .bool false := by generalize f dj = u at hr; cases hr; rfl
              cases b with
              | true => rw [cond_true] at hv; exact off_ok hj hnj h hf hq' (.inl e1) hv KK
              | false => rw [cond_false] at hv; exact WL_on hj hnj e1 (vcOp_ok hE hI h hf hv KK)
            · rename_i e
              have hr := hslot _ e
              have e1 : f dj = undef := by generalize f dj = u at hr; cases hr; rfl
              exact off_ok hj hnj h hf hq' (.inr e1) hv KK
            · exact vcGuard_ok hE hI hj hnj h hf hq' hv KK
end
end Go.Rx
end
section
namespace Go.Rx
open Go Go.Wk Go.Wl
section
variable {B0 : List Nat} {w0 w w' : World} {Z Z' : Nat → Prop} {l l' : List It}
theorem Sep.pw (hs : Sep B0 w0 Z w l) : (∀ t ∈ l, t.Ok B0 w0 Z w) ∧ l.Pairwise (fun s t => ∀ b ∈ s.F, b ∉ t.F) := by
  refine ⟨fun t ht => ?_, ?_⟩
  · obtain ⟨i, hi, rfl⟩ := List.getElem_of_mem ht
    exact hs.ok i _ (by simp [hi])
  · rw [List.pairwise_iff_getElem]
    intro i j hi hj hij
    exact hs.apart i j _ _ (by simp [hi]) (by simp [hj]) (by omega)
theorem Sep.of_pw (hx : Ext B0 w0 w) (hz : ∀ b, Z b → b < w.heap.size) (h1 : ∀ t ∈ l, t.Ok B0 w0 Z w) (h2 : l.Pairwise (fun s t => ∀ b ∈ s.F, b ∉ t.F)) : Sep B0 w0 Z w l := by
  refine ⟨hx, hz, fun k t hk => h1 t (List.mem_of_getElem? hk), fun j k s t hj hk hne => ?_⟩
  rw [List.pairwise_iff_getElem] at h2
  have hjl := lt_get hj
  have hkl := lt_get hk
  rw [List.getElem?_eq_getElem hjl] at hj
  rw [List.getElem?_eq_getElem hkl] at hk
  cases hj; cases hk
  rcases Nat.lt_or_ge j k with h | h
  · exact h2 j k hjl hkl h
  · exact fun b hb hb' => h2 k j hkl hjl (by omega) b hb' hb
theorem Sep.perm (hs : Sep B0 w0 Z w l) (hp : l.Perm l') : Sep B0 w0 Z w l' := by
  obtain ⟨h1, h2⟩ := Sep.pw hs
  exact Sep.of_pw hs.ext hs.zlt (fun t ht => h1 t (hp.mem_iff.2 ht)) ((hp.pairwise_iff (fun {a b} h x hx hx' => h x hx' hx)).1 h2)
end
section
variable {E : Env} {C : Ctx} {f : Fr} {w w' : World}
variable {ρ ρ' : Env1} {Z Z' : Nat → Prop} {its its' lkd : Items E.N} {nx : Nat} {fx : Slots E.N} {st : E.St}
theorem Mem.perm (hm : Mem E C ρ Z w its nx) (hp : its.Perm its') : Mem E C ρ Z w its' nx := ⟨Sep.perm hm.sep (hp.map _), hm.fr, hm.ge, hm.zge, hm.zle⟩
theorem split_perm (its : Items E.N) (ids : List Nat) : its.Perm (within its ids ++ without its ids) := by
  induction its with
  | nil => exact List.Perm.nil
  | cons p r ih =>
    unfold within without at *
    rw [List.filter_cons, List.filter_cons]
    cases ids.elem p.1 with
    | true => simpa using ih
    | false => exact ((List.Perm.cons p ih).trans List.perm_middle.symm)
/-- The ground of a piece of code within another one. -/
def Ctx.at (C : Ctx) (ρ : Env1) (Z : Nat → Prop) (w : World) : Ctx := ⟨ρ, Z, C.w0, C.B0, w⟩
theorem Mem.down (hm : Mem E C ρ Z w its nx) : Mem E (C.at ρ Z w) ρ Z w its nx := ⟨hm.sep, hm.fr, fun _ _ h => h, fun _ h => h, fun _ h => .inl h⟩
theorem Mem.upC {ρb : Env1} {Zb : Nat → Prop} {wb : World} {nb : Nat} {ib : Items E.N} (hb : Mem E C ρb Zb wb ib nb) (hm : Mem E (C.at ρb Zb wb) ρ Z w its nx) : Mem E C ρ Z w its nx :=
  ⟨hm.sep, hm.fr, fun i L e => hm.ge i L (hb.ge i L e), fun b h => hm.zge b (hb.zge b h), fun b h => by
    rcases hm.zle b h with h | h
    · exact hb.zle b h
    · exact .inr h⟩
theorem Rel.enter (h : Rel E C fx lkd st ρ Z f w) (keep ids : List Nat) : Rel E (C.at ρ Z w) (keepS fx st keep ++ fx) (without st.items ids ++ lkd) (inn st ids) ρ Z f w := by
  refine ⟨h.sl, fun p hp => ?_, fun k j b s hk => (by cases hk), ?_, Tn.refl _ _ _, h.glob⟩
  · rcases List.mem_append.1 hp with hp | hp
    · simp only [keepS, List.mem_map] at hp
      obtain ⟨s, _, rfl⟩ := hp
      exact h.slot s
    · exact h.fx p hp
  · refine h.mem.down.perm ?_
    rw [show (inn st ids).items = within st.items ids from rfl, ← List.append_assoc]
    exact (split_perm st.items ids).append_right lkd
theorem lk_app {β : Type} {l l2 : List (Nat × β)} {k : Nat} {s : β} (h : lk (l ++ l2) k = some s) : lk l k = some s ∨ (lk l k = none ∧ lk l2 k = some s) := by
  induction l with
  | nil => exact .inr ⟨rfl, h⟩
  | cons p r ih =>
    have h : (bif Nat.beq p.1 k then some p.2 else lk (r ++ l2) k) = some s := h
    show (bif Nat.beq p.1 k then some p.2 else lk r k) = some s ∨ ((bif Nat.beq p.1 k then some p.2 else lk r k) = none ∧ lk l2 k = some s)
    cases hb : Nat.beq p.1 k with
    | true => rw [hb, cond_true] at h; exact .inl h
    | false => rw [hb, cond_false] at h; exact ih h
theorem Rel.leave {ρb : Env1} {Zb : Nat → Prop} {wb : World} {fb : Fr} {st' : E.St} (hb : Rel E C fx lkd st ρb Zb fb wb) {ks : Slots E.N} {is : Items E.N} (h : Rel E (C.at ρb Zb wb) (ks ++ fx) (is ++ lkd) st' ρ Z f w) : Rel E C fx lkd ⟨st'.slots ++ ks, [], st'.items ++ is, st'.nx⟩ ρ Z f w := by
  refine ⟨fun k s hk => ?_, fun p hp => h.fx p (List.mem_append_right _ hp), fun k j b s hk => (by cases hk), ?_, hb.tn.trans h.tn, hb.g⟩
  · rcases lk_app hk with hk | ⟨_, hk⟩
    · exact h.sl k s hk
    · obtain ⟨i, hi, _⟩ := lk_mem hk
      exact h.fx (k, s) (List.mem_append_left _ (List.mem_of_getElem? hi))
  · have := Mem.upC hb.mem h.mem
    rw [← List.append_assoc] at this
    exact this
end
end Go.Rx
end
section
namespace Go.Rx
open Go Go.Wk Go.Wl
theorem Sep.sel2 {B0 : List Nat} {w0 w : World} {Z : Nat → Prop} {l l' : List It} (hs : Sep B0 w0 Z w l) (φ : Nat → Option Nat) (inj : ∀ i j a, i < l'.length → j < l'.length → φ i = some a → φ j = some a → i = j)
    (h : ∀ (i : Nat) (t' : It), l'[i]? = some t' → (∃ k t, φ i = some k ∧ l[k]? = some t ∧ Like B0 Z w t t') ∨ (t'.P Z w ∧ t'.Stab ∧ t'.F = [] ∧ t'.O = B0)) : Sep B0 w0 Z w l' := by
  refine ⟨hs.ext, hs.zlt, fun i t' hi => ?_, fun i j s t hi hj hne b hb hb' => ?_⟩
  · rcases h i t' hi with ⟨k, t, _, ht, lk⟩ | ⟨h1, h2, h3, h4⟩
    · have ok := hs.ok _ t ht
      exact ⟨lk.P, lk.stab, fun b hb => ok.lt b (lk.F b hb), fun b hb => ok.notZ b (lk.F b hb), fun b hb => by
        rw [lk.O]
        rcases ok.org b (lk.F b hb) with h | h
        · exact .inl (ok.org0 b h)
        · exact .inr h, fun b hb => by rw [lk.O] at hb; exact hb⟩
    · exact ⟨h1, h2, fun b hb => (by rw [h3] at hb; cases hb), fun b hb => (by rw [h3] at hb; cases hb), fun b hb => (by rw [h3] at hb; cases hb), fun b hb => by rw [h4] at hb; exact hb⟩
  · rcases h i s hi with ⟨k, s1, e1, hs1, lk1⟩ | ⟨_, _, h3, _⟩
    · rcases h j t hj with ⟨k2, t1, e2, ht1, lk2⟩ | ⟨_, _, h3, _⟩
      · exact hs.apart k k2 s1 t1 hs1 ht1 (fun e => hne (inj i j k (lt_get hi) (lt_get hj) e1 (by rw [e]; exact e2))) b (lk1.F b hb) (lk2.F b hb')
      · rw [h3] at hb'; cases hb'
    · rw [h3] at hb; cases hb
def ixOf {β : Type} : List (Nat × β) → Nat → Nat
  | [], _ => 0
  | p :: r, j => bif Nat.beq p.1 j then 0 else ixOf r j + 1
theorem ixOf_get {β : Type} {l : List (Nat × β)} {j : Nat} {x : β} (h : lk l j = some x) : l[ixOf l j]? = some (j, x) := by
  induction l with
  | nil => cases h
  | cons p r ih =>
    unfold lk at h; unfold ixOf
    cases hb : Nat.beq p.1 j with
    | true => rw [hb, cond_true] at h; cases h; have := Nat.eq_of_beq_eq_true hb; simp [← this]
    | false => rw [hb, cond_false] at h; simpa using ih h
section
variable {E : Env} {C : Ctx} {f : Fr} {w : World}
variable {ρb ρ ρ2 ρ3 : Env1} {Z Zb : Nat → Prop} {wb : World} {its lkd : Items E.N} {nx : Nat}
theorem holds_lower {id : Nat} {i : Item E.N} (h : holds E.N E.T ρ id Z w i) (hb : holds E.N E.T ρb id Zb wb i) (hρ : ∀ i L, ρb i = some L → ρ i = some L) : holds E.N E.T ρb id Z w i ∧ foot E.N ρb id i = foot E.N ρ id i := by
  cases i with
  | own Ty cells =>
    obtain ⟨L, cs, hL, hbs, ho, hr⟩ := h
    obtain ⟨L', cs', hL', _, _, hr'⟩ := hb
    have := hρ _ _ hL'; rw [hL] at this; cases this
    exact ⟨⟨L, cs, hL', hbs, ho, Rep.lower hr hr' hρ⟩, by rw [foot_own hL, foot_own hL']⟩
  | ac t l =>
    obtain ⟨L, hL, r⟩ := h
    obtain ⟨L', hL', _⟩ := hb
    have := hρ _ _ hL'; rw [hL] at this; cases this
    exact ⟨⟨L, hL', r⟩, by rw [foot_ac hL, foot_ac hL']⟩
  | fz t l =>
    obtain ⟨L, hL, r⟩ := h
    obtain ⟨L', hL', _⟩ := hb
    have := hρ _ _ hL'; rw [hL] at this; cases this
    exact ⟨⟨L, hL', r⟩, rfl⟩
  | ob k fid x =>
    obtain ⟨L, Lf, hL, hf, r⟩ := h
    obtain ⟨L', Lf', hL', hf', _⟩ := hb
    have := hρ _ _ hL'; rw [hL] at this; cases this
    have := hρ _ _ hf'; rw [hf] at this; cases this
    exact ⟨⟨L, Lf, hL', hf', r⟩, by rw [foot_ob hf, foot_ob hf']⟩
/-- A part told anew: out of another one, or of no memory. -/
def Tgt (E : Env) (B0 : List Nat) (ρ : Env1) (Z : Nat → Prop) (w : World) (its : Items E.N) (ρ2 : Env1) (o : Option Nat) (p : Nat × Item E.N) : Prop := match o with
  | some sid => ∃ it, lk its sid = some it ∧ holds E.N E.T ρ2 p.1 Z w p.2 ∧ ∀ b ∈ foot E.N ρ2 p.1 p.2, b ∈ foot E.N ρ sid it
  | none => holds E.N E.T ρ2 p.1 Z w p.2 ∧ foot E.N ρ2 p.1 p.2 = []
inductive Tgts (E : Env) (B0 : List Nat) (ρ : Env1) (Z : Nat → Prop) (w : World) (its : Items E.N) (ρ2 : Env1) : List (Option Nat) → Items E.N → Prop
  | nil : Tgts E B0 ρ Z w its ρ2 [] []
  | cons {o : Option Nat} {p : Nat × Item E.N} {os : List (Option Nat)} {ps : Items E.N} : Tgt E B0 ρ Z w its ρ2 o p → Tgts E B0 ρ Z w its ρ2 os ps → Tgts E B0 ρ Z w its ρ2 (o :: os) (p :: ps)
theorem Tgt.mono {B0 : List Nat} {o : Option Nat} {p : Nat × Item E.N} (hρ : ∀ i L, ρ2 i = some L → ρ3 i = some L) (h : Tgt E B0 ρ Z w its ρ2 o p) : Tgt E B0 ρ Z w its ρ3 o p := by
  cases o with
  | some sid => obtain ⟨it, h1, h2, h3⟩ := h; have := holds_sub hρ h2; exact ⟨it, h1, this.1, fun b hb => h3 b (by rw [← this.2]; exact hb)⟩
  | none => obtain ⟨h1, h2⟩ := h; have := holds_sub hρ h1; exact ⟨this.1, by rw [this.2]; exact h2⟩
theorem Tgts.mono {B0 : List Nat} {os : List (Option Nat)} {ps : Items E.N} (hρ : ∀ i L, ρ2 i = some L → ρ3 i = some L) (h : Tgts E B0 ρ Z w its ρ2 os ps) : Tgts E B0 ρ Z w its ρ3 os ps := by
  induction h with
  | nil => exact .nil
  | cons h _ ih => exact .cons (h.mono hρ) ih
theorem Tgts.get {B0 : List Nat} {os : List (Option Nat)} {ps : Items E.N} (h : Tgts E B0 ρ Z w its ρ2 os ps) : os.length = ps.length ∧ ∀ (i : Nat) (p : Nat × Item E.N), ps[i]? = some p → ∃ o, os[i]? = some o ∧ Tgt E B0 ρ Z w its ρ2 o p := by
  induction h with
  | nil => exact ⟨rfl, fun i p h => by simp at h⟩
  | cons h _ ih =>
    refine ⟨by simp [ih.1], fun i p hp => ?_⟩
    cases i with
    | zero => simp at hp; subst hp; exact ⟨_, rfl, h⟩
    | succ i => exact ih.2 i p (by simpa using hp)
theorem nodup_some {os : List (Option Nat)} (h : (os.filterMap id).Nodup) : ∀ (i j sid : Nat), os[i]? = some (some sid) → os[j]? = some (some sid) → i = j := by
  induction os with
  | nil => intro i j sid hi; simp at hi
  | cons o r ih =>
    intro i j sid hi hj
    have mem : ∀ k, r[k]? = some (some sid) → sid ∈ r.filterMap id := fun k hk => List.mem_filterMap.2 ⟨some sid, List.mem_of_getElem? hk, rfl⟩
    cases o with
    | none =>
      have h : (r.filterMap id).Nodup := h
      cases i with
      | zero => simp at hi
      | succ i => cases j with
        | zero => simp at hj
        | succ j => rw [ih h i j sid (by simpa using hi) (by simpa using hj)]
    | some s =>
      have h : (s :: r.filterMap id).Nodup := h
      rw [List.nodup_cons] at h
      cases i with
      | zero =>
        simp at hi; subst hi
        cases j with
        | zero => rfl
        | succ j => exact absurd (mem j (by simpa using hj)) h.1
      | succ i => cases j with
        | zero => simp at hj; subst hj; exact absurd (mem i (by simpa using hi)) h.1
        | succ j => rw [ih h.2 i j sid (by simpa using hi) (by simpa using hj)]
theorem Mem.rebuild {os : List (Option Nat)} {new : Items E.N} {n2 : Nat} (hm : Mem E C ρ Z w (its ++ lkd) nx) (hl : ∀ p ∈ lkd, Go.Rx.holds E.N E.T ρ2 p.1 Z w p.2 ∧ foot E.N ρ2 p.1 p.2 = foot E.N ρ p.1 p.2) (ht : Tgts E C.B0 ρ Z w its ρ2 os new) (hd : (os.filterMap id).Nodup) (hfr : ∀ i, n2 ≤ i → ρ2 i = none) (hge : ∀ i L, C.ρ0 i = some L → ρ2 i = some L) : Mem E C ρ2 Z w (new ++ lkd) n2 := by
  obtain ⟨hlen, hget⟩ := ht.get
  refine ⟨Sep.sel2 hm.sep (fun i => if i < new.length then (match os[i]? with | some (some sid) => some (ixOf its sid) | _ => none) else some (its.length + (i - new.length))) (fun i j a hi hj e1 e2 => ?_) fun i t' hi => ?_, hfr, hge, hm.zge, hm.zle⟩
  · have small : ∀ i, i < new.length → (match os[i]? with | some (some sid) => some (ixOf its sid) | _ => none) = some a → ∃ sid, os[i]? = some (some sid) ∧ ixOf its sid = a ∧ a < its.length ∧ ∃ it, its[a]? = some (sid, it) := fun i hi e => by
      split at e
      · rename_i sid hs
        cases e
        obtain ⟨o, ho, htg⟩ := hget i _ (List.getElem?_eq_getElem hi)
        rw [hs] at ho; cases ho
        obtain ⟨it, h1, _⟩ := htg
        exact ⟨sid, hs, rfl, lt_get (ixOf_get h1), it, ixOf_get h1⟩
      · cases e
    by_cases h1 : i < new.length
    · rw [if_pos h1] at e1
      obtain ⟨s1, a1, b1, c1, it1, d1⟩ := small i h1 e1
      by_cases h2 : j < new.length
      · rw [if_pos h2] at e2
        obtain ⟨s2, a2, b2, c2, it2, d2⟩ := small j h2 e2
        rw [d1] at d2; cases d2
        exact nodup_some hd i j s1 a1 a2
      · rw [if_neg h2] at e2; cases e2; omega
    · rw [if_neg h1] at e1; cases e1
      by_cases h2 : j < new.length
      · rw [if_pos h2] at e2
        obtain ⟨s2, a2, b2, c2, _⟩ := small j h2 e2
        omega
      · rw [if_neg h2] at e2; simp at e2; omega
  · obtain ⟨p, hp, rfl⟩ := toIts_get hi
    by_cases h1 : i < new.length
    · rw [List.getElem?_append_left h1] at hp
      obtain ⟨o, ho, htg⟩ := hget i p hp
      simp only [if_pos h1, ho]
      cases o with
      | some sid =>
        obtain ⟨it, a1, a2, a3⟩ := htg
        exact .inl ⟨_, _, rfl, toIts_at (its_get (ixOf_get a1)), a2, toIt_stab, a3, rfl⟩
      | none => exact .inr ⟨htg.1, toIt_stab, htg.2, rfl⟩
    · rw [List.getElem?_append_right (by omega)] at hp
      simp only [if_neg h1]
      have hq : (its ++ lkd)[its.length + (i - new.length)]? = some p := by rw [List.getElem?_append_right (by omega)]; simpa using hp
      obtain ⟨a1, a2⟩ := hl p (List.mem_of_getElem? hp)
      exact .inl ⟨_, _, rfl, toIts_at hq, a1, toIt_stab, fun b hb => by have hb : b ∈ foot E.N ρ2 p.1 p.2 := hb; rw [a2] at hb; exact hb, rfl⟩
theorem sub_trans {ρ1 ρ2 ρ3 : Env1} (h : ∀ i L, ρ1 i = some L → ρ2 i = some L) (k : ∀ i L, ρ2 i = some L → ρ3 i = some L) : ∀ i L, ρ1 i = some L → ρ3 i = some L := fun i L e => k _ _ (h _ _ e)
theorem rb1_ok {k : VK} {v : E.SV} {u : Value} {x : k.den E.N} {n2 : Nat} {os : List (Option Nat)} {new : Items E.N} (hm : Mem E C ρ Z w (its ++ lkd) nx) (hu : Rep E.N E.T ρ Z w u v) (h : rb1 E its k v = some x) (hfr : ∀ i, n2 ≤ i → ρ2 i = none) (ht : Tgts E C.B0 ρ Z w its ρ2 os new) :
    ∃ ρ3 os', Tgts E C.B0 ρ Z w its ρ3 os' ((fl1 E n2 k x).2.1 ++ new) ∧ (∀ i, (fl1 E n2 k x).2.2 ≤ i → ρ3 i = none) ∧ (∀ i L, ρ2 i = some L → ρ3 i = some L) ∧ Rep E.N E.T ρ3 Z w u (fl1 E n2 k x).1 ∧ os'.filterMap id = accId k v ++ os.filterMap id := by
  have same : accId k v = [] → (fl1 E n2 k x).2.1 = [] → (fl1 E n2 k x).2.2 = n2 → Rep E.N E.T ρ2 Z w u (fl1 E n2 k x).1 → ∃ ρ3 os', Tgts E C.B0 ρ Z w its ρ3 os' ((fl1 E n2 k x).2.1 ++ new) ∧ (∀ i, (fl1 E n2 k x).2.2 ≤ i → ρ3 i = none) ∧ (∀ i L, ρ2 i = some L → ρ3 i = some L) ∧ Rep E.N E.T ρ3 Z w u (fl1 E n2 k x).1 ∧ os'.filterMap id = accId k v ++ os.filterMap id := fun e0 e1 e2 hr => ⟨ρ2, os, by rw [e1]; exact ht, by rw [e2]; exact hfr, fun _ _ h => h, hr, by rw [e0]; rfl⟩
  cases k with
  | int k =>
    cases v with
    | int k' y =>
      simp only [rb1] at h
      split at h
      · rename_i e; subst e
        cases h
        cases hu with
        | int hi => exact same rfl rfl rfl (.int hi)
      · cases h
    | _ => cases h
  | byte =>
    cases v with
    | byte y => cases h; cases hu; exact same rfl rfl rfl .byte
    | _ => cases h
  | bool =>
    have hb : ∀ y : Bool, Value.bool y = .bool (@decide (y = true) inferInstance) := fun y => by cases y <;> rfl
    cases v with
    | tt => cases h; cases hu; refine same rfl rfl rfl ?_; rw [hb true]; exact .bl
    | ff => cases h; cases hu; refine same rfl rfl rfl ?_; rw [hb false]; exact .bl
    | bl p d =>
      cases h
      have he : u = .bool (@decide p d) := by cases hu; rfl
      refine same rfl rfl rfl ?_
      rw [he, hb (@decide p d)]; exact .bl
    | _ => cases h
  | str =>
    cases v with
    | str y => cases h; cases hu with | str hl => exact same rfl rfl rfl (.str hl)
    | _ => cases h
  | err =>
    cases v with
    | err y => cases h; cases hu with | err he => exact same rfl rfl rfl (.err he)
    | _ => cases h
  | sl t =>
    simp only [rb1] at h
    have hu' : Rep E.N E.T ρ Z w u (nrm its v) := by
      cases v with
      | acc id =>
        simp only [nrm]
        split
        · rename_i t l hi
          obtain ⟨j, hj, _⟩ := lk_mem hi
          obtain ⟨L, hL, hn, hr⟩ := hm.holds (its_get hj)
          cases hu with
          | acc hL' => have hL : ρ id = some L := hL; rw [hL] at hL'; cases hL'; exact .sl hr
        · exact hu
      | _ => exact hu
    exact same (by unfold accId; rfl) rfl rfl (.sl (asL_rd hu' h))
  | val t =>
    cases v with
    | agg vs =>
      simp only [rb1] at h
      split at h
      · rename_i y hy
        obtain ⟨cs, rfl, hr⟩ := Rep.agg_inv hu
        have hrd := y.bk_ok (s := .agg vs) hr h
        have hsv := y.sv_ok (ρ := ρ2) hrd
        refine same rfl rfl rfl ?_
        simp only [fl1, hy]
        split
        · rename_i ls hls; rw [hls] at hsv; exact hsv
        · exact .un
      · cases h
    | _ => cases h
  | acc t =>
    have hn := hfr n2 (Nat.le_refl _)
    cases v with
    | nils =>
      cases h
      cases hu
      refine ⟨rset ρ2 n2 ⟨0, none, 0, 0, []⟩, none :: os, .cons ⟨⟨_, rset_self, rfl, by simp, Ac.nil⟩, by rw [foot_ac rset_self]⟩ (ht.mono (rset_sub hn)), fun i hi => ?_, rset_sub hn, .acc rset_self, rfl⟩
      have hi : n2 + 1 ≤ i := hi
      unfold rset; rw [if_neg (by omega)]; exact hfr i (by omega)
    | acc id =>
      simp only [rb1] at h
      split at h
      · rename_i t' l hi
        split at h
        · rename_i e; subst e
          cases h
          obtain ⟨j, hj, _⟩ := lk_mem hi
          obtain ⟨L, hL, r⟩ := hm.holds (its_get hj)
          have hL : ρ id = some L := hL
          cases hu with
          | acc hL' =>
            rw [hL] at hL'; cases hL'
            refine ⟨rset ρ2 n2 L, some id :: os, .cons ⟨_, hi, ⟨L, rset_self, r⟩, fun b hb => by rw [foot_ac rset_self] at hb; rw [foot_ac hL]; exact hb⟩ (ht.mono (rset_sub hn)), fun i hi => ?_, rset_sub hn, .acc rset_self, rfl⟩
            have hi : n2 + 1 ≤ i := hi
            unfold rset; rw [if_neg (by omega)]; exact hfr i (by omega)
        · cases h
      · cases h
    | _ => cases h
end
end Go.Rx
end
section
namespace Go.Rx
open Go Go.Wk Go.Wl
section
variable {E : Env} {C : Ctx} {f : Fr} {w : World}
variable {ρb ρ ρ2 ρ3 : Env1} {Z Zb : Nat → Prop} {wb : World} {its lkd : Items E.N} {nx : Nat} {fx fx' : Slots E.N} {st st' : E.St}
theorem accIds_eq (ks : List VK) (vs : List E.SV) : ((ks.zip vs).filterMap accP) = (ks.zip vs).flatMap fun p => accId p.1 p.2 := by
  induction ks generalizing vs with
  | nil => rfl
  | cons k ks ih =>
    cases vs with
    | nil => rfl
    | cons v vs =>
      rw [List.zip_cons_cons, List.flatMap_cons, ← ih vs]
      cases k with
      | acc t => cases v <;> rfl
      | _ => cases v <;> rfl
theorem rbCells_ok {α : Type} (hm : Mem E C ρ Z w (its ++ lkd) nx) : ∀ (ks : List VK) (vs : List E.SV) (cs : List Value) (g : cellsDen E.N α ks) (a : α) (n2 : Nat) (new : Items E.N) (acc : List E.SV) (ac : List Value) (ρ2 : Env1) (os : List (Option Nat)),
    RepL E.N E.T ρ Z w cs vs → rbCells E its ks vs g = some a → (∀ i, n2 ≤ i → ρ2 i = none) → Tgts E C.B0 ρ Z w its ρ2 os new → RepL E.N E.T ρ2 Z w ac acc →
    ∃ ρ3 os' n3 new' cells', Tgts E C.B0 ρ Z w its ρ3 os' new' ∧ (∀ i, n3 ≤ i → ρ3 i = none) ∧ (∀ i L, ρ2 i = some L → ρ3 i = some L) ∧ RepL E.N E.T ρ3 Z w (ac ++ cs) cells' ∧ (os'.filterMap id).Perm (((ks.zip vs).flatMap fun p => accId p.1 p.2) ++ os.filterMap id) ∧ ∀ K, allCells E ks n2 new acc g K → K a n3 new' cells'
  | [], vs, cs, g, a, n2, new, acc, ac, ρ2, os, hr, h, hfr, ht, hac => by
    cases vs with
    | nil =>
      cases h
      obtain rfl := RepL.nil_inv hr
      exact ⟨ρ2, os, n2, new, acc, ht, hfr, fun _ _ h => h, by simpa using hac, List.Perm.refl _, fun K h => h⟩
    | cons v vs => cases h
  | k :: ks, vs, cs, g, a, n2, new, acc, ac, ρ2, os, hr, h, hfr, ht, hac => by
    cases vs with
    | nil => cases h
    | cons v vs =>
      obtain ⟨u, r, rfl, hu, hp, hr⟩ := RepL.cons_inv hr
      simp only [rbCells] at h
      split at h
      · rename_i x hx
        obtain ⟨ρ3, os1, t1, f1, s1, r1, o1⟩ := rb1_ok hm hu hx hfr ht
        have hac1 : RepL E.N E.T ρ3 Z w (ac ++ [u]) (acc ++ [(fl1 E n2 k x).1]) := RepL.app (Rep.sub hac s1) (Rep.agg1 r1 hp Rep.agg0)
        obtain ⟨ρ4, os2, n4, new4, cells4, t2, f2, s2, r2, o2, k2⟩ := rbCells_ok hm ks vs r (g x) a _ _ _ _ ρ3 os1 hr h f1 t1 hac1
        refine ⟨ρ4, os2, n4, new4, cells4, t2, f2, sub_trans s1 s2, by simpa using r2, ?_, fun K hK => k2 K (hK x)⟩
        rw [List.zip_cons_cons, List.flatMap_cons]
        refine o2.trans ?_
        rw [o1, ← List.append_assoc]
        exact (List.perm_append_comm).append_right _
      · cases h
/-- What is told anew, so far. -/
structure Fill (E : Env) (B0 : List Nat) (ρb ρ : Env1) (Z : Nat → Prop) (f : Fr) (w : World) (its : Items E.N) (ρ2 : Env1) (os : List (Option Nat)) (new : E.St) : Prop where
  tg : Tgts E B0 ρ Z w its ρ2 os new.items
  fr : ∀ i, new.nx ≤ i → ρ2 i = none
  sub : ∀ i L, ρb i = some L → ρ2 i = some L
  sl : ∀ k s, lk new.slots k = some s → Rep E.N E.T ρ2 Z w (f k) s
  gs : new.gs = []
theorem eqL_spec : ∀ {a b : List Nat}, eqL a b = true → a = b
  | [], [], _ => rfl
  | [], _ :: _, h => by cases h
  | _ :: _, [], h => by cases h
  | x :: a, y :: b, h => by
    simp only [eqL, Bool.and_eq_true] at h
    rw [Nat.eq_of_beq_eq_true h.1, eqL_spec h.2]
theorem rbAll_ok (hbase : ∀ s id off, slotOf fx st s = .ref id off → ∃ L, ρb id = some L) (hρ : ∀ i L, ρb i = some L → ρ i = some L) (h : Rel E C fx' lkd st' ρ Z f w) {α : Type} :
    ∀ (vs : List LV) (g : Cur E.N α vs) (a : α) (new : E.St) (ρ2 : Env1) (os : List (Option Nat)), rbAll E fx' st' vs g = some a → refsOf E fx' st' vs = refsOf E fx st vs → Fill E C.B0 ρb ρ Z f w st'.items ρ2 os new → ∀ K, allC E fx st vs g new K →
    ∃ new' ρ3 os', Fill E C.B0 ρb ρ Z f w st'.items ρ3 os' new' ∧ (os'.filterMap id).Perm (idsOf E fx' st' vs ++ os.filterMap id) ∧ K a new'
  | [], g, a, new, ρ2, os, hr, _, hF, K, hK => by cases hr; exact ⟨new, ρ2, os, hF, List.Perm.refl _, hK⟩
  | .slot s k :: vs, g, a, new, ρ2, os, hr, he, hF, K, hK => by
    simp only [rbAll] at hr
    split at hr
    · rename_i x hx
      obtain ⟨ρ3, os1, t1, f1, s1, r1, o1⟩ := rb1_ok h.mem (h.slot s) hx hF.fr hF.tg
      have hF1 : Fill E C.B0 ρb ρ Z f w st'.items ρ3 os1 ⟨(s, (fl1 E new.nx k x).1) :: new.slots, [], (fl1 E new.nx k x).2.1 ++ new.items, (fl1 E new.nx k x).2.2⟩ := ⟨t1, f1, sub_trans hF.sub s1, fun k' s' hk => by
        rw [lk_cons] at hk
        by_cases e : s = k'
        · rw [if_pos e] at hk; cases hk; subst e; exact r1
        · rw [if_neg e] at hk; exact Rep.sub (hF.sl k' s' hk) s1, rfl⟩
      obtain ⟨new', ρ4, os2, hF2, o2, k2⟩ := rbAll_ok hbase hρ h vs (g x) a _ ρ3 os1 hr (by simpa [refsOf, refOf] using he) hF1 K (hK x)
      refine ⟨new', ρ4, os2, hF2, ?_, k2⟩
      have e0 : idOf E fx' st' (.slot s k) = accId k (slotOf fx' st' s) := rfl
      have e : idsOf E fx' st' (.slot s k :: vs) = accId k (slotOf fx' st' s) ++ idsOf E fx' st' vs := by
        show idOf E fx' st' (.slot s k) ++ idsOf E fx' st' vs = _
        rw [e0]
      rw [e]
      refine o2.trans ?_
      rw [o1, ← List.append_assoc]
      exact (List.perm_append_comm).append_right _
    · cases hr
  | .own s ks :: vs, g, a, new, ρ2, os, hr, he, hF, K, hK => by
    simp only [rbAll] at hr
    split at hr
    · rename_i id off hs
      split at hr
      · rename_i T cells hi
        split at hr
        · rename_i g1 hc
          have hE : refsOf E fx' st' (.own s ks :: vs) = [id, T] ++ refsOf E fx' st' vs := by
            show refOf E fx' st' (.own s ks) ++ refsOf E fx' st' vs = _
            rw [show refOf E fx' st' (.own s ks) = [id, T] by simp [refOf, hs, hi]]
          rw [hE] at he
          have heB : refsOf E fx st (.own s ks :: vs) = refOf E fx st (.own s ks) ++ refsOf E fx st vs := rfl
          rw [heB] at he
          obtain ⟨j, hj, _⟩ := lk_mem hi
          obtain ⟨L, cs, hL, hbs, ho, hrep⟩ := h.mem.holds (its_get (l2 := lkd) hj)
          have hL : ρ id = some L := hL
          -- the base
          cases hsb : slotOf fx st s with
          | ref idb offb =>
            cases hib : lk st.items idb with
            | none => exact absurd hK (by simp [allC, hsb, hib])
            | some ib =>
              cases ib with
              | own Tb cb =>
                simp only [refOf, hsb, hib] at he
                have he2 : id :: T :: refsOf E fx' st' vs = idb :: Tb :: refsOf E fx st vs := he
                simp only [List.cons.injEq] at he2
                obtain ⟨rfl, rfl, he3⟩ := he2
                obtain ⟨Lb, hLb⟩ := hbase s _ offb hsb
                have e1 := hρ _ _ hLb
                rw [hL] at e1; cases e1
                obtain ⟨ρ3, os1, n3, new3, cells3, t1, f1, s1, r1, o1, k1⟩ := rbCells_ok h.mem ks cells cs g g1 new.nx new.items [] [] ρ2 os hrep hc hF.fr hF.tg RepL.nil
                have hL3 : ρ3 id = some L := s1 _ _ (hF.sub _ _ hLb)
                have hF1 : Fill E C.B0 ρb ρ Z f w st'.items ρ3 (some id :: os1) ⟨new.slots, [], (id, .own T cells3) :: new3, n3⟩ := ⟨.cons ⟨_, hi, ⟨L, cs, hL3, hbs, ho, by simpa using r1⟩, fun b hb => by rw [foot_own hL3] at hb; rw [foot_own hL]; exact hb⟩ t1, f1, sub_trans hF.sub s1, fun k' s' hk => Rep.sub (hF.sl k' s' hk) s1, rfl⟩
                simp only [allC, hsb, hib] at hK
                obtain ⟨new', ρ4, os2, hF2, o2, k2⟩ := rbAll_ok hbase hρ h vs g1 a _ ρ3 (some id :: os1) hr he3 hF1 K (k1 _ hK)
                refine ⟨new', ρ4, os2, hF2, ?_, k2⟩
                · have e : idsOf E fx' st' (.own s ks :: vs) = id :: ((ks.zip cells).flatMap fun p => accId p.1 p.2) ++ idsOf E fx' st' vs := by
                    show idOf E fx' st' (.own s ks) ++ idsOf E fx' st' vs = _
                    rw [show idOf E fx' st' (.own s ks) = id :: ((ks.zip cells).flatMap fun p => accId p.1 p.2) by simp only [idOf, hs, hi]; rw [accIds_eq]]
                  rw [e]
                  refine o2.trans ?_
                  have o3 : (List.filterMap _root_.id (some id :: os1)).Perm (id :: (((ks.zip cells).flatMap fun p => accId p.1 p.2) ++ os.filterMap _root_.id)) := o1.cons id
                  refine (o3.append_left (idsOf E fx' st' vs)).trans ?_
                  have : (idsOf E fx' st' vs ++ id :: (((ks.zip cells).flatMap fun p => accId p.1 p.2) ++ os.filterMap _root_.id)) = (idsOf E fx' st' vs ++ (id :: ((ks.zip cells).flatMap fun p => accId p.1 p.2))) ++ os.filterMap _root_.id := by simp
                  rw [this]
                  exact (List.perm_append_comm).append_right _
              | _ => exact absurd hK (by simp [allC, hsb, hib])
          | _ => exact absurd hK (by simp [allC, hsb])
        · cases hr
      · cases hr
    · cases hr
  | .ob s k :: vs, g, a, new, ρ2, os, hr, he, hF, K, hK => by
    simp only [rbAll] at hr
    split at hr
    · rename_i id off hs
      split at hr
      · rename_i k' fid x hi
        split at hr
        · rename_i hk
          subst hk
          have hE : refsOf E fx' st' (.ob s k' :: vs) = id :: refsOf E fx' st' vs := by
            show refOf E fx' st' (.ob s k') ++ refsOf E fx' st' vs = _
            rw [show refOf E fx' st' (.ob s k') = [id] by simp [refOf, hs]]; rfl
          rw [hE] at he
          have heB : refsOf E fx st (.ob s k' :: vs) = refOf E fx st (.ob s k') ++ refsOf E fx st vs := rfl
          rw [heB] at he
          obtain ⟨j, hj, _⟩ := lk_mem hi
          obtain ⟨L, Lf, hL, hLf, ho⟩ := h.mem.holds (its_get (l2 := lkd) hj)
          have hL : ρ id = some L := hL
          cases hsb : slotOf fx st s with
          | ref idb offb =>
            simp only [refOf, hsb] at he
            have he2 : id :: refsOf E fx' st' vs = idb :: refsOf E fx st vs := he
            simp only [List.cons.injEq] at he2
            obtain ⟨rfl, he3⟩ := he2
            obtain ⟨Lb, hLb⟩ := hbase s _ offb hsb
            have e1 := hρ _ _ hLb
            rw [hL] at e1; cases e1
            have hn := hF.fr new.nx (Nat.le_refl _)
            have s1 := rset_sub (L := Lf) hn
            have hF1 : Fill E C.B0 ρb ρ Z f w st'.items (rset ρ2 new.nx Lf) (some id :: os) ⟨new.slots, [], (id, .ob k' new.nx x) :: new.items, new.nx + 1⟩ := ⟨.cons ⟨_, hi, ⟨L, Lf, s1 _ _ (hF.sub _ _ hLb), rset_self, ho⟩, fun b hb => by rw [foot_ob rset_self] at hb; rw [foot_ob hLf]; exact hb⟩ (hF.tg.mono s1), fun i hi => by
              have hi : new.nx + 1 ≤ i := hi
              unfold rset; rw [if_neg (by omega)]; exact hF.fr i (by omega), sub_trans hF.sub s1, fun k' s' hk => Rep.sub (hF.sl k' s' hk) s1, rfl⟩
            simp only [allC, hsb] at hK
            obtain ⟨new', ρ4, os2, hF2, o2, k2⟩ := rbAll_ok hbase hρ h vs (g x) a _ _ (some id :: os) hr he3 hF1 K (hK x)
            refine ⟨new', ρ4, os2, hF2, ?_, k2⟩
            · have e : idsOf E fx' st' (.ob s k' :: vs) = id :: idsOf E fx' st' vs := by
                show idOf E fx' st' (.ob s k') ++ idsOf E fx' st' vs = _
                rw [show idOf E fx' st' (.ob s k') = [id] by simp [idOf, hs]]; rfl
              rw [e]
              exact o2.trans List.perm_middle
          | _ => exact absurd hK (by simp [allC, hsb])
        · cases hr
      · cases hr
    · cases hr
end
end Go.Rx
end
section
namespace Go.Rx
open Go Go.Wk Go.Wl
section
variable {E : Env} {C : Ctx} {n : Nat} {ops : List Oper} {Q : Exit → Fr → World → Prop} {rest : List Oper} {f : Fr} {w w' : World}
variable {ty T T' : TypeId} {pos : String} {after : Array Edge} {x y z : Operand} {ρ ρ' : Env1} {Z Z' : Nat → Prop} {its its' lkd : Items E.N} {nx : Nat}
variable {fx : Slots E.N} {st : E.St}
theorem cj_of {ps : List Prop} {r : Prop} (h : allP ps) (hr : r) : cj ps r := by
  induction ps with
  | nil => exact hr
  | cons p ps ih => exact ⟨h.1, ih h.2⟩
theorem im_of {ps : List Prop} {r : Prop} (h : allP ps → r) : im ps r := by
  induction ps with
  | nil => exact h trivial
  | cons p ps ih => exact fun hp => ih fun hs => h ⟨hp, hs⟩
theorem cjl_all : ∀ {ps : List Prop}, cjl ps → allP ps
  | [], _ => trivial
  | [_], h => ⟨h, trivial⟩
  | _ :: _ :: _, h => ⟨h.1, cjl_all h.2⟩
theorem gOp_ok (hE : EnvOK E) {ch : List (Nat × Bool)} {op : Op} {d : Nat} {a : Q1 E.N} (h : Rel E C fx lkd st ρ Z f w) (hc : AllG f ch) (hs : gOp false fx lkd st ch op = some a) (ho : allP a.ob) (hn : Nat.blt d n = true)
    (K : ∀ v w', Ext [] w w' → Rep E.N E.T ρ Z w' v a.v → allP a.hy → WL E.P false n ops Q rest (upd f d v) w') : WL E.P false n ops Q (⟨some d, op, ty, pos, after, none⟩ :: rest) f w := by
  unfold gOp at hs
  split at hs
  · rename_i a2 hs2
    simp only [Option.some.injEq] at hs; subst hs
    exact stepG_ok h hc hs2 ho hn fun v hr hy => K v w (Ext.refl [] w) hr hy
  · rw [cond_false] at hs
    split at hs
    · rename_i c hc2
      cases op with
      | call c' =>
        simp only [opCall, Option.some.injEq] at hc2; subst hc2
        unfold gCall at hs
        split at hs
        · rename_i K0 args hcal
          obtain ⟨z, xs, Ts, cap, rfl, hz, hargs⟩ := callee_ok (fun o => h.ev hc o) hcal
          have ⟨hl, ho2⟩ := bif_some hs
          split at ho2
          · rename_i Cf hcon
            split at ho2
            · rename_i r hr
              have ⟨hb2, ho3⟩ := bif_some ho2
              simp only [Option.some.injEq] at ho3; subst ho3
              simp only [Bool.and_eq_true] at hb2
              exact S_callA hz (hE.call K0 (by rw [hcon]; rfl)) (lend_run hE h.mem hcon hl hr hb2.1 hb2.2 ho h.glob hargs) (fun d' e => by cases e; exact hn) fun v w' ⟨x, hr', hy⟩ => K v w' x (Rep.bare hr') hy
            · cases ho2
          · cases ho2
        · cases hs
      | _ => cases hc2
    · cases hs
def inl0 (E : Env) : Inl E := fun _ _ _ _ _ _ => False
theorem inl0_ok : InlOK E (inl0 E) := fun _ _ _ _ _ _ h => h.elim
theorem fCall_vc {d : Option Nat} {c : Call} {s : S1 E.N} {k : E.St → Prop} (hs : fCall fx lkd st c = some s) (ho : allP s.ob) (hk : allP s.hy → k (put ⟨st.slots, st.gs, s.items, s.nx⟩ d s.v)) : vcCall (inl0 E) fx lkd st d c k := by
  unfold fCall at hs
  unfold vcCall
  split at hs
  · cases hs
  · rename_i K args hcal
    split at hs
    · rename_i Cf hcon
      cases hl : E.lend K with
      | true => rw [hl] at hs; cases hs
      | false =>
        rw [hl, cond_false] at hs
        try rw [hcon]
        simp only [cond_false]
        split at hs
        · rename_i args' its hf
          try rw [hf]
          try simp only
          unfold fCon at hs
          unfold vcCon
          rw [hcon] at hs ⊢
          simp only at hs ⊢
          split at hs
          · rename_i r hr
            have ⟨hb, hs2⟩ := bif_some hs
            simp only [Option.some.injEq] at hs2; subst hs2
            try rw [hr]
            rw [hb]
            exact cj_of ho (im_of hk)
          · cases hs
        · cases hs
    · rename_i hcon
      try rw [hcon]
      try simp only
      split at hs
      · rename_i o hob
        try rw [hob]
        try simp only
        unfold fObc at hs
        unfold vcObc
        split at hs
        · rename_i v args0
          split at hs
          · rename_i id off
            have ⟨hb, hs2⟩ := bif_some hs
            simp only [hb, cond_true]
            split at hs2
            · rename_i k' fid x hi
              try rw [hi]
              try simp only
              split at hs2
              · rename_i hk'
                try rw [dif_pos hk']
                split at hs2
                · rename_i r hr
                  simp only [Option.some.injEq] at hs2; subst hs2
                  try rw [hr]
                  exact cj_of ho (im_of hk)
                · cases hs2
              · cases hs2
            · cases hs2
          · cases hs
        · cases hs
      · cases hs
theorem fEff_ok (hE : EnvOK E) {ch : List (Nat × Bool)} {d : Option Nat} {op : Op} {s : S1 E.N} (h : Rel E C fx lkd st ρ Z f w) (hG : AllG f ch) (hf : free n fx st d = true) (hs : fEff fx lkd st ch d op ty = some s) (ho : allP s.ob)
    (K : ∀ v ρ' Z' w', Rel E C fx lkd (put ⟨st.slots, st.gs, s.items, s.nx⟩ d s.v) ρ' Z' (putF f d v) w' → allP s.hy → WL E.P false n ops Q rest (putF f d v) w') :
    WL E.P false n ops Q (⟨d, op, ty, pos, after, none⟩ :: rest) f w := by
  unfold fEff at hs
  split at hs
  · rename_i s' hs'
    have ⟨hd, hs2⟩ := bif_some hs
    simp only [Option.some.injEq] at hs2; subst hs2
    refine stepE_ok hE h.mem (fun o => h.ev hG o) hs' ho ?_ fun v ρ' Z' w' m1 t1 hr hy => K _ _ _ _ (h.put hf t1 m1 hr) hy
    have hb := free_blt hf
    cases op with
    | store T a x =>
      cases d with
      | none => rfl
      | some d => cases hd
    | _ =>
      cases d with
      | none => cases hd
      | some d => exact ⟨d, rfl, hb d rfl⟩
  · have ⟨_, hs⟩ := bif_some hs
    split at hs
    · rename_i c hc
      cases op with
      | call c' =>
        simp only [opCall, Option.some.injEq] at hc; subst hc
        refine vcCall_ok hE inl0_ok h hf (fCall_vc (k := fun st' => st' = put ⟨st.slots, st.gs, s.items, s.nx⟩ d s.v ∧ allP s.hy) hs ho fun hy => ⟨rfl, hy⟩) fun st' ρ' Z' v w' hr hk => ?_
        obtain ⟨e, hy⟩ := hk
        subst e
        exact K v ρ' Z' w' hr hy
      | _ => cases hc
    · cases hs
end
end Go.Rx
end
