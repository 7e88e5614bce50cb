/- 2 texts, one behind the other. -/
import Derived.Test.YtckpdliipjekgaaH4
import Derived.Test.YtckpdliipjekgaaChecked
set_option linter.unusedVariables false
set_option linter.unusedSimpArgs false
set_option maxRecDepth 100000
section
namespace Go.Wa
open Go Go.Wk Go.Wl Go.Rx
def leN : Str -> Int
 | []=>0
 | c :: r=>c.toNat + 256 * leN r
def getS (b : Str) : Int:=IntKind.i64.wrap (leN b)
theorem leN_nn : ∀ (b : Str),0 <= leN b
 | []=>Int.le_refl _
 | c :: r=>by have:=leN_nn r; unfold leN; omega
theorem leN_lt : ∀ (b : Str),leN b < 256 ^ b.length
 | []=>by show (0 : Int) < 1; decide
 | c :: r=>by
  have h:=leN_lt r
  have hc : c.toNat < 256:=c.toNat_lt
  have e : (256 : Int) ^ (c :: r).length = 256 ^ r.length * 256:=by rw [List.length_cons,Int.pow_succ]
  unfold leN
  rw [e]; omega
theorem wrap_at (n : Int) : IntKind.i64.wrap n = (n + 9223372036854775808) % 18446744073709551616 - 9223372036854775808:=IntKind.wrap_i64 n
theorem drop_ix {α : Type} [Inhabited α] {l : List α} {i : Int} (h0 : 0 <= i) (h1 : i < l.length) : l.drop i.toNat = ix l i :: l.drop (i + 1).toNat:=by
 have hl : i.toNat < l.length:=by omega
 rw [List.drop_eq_getElem_cons hl,ix_get hl]
 congr 2
 omega
theorem bv_int (z : Int) : ((BitVec.ofInt 64 z).toNat : Int) = z % 18446744073709551616:=by
 rw [BitVec.toNat_ofInt]
 omega
theorem get_step (x : Int) (c : UInt8) : IntKind.i64.wrap ((BitVec.ofInt IntKind.i64.bits (IntKind.i64.wrap (x * 2 ^ min (Int.toNat 8) IntKind.i64.bits)) ||| BitVec.ofInt IntKind.i64.bits (c.toNat : Int)).toNat : Int) = IntKind.i64.wrap (c.toNat + 256 * x):=by
 have hc : c.toNat < 256:=c.toNat_lt
 have e8 : (2 : Int) ^ min (Int.toNat 8) IntKind.i64.bits = 256:=by decide
 rw [e8]
 show IntKind.i64.wrap ((BitVec.ofInt 64 (IntKind.i64.wrap (x * 256)) ||| BitVec.ofInt 64 (c.toNat : Int)).toNat : Int) = _
 rw [BitVec.toNat_or]
 have h1:=bv_int (IntKind.i64.wrap (x * 256))
 have h2:=bv_int (c.toNat : Int)
 generalize (BitVec.ofInt 64 (IntKind.i64.wrap (x * 256))).toNat = a at h1 ⊢
 generalize (BitVec.ofInt 64 (c.toNat : Int)).toNat = d at h2 ⊢
 rw [wrap_at] at h1
 have hd : d = c.toNat:=by omega
 have ha : a % 256 = 0:=by omega
 have hq : a = 2 ^ 8 * (a / 256):=by omega
 have hor : (a ||| d : Nat) = a + d:=by
  rw [hq,hd]
  exact (Nat.two_pow_add_eq_or_of_lt (by omega) _).symm
 rw [hor,wrap_at,wrap_at]
 omega
theorem getS_next {b : Str} {i : Int} (h0 : 0 <= i) (h1 : i < b.length) : IntKind.i64.wrap ((ix b i).toNat + 256 * getS (b.drop (i + 1).toNat)) = getS (b.drop i.toNat):=by
 rw [drop_ix h0 h1]
 unfold getS
 rw [show leN (ix b i :: b.drop (i + 1).toNat) = (ix b i).toNat + 256 * leN (b.drop (i + 1).toNat) from rfl]
 generalize leN (b.drop (i + 1).toNat) = L
 rw [wrap_at,wrap_at,wrap_at]
 omega
def leB (x : Int) : Nat -> Str
 | 0=>[]
 | k + 1=>UInt8.ofInt x :: leB (x.fdiv 256) k
end Go.Wa
end
section
namespace Go.Proofs.Ytckpdliipjekgaa
open Go Go.Wk Go.Wl Go.Rx Go.Wa
structure Act where
 Kind : Int
 S : Str
 More : List Str
 N : Int
 Cut : Int
 Kept : List Int
 deriving Inhabited,DecidableEq
def dAct : Rd Act where
 sz:=6
 rd:=fun D w cs x=>∃ c0 c1 c2 c3 c4 c5,cs = c0 ++ (c1 ++ (c2 ++ (c3 ++ (c4 ++ (c5))))) /\ dInt.rd D w c0 x.Kind /\ dStr.rd D w c1 x.S /\ (dSlice dStr).rd D w c2 x.More /\ dInt.rd D w c3 x.N /\ dInt.rd D w c4 x.Cut /\ (dSlice dInt).rd D w c5 x.Kept
 len:=fun ⟨c0,c1,c2,c3,c4,c5,e,h0,h1,h2,h3,h4,h5⟩=>by rw [e]; simp only [List.length_append,Rd.len _ h0,Rd.len _ h1,Rd.len _ h2,Rd.len _ h3,Rd.len _ h4,Rd.len _ h5]; rfl
 mono:=fun ⟨c0,c1,c2,c3,c4,c5,e,h0,h1,h2,h3,h4,h5⟩ a b c=>⟨c0,c1,c2,c3,c4,c5,e,Rd.mono _ h0 a b c,Rd.mono _ h1 a b c,Rd.mono _ h2 a b c,Rd.mono _ h3 a b c,Rd.mono _ h4 a b c,Rd.mono _ h5 a b c⟩
 plain:=fun ⟨c0,c1,c2,c3,c4,c5,e,h0,h1,h2,h3,h4,h5⟩=>by rw [e]; simp only [List.all_append,Rd.plain _ h0,Rd.plain _ h1,Rd.plain _ h2,Rd.plain _ h3,Rd.plain _ h4,Rd.plain _ h5]; rfl
def dNone : Rd Unit where
 sz:=0
 rd:=fun _ _ _ _=>False
 len:=fun h=>h.elim
 mono:=fun h _ _ _=>h
 plain:=fun h=>h.elim
def obNone (_ : Nat) : Ob Unit where
 is:=fun _ _ _ _=>False
 stab:=fun Z Z' B w w' h _ _ _=>h
 lt:=fun h=>h.elim
def U : Uni where
 tb:=fun | 3=>⟨Int,dInt,inferInstance⟩ | 5=>⟨UInt8,dByte,inferInstance⟩ | 9=>⟨Str,dStr,inferInstance⟩ | 22=>⟨List Int,(dSlice dInt),inferInstance⟩ | 29=>⟨List Str,(dSlice dStr),inferInstance⟩ | 46=>⟨Act,dAct,inferInstance⟩ | _=>⟨Unit,dNone,⟨()⟩⟩
 oj:=fun | 0=>⟨Dk,obDk⟩ | _=>⟨Unit,obNone⟩
def eT : ErrT:=⟨58,0,0,fun t=>bif Nat.beq t 115 then some 2 else none,fun t=>bif Nat.beq t 94 then some 96 else none⟩
theorem wp_inv {t S : Nat} (h : eT.wp t = some S) : t = 94 /\ S = 96:=by
 have h : (bif Nat.beq t 94 then some 96 else none) = some S:=h
 cases hb : Nat.beq t 94 with
 | true=>rw [hb,cond_true] at h; cases h; exact ⟨Nat.eq_of_beq_eq_true hb,rfl⟩
 | false=>rw [hb,cond_false] at h; cases h
theorem wr_inv {t k : Nat} (h : eT.wr t = some k) : (t = 115 /\ k = 2):=by
 have h : (bif Nat.beq t 115 then some 2 else none) = some k:=h
 cases hb0 : Nat.beq t 115 with
 | true=>rw [hb0,cond_true] at h; cases h; exact ⟨Nat.eq_of_beq_eq_true hb0,rfl⟩
 | false =>
  rw [hb0,cond_false] at h
  cases h
def y3 : TyI U eT 3 where
 sv:=fun (x : Int)=>.int .i64 x
 bk:=asI64
 sv_ok:=sv_int
 bk_ok:=bk_int
 hy:=fun (x : Int)=>[in64 x]
 hy_ok:=fun {_ _ _ x} h p hp=>by
  have h : dInt.rd _ _ _ x:=h
  simp only [List.mem_singleton] at hp; subst hp; exact h.2
def y5 : TyI U eT 5 where
 sv:=fun (x : UInt8)=>.byte x
 bk:=asY
 sv_ok:=sv_byte
 bk_ok:=bk_byte
 by8:=some ⟨rfl⟩
def y9 : TyI U eT 9 where
 sv:=fun (x : Str)=>.str x
 bk:=asS
 sv_ok:=sv_str
 bk_ok:=bk_str
def y22 : TyI U eT 22 where
 sv:=fun (x : List Int)=>.sl 3 x
 bk:=fun s=>pb (asLN U 3) (leaves s)
 sv_ok:=sv_sl (N:=U) (t:=3)
 bk_ok:=pb_sl (N:=U) (t:=3)
def y29 : TyI U eT 29 where
 sv:=fun (x : List Str)=>.sl 9 x
 bk:=fun s=>pb (asLN U 9) (leaves s)
 sv_ok:=sv_sl (N:=U) (t:=9)
 bk_ok:=pb_sl (N:=U) (t:=9)
def y46k (ls : List (SV U)) : Option Act :=
 (pb asI64 (ls.take 1)).bind fun x0 =>
 (pb asS ((ls.drop 1).take 1)).bind fun x1 =>
 (pb (asLN U 9) (((ls.drop 1).drop 1).take 1)).bind fun x2 =>
 (pb asI64 ((((ls.drop 1).drop 1).drop 1).take 1)).bind fun x3 =>
 (pb asI64 (((((ls.drop 1).drop 1).drop 1).drop 1).take 1)).bind fun x4 =>
 (pb (asLN U 3) ((((((ls.drop 1).drop 1).drop 1).drop 1).drop 1))).bind fun x5 =>
 some ⟨x0,x1,x2,x3,x4,x5⟩
theorem y46r {ρ : Env1} {Z : Nat -> Prop} {w : World} {cs : List Value} {ls : List (SV U)} {x : Act} (h : RepL U eT ρ Z w cs ls) (e : y46k ls = some x) : dAct.rd Z w cs x:=by
 unfold y46k at e
 obtain ⟨x0,e0,e⟩:=Option.bind_eq_some_iff.1 e
 obtain ⟨x1,e1,e⟩:=Option.bind_eq_some_iff.1 e
 obtain ⟨x2,e2,e⟩:=Option.bind_eq_some_iff.1 e
 obtain ⟨x3,e3,e⟩:=Option.bind_eq_some_iff.1 e
 obtain ⟨x4,e4,e⟩:=Option.bind_eq_some_iff.1 e
 obtain ⟨x5,e5,e⟩:=Option.bind_eq_some_iff.1 e
 cases e
 have g1:=RepL.split 1 h
 have g2:=RepL.split 1 g1.2
 have g3:=RepL.split 1 g2.2
 have g4:=RepL.split 1 g3.2
 have g5:=RepL.split 1 g4.2
 exact ⟨(cs.take 1),((cs.drop 1).take 1),(((cs.drop 1).drop 1).take 1),((((cs.drop 1).drop 1).drop 1).take 1),(((((cs.drop 1).drop 1).drop 1).drop 1).take 1),(((((cs.drop 1).drop 1).drop 1).drop 1).drop 1),by simp only [List.take_append_drop],pb_int g1.1 e0,pb_str g2.1 e1,pb_sl (N:=U) (t:=9) g3.1 e2,pb_int g4.1 e3,pb_int g5.1 e4,pb_sl (N:=U) (t:=3) g5.2 e5⟩
def y46 : TyI U eT 46 where
 sv:=fun (x : Act)=>.agg ([.int .i64 x.Kind] ++ ([.str x.S] ++ ([.sl 9 x.More] ++ ([.int .i64 x.N] ++ ([.int .i64 x.Cut] ++ ([.sl 3 x.Kept]))))))
 bk:=fun s=>y46k (leaves s)
 sv_ok:=fun {ρ Z w cs x} h=>by
  obtain ⟨c0,c1,c2,c3,c4,c5,e,h0,h1,h2,h3,h4,h5⟩:=(show dAct.rd Z w cs x from h)
  subst e
  exact RepL.app (sv_int h0) (RepL.app (sv_str h1) (RepL.app (sv_sl (N:=U) (t:=9) h2) (RepL.app (sv_int h3) (RepL.app (sv_int h4) (sv_sl (N:=U) (t:=3) h5)))))
 bk_ok:=y46r
 hy:=fun (x : Act)=>[in64 x.Kind] ++ [in64 x.N] ++ [in64 x.Cut]
 hy_ok:=fun {Z w cs x} h p hp=>by
  obtain ⟨c0,c1,c2,c3,c4,c5,e,h0,h1,h2,h3,h4,h5⟩:=(show dAct.rd Z w cs x from h)
  rcases List.mem_append.1 hp with hp | hp
  . rcases List.mem_append.1 hp with hp | hp
    . · simp only [List.mem_singleton] at hp; subst hp; exact h0.2
    . simp only [List.mem_singleton] at hp; subst hp; exact h3.2
  . simp only [List.mem_singleton] at hp; subst hp; exact h4.2
def tyU : ∀ t,Option (TyI U eT t)
 | 3=>some y3
 | 5=>some y5
 | 9=>some y9
 | 22=>some y22
 | 29=>some y29
 | 46=>some y46
 | _=>none
end Go.Proofs.Ytckpdliipjekgaa
end
