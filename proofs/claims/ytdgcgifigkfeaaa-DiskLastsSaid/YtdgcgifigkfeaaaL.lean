/- Disks: walks, printed by program, and their plain law. -/
import Derived.Test.YtdgcgifigkfeaaaR4
import Derived.Test.YtdgcgifigkfeaaaIs
import Derived.Test.YtdgcgifigkfeaaaRows
namespace Go.Proofs.Ytdgcgifigkfeaaa
open Go Go.Wk Go.Wl Classical
structure Act where
  Kind : Int
  At : Int
  N : Int
  By : UInt8
  Kept : List Int
  deriving Inhabited, DecidableEq
def dAct : Rd Act where
  sz := 5
  rd := fun D w cs x => ∃ c0 c1 c2 c3 c4, cs = c0 ++ (c1 ++ (c2 ++ (c3 ++ (c4)))) ∧ dInt.rd D w c0 x.Kind ∧ dInt.rd D w c1 x.At ∧ dInt.rd D w c2 x.N ∧ dByte.rd D w c3 x.By ∧ (dSlice dInt).rd D w c4 x.Kept
  len := fun ⟨c0, c1, c2, c3, c4, e, h0, h1, h2, h3, h4⟩ => by rw [e]; simp only [List.length_append, Rd.len _ h0, Rd.len _ h1, Rd.len _ h2, Rd.len _ h3, Rd.len _ h4]; rfl
  mono := fun ⟨c0, c1, c2, c3, c4, e, h0, h1, h2, h3, h4⟩ a b c => ⟨c0, c1, c2, c3, c4, e, Rd.mono _ h0 a b c, Rd.mono _ h1 a b c, Rd.mono _ h2 a b c, Rd.mono _ h3 a b c, Rd.mono _ h4 a b c⟩
  plain := fun ⟨c0, c1, c2, c3, c4, e, h0, h1, h2, h3, h4⟩ => by rw [e]; simp only [List.all_append, Rd.plain _ h0, Rd.plain _ h1, Rd.plain _ h2, Rd.plain _ h3, Rd.plain _ h4]; rfl
theorem dAct_Kind : Sub dAct 0 dInt (·.Kind) := ⟨by decide, fun h => by
  obtain ⟨c0, c1, c2, c3, c4, e, h0, h1, h2, h3, h4⟩ := h
  subst e
  have l0 := Rd.len _ h0
  have l1 := Rd.len _ h1
  have l2 := Rd.len _ h2
  have l3 := Rd.len _ h3
  have l4 := Rd.len _ h4
  have e : (((c0 ++ (c1 ++ (c2 ++ (c3 ++ (c4))))).drop 0).take dInt.sz) = c0 := by
    rw [← l0]
    rw [List.drop_zero, List.take_left]
  rw [e]; exact h0⟩
theorem dAct_At : Sub dAct 1 dInt (·.At) := ⟨by decide, fun h => by
  obtain ⟨c0, c1, c2, c3, c4, e, h0, h1, h2, h3, h4⟩ := h
  subst e
  have l0 := Rd.len _ h0
  have l1 := Rd.len _ h1
  have l2 := Rd.len _ h2
  have l3 := Rd.len _ h3
  have l4 := Rd.len _ h4
  have e : (((c0 ++ (c1 ++ (c2 ++ (c3 ++ (c4))))).drop 1).take dInt.sz) = c1 := by
    rw [← l1]
    rw [show 1 = c0.length + 0 from by rw [l0]; rfl, List.drop_length_add_append]
    rw [List.drop_zero, List.take_left]
  rw [e]; exact h1⟩
theorem dAct_N : Sub dAct 2 dInt (·.N) := ⟨by decide, fun h => by
  obtain ⟨c0, c1, c2, c3, c4, e, h0, h1, h2, h3, h4⟩ := h
  subst e
  have l0 := Rd.len _ h0
  have l1 := Rd.len _ h1
  have l2 := Rd.len _ h2
  have l3 := Rd.len _ h3
  have l4 := Rd.len _ h4
  have e : (((c0 ++ (c1 ++ (c2 ++ (c3 ++ (c4))))).drop 2).take dInt.sz) = c2 := by
    rw [← l2]
    rw [show 2 = c0.length + 1 from by rw [l0]; rfl, List.drop_length_add_append]
    rw [show 1 = c1.length + 0 from by rw [l1]; rfl, List.drop_length_add_append]
    rw [List.drop_zero, List.take_left]
  rw [e]; exact h2⟩
theorem dAct_By : Sub dAct 3 dByte (·.By) := ⟨by decide, fun h => by
  obtain ⟨c0, c1, c2, c3, c4, e, h0, h1, h2, h3, h4⟩ := h
  subst e
  have l0 := Rd.len _ h0
  have l1 := Rd.len _ h1
  have l2 := Rd.len _ h2
  have l3 := Rd.len _ h3
  have l4 := Rd.len _ h4
  have e : (((c0 ++ (c1 ++ (c2 ++ (c3 ++ (c4))))).drop 3).take dByte.sz) = c3 := by
    rw [← l3]
    rw [show 3 = c0.length + 2 from by rw [l0]; rfl, List.drop_length_add_append]
    rw [show 2 = c1.length + 1 from by rw [l1]; rfl, List.drop_length_add_append]
    rw [show 1 = c2.length + 0 from by rw [l2]; rfl, List.drop_length_add_append]
    rw [List.drop_zero, List.take_left]
  rw [e]; exact h3⟩
theorem dAct_Kept : Sub dAct 4 (dSlice dInt) (·.Kept) := ⟨by decide, fun h => by
  obtain ⟨c0, c1, c2, c3, c4, e, h0, h1, h2, h3, h4⟩ := h
  subst e
  have l0 := Rd.len _ h0
  have l1 := Rd.len _ h1
  have l2 := Rd.len _ h2
  have l3 := Rd.len _ h3
  have l4 := Rd.len _ h4
  have e : (((c0 ++ (c1 ++ (c2 ++ (c3 ++ (c4))))).drop 4).take (dSlice dInt).sz) = c4 := by
    rw [← l4]
    rw [show 4 = c0.length + 3 from by rw [l0]; rfl, List.drop_length_add_append]
    rw [show 3 = c1.length + 2 from by rw [l1]; rfl, List.drop_length_add_append]
    rw [show 2 = c2.length + 1 from by rw [l2]; rfl, List.drop_length_add_append]
    rw [show 1 = c3.length + 0 from by rw [l3]; rfl, List.drop_length_add_append]
    rw [List.drop_zero, List.take_length]
  rw [e]; exact h4⟩
theorem dAct_open {D : Nat → Prop} {w : World} {cs : List Value} {x : Act} (h : dAct.rd D w cs x) : ∃ (A4 : Option Addr) (k4 : Nat), cs = [.int .i64 x.Kind, .int .i64 x.At, .int .i64 x.N, bv x.By, .slice A4 x.Kept.length k4] ∧ InI x.Kind ∧ InI x.At ∧ InI x.N ∧ (dSlice dInt).rd D w [.slice A4 x.Kept.length k4] x.Kept := by
  obtain ⟨c0, c1, c2, c3, c4, rfl, h0, h1, h2, h3, h4⟩ := h
  obtain ⟨rfl, f0⟩ := h0
  obtain ⟨rfl, f1⟩ := h1
  obtain ⟨rfl, f2⟩ := h2
  obtain rfl : c3 = _ := h3
  obtain ⟨v4, rfl⟩ := Rd.one _ rfl h4
  obtain ⟨A4, k4, rfl⟩ := dSlice_val h4
  exact ⟨A4, k4, rfl, f0, f1, f2, h4⟩
theorem dAct_mk {D : Nat → Prop} {w : World} {x : Act} {A4 : Option Addr} {k4 : Nat} (f0 : InI x.Kind) (f1 : InI x.At) (f2 : InI x.N) (f3 : (dSlice dInt).rd D w [.slice A4 x.Kept.length k4] x.Kept) : dAct.rd D w [.int .i64 x.Kind, .int .i64 x.At, .int .i64 x.N, bv x.By, .slice A4 x.Kept.length k4] x :=
  ⟨_, _, _, _, _, rfl, ⟨rfl, f0⟩, ⟨rfl, f1⟩, ⟨rfl, f2⟩, rfl, f3⟩
structure Bk where
  d : Dk
  r : Rk
  deriving Inhabited
def BkIs (b : Nat) (w : World) (x : Bk) (F : List Nat) : Prop := ∃ (b_d : Nat) (F_d : List Nat) (b_r : Nat) (F_r : List Nat), F = [b] ++ (F_d ++ (F_r ++ [])) ∧ F.Nodup ∧ Own w b 36 [.pointer (some ⟨b_d, 0, none⟩), .pointer (some ⟨b_r, 0, none⟩)] ∧ DkIs b_d w x.d F_d ∧ RkIs b_r w x.r F_r
theorem BkIs.lt {b : Nat} {w : World} {x : Bk} {F : List Nat} (h : BkIs b w x F) : ∀ y ∈ F, y < w.heap.size := by
  obtain ⟨b_d, F_d, b_r, F_r, rfl, _, h0, h1, h2⟩ := h
  intro y hy
  rcases List.mem_append.1 hy with hy | hy
  · exact by rw [List.mem_singleton.1 hy]; exact Own.lt h0
  rcases List.mem_append.1 hy with hy | hy
  · exact DkIs.lt h1 y hy
  rcases List.mem_append.1 hy with hy | hy
  · exact RkIs.lt h2 y hy
  cases hy
theorem BkIs.nd {b : Nat} {w : World} {x : Bk} {F : List Nat} (h : BkIs b w x F) : F.Nodup := by
  obtain ⟨b_d, F_d, b_r, F_r, _, nd, _, _, _⟩ := h
  exact nd
def obBk (b : Nat) : Ob Bk where
  is := fun _ w x F => BkIs b w x F
  stab := fun {x F} Z Z' B w w' h e hB _ => by
    have lt := BkIs.lt (show BkIs b w x F from h)
    obtain ⟨b_d, F_d, b_r, F_r, e1, nd, h0, h1, h2⟩ := h
    have nin : ∀ y ∈ F, y ∉ B := fun y hy hm => by have := hB y hm (.inl hy); have := lt y hy; omega
    subst e1
    exact ⟨b_d, F_d, b_r, F_r, rfl, nd, h0.ext e (nin b (by simp)), (obDk b_d).stab (fun _ => False) (fun _ => False) B w w' h1 e (fun y hy hq => (nin y (by rcases hq with hq | hq; simp [hq]; exact hq.elim) hy).elim) (fun _ h => h), (obRk b_r).stab (fun _ => False) (fun _ => False) B w w' h2 e (fun y hy hq => (nin y (by rcases hq with hq | hq; simp [hq]; exact hq.elim) hy).elim) (fun _ h => h)⟩
  lt := fun h => BkIs.lt h
theorem Sep.openBk {B0 : List Nat} {b : Nat} {w w0 : World} {x : Bk} {F O : List Nat} {Z : Nat → Prop} {l : List It} (hs : Sep B0 w0 Z w (iOb (obBk b) x F O :: l)) : ∃ (b_d : Nat) (F_d : List Nat) (b_r : Nat) (F_r : List Nat), 
    Sep B0 w0 Z w (iOwn b 36 [.pointer (some ⟨b_d, 0, none⟩), .pointer (some ⟨b_r, 0, none⟩)] O :: iOb (obDk b_d) x.d F_d O :: iOb (obRk b_r) x.r F_r O :: l) := by
  have h : BkIs b w x F := hs.at 0 rfl
  obtain ⟨b_d, F_d, b_r, F_r, e, nd, h0, h1, h2⟩ := h
  refine ⟨b_d, F_d, b_r, F_r, ?_⟩
  refine Sep.openL hs [iOwn b 36 [.pointer (some ⟨b_d, 0, none⟩), .pointer (some ⟨b_r, 0, none⟩)] O, iOb (obDk b_d) x.d F_d O, iOb (obRk b_r) x.r F_r O] e nd ?_
  intro u hu
  simp only [List.mem_cons, List.not_mem_nil, or_false] at hu
  rcases hu with rfl | rfl | rfl
  · exact ⟨h0, sOwn, rfl⟩
  · exact ⟨h1, sOb, rfl⟩
  · exact ⟨h2, sOb, rfl⟩
theorem BkIs.close {F O_ : List Nat} {w w0 : World} {Z : Nat → Prop} {b : Nat} {r : List It} {b_d : Nat} {F_d : List Nat} {b_r : Nat} {F_r : List Nat}  {O_d : List Nat} {O_r : List Nat} {x_d : Dk} {x_r : Rk} (hs : Sep F w0 Z w (iOwn b 36 [.pointer (some ⟨b_d, 0, none⟩), .pointer (some ⟨b_r, 0, none⟩)] O_ :: iOb (obDk b_d) x_d F_d O_d :: iOb (obRk b_r) x_r F_r O_r :: r)) :
    BkIs b w ⟨x_d, x_r⟩ ([b] ++ (F_d ++ (F_r ++ []))) ∧ Turn w0 w F ([b] ++ (F_d ++ (F_r ++ []))) := by
  have h0 := hs.at 0 rfl
  have h1 := hs.at 1 rfl
  have h2 := hs.at 2 rfl
  have ⟨nd, ht⟩ := Sep.closeL (ts := [iOwn b 36 [.pointer (some ⟨b_d, 0, none⟩), .pointer (some ⟨b_r, 0, none⟩)] O_, iOb (obDk b_d) x_d F_d O_d, iOb (obRk b_r) x_r F_r O_r]) hs (fun u hu => by
    simp only [List.mem_cons, List.not_mem_nil, or_false] at hu
    rcases hu with rfl | rfl | rfl
    · exact nd1
    · exact DkIs.nd h1
    · exact RkIs.nd h2)
  exact ⟨⟨b_d, F_d, b_r, F_r, rfl, nd, h0, h1, h2⟩, ht⟩
theorem BkIs.fix {b : Nat} {w : World} {x : Bk} {F : List Nat} {Z : Nat → Prop} (h : BkIs b w x F) (zlt : ∀ b, Z b → b < w.heap.size) (hZ : ∀ b ∈ F, Z b) : ∃ (b_d : Nat) (F_d : List Nat) (b_r : Nat) (F_r : List Nat), Sep [] w Z w [iOwnF b 36 [.pointer (some ⟨b_d, 0, none⟩), .pointer (some ⟨b_r, 0, none⟩)], iObF (obDk b_d) x.d F_d, iObF (obRk b_r) x.r F_r] := by
  obtain ⟨b_d, F_d, b_r, F_r, rfl, _, h0, h1, h2⟩ := h
  refine ⟨b_d, F_d, b_r, F_r, ?_⟩
  exact (((((((Sep.nil (B0 := []) zlt)).fact (t := iObF (obRk b_r) x.r F_r) ⟨fun y hy => hZ y (by simp [hy]), h2⟩ sObF rfl rfl)).fact (t := iObF (obDk b_d) x.d F_d) ⟨fun y hy => hZ y (by simp [hy]), h1⟩ sObF rfl rfl)).fact (t := iOwnF b 36 [.pointer (some ⟨b_d, 0, none⟩), .pointer (some ⟨b_r, 0, none⟩)]) ⟨hZ _ (by simp), h0⟩ sOwnF rfl rfl)
/-! ### What the laws' own functions tell -/
theorem is_ok {w : World} {z k : Int} (hz : z ≠ 0) : Wk.CallR Try.prog 28 [errv 64 z, .iface 64 (.int .i64 k)] w fun v w' => v = .bool (decide (z = k)) ∧ w' = w := by
  rw [errv, if_neg hz]; exact is_errnoR z k w
def ofs (c e : UInt8) : Str := List.replicate 255 c ++ [e]
theorem ofs_len (c e : UInt8) : (ofs c e).length = 256 := by simp only [ofs, List.length_append, List.length_replicate, List.length_cons, List.length_nil]
theorem ofs_eq {l : Str} {c e : UInt8} (hl : l.length = 256) (h : ∀ j : Int, 0 ≤ j → j < 256 → ix l j = c) : List.set l 255 e = ofs c e := by
  have h1 : l.take 255 = List.replicate 255 c := by
    apply List.ext_getElem (by rw [List.length_take, List.length_replicate]; omega)
    intro i h1 h2
    have hi : i < 255 := by rw [List.length_replicate] at h2; exact h2
    rw [List.getElem_take, List.getElem_replicate]
    have := h i (by omega) (by omega)
    rwa [ix_get (by simp only [Int.toNat_natCast]; omega)] at this
  have h2 : l.drop 256 = [] := List.drop_of_length_le (by omega)
  rw [List.set_eq_take_append_cons_drop, if_pos (by omega), h1, h2]
  rfl
theorem ofs_next {l : Str} {c : UInt8} {i : Int} (hl : l.length = 256) (h0 : 0 ≤ i) (h1 : i < 256) (h : ∀ j : Int, 0 ≤ j → j < i → ix l j = c) : ∀ j : Int, 0 ≤ j → j < i + 1 → ix (List.set l i.toNat c) j = c := fun j hj hj' => by
  rw [ix_get (by rw [List.length_set]; omega)]
  by_cases e : j = i
  · subst e; exact List.getElem_set_self _
  · rw [List.getElem_set_ne (by omega)]
    have := h j hj (by omega)
    rwa [ix_get (by omega)] at this
def Act.bytes (a : Act) : Str := if 0 ≤ a.N then List.replicate (min a.N 300).toNat 0 else ofs a.By (a.By + 1)
theorem rnew_step {i : Int} (h : 0 ≤ i) : List.replicate i.toNat (List.replicate 256 (0 : UInt8)) ++ [List.replicate 256 0] = List.replicate (i + 1).toNat (List.replicate 256 0) := by
  rw [show (i + 1).toNat = i.toNat + 1 by omega]; exact List.replicate_succ'.symm
theorem rnew_Ok {n : Int} (h0 : 1 ≤ n) (h1 : n ≤ 8192) : (Rk.new n).Ok := by
  have e : (Rk.new n).Lasts.length = n.toNat := List.length_replicate
  refine ⟨rfl, by rw [e]; omega, fun a ha => (by cases ha), fun s hs => ?_, fun s hs => (by cases hs), ⟨by show (-9223372036854775808 : Int) ≤ -1; omega, by show (-1 : Int) ≤ 9223372036854775807; omega⟩, Nat.zero_le _⟩
  have := List.eq_of_mem_replicate hs
  rw [this]; exact List.length_replicate
section
variable {w0 : World} {d : Nat} {x : Dk} {F : List Nat} {D D1 D2 : Nat → Prop} {A A1 A2 : Option Addr} {cap n c1 c2 n1 n2 : Nat}
theorem write_okn (h : DkIs d w0 x F) (ok : x.Ok) (hD : ∀ b ∈ F, ¬ D b) {s : Str} (hb : (dSlice dByte).rd D w0 [.slice A n cap] s) (at_ : Int) :
    CallR Try.prog 25 [.pointer (some ⟨d, 0, none⟩), .int .i64 at_, .slice A n cap] w0 (fun v w' => v = errv 64 (x.write at_ s).1 ∧ ∃ F', DkIs d w' (x.write at_ s).2 F' ∧ Turn w0 w' F F') := by
  have e := dSlice_n hb
  subst e
  exact write_ok h ok hD hb at_
theorem crash_okn (h : DkIs d w0 x F) (ok : x.Ok) {kept : List Int} (hk : (dSlice dInt).rd D w0 [.slice A n cap] kept) (torn cut : Int) :
    CallR Try.prog 24 [.pointer (some ⟨d, 0, none⟩), .int .i64 torn, .int .i64 cut, .slice A n cap] w0 (fun v w' => ∃ d2 F2, v = .pointer (some ⟨d2, 0, none⟩) ∧ DkIs d2 w' (x.crash torn cut kept) F2 ∧ Ext [] w0 w' ∧ ∀ b ∈ F2, w0.heap.size ≤ b) := by
  have e := dSlice_n hk
  subst e
  exact crash_ok h ok hk torn cut
theorem rcrash_okn {y : Rk} (h : RkIs d w0 y F) (ok : y.Ok) {kept : List Int} (hk : (dSlice dInt).rd D w0 [.slice A n cap] kept) (torn cut : Int) :
    CallR Try.prog 33 [.pointer (some ⟨d, 0, none⟩), .int .i64 torn, .int .i64 cut, .slice A n cap] w0 (fun v w' => ∃ d2 F2, v = .pointer (some ⟨d2, 0, none⟩) ∧ RkIs d2 w' (y.crash torn cut kept) F2 ∧ Ext [] w0 w' ∧ ∀ b ∈ F2, w0.heap.size ≤ b) := by
  have e := dSlice_n hk
  subst e
  exact rcrash_ok h ok hk torn cut
theorem ints_okn {a b : List Int} (h1 : (dSlice dInt).rd D1 w0 [.slice A1 n1 c1] a) (h2 : (dSlice dInt).rd D2 w0 [.slice A2 n2 c2] b) : CallR Try.prog 17 [.slice A1 n1 c1, .slice A2 n2 c2] w0 (fun v w' => v = .bool (decide (a = b)) ∧ w' = w0) := by
  have e1 := dSlice_n h1
  have e2 := dSlice_n h2
  subst e1; subst e2
  exact ints_ok h1 h2
end

end Go.Proofs.Ytdgcgifigkfeaaa
