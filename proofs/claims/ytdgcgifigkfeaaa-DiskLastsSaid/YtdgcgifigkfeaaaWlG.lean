/- Things that lie in several parts: taken apart, put together. -/
import Derived.Test.YtdgcgifigkfeaaaWlS
namespace Go.Wl
open Go Go.Wk

abbrev feetOf (ts : List It) : List Nat := ts.flatMap (·.F)
theorem pw_of_nodup : ∀ {ts : List It}, (feetOf ts).Nodup → ts.Pairwise (fun a b => ∀ x ∈ a.F, x ∉ b.F)
  | [], _ => List.Pairwise.nil
  | t :: ts, h => by
    have h : (t.F ++ feetOf ts).Nodup := h
    rw [List.nodup_append] at h
    refine List.Pairwise.cons (fun u hu x hx hx' => ?_) (pw_of_nodup h.2.1)
    exact h.2.2 x hx x (List.mem_flatMap.2 ⟨u, hu, hx'⟩) rfl
theorem nodup_of_pw : ∀ {ts : List It}, (∀ u ∈ ts, u.F.Nodup) → ts.Pairwise (fun a b => ∀ x ∈ a.F, x ∉ b.F) → (feetOf ts).Nodup
  | [], _, _ => List.nodup_nil
  | t :: ts, hn, hp => by
    show (t.F ++ feetOf ts).Nodup
    rw [List.nodup_append]
    cases hp with
    | cons h1 h2 =>
      refine ⟨hn t (by simp), nodup_of_pw (fun u hu => hn u (by simp [hu])) h2, fun a ha b hb e => ?_⟩
      subst e
      obtain ⟨u, hu, hx⟩ := List.mem_flatMap.1 hb
      exact h1 u hu a ha hx
section
variable {B0 : List Nat} {w0 w : World} {Z : Nat → Prop} {l ts r : List It} {t : It} {F : List Nat}
theorem Sep.openL (hs : Sep B0 w0 Z w (t :: l)) (ts : List It) (hF : t.F = feetOf ts) (hn : t.F.Nodup) (hp : ∀ u ∈ ts, u.P Z w ∧ u.Stab ∧ u.O = t.O) : Sep B0 w0 Z w (ts ++ l) :=
  Sep.split hs (fun u hu => ⟨(hp u hu).1, (hp u hu).2.1, fun b hb => by rw [hF]; exact List.mem_flatMap.2 ⟨u, hu, hb⟩, (hp u hu).2.2⟩) (pw_of_nodup (by rw [← hF]; exact hn))
theorem Sep.closeL (hs : Sep F w0 Z w (ts ++ r)) (hn : ∀ u ∈ ts, u.F.Nodup) : (feetOf ts).Nodup ∧ Turn w0 w F (feetOf ts) := by
  have get : ∀ (j : Nat) (u : It), ts[j]? = some u → (ts ++ r)[j]? = some u := fun j u h => by
    have : j < ts.length := by rcases Nat.lt_or_ge j ts.length with h' | h'; exact h'; rw [List.getElem?_eq_none h'] at h; cases h
    rw [List.getElem?_append_left this]; exact h
  refine ⟨nodup_of_pw hn (List.pairwise_iff_getElem.2 fun i j hi hj hij => hs.apart i j _ _ (get i _ (List.getElem?_eq_getElem hi)) (get j _ (List.getElem?_eq_getElem hj)) (by omega)), hs.ext, fun b hb => ?_⟩
  obtain ⟨u, hu, hx⟩ := List.mem_flatMap.1 hb
  obtain ⟨j, hj, rfl⟩ := List.getElem_of_mem hu
  have ok := hs.ok j _ (get j _ (List.getElem?_eq_getElem hj))
  exact (ok.org b hx).imp (ok.org0 b) id
/-- The parts at first, of several things that lie apart. -/
theorem Sep.giveL (zlt : ∀ b, Z b → b < w0.heap.size) (ts : List It) (hn : (feetOf ts).Nodup) (hp : ∀ u ∈ ts, u.P Z w0 ∧ u.Stab ∧ u.O = u.F ∧ ∀ b ∈ u.F, b < w0.heap.size ∧ ¬ Z b ∧ b ∈ B0) : Sep B0 w0 Z w0 ts :=
  ⟨Ext.refl _ _, zlt, fun k u hk => by
    obtain ⟨h1, h2, h3, h4⟩ := hp u (List.mem_of_getElem? hk)
    exact ⟨h1, h2, fun b hb => (h4 b hb).1, fun b hb => (h4 b hb).2.1, fun b hb => .inl (by rw [h3]; exact hb), fun b hb => (h4 b (by rw [← h3]; exact hb)).2.2⟩,
   fun j k s u hj hk hne => by
    have pw := List.pairwise_iff_getElem.1 (pw_of_nodup hn)
    have hj' : j < ts.length := by rcases Nat.lt_or_ge j ts.length with h' | h'; exact h'; rw [List.getElem?_eq_none h'] at hj; cases hj
    have hk' : k < ts.length := by rcases Nat.lt_or_ge k ts.length with h' | h'; exact h'; rw [List.getElem?_eq_none h'] at hk; cases hk
    rw [List.getElem?_eq_getElem hj'] at hj; rw [List.getElem?_eq_getElem hk'] at hk
    cases hj; cases hk
    rcases Nat.lt_or_gt_of_ne hne with h | h
    · exact pw j k hj' hk' h
    · exact fun b hb hb' => pw k j hk' hj' h b hb' hb⟩
end
theorem Ac.nd {α : Type} {r : Rd α} {Z : Nat → Prop} {w : World} {v : Value} {l : List α} {bs : List Nat} (h : Ac r Z w v l bs) : bs.Nodup := by
  rcases h with ⟨_, _, rfl⟩ | ⟨b, _, _, _, _, rfl, _⟩ <;> simp
theorem nd1 {b : Nat} : ([b] : List Nat).Nodup := by simp
/-- A thing that is only read. -/
abbrev iObF {α : Type} (o : Ob α) (x : α) (F : List Nat) : It := ⟨[], [], fun Z w => (∀ b ∈ F, Z b) ∧ o.is Z w x F⟩
theorem sObF {α : Type} {o : Ob α} {x : α} {F : List Nat} : (iObF o x F).Stab := fun Z Z' B w w' h e hB hZ => ⟨fun b hb => hZ b (h.1 b hb), o.stab Z Z' B w w' h.2 e (fun b hb hq => hB b hb (.inr (hq.elim (h.1 b) id))) hZ⟩
/-- A slice of the call's own that is let go: none in its place. -/
theorem Sep.nilAc {B0 : List Nat} {w0 w : World} {Z : Nat → Prop} {L : List It} {α : Type} {r : Rd α} {v : Value} {l : List α} {bs O : List Nat} (hs : Sep B0 w0 Z w L) (k : Nat) (hk : L[k]? = some (iAc r v l bs O)) : Sep B0 w0 Z w (L.set k (iAc r (.slice none 0 0) [] [] O)) :=
  hs.upd k hk (Ext.refl _ _) Ac.nil sAc (fun b hb => by cases hb) rfl
section
variable {P : Program} {m : Bool} {n : Nat} {ops : List Oper} {Q : Exit → Fr → World → Prop} {rest : List Oper} {f : Fr} {w : World} {d : Nat} {ty T : TypeId} {pos : String} {after : Array Edge} {x : Operand} {s : Str} {v v' : Value}
theorem S_sliceLo {lo : Operand} {a : Int} (hT : ∀ w, (underlying T).run P w = .ok .string w) (hx : ev f x = sv s) (hlo : ev f lo = .int .i64 a) (h0 : 0 ≤ a ∧ a ≤ s.length) (hn : Nat.blt d n = true)
    (K : WL P m n ops Q rest (upd f d (sv (s.drop a.toNat))) w) : WL P m n ops Q (⟨some d, .slice T x (some lo) none none, ty, pos, after, none⟩ :: rest) f w :=
  S_sliceT (a := a) (e := s.length) hT hx hlo rfl ⟨h0.1, h0.2, Int.le_refl _⟩ hn (by rw [show ((s.length : Nat) : Int).toNat = s.length from rfl, List.take_length]; exact K)
theorem S_sliceHi {hi : Operand} {e : Int} (hT : ∀ w, (underlying T).run P w = .ok .string w) (hx : ev f x = sv s) (hhi : ev f hi = .int .i64 e) (h0 : 0 ≤ e ∧ e ≤ s.length) (hn : Nat.blt d n = true)
    (K : WL P m n ops Q rest (upd f d (sv (s.take e.toNat))) w) : WL P m n ops Q (⟨some d, .slice T x none (some hi) none, ty, pos, after, none⟩ :: rest) f w :=
  S_sliceT (a := 0) (e := e) hT hx rfl hhi ⟨by omega, h0.1, h0.2⟩ hn K
/-- The value that was put, in other words. -/
theorem WL_conv (h : v = v') (K : WL P m n ops Q rest (upd f d v') w) : WL P m n ops Q rest (upd f d v) w := by rw [h]; exact K
end
section
variable {P : Program} {m : Bool} {n : Nat} {ops : List Oper} {Q : Exit → Fr → World → Prop} {rest : List Oper} {f : Fr} {w : World} {d : Nat} {ty T T' : TypeId} {pos : String} {after : Array Edge} {x y : Operand} {a b : UInt8}
theorem u8_add (a b : UInt8) : Value.int .u8 (IntKind.u8.wrap ((a.toNat : Int) + (b.toNat : Int))) = bv (a + b) := by
  rw [u8_wrap]
  congr 1
  apply UInt8.toNat_inj.1
  simp [UInt8.ofInt, UInt8.toNat_ofNat', UInt8.toNat_add]
  omega
theorem S_addB (hx : ev f x = bv a) (hy : ev f y = bv b) (hn : Nat.blt d n = true) (K : WL P m n ops Q rest (upd f d (bv (a + b))) w) :
    WL P m n ops Q (⟨some d, .binOp .add T x y T', ty, pos, after, none⟩ :: rest) f w :=
  S_addw hx hy hn (by rw [u8_add]; exact K)
end
/-- A call with two kinds of answers. -/
theorem S_callOr {P : Program} {n : Nat} {ops : List Oper} {Q : Exit → Fr → World → Prop} {rest : List Oper} {f : Fr} {w : World} {d : Nat} {ty : TypeId} {pos : String} {after : Array Edge} {X Y : Type} {v1 : X → Value} {v2 : Y → Value} {R1 : X → World → Prop} {R2 : Y → World → Prop} {Kf : FuncId} {xs : Array Operand} {Ts : Array TypeId} {args : List Value} (hK : ∀ as w, (callFunc Kf as).run P w = .ok (.enter Kf as) w) (ha : xs.toList.map (ev f) = args)
    (hc : CallR P Kf args w (fun v w' => (∃ x, v = v1 x ∧ R1 x w') ∨ (∃ y, v = v2 y ∧ R2 y w'))) (hn : Nat.blt d n = true) (K1 : ∀ x w', R1 x w' → WL P false n ops Q rest (upd f d (v1 x)) w') (K2 : ∀ y w', R2 y w' → WL P false n ops Q rest (upd f d (v2 y)) w') :
    WL P false n ops Q (⟨some d, .call ⟨.value (.func Kf), xs, Ts⟩, ty, pos, after, none⟩ :: rest) f w :=
  S_call hK ha hc hn fun _ _ h => h.elim (fun ⟨x, h1, h2⟩ => by rw [h1]; exact K1 x _ h2) (fun ⟨y, h1, h2⟩ => by rw [h1]; exact K2 y _ h2)
/-- Parts taken as one. -/
theorem Sep.join {B0 : List Nat} {w0 w : World} {Z : Nat → Prop} {l ts : List It} (hs : Sep B0 w0 Z w (ts ++ l)) (t : It) (hF : t.F = feetOf ts) (h : t.P Z w) (st : t.Stab) (hO : ∀ u ∈ ts, ∀ b ∈ u.O, b ∈ t.O) (h0 : ∀ b ∈ t.O, b ∈ B0) : Sep B0 w0 Z w (t :: l) := by
  have get : ∀ (j : Nat) (u : It), ts[j]? = some u → (ts ++ l)[j]? = some u := fun j u h => by
    have : j < ts.length := by rcases Nat.lt_or_ge j ts.length with h' | h'; exact h'; rw [List.getElem?_eq_none h'] at h; cases h
    rw [List.getElem?_append_left this]; exact h
  have getl : ∀ (j : Nat) (u : It), l[j]? = some u → (ts ++ l)[ts.length + j]? = some u := fun j u h => by
    rw [List.getElem?_append_right (by omega)]; rw [show ts.length + j - ts.length = j by omega]; exact h
  have of : ∀ b ∈ t.F, ∃ (j : Nat) (u : It), j < ts.length ∧ (ts ++ l)[j]? = some u ∧ u ∈ ts ∧ b ∈ u.F := fun b hb => by
    rw [hF] at hb
    obtain ⟨u, hu, hx⟩ := List.mem_flatMap.1 hb
    obtain ⟨j, hj, rfl⟩ := List.getElem_of_mem hu
    exact ⟨j, _, hj, get j _ (List.getElem?_eq_getElem hj), List.getElem_mem hj, hx⟩
  refine ⟨hs.ext, hs.zlt, fun k u hk => ?_, fun j k s u hj hk hne => ?_⟩
  · cases k with
    | zero =>
      simp at hk; subst hk
      refine ⟨h, st, fun b hb => ?_, fun b hb => ?_, fun b hb => ?_, h0⟩
      · obtain ⟨j, u, _, h1, _, h2⟩ := of b hb; exact (hs.ok j u h1).lt b h2
      · obtain ⟨j, u, _, h1, _, h2⟩ := of b hb; exact (hs.ok j u h1).notZ b h2
      · obtain ⟨j, u, _, h1, hm, h2⟩ := of b hb; exact ((hs.ok j u h1).org b h2).imp (hO u hm b) id
    | succ k => exact hs.ok _ u (getl k u (by simpa using hk))
  · cases j with
    | zero =>
      cases k with
      | zero => exact absurd rfl hne
      | succ k =>
        simp at hj hk; subst hj
        intro b hb hb'
        obtain ⟨i, v, hi, h1, _, h2⟩ := of b hb
        exact hs.apart i _ v u h1 (getl k u hk) (by omega) b h2 hb'
    | succ j =>
      cases k with
      | zero =>
        simp at hj hk; subst hk
        intro b hb hb'
        obtain ⟨i, v, hi, h1, _, h2⟩ := of b hb'
        exact hs.apart _ i s v (getl j s hj) h1 (by omega) b hb h2
      | succ k => exact hs.apart _ _ s u (getl j s (by simpa using hj)) (getl k u (by simpa using hk)) (by omega)
end Go.Wl
