/- Disks: walks, printed by program, and their plain law. -/
import Derived.Test.YtdgcgifigkfeaaaL1
namespace Go.Proofs.Ytdgcgifigkfeaaa
open Go Go.Wk Go.Wl Classical
def Bk.act (p : Bk) (a : Act) : Bk :=
  if a.Kind = 0 then ⟨(p.d.write a.At a.bytes).2, (p.r.write a.At a.bytes).2⟩ else if a.Kind = 1 then p else if a.Kind = 2 then ⟨p.d.flush.2, p.r.flush.2⟩ else if a.Kind = 3 then ⟨p.d.limit a.N, p.r.limit a.N⟩ else if a.Kind = 4 then ⟨p.d.crash a.At a.N a.Kept, p.r.crash a.At a.N a.Kept⟩ else p
theorem bytes_len (a : Act) : a.bytes.length ≤ 300 := by
  unfold Act.bytes; split
  · rw [List.length_replicate]; omega
  · rw [ofs_len]; omega

/-! ### The program's disk and the reference's -/
structure Rel (x : Dk) (y : Rk) : Prop where
  lasts : x.lasts = y.Lasts
  left : x.left = y.Left
  off : x.off = y.Off
  now : ∀ k, aget x.fresh k = y.now k
theorem ix_set {α : Type} [Inhabited α] {l : List α} {k i : Int} {v : α} (hk : 0 ≤ k) (hi : 0 ≤ i) (hl : i < l.length) : ix (l.set k.toNat v) i = if k = i then v else ix l i := by
  rw [ix_get (by rw [List.length_set]; omega), ix_get (by omega)]
  by_cases e : k = i
  · subst e; rw [if_pos rfl]; exact List.getElem_set_self _
  · rw [if_neg e, List.getElem_set_ne (by omega)]
theorem ix_ext {α : Type} [Inhabited α] {a b : List α} (hl : a.length = b.length) (h : ∀ i : Int, 0 ≤ i → i < a.length → ix a i = ix b i) : a = b := by
  apply List.ext_getElem hl
  intro j h1 h2
  have := h j (by omega) (by omega)
  rwa [ix_get (by simp only [Int.toNat_natCast]; exact h1), ix_get (by simp only [Int.toNat_natCast]; exact h2)] at this
theorem aget_nil {L : List (Int × Str)} (h : ∀ k, aget L k = none) : L = [] := by
  cases L with
  | nil => rfl
  | cons p r => have := h p.1; simp [aget] at this
theorem flush_fold : ∀ {L : List Int} {la : List Str} {fr : List (Int × Str)}, L.Nodup → (∀ k ∈ L, 0 ≤ k) →
    (L.foldl flushStep (la, fr)).1.length = la.length ∧ (∀ i : Int, 0 ≤ i → i < la.length → ix (L.foldl flushStep (la, fr)).1 i = if i ∈ L then (aget fr i).getD (List.replicate 256 0) else ix la i) ∧ ∀ k, aget (L.foldl flushStep (la, fr)).2 k = if k ∈ L then none else aget fr k
  | [], la, fr, _, _ => ⟨rfl, fun i _ _ => by rw [if_neg (by simp)]; rfl, fun k => by rw [if_neg (by simp)]; rfl⟩
  | a :: L, la, fr, hn, h0 => by
    simp only [List.nodup_cons] at hn
    have ih := flush_fold (L := L) (la := la.set a.toNat ((aget fr a).getD (List.replicate 256 0))) (fr := adel fr a) hn.2 (fun k hk => h0 k (by simp [hk]))
    rw [List.length_set] at ih
    have e : (a :: L).foldl flushStep (la, fr) = L.foldl flushStep (la.set a.toNat ((aget fr a).getD (List.replicate 256 0)), adel fr a) := rfl
    rw [e]
    refine ⟨ih.1, fun i hi hl => ?_, fun k => ?_⟩
    · rw [ih.2.1 i hi hl, ix_set (h0 a (by simp)) hi hl]
      by_cases hL : i ∈ L
      · rw [if_pos hL, if_pos (by simp [hL]), aget_del, if_neg (fun e => hn.1 (by rw [← e]; exact hL))]
      · rw [if_neg hL]
        by_cases ea : a = i
        · rw [if_pos ea, if_pos (by simp [ea]), ea]
        · rw [if_neg ea, if_neg (by simp [hL]; exact fun e => ea e.symm)]
    · rw [ih.2.2 k, aget_del]
      by_cases hL : k ∈ L
      · rw [if_pos hL, if_pos (by simp [hL])]
      · rw [if_neg hL]
        by_cases ea : k = a
        · rw [if_pos ea, if_pos (by simp [ea])]
        · rw [if_neg ea, if_neg (by simp [hL, ea])]
theorem dirty_nodup {x : Dk} (ok : x.Ok) : x.dirty.Nodup := srt_nodup ok.keys
theorem flush_eq {x : Dk} (ok : x.Ok) (h : (x.act 0).1 = 0) : x.flush.1 = 0 ∧ x.flush.2.lasts.length = x.lasts.length ∧ (∀ i : Int, 0 ≤ i → i < x.lasts.length → ix x.flush.2.lasts i = (aget x.fresh i).getD (ix x.lasts i)) ∧ x.flush.2.fresh = [] ∧ x.flush.2.left = (x.act 0).2.left ∧ x.flush.2.off = (x.act 0).2.off := by
  have ok1 := act_Ok ok 0
  have e := act_lasts (x := x) 0
  have hd : (x.act 0).2.dirty = x.dirty := by simp only [Dk.dirty, e.2]
  have hf := flush_fold (L := x.dirty) (la := x.lasts) (fr := x.fresh) (dirty_nodup ok) (fun k hk => (isSome_flen ok (dirty_mem.1 hk)).1)
  have hx : x.flush = (0, ⟨(x.dirty.foldl flushStep (x.lasts, x.fresh)).1, (x.dirty.foldl flushStep (x.lasts, x.fresh)).2, (x.act 0).2.left, (x.act 0).2.off⟩) := flush_fine h (by rw [hd, e.1, e.2])
  rw [hx]
  refine ⟨rfl, hf.1, fun i hi hl => ?_, aget_nil fun k => ?_, rfl, rfl⟩
  · show ix (x.dirty.foldl flushStep (x.lasts, x.fresh)).1 i = _
    rw [hf.2.1 i hi hl]
    by_cases hm : i ∈ x.dirty
    · rw [if_pos hm]
      obtain ⟨s, hs⟩ := Option.isSome_iff_exists.1 (dirty_mem.1 hm)
      rw [hs]; rfl
    · rw [if_neg hm]
      have : aget x.fresh i = none := by
        cases hs : aget x.fresh i with
        | none => rfl
        | some s => exact absurd (dirty_mem.2 (by rw [hs]; rfl)) hm
      rw [this]; rfl
  · show aget (x.dirty.foldl flushStep (x.lasts, x.fresh)).2 k = none
    rw [hf.2.2 k]
    by_cases hm : k ∈ x.dirty
    · rw [if_pos hm]
    · rw [if_neg hm]
      cases hs : aget x.fresh k with
      | none => rfl
      | some s => exact absurd (dirty_mem.2 (by rw [hs]; rfl)) hm
theorem flush_Ok {x : Dk} (ok : x.Ok) : x.flush.2.Ok := by
  by_cases h : (x.act 0).1 = 0
  · have ⟨_, h1, h2, h3, h4, h5⟩ := flush_eq ok h
    refine ⟨by rw [h1]; exact ok.pos, by rw [h1]; exact ok.max, fun s hs => ?_, fun p hp => (by rw [h3] at hp; cases hp), by rw [h4]; exact (act_Ok ok 0).left, by rw [h3]; exact List.nodup_nil⟩
    obtain ⟨j, hj, e⟩ := List.getElem_of_mem hs
    have hx := h2 j (by omega) (by omega)
    rw [ix_get (by simp only [Int.toNat_natCast]; exact hj)] at hx
    have hx : x.flush.2.lasts[j] = (aget x.fresh j).getD (ix x.lasts j) := hx
    rw [← e, hx]
    cases hs : aget x.fresh j with
    | none => exact last_len ok (by omega) (by omega)
    | some s => exact (aget_flen ok hs).1
  · rw [flush_err h]; exact act_Ok ok 0
theorem rfold : ∀ {L : List (Int × Str)} {l : List Str} {i : Int}, (∀ p ∈ L, 0 ≤ p.1) → 0 ≤ i → i < l.length → (L.foldl rstep l).length = l.length ∧ ix (L.foldl rstep l) i = (lastOf L i).getD (ix l i)
  | [], l, i, _, _, _ => ⟨rfl, rfl⟩
  | p :: L, l, i, h, h0, h1 => by
    have ih := rfold (L := L) (l := l.set p.1.toNat p.2) (i := i) (fun q hq => h q (by simp [hq])) h0 (by rw [List.length_set]; exact h1)
    rw [List.length_set] at ih
    refine ⟨ih.1, ?_⟩
    show ix (L.foldl rstep (l.set p.1.toNat p.2)) i = _
    rw [ih.2, ix_set (h p (by simp)) h0 h1]
    simp only [lastOf]
    cases lastOf L i with
    | some s => rfl
    | none => by_cases e : p.1 = i <;> simp [e]
theorem zip_at {x : Rk} (ok : x.Ok) : ∀ p ∈ x.At.zip x.Fresh, 0 ≤ p.1 := fun p hp => (ok.inn _ (List.of_mem_zip (a := p.1) (b := p.2) hp).1).1
theorem rflush_eq {y : Rk} (ok : y.Ok) (h : y.act.1 = true) : y.flush.1 = 0 ∧ y.flush.2.Lasts.length = y.Lasts.length ∧ (∀ i : Int, 0 ≤ i → i < y.Lasts.length → ix y.flush.2.Lasts i = (y.now i).getD (ix y.Lasts i)) ∧ y.flush.2.At = [] ∧ y.flush.2.Fresh = [] ∧ y.flush.2.Left = y.act.2.Left ∧ y.flush.2.Off = y.act.2.Off := by
  have ⟨e1, e2, e3⟩ := ract_same (x := y)
  have hx : y.flush = (0, { y.act.2 with Lasts := (y.At.zip y.Fresh).foldl rstep y.Lasts, At := [], Fresh := [] }) := by rw [Rk.flush, if_neg (by simp [h]), e1, e2, e3]
  rw [hx]
  have hlen : ∀ (L : List (Int × Str)) (l : List Str), (L.foldl rstep l).length = l.length := by
    intro L
    induction L with
    | nil => intro l; rfl
    | cons p r ih => intro l; show (r.foldl rstep _).length = _; rw [ih]; exact List.length_set
  refine ⟨rfl, hlen _ _, fun i h0 h1 => (rfold (zip_at ok) h0 h1).2, rfl, rfl, rfl, rfl⟩
theorem rflush_Ok {y : Rk} (ok : y.Ok) : y.flush.2.Ok := by
  by_cases h : y.act.1 = true
  · have ⟨_, h1, h2, h3, h4, h5, _⟩ := rflush_eq ok h
    refine ⟨by rw [h3, h4]; rfl, by rw [h1]; exact ok.max, fun a ha => (by rw [h3] at ha; cases ha), fun s hs => ?_, fun s hs => (by rw [h4] at hs; cases hs), by rw [h5]; exact (ract_Ok ok).left, by rw [h3]; exact Nat.zero_le _⟩
    obtain ⟨j, hj, e⟩ := List.getElem_of_mem hs
    have hx := h2 j (by omega) (by omega)
    rw [ix_get (by simp only [Int.toNat_natCast]; exact hj)] at hx
    have hx : y.flush.2.Lasts[j] = (y.now j).getD (ix y.Lasts j) := hx
    rw [← e, hx]
    cases hs : y.now j with
    | none => exact ok.llen _ (ix_mem (by omega) (by omega))
    | some s => exact (now_len ok hs).1
  · have h : y.act.1 = false := by simpa using h
    rw [Rk.flush, if_pos h]; exact ract_Ok ok
section
variable {x : Dk} {y : Rk}
theorem rel_act (r : Rel x y) : (x.act 0).1 = (if y.act.1 = true then 0 else 9) ∧ Rel (x.act 0).2 y.act.2 := by
  obtain ⟨la, fr, le, of⟩ := x
  obtain ⟨La, At, Fr, Le, Of⟩ := y
  obtain ⟨a, b, c, d⟩ := r
  have a : la = La := a
  have b : le = Le := b
  have c : of = Of := c
  subst a; subst b; subst c
  simp only [Dk.act, Rk.act]
  rw [if_neg (by decide), if_neg (by decide), if_neg (by decide)]
  split
  · exact ⟨rfl, rfl, rfl, rfl, d⟩
  split
  · exact ⟨rfl, rfl, rfl, rfl, d⟩
  split
  · exact ⟨rfl, rfl, rfl, rfl, d⟩
  · exact ⟨rfl, rfl, rfl, rfl, d⟩
theorem rel_flush (ok : x.Ok) (ok' : y.Ok) (r : Rel x y) : x.flush.1 = y.flush.1 ∧ Rel x.flush.2 y.flush.2 := by
  have ⟨h1, h2⟩ := rel_act r
  by_cases h : y.act.1 = true
  · rw [if_pos h] at h1
    have ⟨a1, a2, a3, a4, a5, a6⟩ := flush_eq ok h1
    have ⟨b1, b2, b3, b4, b5, b6, b7⟩ := rflush_eq ok' h
    refine ⟨by rw [a1, b1], ⟨?_, by rw [a5, b6]; exact h2.left, by rw [a6, b7]; exact h2.off, fun k => by rw [a4, Rk.now, b4]; rfl⟩⟩
    have hl := congrArg List.length r.lasts
    refine ix_ext (by rw [a2, b2, hl]) fun i h0 h1 => ?_
    rw [a2] at h1
    rw [a3 i h0 h1, b3 i h0 (by omega), r.now, r.lasts]
  · have hf : y.act.1 = false := by simpa using h
    rw [if_neg h] at h1
    rw [flush_err (by rw [h1]; decide), Rk.flush, if_pos hf]
    exact ⟨h1, h2⟩
theorem rel_write (ok : x.Ok) (ok' : y.Ok) (r : Rel x y) (a : Int) (b : Str) : (x.write a b).1 = (y.write a b).1 ∧ Rel (x.write a b).2 (y.write a b).2 := by
  have ⟨h1, h2⟩ := rel_act r
  have hl := congrArg List.length r.lasts
  by_cases hb : b.length = 256
  · by_cases ha : a < 0 ∨ (y.Lasts.length : Int) ≤ a
    · have hw : x.wrong a = 3 := by simp only [Dk.wrong]; rw [if_pos (by omega)]
      have e : (x.act 3).1 = 3 ∧ (x.act 3).2 = x := ⟨rfl, rfl⟩
      rw [write_err (wr := 3) (by rw [if_neg (by omega), hw]) (by rw [e.1]; decide), Rk.write, if_neg (by omega), if_pos ha]
      exact ⟨rfl, r⟩
    · have hw : x.wrong a = 0 := by simp only [Dk.wrong]; rw [if_neg (by omega)]
      by_cases h : y.act.1 = true
      · rw [if_pos h] at h1
        rw [write_fine (wr := 0) (by rw [if_neg (by omega), hw]) h1, rwrite_fine hb (by omega) (by omega) h]
        refine ⟨rfl, h2.lasts, h2.left, h2.off, fun k => ?_⟩
        have ⟨e1, e2, _⟩ := ract_same (x := y)
        show aget (aput (x.act 0).2.fresh a b) k = lastOf ((y.act.2.At ++ [a]).zip (y.act.2.Fresh ++ [b])) k
        rw [List.zip_append (by rw [e1, e2]; exact ok'.same), aget_put]
        show _ = lastOf (_ ++ [(a, b)]) k
        rw [lastOf_append, h2.now k]
        by_cases e : k = a
        · rw [if_pos e, if_pos e.symm]
        · rw [if_neg e, if_neg (fun h => e h.symm)]; rfl
      · have hf : y.act.1 = false := by simpa using h
        rw [if_neg h] at h1
        rw [write_err (wr := 0) (by rw [if_neg (by omega), hw]) (by rw [h1]; decide), rwrite_power hb (by omega) (by omega) hf]
        exact ⟨h1, h2⟩
  · have e : (x.act 2).1 = 2 ∧ (x.act 2).2 = x := ⟨rfl, rfl⟩
    rw [write_err (wr := 2) (by rw [if_pos hb]) (by rw [e.1]; decide), Rk.write, if_pos hb]
    exact ⟨rfl, r⟩
theorem rwrite_Ok (ok : y.Ok) (hc : y.At.length < 1000000) (a : Int) (b : Str) : (y.write a b).2.Ok := by
  have ⟨e1, e2, e3⟩ := ract_same (x := y)
  have ok1 := ract_Ok ok
  simp only [Rk.write]
  split; exact ok
  split; exact ok
  split; exact ok1
  rename_i h1 h2 _
  refine ⟨by simp only [List.length_append, List.length_cons, List.length_nil]; rw [ok1.same], ok1.max, fun k hk => ?_, ok1.llen, fun s hs => ?_, ok1.left, by simp only [List.length_append, List.length_cons, List.length_nil, e1]; omega⟩
  · rcases List.mem_append.1 hk with hk | hk
    · exact ok1.inn k hk
    · simp only [List.mem_cons, List.not_mem_nil, or_false] at hk; rw [hk]; show 0 ≤ a ∧ a < (y.act.2.Lasts.length : Int); rw [e3]; omega
  · rcases List.mem_append.1 hs with hs | hs
    · exact ok1.flen s hs
    · simp only [List.mem_cons, List.not_mem_nil, or_false] at hs; rw [hs]; omega
theorem rwrite_cnt (a : Int) (b : Str) : (y.write a b).2.At.length ≤ y.At.length + 1 := by
  have ⟨e1, e2, e3⟩ := ract_same (x := y)
  simp only [Rk.write]
  split; simp only; omega
  split; simp only; omega
  split; simp only [e1]; omega
  simp only [List.length_append, List.length_cons, List.length_nil, e1]; omega
theorem rflush_cnt : y.flush.2.At.length ≤ y.At.length := by
  have ⟨e1, e2, e3⟩ := ract_same (x := y)
  simp only [Rk.flush]
  split
  · rw [e1]; omega
  · exact Nat.zero_le _
theorem rel_read (r : Rel x y) (a : Int) : x.read a = y.read a := by
  have hl := congrArg List.length r.lasts
  by_cases h : a < 0 ∨ (y.Lasts.length : Int) ≤ a
  · have hw : x.wrong a = 3 := by simp only [Dk.wrong]; rw [if_pos (by omega)]
    rw [Dk.read, Rk.read, if_pos hw, if_pos h]
  · have hw : ¬ x.wrong a = 3 := by simp only [Dk.wrong]; rw [if_neg (by omega)]; decide
    rw [Dk.read, Rk.read, if_neg hw, if_neg h, r.off, r.now, r.lasts]
theorem rel_dirty (ok : x.Ok) (ok' : y.Ok) (r : Rel x y) : x.dirty = y.dirty := by
  have hm : ∀ n, (upTo n).Pairwise (· < ·) := fun n => by
    unfold upTo
    rw [List.pairwise_map]
    exact List.pairwise_lt_range.imp fun h => by simpa using h
  refine srt_uniq (srt_lt ok.keys) ((hm _).sublist List.filter_sublist) fun k => ?_
  have h1 : k ∈ x.dirty ↔ (aget x.fresh k).isSome = true := dirty_mem
  rw [h1, r.now, Rk.dirty, List.mem_filter]
  constructor
  · intro h
    have := now_in ok' h
    exact ⟨by simp only [upTo, List.mem_map, List.mem_range]; exact ⟨k.toNat, by omega, by show ((k.toNat : Nat) : Int) = k; omega⟩, h⟩
  · exact fun h => h.2
theorem rel_limit (r : Rel x y) (n : Int) : Rel (x.limit n) (y.limit n) := by
  refine ⟨r.lasts, ?_, r.off, r.now⟩
  show max n (-1) = if n < 0 then -1 else n
  split <;> omega
theorem rel_crash (r : Rel x y) (t c : Int) (kept : List Int) : Rel (x.crash t c kept) (y.crash t c kept) := by
  refine ⟨?_, rfl, rfl, fun k => rfl⟩
  show kept.foldl (keepStep x.fresh) (x.torn t c) = kept.foldl (rkeep y) (y.torn t c)
  have e1 : keepStep x.fresh = rkeep y := by funext l k; simp only [keepStep, rkeep, r.now]; cases y.now k <;> rfl
  have e2 : max 0 (min c 256) = clampC c := by unfold clampC; (repeat' split) <;> omega
  have e3 : x.torn t c = y.torn t c := by simp only [Dk.torn, Rk.torn, r.now, r.lasts, e2]; cases y.now t <;> rfl
  rw [e1, e3]
theorem rel_new {n : Int} : Rel (Dk.new n) (Rk.new n) := ⟨rfl, rfl, rfl, fun k => rfl⟩
theorem limit_Ok (ok : x.Ok) {n : Int} (hn : InI n) : (x.limit n).Ok := ⟨ok.pos, ok.max, ok.len, ok.flen, by show InI (max n (-1)); have := hn.1; have := hn.2; simp only [InI]; omega, ok.keys⟩
theorem rlimit_Ok (ok : y.Ok) {n : Int} (hn : InI n) : (y.limit n).Ok := ⟨ok.same, ok.max, ok.inn, ok.llen, ok.flen, by show InI (if n < 0 then -1 else n); have := hn.1; have := hn.2; simp only [InI]; split <;> omega, ok.cnt⟩
theorem torn_len (ok : x.Ok) (t c : Int) : (x.torn t c).length = x.lasts.length ∧ ∀ s ∈ x.torn t c, s.length = 256 := by
  simp only [Dk.torn]
  cases h : aget x.fresh t with
  | none => exact ⟨rfl, ok.len⟩
  | some s =>
    have ⟨h1, h2, h3⟩ := aget_flen ok h
    have h4 := last_len ok h2 h3
    refine ⟨List.length_set, rset_len ok.len ?_⟩
    simp only [List.length_append, List.length_take, List.length_drop]; omega
theorem keep_len {fr : List (Int × Str)} (h : ∀ j s, aget fr j = some s → s.length = 256) : ∀ (kept : List Int) (l : List Str), (∀ s ∈ l, s.length = 256) → (kept.foldl (keepStep fr) l).length = l.length ∧ ∀ s ∈ kept.foldl (keepStep fr) l, s.length = 256 := by
  intro kept
  induction kept with
  | nil => intro l hl; exact ⟨rfl, hl⟩
  | cons k r ih =>
    intro l hl
    simp only [List.foldl_cons, keepStep]
    cases hk : aget fr k with
    | none => exact ih l hl
    | some s =>
      have := ih (l.set k.toNat s) (rset_len hl (h k s hk))
      rw [List.length_set] at this; exact this
theorem crash_Ok (ok : x.Ok) (t c : Int) (kept : List Int) : (x.crash t c kept).Ok := by
  have ⟨h1, h2⟩ := torn_len ok t c
  have ⟨h3, h4⟩ := keep_len (fr := x.fresh) (fun j s hs => (aget_flen ok hs).1) kept (x.torn t c) h2
  have e : (x.crash t c kept).lasts.length = x.lasts.length := h3.trans h1
  exact ⟨by rw [e]; exact ok.pos, by rw [e]; exact ok.max, h4, fun p hp => (by cases hp), ⟨by show (-9223372036854775808 : Int) ≤ -1; omega, by show (-1 : Int) ≤ 9223372036854775807; omega⟩, List.nodup_nil⟩
theorem rcrash_Ok (ok : x.Ok) (r : Rel x y) (t c : Int) (kept : List Int) : (y.crash t c kept).Ok := by
  have h := crash_Ok ok t c kept
  have e := (rel_crash r t c kept).lasts
  refine ⟨rfl, by rw [← e]; exact h.max, fun a ha => (by cases ha), by rw [← e]; exact h.len, fun s hs => (by cases hs), ⟨by show (-9223372036854775808 : Int) ≤ -1; omega, by show (-1 : Int) ≤ 9223372036854775807; omega⟩, Nat.zero_le _⟩
theorem errs_range : 0 ≤ (x.act 0).1 ∧ (x.act 0).1 ≤ 16 := by
  simp only [Dk.act]; (repeat' split) <;> simp only <;> omega
end
theorem write_range {x : Dk} (a : Int) (b : Str) : 0 ≤ (x.write a b).1 ∧ (x.write a b).1 ≤ 16 := by
  have h : ∀ wr, 0 ≤ (x.act wr).1 ∧ (x.act wr).1 ≤ 16 := fun wr => by simp only [Dk.act]; (repeat' split) <;> simp only <;> omega
  by_cases e : (x.act (if b.length ≠ 256 then 2 else x.wrong a)).1 = 0
  · rw [write_fine rfl e]; exact ⟨Int.le_refl _, by show (0 : Int) ≤ 16; omega⟩
  · rw [write_err rfl e]; exact h _
theorem flush_range {x : Dk} : 0 ≤ x.flush.1 ∧ x.flush.1 ≤ 16 := by
  have h := errs_range (x := x)
  by_cases e : (x.act 0).1 = 0
  · simp only [Dk.flush]; rw [if_pos e]; exact ⟨Int.le_refl _, by show (0 : Int) ≤ 16; omega⟩
  · rw [flush_err e]; exact h
theorem read_range {x : Dk} (a : Int) : 0 ≤ (x.read a).2 ∧ (x.read a).2 ≤ 16 := by
  simp only [Dk.read]; (repeat' split) <;> simp only <;> omega
theorem bk_Ok {p : Bk} (okd : p.d.Ok) (okr : p.r.Ok) (hc : p.r.At.length < 1000000) (rel : Rel p.d p.r) {a : Act} (hN : InI a.N) : (p.act a).d.Ok ∧ (p.act a).r.Ok ∧ Rel (p.act a).d (p.act a).r ∧ (p.act a).r.At.length ≤ p.r.At.length + 1 ∧ (p.act a).d.lasts.length = p.d.lasts.length := by
  simp only [Bk.act]
  split
  · refine ⟨write_Ok okd _ _, rwrite_Ok okr hc _ _, (rel_write okd okr rel _ _).2, rwrite_cnt _ _, ?_⟩
    by_cases e : (p.d.act (if a.bytes.length ≠ 256 then 2 else p.d.wrong a.At)).1 = 0
    · rw [write_fine rfl e]; exact congrArg List.length (act_lasts _).1
    · rw [write_err rfl e]; exact congrArg List.length (act_lasts _).1
  split
  · exact ⟨okd, okr, rel, by omega, rfl⟩
  split
  · refine ⟨flush_Ok okd, rflush_Ok okr, (rel_flush okd okr rel).2, by have := rflush_cnt (y := p.r); simp only; omega, ?_⟩
    by_cases e : (p.d.act 0).1 = 0
    · exact (flush_eq okd e).2.1
    · rw [flush_err e]; exact congrArg List.length (act_lasts _).1
  split
  · exact ⟨limit_Ok okd hN, rlimit_Ok okr hN, rel_limit rel _, by show p.r.At.length ≤ _; omega, rfl⟩
  split
  · refine ⟨crash_Ok okd _ _ _, rcrash_Ok okd rel _ _ _, rel_crash rel _ _ _, Nat.zero_le _, ?_⟩
    exact (keep_len (fr := p.d.fresh) (fun j s hs => (aget_flen okd hs).1) _ _ (torn_len okd _ _).2).1.trans (torn_len okd _ _).1
  · exact ⟨okd, okr, rel, by omega, rfl⟩

end Go.Proofs.Ytdgcgifigkfeaaa
