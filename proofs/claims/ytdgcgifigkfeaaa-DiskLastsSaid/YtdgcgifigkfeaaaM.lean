/- Disks: walks, printed by program, and their plain law. -/
import Derived.Test.YtdgcgifigkfeaaaChecked
import Derived.Test.YtdgcgifigkfeaaaWlS
import Derived.Test.YtdgcgifigkfeaaaShelf
namespace Go.Proofs.Ytdgcgifigkfeaaa
open Go Go.Wk Go.Wl Classical
/-! ### A disk -/
theorem zero78 : Value.agg Try.zeroCells78 = av (List.replicate 256 0) := by kernel_rfl
structure Dk where
  lasts : List Str
  fresh : List (Int × Str)
  left : Int
  off : Bool
  deriving Inhabited
structure Dk.Ok (x : Dk) : Prop where
  pos : 1 ≤ x.lasts.length
  max : x.lasts.length ≤ 8192
  len : ∀ s ∈ x.lasts, s.length = 256
  flen : ∀ p ∈ x.fresh, p.2.length = 256 ∧ 0 ≤ p.1 ∧ p.1 < x.lasts.length
  left : InI x.left
  keys : (x.fresh.map (·.1)).Nodup
def Dk.wrong (x : Dk) (at_ : Int) : Int := if at_ < 0 ∨ (x.lasts.length : Int) ≤ at_ then 3 else 0
def Dk.act (x : Dk) (w : Int) : Int × Dk :=
  if w = 1 then (1, x) else if w = 2 then (2, x) else if w = 3 then (3, x) else if x.left = 0 then (9, { x with off := true }) else if x.off = true then (9, x) else if 0 < x.left then (0, { x with left := x.left - 1 }) else (0, x)
def dkCells (A : Option Addr) (n cap bm : Nat) (l : Int) (o : Bool) : List Value := [.slice A n cap, .map (some bm), .int .i64 l, .bool o]
def DkIs (d : Nat) (w : World) (x : Dk) (F : List Nat) : Prop :=
  ∃ A cap bm bs, F = d :: bm :: bs ∧ Own w d 68 [.slice A x.lasts.length cap, .map (some bm), .int .i64 x.left, .bool x.off] ∧ MapAt kInt w bm (emap (fun s => av s) x.fresh) ∧ Ac (dArr 256) (fun _ => False) w (.slice A x.lasts.length cap) x.lasts bs ∧ F.Nodup
theorem Ac.flat {n : Nat} {Z Z' : Nat → Prop} {w : World} {v : Value} {l : List Str} {bs : List Nat} (h : Ac (dArr n) Z w v l bs) : Ac (dArr n) Z' w v l bs := h
theorem DkIs.lt {d : Nat} {w : World} {x : Dk} {F : List Nat} (h : DkIs d w x F) : ∀ b ∈ F, b < w.heap.size := by
  obtain ⟨A, cap, bm, bs, rfl, h1, h2, h3, _⟩ := h
  intro b hb
  rcases List.mem_cons.1 hb with rfl | hb
  · exact h1.lt
  rcases List.mem_cons.1 hb with rfl | hb
  · exact MapAt.lt h2
  · exact h3.lt b hb
def obDk (d : Nat) : Ob Dk where
  is := fun _ w x F => DkIs d w x F
  stab := fun {x F} Z Z' B w w' ⟨A, cap, bm, bs, e1, h1, h2, h3, h4⟩ e hB _ => by
    have lt := DkIs.lt ⟨A, cap, bm, bs, e1, h1, h2, h3, h4⟩
    have nin : ∀ b ∈ F, b ∉ B := fun b hb hm => by have := hB b hm (.inl hb); have := lt b hb; omega
    exact ⟨A, cap, bm, bs, e1, h1.ext e (nin d (by simp [e1])), h2.ext e (nin bm (by simp [e1])), Ac.stab h3 e (fun b hb h => hB b hb (.inl (by rcases h with h | h; simp [e1, h]; exact h.elim))) (fun _ h => h), h4⟩
  lt := fun h => DkIs.lt h
section
variable {d : Nat} {w w0 : World} {x : Dk} {F : List Nat} {Z : Nat → Prop}
/-- A disk that may turn, in parts. -/
theorem DkIs.sep (h : DkIs d w x F) (zlt : ∀ b, Z b → b < w.heap.size) (hZ : ∀ b ∈ F, ¬ Z b) : ∃ A cap bm bs, F = d :: bm :: bs ∧
    Sep F w Z w [iOwn d 68 [.slice A x.lasts.length cap, .map (some bm), .int .i64 x.left, .bool x.off] [d], iMap kInt bm (emap (fun s => av s) x.fresh) [bm], iAc (dArr 256) (.slice A x.lasts.length cap) x.lasts bs bs] := by
  obtain ⟨A, cap, bm, bs, rfl, h1, h2, h3, h4⟩ := h
  simp only [List.nodup_cons, List.mem_cons, not_or] at h4
  refine ⟨A, cap, bm, bs, rfl, ?_⟩
  refine (Sep.give (Sep.give (Sep.give (Sep.nil zlt) (t := iAc (dArr 256) (.slice A x.lasts.length cap) x.lasts bs bs) h3 sAc h3.lt (fun b hb => hZ b (by simp [hb])) rfl (fun b hb => by simp [hb]) (fun k s hk => by simp at hk)) (t := iMap kInt bm (emap (fun s => av s) x.fresh) [bm]) h2 sMap (fun b hb => by simp at hb; subst hb; exact MapAt.lt h2) (fun b hb => hZ b (by simp at hb; simp [hb])) rfl (fun b hb => by simp at hb; simp [hb]) ?_) (t := iOwn d 68 _ [d]) h1 sOwn (fun b hb => by simp at hb; subst hb; exact h1.lt) (fun b hb => hZ b (by simp at hb; simp [hb])) rfl (fun b hb => by simp at hb; simp [hb]) ?_)
  · intro k s hk b hb hb'
    simp at hb; subst hb
    match k, hk with
    | 0, hk => simp at hk; subst hk; exact h4.2.1 hb'
    | k + 1, hk => simp at hk
  · intro k s hk b hb hb'
    simp at hb; subst hb
    match k, hk with
    | 0, hk => simp at hk; subst hk; simp at hb'; exact h4.1.1 hb'
    | 1, hk => simp at hk; subst hk; exact h4.1.2 hb'
    | k + 2, hk => simp at hk
/-- .. and put together. -/
theorem DkIs.close {A : Option Addr} {n cap bm : Nat} {bs O : List Nat} {l : Int} {o : Bool} {fr : List (Int × Str)} {la : List Str} {r : List It} {O1 O2 : List Nat} (hs : Sep F w0 Z w (iOwn d 68 [.slice A n cap, .map (some bm), .int .i64 l, .bool o] O1 :: iMap kInt bm (emap (fun s => av s) fr) O2 :: iAc (dArr 256) (.slice A n cap) la bs O :: r)) (hbs : bs.length ≤ 1) :
    DkIs d w ⟨la, fr, l, o⟩ (d :: bm :: bs) ∧ Turn w0 w F (d :: bm :: bs) := by
  have h1 := hs.at 0 rfl
  have h2 := hs.at 1 rfl
  have h3 := hs.at 2 rfl
  have hn := Ac.len h3
  subst hn
  refine ⟨⟨A, cap, bm, bs, rfl, h1, h2, h3, ?_⟩, hs.ext, fun b hb => ?_⟩
  · have a1 := hs.ap 0 1 rfl rfl rfl d (by simp)
    have a2 := hs.ap 0 2 rfl rfl rfl d (by simp)
    have a3 := hs.ap 1 2 rfl rfl rfl bm (by simp)
    simp only [List.mem_cons, List.not_mem_nil, or_false] at a1
    simp only [List.nodup_cons, List.mem_cons, not_or]
    refine ⟨⟨a1, a2⟩, a3, ?_⟩
    match bs, hbs with
    | [], _ => simp
    | [b], _ => simp
  · rcases List.mem_cons.1 hb with rfl | hb
    · exact ((hs.org 0 rfl) b (by simp)).imp (fun h => (hs.ok 0 _ rfl).org0 b h) id
    rcases List.mem_cons.1 hb with rfl | hb
    · exact ((hs.org 1 rfl) b (by simp)).imp (fun h => (hs.ok 1 _ rfl).org0 b h) id
    · exact ((hs.org 2 rfl) b hb).imp (fun h => (hs.ok 2 _ rfl).org0 b h) id
theorem Ac.bs1 {α : Type} {r : Rd α} {v : Value} {l : List α} {bs : List Nat} (h : Ac r Z w v l bs) : bs.length ≤ 1 := by
  rcases h with ⟨_, _, rfl⟩ | ⟨b, _, _, _, _, rfl, _⟩ <;> simp
/-- A disk that is only read, in parts. -/
theorem DkIs.fix (h : DkIs d w x F) : ∃ A cap bm, Sep [] w (fun b => b ∈ F) w [iOwnF d 68 [.slice A x.lasts.length cap, .map (some bm), .int .i64 x.left, .bool x.off], iMapF kInt bm (emap (fun s => av s) x.fresh), iAcF (dArr 256) (.slice A x.lasts.length cap) x.lasts] := by
  have lt := h.lt
  obtain ⟨A, cap, bm, bs, rfl, h1, h2, h3, h4⟩ := h
  refine ⟨A, cap, bm, ?_⟩
  have s0 : Sep [] w (fun b => b ∈ d :: bm :: bs) w [] := Sep.nil lt
  exact ((s0.fact (t := iAcF (dArr 256) (.slice A x.lasts.length cap) x.lasts) ⟨bs, fun b hb => by simp [hb], h3⟩ sAcF rfl rfl).fact (t := iMapF kInt bm (emap (fun s => av s) x.fresh)) ⟨by simp, h2⟩ sMapF rfl rfl).fact (t := iOwnF d 68 _) ⟨by simp, h1⟩ sOwnF rfl rfl
end
theorem Sep.openDk {B0 : List Nat} {d : Nat} {w w0 : World} {x : Dk} {F O : List Nat} {Z : Nat → Prop} {l : List It} (hs : Sep B0 w0 Z w (iOb (obDk d) x F O :: l)) : ∃ A cap bm bs,
    Sep B0 w0 Z w (iOwn d 68 [.slice A x.lasts.length cap, .map (some bm), .int .i64 x.left, .bool x.off] O :: iMap kInt bm (emap (fun s => av s) x.fresh) O :: iAc (dArr 256) (.slice A x.lasts.length cap) x.lasts bs O :: l) := by
  obtain ⟨A, cap, bm, bs, e, h1, h2, h3, h4⟩ := hs.at 0 rfl
  have e' : F = d :: bm :: bs := e
  subst e'
  simp only [List.nodup_cons, List.mem_cons, not_or] at h4
  refine ⟨A, cap, bm, bs, Sep.split (ts := [_, _, _]) hs ?_ ?_⟩
  · intro u hu
    simp only [List.mem_cons, List.not_mem_nil, or_false] at hu
    rcases hu with rfl | rfl | rfl
    · exact ⟨h1, sOwn, fun b hb => by simp at hb; simp [hb], rfl⟩
    · exact ⟨h2, sMap, fun b hb => by simp at hb; simp [hb], rfl⟩
    · exact ⟨h3, sAc, fun b hb => by simp [hb], rfl⟩
  · refine List.Pairwise.cons (fun u hu y hy => ?_) (List.Pairwise.cons (fun u hu y hy => ?_) (List.Pairwise.cons (fun u hu => by cases hu) List.Pairwise.nil))
    · have hy' : y = d := by simpa using hy
      subst hy'
      simp only [List.mem_cons, List.not_mem_nil, or_false] at hu
      rcases hu with rfl | rfl
      · intro hm; exact h4.1.1 (by simpa using hm)
      · exact h4.1.2
    · have hy' : y = bm := by simpa using hy
      subst hy'
      simp only [List.mem_cons, List.not_mem_nil, or_false] at hu
      subst hu
      exact h4.2.1
theorem DkIs.fixZ {d : Nat} {w : World} {x : Dk} {F : List Nat} {Z : Nat → Prop} (h : DkIs d w x F) (zlt : ∀ b, Z b → b < w.heap.size) (hZ : ∀ b ∈ F, Z b) : ∃ A cap bm, Sep [] w Z w [iOwnF d 68 [.slice A x.lasts.length cap, .map (some bm), .int .i64 x.left, .bool x.off], iMapF kInt bm (emap (fun s => av s) x.fresh), iAcF (dArr 256) (.slice A x.lasts.length cap) x.lasts] := by
  obtain ⟨A, cap, bm, bs, rfl, h1, h2, h3, h4⟩ := h
  refine ⟨A, cap, bm, ?_⟩
  exact (((Sep.nil (B0 := []) zlt).fact (t := iAcF (dArr 256) (.slice A x.lasts.length cap) x.lasts) ⟨bs, fun b hb => hZ b (by simp [hb]), h3⟩ sAcF rfl rfl).fact (t := iMapF kInt bm (emap (fun s => av s) x.fresh)) ⟨hZ bm (by simp), h2⟩ sMapF rfl rfl).fact (t := iOwnF d 68 _) ⟨hZ d (by simp), h1⟩ sOwnF rfl rfl
theorem zc78 : (Value.agg Try.zeroCells78).cells = ((List.replicate 256 (0 : UInt8)).map bv).toArray := by kernel_rfl
theorem zs78 : (Value.agg Try.zeroCells78).cells.size = 256 := by kernel_rfl
theorem DkIs.nd {d : Nat} {w : World} {x : Dk} {F : List Nat} (h : DkIs d w x F) : F.Nodup := by
  obtain ⟨_, _, _, _, _, _, _, _, h⟩ := h; exact h

/-! ### Plain law -/
theorem sub_len : ∀ {l m : List Int}, l.Nodup → (∀ x ∈ l, x ∈ m) → l.length ≤ m.length
  | [], m, _, _ => by simp
  | a :: l, m, h, hs => by
    simp only [List.nodup_cons] at h
    have ha : a ∈ m := hs a (by simp)
    have := sub_len (m := m.erase a) h.2 (fun x hx => (List.mem_erase_of_ne (fun e => h.1 (by rw [← e]; exact hx))).2 (hs x (by simp [hx])))
    rw [List.length_erase_of_mem ha] at this
    have : 0 < m.length := List.length_pos_of_mem ha
    simp only [List.length_cons]; omega
theorem bd_len {l : List Int} {n : Nat} (h : l.Nodup) (hb : ∀ x ∈ l, 0 ≤ x ∧ x < n) : l.length ≤ n := by
  have := sub_len (m := (List.range n).map Int.ofNat) h (fun x hx => by
    have := hb x hx
    exact List.mem_map.2 ⟨x.toNat, by simp; omega, by simp; omega⟩)
  simpa using this
theorem srt_uniq : ∀ {a b : List Int}, a.Pairwise (· < ·) → b.Pairwise (· < ·) → (∀ x, x ∈ a ↔ x ∈ b) → a = b
  | [], b, _, _, h => by
    cases b with
    | nil => rfl
    | cons y b => have := (h y).2 (by simp); cases this
  | x :: a, [], _, _, h => by have := (h x).1 (by simp); cases this
  | x :: a, y :: b, ha, hb, h => by
    simp only [List.pairwise_cons] at ha hb
    have e : x = y := by
      have h1 := (h x).1 (by simp)
      have h2 := (h y).2 (by simp)
      rcases List.mem_cons.1 h1 with e | h1
      · exact e
      rcases List.mem_cons.1 h2 with e | h2
      · exact e.symm
      have := ha.1 y h2; have := hb.1 x h1; omega
    subst e
    rw [srt_uniq ha.2 hb.2 (fun z => by
      constructor
      · intro hz
        rcases List.mem_cons.1 ((h z).1 (by simp [hz])) with e | h'
        · subst e; have := ha.1 z hz; omega
        · exact h'
      · intro hz
        rcases List.mem_cons.1 ((h z).2 (by simp [hz])) with e | h'
        · subst e; have := hb.1 z hz; omega
        · exact h')]
theorem srt_ext {a b : List Int} (ha : a.Nodup) (hb : b.Nodup) (h : ∀ x, x ∈ a ↔ x ∈ b) : srt a = srt b :=
  srt_uniq (srt_lt ha) (srt_lt hb) fun x => by rw [srt_mem, srt_mem]; exact h x
theorem ix_mem {α : Type} [Inhabited α] {l : List α} {i : Int} (h0 : 0 ≤ i) (h1 : i < l.length) : ix l i ∈ l := by
  rw [ix_get (by omega)]; exact List.getElem_mem _
def Dk.dirty (x : Dk) : List Int := srt (x.fresh.map (·.1))
def Dk.write (x : Dk) (at_ : Int) (b : Str) : Int × Dk :=
  let r := x.act (if b.length ≠ 256 then 2 else x.wrong at_)
  if r.1 = 0 then (0, { r.2 with fresh := aput r.2.fresh at_ b }) else r
def Dk.read (x : Dk) (at_ : Int) : Str × Int :=
  if x.wrong at_ = 3 then ([], 3) else if x.off = true then ([], 9) else ((aget x.fresh at_).getD (ix x.lasts at_), 0)
def flushStep (p : List Str × List (Int × Str)) (k : Int) : List Str × List (Int × Str) := (p.1.set k.toNat ((aget p.2 k).getD (List.replicate 256 0)), adel p.2 k)
def Dk.flush (x : Dk) : Int × Dk :=
  let r := x.act 0
  if r.1 = 0 then (0, { r.2 with lasts := (r.2.dirty.foldl flushStep (r.2.lasts, r.2.fresh)).1, fresh := (r.2.dirty.foldl flushStep (r.2.lasts, r.2.fresh)).2 }) else r
def Dk.torn (x : Dk) (t cut : Int) : List Str :=
  match aget x.fresh t with
  | some s => x.lasts.set t.toNat (s.take (max 0 (min cut 256)).toNat ++ (ix x.lasts t).drop (max 0 (min cut 256)).toNat)
  | none => x.lasts
def keepStep (fr : List (Int × Str)) (l : List Str) (k : Int) : List Str :=
  match aget fr k with
  | some s => l.set k.toNat s
  | none => l
def Dk.crash (x : Dk) (t cut : Int) (kept : List Int) : Dk := ⟨kept.foldl (keepStep x.fresh) (x.torn t cut), [], -1, false⟩
def Dk.limit (x : Dk) (n : Int) : Dk := { x with left := max n (-1) }
theorem aget_flen {x : Dk} (ok : x.Ok) {k : Int} {s : Str} (h : aget x.fresh k = some s) : s.length = 256 ∧ 0 ≤ k ∧ k < x.lasts.length := by
  have hm : (k, s) ∈ x.fresh := by
    have : ∀ L : List (Int × Str), aget L k = some s → (k, s) ∈ L := by
      intro L
      induction L with
      | nil => intro h; cases h
      | cons p r ih =>
        intro h; simp only [aget] at h
        by_cases hk : k = p.1
        · rw [if_pos hk] at h; simp only [Option.some.injEq] at h
          exact List.mem_cons.2 (.inl (by rw [hk, ← h]))
        · rw [if_neg hk] at h; exact List.mem_cons_of_mem _ (ih h)
    exact this _ h
  exact ok.flen _ hm
theorem getD_len {x : Dk} (ok : x.Ok) (k : Int) : ((aget x.fresh k).getD (List.replicate 256 0)).length = 256 := by
  cases h : aget x.fresh k with
  | none => exact List.length_replicate
  | some s => exact (aget_flen ok h).1
theorem last_len {x : Dk} (ok : x.Ok) {k : Int} (h0 : 0 ≤ k) (h1 : k < x.lasts.length) : (ix x.lasts k).length = 256 := ok.len _ (ix_mem h0 h1)
theorem fresh_len {x : Dk} (ok : x.Ok) : x.fresh.length ≤ 8192 := by
  have := bd_len ok.keys (n := x.lasts.length) (fun k hk => by
    obtain ⟨p, hp, rfl⟩ := List.mem_map.1 hk
    exact (ok.flen p hp).2)
  have := ok.max
  simp only [List.length_map] at *; omega
theorem read_fine {x : Dk} {a : Int} {p : Bool} (h1 : ¬ x.wrong a = 3) (h2 : x.off = false) (h3 : (aget x.fresh a).isSome = p) : x.read a = (bif p then (aget x.fresh a).getD (List.replicate 256 0) else ix x.lasts a, 0) := by
  rw [Dk.read, if_neg h1, if_neg (by simp [h2])]
  subst h3
  cases h : aget x.fresh a <;> rfl
theorem act_Ok {x : Dk} (ok : x.Ok) (wr : Int) : (x.act wr).2.Ok := by
  have ⟨a, b, c, d, e, f⟩ := ok
  simp only [Dk.act]
  split; exact ok
  split; exact ok
  split; exact ok
  split; exact ⟨a, b, c, d, e, f⟩
  split; exact ok
  split
  · exact ⟨a, b, c, d, ⟨by have := e.1; simp only; omega, by have := e.2; simp only; omega⟩, f⟩
  · exact ok
theorem act_lasts {x : Dk} (wr : Int) : (x.act wr).2.lasts = x.lasts ∧ (x.act wr).2.fresh = x.fresh := by
  simp only [Dk.act]
  split; exact ⟨rfl, rfl⟩
  split; exact ⟨rfl, rfl⟩
  split; exact ⟨rfl, rfl⟩
  split; exact ⟨rfl, rfl⟩
  split; exact ⟨rfl, rfl⟩
  split <;> exact ⟨rfl, rfl⟩
theorem write_err {x : Dk} {a : Int} {b : Str} {wr : Int} (hw : wr = if b.length ≠ 256 then 2 else x.wrong a) (h : (x.act wr).1 ≠ 0) : x.write a b = x.act wr := by
  subst hw; simp only [Dk.write]; rw [if_neg h]
theorem write_fine {x : Dk} {a : Int} {b : Str} {wr : Int} (hw : wr = if b.length ≠ 256 then 2 else x.wrong a) (h : (x.act wr).1 = 0) : x.write a b = (0, { (x.act wr).2 with fresh := aput (x.act wr).2.fresh a b }) := by
  subst hw; simp only [Dk.write]; rw [if_pos h]
theorem act_zero {x : Dk} {wr : Int} (h : (x.act wr).1 = 0) : wr ≠ 1 ∧ wr ≠ 2 ∧ wr ≠ 3 := by
  refine ⟨?_, ?_, ?_⟩ <;> rintro rfl <;> simp [Dk.act] at h
theorem ok_put {x : Dk} (ok : x.Ok) {a : Int} {b : Str} (h0 : 0 ≤ a) (h1 : a < x.lasts.length) (hb : b.length = 256) : Dk.Ok { x with fresh := aput x.fresh a b } := by
  have ⟨p, m, l, fl, e, f⟩ := ok
  refine ⟨p, m, l, fun q hq => ?_, e, aput_nodup f⟩
  have : ∀ L : List (Int × Str), (∀ p ∈ L, p.2.length = 256 ∧ 0 ≤ p.1 ∧ p.1 < x.lasts.length) → ∀ p ∈ aput L a b, p.2.length = 256 ∧ 0 ≤ p.1 ∧ p.1 < x.lasts.length := by
    intro L
    induction L with
    | nil => intro _ p hp; simp [aput] at hp; subst hp; exact ⟨hb, h0, h1⟩
    | cons p r ih =>
      intro hL q hq
      simp only [aput] at hq
      split at hq
      · rcases List.mem_cons.1 hq with rfl | hq
        · exact ⟨hb, h0, h1⟩
        · exact hL q (by simp [hq])
      · rcases List.mem_cons.1 hq with rfl | hq
        · exact hL _ (by simp)
        · exact ih (fun p hp => hL p (by simp [hp])) q hq
  exact this _ fl q hq
theorem write_Ok {x : Dk} (ok : x.Ok) (a : Int) (b : Str) : (x.write a b).2.Ok := by
  by_cases h : (x.act (if b.length ≠ 256 then 2 else x.wrong a)).1 = 0
  · rw [write_fine rfl h]
    have hz := act_zero h
    have hb : b.length = 256 := by
      apply Classical.byContradiction; intro hb; rw [if_pos hb] at hz; exact hz.2.1 rfl
    rw [if_neg (by simp [hb])] at hz
    have hw : 0 ≤ a ∧ a < x.lasts.length := by
      have := hz.2.2; simp only [Dk.wrong] at this; split at this <;> omega
    have e := act_lasts (x := x) (if b.length ≠ 256 then 2 else x.wrong a)
    exact ok_put (act_Ok ok _) hw.1 (by rw [e.1]; exact hw.2) hb
  · rw [write_err rfl h]; exact act_Ok ok _
theorem keys_step {L dm : List (Int × Str)} {k : Int} {v : Str} (h : (dm.map (·.1)).Nodup) (hk : k ∉ dm.map (·.1)) : ((dm ++ [(k, v)]).map (·.1)).Nodup := by
  rw [List.map_append, List.nodup_append]
  refine ⟨h, by simp, fun a ha b hb => ?_⟩
  simp at hb; subst hb
  intro e; subst e; exact hk ha
theorem keys_sub {L dm : List (Int × Str)} {k : Int} {v : Str} (h : ∀ p ∈ dm.map (·.1), p ∈ L.map (·.1)) (hm : (k, v) ∈ L) : ∀ p ∈ (dm ++ [(k, v)]).map (·.1), p ∈ L.map (·.1) := by
  intro p hp
  rw [List.map_append, List.mem_append] at hp
  rcases hp with hp | hp
  · exact h p hp
  · have hp : p = k := by simpa using hp
    rw [hp]; exact List.mem_map.2 ⟨(k, v), hm, rfl⟩
theorem keys_len {L dm : List (Int × Str)} (h : (dm.map (·.1)).Nodup) (hs : ∀ p ∈ dm.map (·.1), p ∈ L.map (·.1)) : dm.length ≤ L.length := by
  have := sub_len h hs; simpa using this
theorem dirty_eq {x : Dk} (ok : x.Ok) {dm : List (Int × Str)} (h : (dm.map (·.1)).Nodup) (hs : ∀ p ∈ dm.map (·.1), p ∈ x.fresh.map (·.1)) (ho : ∀ k, k ∈ x.fresh.map (·.1) → k ∈ dm.map (·.1)) : srt (dm.map (·.1)) = x.dirty :=
  srt_ext h ok.keys fun k => ⟨hs k, ho k⟩
theorem dirty_len {x : Dk} (ok : x.Ok) : x.dirty.length ≤ 8192 := by
  unfold Dk.dirty; rw [srt_len]; have := fresh_len ok; simpa using this
theorem dirty_mem {x : Dk} {k : Int} : k ∈ x.dirty ↔ (aget x.fresh k).isSome = true := by
  unfold Dk.dirty; rw [srt_mem, aget_mem]
theorem fr_InI {x : Dk} (ok : x.Ok) {k : Int} {v : Str} (h : (k, v) ∈ x.fresh) : InI k := by
  have := ok.flen _ h; have := ok.max; simp only [InI]; omega
theorem isSome_flen {x : Dk} (ok : x.Ok) {k : Int} (h : (aget x.fresh k).isSome = true) : 0 ≤ k ∧ k < x.lasts.length := by
  obtain ⟨s, hs⟩ := Option.isSome_iff_exists.1 h
  exact (aget_flen ok hs).2
theorem torn_some {x : Dk} {t cut : Int} (h : (aget x.fresh t).isSome = true) : List.set x.lasts t.toNat (List.take (max 0 (min cut 256)).toNat ((aget x.fresh t).getD (List.replicate 256 (0 : UInt8))) ++ List.drop (max 0 (min cut 256)).toNat (ix x.lasts t)) = x.torn t cut := by
  obtain ⟨s, hs⟩ := Option.isSome_iff_exists.1 h
  simp only [Dk.torn, hs, Option.getD_some]
theorem torn_none {x : Dk} {t cut : Int} (h : (aget x.fresh t).isSome = false) : x.lasts = x.torn t cut := by
  have hs : aget x.fresh t = none := by cases e : aget x.fresh t with | none => rfl | some s => rw [e] at h; cases h
  simp only [Dk.torn, hs]
theorem take_next {α : Type} [Inhabited α] {l : List α} {i : Int} (h0 : 0 ≤ i) (h1 : i < l.length) : l.take (i + 1).toNat = l.take i.toNat ++ [ix l i] := by
  have e : (i + 1).toNat = i.toNat + 1 := by omega
  have hi : i.toNat < l.length := by omega
  rw [e, List.take_succ_eq_append_getElem hi, ix_get hi]
theorem keep_some {fr : List (Int × Str)} {kept : List Int} {i : Int} {l l0 : List Str} (h : l = (kept.take i.toNat).foldl (keepStep fr) l0) (h0 : 0 ≤ i) (h1 : i < kept.length) (hs : (aget fr (ix kept i)).isSome = true) :
    List.set l (ix kept i).toNat ((aget fr (ix kept i)).getD (List.replicate 256 (0 : UInt8))) = (kept.take (i + 1).toNat).foldl (keepStep fr) l0 := by
  obtain ⟨s, hs⟩ := Option.isSome_iff_exists.1 hs
  rw [take_next h0 h1, List.foldl_append, ← h]
  simp only [List.foldl_cons, List.foldl_nil, keepStep, hs, Option.getD_some]
theorem keep_none {fr : List (Int × Str)} {kept : List Int} {i : Int} {l l0 : List Str} (h : l = (kept.take i.toNat).foldl (keepStep fr) l0) (h0 : 0 ≤ i) (h1 : i < kept.length) (hs : (aget fr (ix kept i)).isSome = false) :
    l = (kept.take (i + 1).toNat).foldl (keepStep fr) l0 := by
  have hs : aget fr (ix kept i) = none := by cases e : aget fr (ix kept i) with | none => rfl | some s => rw [e] at hs; cases hs
  rw [take_next h0 h1, List.foldl_append, ← h]
  simp only [List.foldl_cons, List.foldl_nil, keepStep, hs]
def Dk.new (n : Int) : Dk := ⟨List.replicate n.toNat (List.replicate 256 0), [], -1, false⟩
theorem new_Ok {n : Int} (h0 : 1 ≤ n) (h1 : n ≤ 8192) : (Dk.new n).Ok := by
  have e : (Dk.new n).lasts.length = n.toNat := List.length_replicate
  refine ⟨by rw [e]; omega, by rw [e]; omega, fun s hs => ?_, fun p hp => (by cases hp), ⟨by show (-9223372036854775808 : Int) ≤ -1; omega, by show (-1 : Int) ≤ 9223372036854775807; omega⟩, List.nodup_nil⟩
  have := List.eq_of_mem_replicate hs
  rw [this]; exact List.length_replicate
theorem flush_step {L : List Int} {i : Int} {la : List Str} {fr : List (Int × Str)} {p0 : List Str × List (Int × Str)} (h : (la, fr) = (L.take i.toNat).foldl flushStep p0) (h0 : 0 ≤ i) (h1 : i < L.length) :
    (List.set la (ix L i).toNat ((aget fr (ix L i)).getD (List.replicate 256 (0 : UInt8))), adel fr (ix L i)) = (L.take (i + 1).toNat).foldl flushStep p0 := by
  rw [take_next h0 h1, List.foldl_append, ← h]; rfl
theorem flens_del {fr : List (Int × Str)} {k : Int} (h : ∀ j s, aget fr j = some s → s.length = 256) : ∀ j s, aget (adel fr k) j = some s → s.length = 256 := by
  intro j s hs
  rw [aget_del] at hs
  split at hs
  · cases hs
  · exact h j s hs
theorem flens_getD {fr : List (Int × Str)} (h : ∀ j s, aget fr j = some s → s.length = 256) (k : Int) : ((aget fr k).getD (List.replicate 256 (0 : UInt8))).length = 256 := by
  cases e : aget fr k with
  | none => exact List.length_replicate
  | some s => exact h k s e
theorem flush_err {x : Dk} (h : (x.act 0).1 ≠ 0) : x.flush = x.act 0 := by simp only [Dk.flush]; rw [if_neg h]
theorem flush_fine {x : Dk} (h : (x.act 0).1 = 0) {la : List Str} {fr : List (Int × Str)} (e : (la, fr) = (x.act 0).2.dirty.foldl flushStep ((x.act 0).2.lasts, (x.act 0).2.fresh)) : x.flush = (0, ⟨la, fr, (x.act 0).2.left, (x.act 0).2.off⟩) := by
  simp only [Dk.flush]; rw [if_pos h, ← e]
theorem dirty_in {x : Dk} (ok : x.Ok) {i : Int} (h0 : 0 ≤ i) (h1 : i < x.dirty.length) : 0 ≤ ix x.dirty i ∧ ix x.dirty i < x.lasts.length := isSome_flen ok (dirty_mem.1 (ix_mem h0 h1))
theorem sort_nil {w : World} : CallR Try.prog 34 [.slice none 0 0] w fun _ w' => True ∧ w = w' := fun w1 hs => Calls.mono (Try.slices_Sort_int_none none 0 w1) fun _ _ ⟨h1, h2⟩ => ⟨_, w, h1, by rw [h2]; exact hs, trivial, rfl⟩

end Go.Proofs.Ytdgcgifigkfeaaa
