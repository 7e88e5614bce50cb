/- Disks: walks, printed by program, and their plain law. -/
import Derived.Test.YtdgcgifigkfeaaaA6
import Derived.Test.YtdgcgifigkfeaaaWlG
namespace Go.Proofs.Ytdgcgifigkfeaaa
open Go Go.Wk Go.Wl Classical
structure Rk where
  Lasts : List Str
  At : List Int
  Fresh : List Str
  Left : Int
  Off : Bool
  deriving Inhabited
def RkIs (b : Nat) (w : World) (x : Rk) (F : List Nat) : Prop := ∃ (A_Lasts : Option Addr) (k_Lasts : Nat) (s_Lasts : List Nat) (A_At : Option Addr) (k_At : Nat) (s_At : List Nat) (A_Fresh : Option Addr) (k_Fresh : Nat) (s_Fresh : List Nat), F = [b] ++ (s_Lasts ++ (s_At ++ (s_Fresh ++ []))) ∧ F.Nodup ∧ Own w b 43 [.slice A_Lasts x.Lasts.length k_Lasts, .slice A_At x.At.length k_At, .slice A_Fresh x.Fresh.length k_Fresh, .int .i64 x.Left, .bool x.Off] ∧ Ac dStr (fun _ => False) w (.slice A_Lasts x.Lasts.length k_Lasts) x.Lasts s_Lasts ∧ Ac dInt (fun _ => False) w (.slice A_At x.At.length k_At) x.At s_At ∧ Ac dStr (fun _ => False) w (.slice A_Fresh x.Fresh.length k_Fresh) x.Fresh s_Fresh
theorem RkIs.lt {b : Nat} {w : World} {x : Rk} {F : List Nat} (h : RkIs b w x F) : ∀ y ∈ F, y < w.heap.size := by
  obtain ⟨A_Lasts, k_Lasts, s_Lasts, A_At, k_At, s_At, A_Fresh, k_Fresh, s_Fresh, rfl, _, h0, h1, h2, h3⟩ := h
  intro y hy
  rcases List.mem_append.1 hy with hy | hy
  · exact by rw [List.mem_singleton.1 hy]; exact Own.lt h0
  rcases List.mem_append.1 hy with hy | hy
  · exact Ac.lt h1 y hy
  rcases List.mem_append.1 hy with hy | hy
  · exact Ac.lt h2 y hy
  rcases List.mem_append.1 hy with hy | hy
  · exact Ac.lt h3 y hy
  cases hy
theorem RkIs.nd {b : Nat} {w : World} {x : Rk} {F : List Nat} (h : RkIs b w x F) : F.Nodup := by
  obtain ⟨A_Lasts, k_Lasts, s_Lasts, A_At, k_At, s_At, A_Fresh, k_Fresh, s_Fresh, _, nd, _, _, _, _⟩ := h
  exact nd
def obRk (b : Nat) : Ob Rk where
  is := fun _ w x F => RkIs b w x F
  stab := fun {x F} Z Z' B w w' h e hB _ => by
    have lt := RkIs.lt (show RkIs b w x F from h)
    obtain ⟨A_Lasts, k_Lasts, s_Lasts, A_At, k_At, s_At, A_Fresh, k_Fresh, s_Fresh, e1, nd, h0, h1, h2, h3⟩ := h
    have nin : ∀ y ∈ F, y ∉ B := fun y hy hm => by have := hB y hm (.inl hy); have := lt y hy; omega
    subst e1
    exact ⟨A_Lasts, k_Lasts, s_Lasts, A_At, k_At, s_At, A_Fresh, k_Fresh, s_Fresh, rfl, nd, h0.ext e (nin b (by simp)), Ac.stab h1 e (fun y hy hq => (nin y (by rcases hq with hq | hq; simp [hq]; exact hq.elim) hy).elim) (fun _ h => h), Ac.stab h2 e (fun y hy hq => (nin y (by rcases hq with hq | hq; simp [hq]; exact hq.elim) hy).elim) (fun _ h => h), Ac.stab h3 e (fun y hy hq => (nin y (by rcases hq with hq | hq; simp [hq]; exact hq.elim) hy).elim) (fun _ h => h)⟩
  lt := fun h => RkIs.lt h
theorem Sep.openRk {B0 : List Nat} {b : Nat} {w w0 : World} {x : Rk} {F O : List Nat} {Z : Nat → Prop} {l : List It} (hs : Sep B0 w0 Z w (iOb (obRk b) x F O :: l)) : ∃ (A_Lasts : Option Addr) (k_Lasts : Nat) (s_Lasts : List Nat) (A_At : Option Addr) (k_At : Nat) (s_At : List Nat) (A_Fresh : Option Addr) (k_Fresh : Nat) (s_Fresh : List Nat), 
    Sep B0 w0 Z w (iOwn b 43 [.slice A_Lasts x.Lasts.length k_Lasts, .slice A_At x.At.length k_At, .slice A_Fresh x.Fresh.length k_Fresh, .int .i64 x.Left, .bool x.Off] O :: iAc dStr (.slice A_Lasts x.Lasts.length k_Lasts) x.Lasts s_Lasts O :: iAc dInt (.slice A_At x.At.length k_At) x.At s_At O :: iAc dStr (.slice A_Fresh x.Fresh.length k_Fresh) x.Fresh s_Fresh O :: l) := by
  have h : RkIs b w x F := hs.at 0 rfl
  obtain ⟨A_Lasts, k_Lasts, s_Lasts, A_At, k_At, s_At, A_Fresh, k_Fresh, s_Fresh, e, nd, h0, h1, h2, h3⟩ := h
  refine ⟨A_Lasts, k_Lasts, s_Lasts, A_At, k_At, s_At, A_Fresh, k_Fresh, s_Fresh, ?_⟩
  refine Sep.openL hs [iOwn b 43 [.slice A_Lasts x.Lasts.length k_Lasts, .slice A_At x.At.length k_At, .slice A_Fresh x.Fresh.length k_Fresh, .int .i64 x.Left, .bool x.Off] O, iAc dStr (.slice A_Lasts x.Lasts.length k_Lasts) x.Lasts s_Lasts O, iAc dInt (.slice A_At x.At.length k_At) x.At s_At O, iAc dStr (.slice A_Fresh x.Fresh.length k_Fresh) x.Fresh s_Fresh O] e nd ?_
  intro u hu
  simp only [List.mem_cons, List.not_mem_nil, or_false] at hu
  rcases hu with rfl | rfl | rfl | rfl
  · exact ⟨h0, sOwn, rfl⟩
  · exact ⟨Ac.stab h1 (Ext.refl [] w) (fun _ hy => by cases hy) (fun _ h => h.elim), sAc, rfl⟩
  · exact ⟨Ac.stab h2 (Ext.refl [] w) (fun _ hy => by cases hy) (fun _ h => h.elim), sAc, rfl⟩
  · exact ⟨Ac.stab h3 (Ext.refl [] w) (fun _ hy => by cases hy) (fun _ h => h.elim), sAc, rfl⟩
theorem RkIs.close {F O_ : List Nat} {w w0 : World} {Z : Nat → Prop} {b : Nat} {r : List It} {A_Lasts : Option Addr} {k_Lasts : Nat} {s_Lasts : List Nat} {A_At : Option Addr} {k_At : Nat} {s_At : List Nat} {A_Fresh : Option Addr} {k_Fresh : Nat} {s_Fresh : List Nat} {n_Lasts : Nat} {O_Lasts : List Nat} {n_At : Nat} {O_At : List Nat} {n_Fresh : Nat} {O_Fresh : List Nat}  {x_Lasts : List Str} {x_At : List Int} {x_Fresh : List Str} {x_Left : Int} {x_Off : Bool} (hs : Sep F w0 Z w (iOwn b 43 [.slice A_Lasts n_Lasts k_Lasts, .slice A_At n_At k_At, .slice A_Fresh n_Fresh k_Fresh, .int .i64 x_Left, .bool x_Off] O_ :: iAc dStr (.slice A_Lasts n_Lasts k_Lasts) x_Lasts s_Lasts O_Lasts :: iAc dInt (.slice A_At n_At k_At) x_At s_At O_At :: iAc dStr (.slice A_Fresh n_Fresh k_Fresh) x_Fresh s_Fresh O_Fresh :: r)) :
    RkIs b w ⟨x_Lasts, x_At, x_Fresh, x_Left, x_Off⟩ ([b] ++ (s_Lasts ++ (s_At ++ (s_Fresh ++ [])))) ∧ Turn w0 w F ([b] ++ (s_Lasts ++ (s_At ++ (s_Fresh ++ [])))) := by
  have h0 := hs.at 0 rfl
  have h1 := hs.at 1 rfl
  have h2 := hs.at 2 rfl
  have h3 := hs.at 3 rfl
  have ⟨nd, ht⟩ := Sep.closeL (ts := [iOwn b 43 [.slice A_Lasts n_Lasts k_Lasts, .slice A_At n_At k_At, .slice A_Fresh n_Fresh k_Fresh, .int .i64 x_Left, .bool x_Off] O_, iAc dStr (.slice A_Lasts n_Lasts k_Lasts) x_Lasts s_Lasts O_Lasts, iAc dInt (.slice A_At n_At k_At) x_At s_At O_At, iAc dStr (.slice A_Fresh n_Fresh k_Fresh) x_Fresh s_Fresh O_Fresh]) hs (fun u hu => by
    simp only [List.mem_cons, List.not_mem_nil, or_false] at hu
    rcases hu with rfl | rfl | rfl | rfl
    · exact nd1
    · exact Ac.nd h1
    · exact Ac.nd h2
    · exact Ac.nd h3)
  have e1 := Ac.len h1
  subst e1
  have e2 := Ac.len h2
  subst e2
  have e3 := Ac.len h3
  subst e3
  exact ⟨⟨A_Lasts, k_Lasts, s_Lasts, A_At, k_At, s_At, A_Fresh, k_Fresh, s_Fresh, rfl, nd, h0, h1, h2, h3⟩, ht⟩
theorem RkIs.fix {b : Nat} {w : World} {x : Rk} {F : List Nat} {Z : Nat → Prop} (h : RkIs b w x F) (zlt : ∀ b, Z b → b < w.heap.size) (hZ : ∀ b ∈ F, Z b) : ∃ (A_Lasts : Option Addr) (k_Lasts : Nat) (s_Lasts : List Nat) (A_At : Option Addr) (k_At : Nat) (s_At : List Nat) (A_Fresh : Option Addr) (k_Fresh : Nat) (s_Fresh : List Nat), Sep [] w Z w [iOwnF b 43 [.slice A_Lasts x.Lasts.length k_Lasts, .slice A_At x.At.length k_At, .slice A_Fresh x.Fresh.length k_Fresh, .int .i64 x.Left, .bool x.Off], iAcF dStr (.slice A_Lasts x.Lasts.length k_Lasts) x.Lasts, iAcF dInt (.slice A_At x.At.length k_At) x.At, iAcF dStr (.slice A_Fresh x.Fresh.length k_Fresh) x.Fresh] := by
  obtain ⟨A_Lasts, k_Lasts, s_Lasts, A_At, k_At, s_At, A_Fresh, k_Fresh, s_Fresh, rfl, _, h0, h1, h2, h3⟩ := h
  refine ⟨A_Lasts, k_Lasts, s_Lasts, A_At, k_At, s_At, A_Fresh, k_Fresh, s_Fresh, ?_⟩
  exact (((((((((Sep.nil (B0 := []) zlt)).fact (t := iAcF dStr (.slice A_Fresh x.Fresh.length k_Fresh) x.Fresh) ⟨_, fun y hy => hZ y (by simp [hy]), Ac.stab h3 (Ext.refl [] w) (fun _ hy => by cases hy) (fun _ h => h.elim)⟩ sAcF rfl rfl)).fact (t := iAcF dInt (.slice A_At x.At.length k_At) x.At) ⟨_, fun y hy => hZ y (by simp [hy]), Ac.stab h2 (Ext.refl [] w) (fun _ hy => by cases hy) (fun _ h => h.elim)⟩ sAcF rfl rfl)).fact (t := iAcF dStr (.slice A_Lasts x.Lasts.length k_Lasts) x.Lasts) ⟨_, fun y hy => hZ y (by simp [hy]), Ac.stab h1 (Ext.refl [] w) (fun _ hy => by cases hy) (fun _ h => h.elim)⟩ sAcF rfl rfl)).fact (t := iOwnF b 43 [.slice A_Lasts x.Lasts.length k_Lasts, .slice A_At x.At.length k_At, .slice A_Fresh x.Fresh.length k_Fresh, .int .i64 x.Left, .bool x.Off]) ⟨hZ _ (by simp), h0⟩ sOwnF rfl rfl)
/-! ### The reference's disk -/
def lastOf : List (Int × Str) → Int → Option Str
  | [], _ => none
  | p :: r, a => match lastOf r a with | some s => some s | none => if p.1 = a then some p.2 else none
structure Rk.Ok (x : Rk) : Prop where
  same : x.At.length = x.Fresh.length
  max : x.Lasts.length ≤ 8192
  inn : ∀ a ∈ x.At, 0 ≤ a ∧ a < x.Lasts.length
  llen : ∀ s ∈ x.Lasts, s.length = 256
  flen : ∀ s ∈ x.Fresh, s.length = 256
  left : InI x.Left
  cnt : x.At.length ≤ 1000000
def Rk.now (x : Rk) (a : Int) : Option Str := lastOf (x.At.zip x.Fresh) a
theorem lastOf_append (l : List (Int × Str)) (p : Int × Str) (a : Int) : lastOf (l ++ [p]) a = if p.1 = a then some p.2 else lastOf l a := by
  induction l with
  | nil => simp [lastOf]
  | cons q r ih =>
    simp only [List.cons_append, lastOf, ih]
    by_cases h : p.1 = a
    · simp [h]
    · simp [h]
theorem lastOf_none {l : List (Int × Str)} {a : Int} (h : ∀ p ∈ l, p.1 ≠ a) : lastOf l a = none := by
  induction l with
  | nil => rfl
  | cons p r ih => simp only [lastOf, ih (fun q hq => h q (by simp [hq])), if_neg (h p (by simp))]
theorem lastOf_at : ∀ {aa : List Int} {fs : List Str} {i : Nat} {a : Int}, aa.length = fs.length → (hi : i < aa.length) → aa[i] = a → (∀ j, i < j → (hj : j < aa.length) → aa[j] ≠ a) → lastOf (aa.zip fs) a = fs[i]?
  | a0 :: aa, f0 :: fs, 0, a, hl, _, ha, hn => by
    have : lastOf (aa.zip fs) a = none := lastOf_none (fun p hp => by
      obtain ⟨j, hj, rfl⟩ := List.getElem_of_mem hp
      have hj' : j < aa.length := by simp at hj; omega
      have := hn (j + 1) (by omega) (by simp; omega)
      simpa using this)
    simp only [List.zip_cons_cons, lastOf, this]
    simp only [List.getElem_cons_zero] at ha
    simp [ha]
  | a0 :: aa, f0 :: fs, i + 1, a, hl, hi, ha, hn => by
    have := lastOf_at (aa := aa) (fs := fs) (i := i) (a := a) (by simpa using hl) (by simpa using hi) (by simpa using ha) (fun j h1 h2 => by
      have := hn (j + 1) (by omega) (by simp; omega)
      simpa using this)
    have hf : fs[i]? = some (fs[i]'(by simp at hl hi; omega)) := List.getElem?_eq_getElem _
    simp only [List.zip_cons_cons, lastOf, this, hf, List.getElem?_cons_succ]
  | [], _, _, _, _, hi, _, _ => by simp at hi
  | _ :: _, [], _, _, hl, _, _, _ => by simp at hl
theorem now_found {x : Rk} (ok : x.Ok) {i a : Int} (h0 : 0 ≤ i) (h1 : i < x.At.length) (ha : ix x.At i = a) (hn : ∀ j : Int, i < j → j < x.At.length → ix x.At j ≠ a) : x.now a = some (ix x.Fresh i) := by
  have hi : i.toNat < x.At.length := by omega
  have hf : i.toNat < x.Fresh.length := by have := ok.same; omega
  have := lastOf_at (i := i.toNat) (a := a) ok.same hi (by rw [← ix_get hi]; exact ha) (fun j hj hj' => by
    have := hn j (by omega) (by omega)
    rwa [ix_get (by simpa using hj')] at this)
  rw [Rk.now, this, ix_get hf, List.getElem?_eq_getElem hf]
theorem now_none {x : Rk} {a : Int} (hn : ∀ j : Int, -1 < j → j < x.At.length → ix x.At j ≠ a) : x.now a = none := by
  refine lastOf_none fun p hp => ?_
  have hm := (List.of_mem_zip (a := p.1) (b := p.2) hp).1
  obtain ⟨j, hj, e⟩ := List.getElem_of_mem hm
  have := hn j (by omega) (by omega)
  rw [ix_get (by simpa using hj)] at this
  rw [← e]; simpa using this
def Rk.act (x : Rk) : Bool × Rk :=
  if x.Left = 0 then (false, { x with Off := true }) else if x.Off = true then (false, x) else if 0 < x.Left then (true, { x with Left := x.Left - 1 }) else (true, x)
def Rk.write (x : Rk) (a : Int) (b : Str) : Int × Rk :=
  if b.length ≠ 256 then (2, x) else if a < 0 ∨ (x.Lasts.length : Int) ≤ a then (3, x) else if x.act.1 = false then (9, x.act.2) else (0, { x.act.2 with At := x.act.2.At ++ [a], Fresh := x.act.2.Fresh ++ [b] })
def Rk.read (x : Rk) (a : Int) : Str × Int :=
  if a < 0 ∨ (x.Lasts.length : Int) ≤ a then ([], 3) else if x.Off = true then ([], 9) else ((x.now a).getD (ix x.Lasts a), 0)
def rstep (l : List Str) (p : Int × Str) : List Str := l.set p.1.toNat p.2
def Rk.flush (x : Rk) : Int × Rk :=
  if x.act.1 = false then (9, x.act.2) else (0, { x.act.2 with Lasts := (x.act.2.At.zip x.act.2.Fresh).foldl rstep x.act.2.Lasts, At := [], Fresh := [] })
def upTo (n : Nat) : List Int := (List.range n).map Int.ofNat
def Rk.dirty (x : Rk) : List Int := (upTo x.Lasts.length).filter fun k => (x.now k).isSome
def Rk.limit (x : Rk) (n : Int) : Rk := { x with Left := if n < 0 then -1 else n }
def clampC (c : Int) : Int := if 256 < (if c < 0 then 0 else c) then 256 else (if c < 0 then 0 else c)
def Rk.torn (x : Rk) (t cut : Int) : List Str :=
  match x.now t with
  | some s => x.Lasts.set t.toNat (s.take (clampC cut).toNat ++ (ix x.Lasts t).drop (clampC cut).toNat)
  | none => x.Lasts
def rkeep (x : Rk) (l : List Str) (k : Int) : List Str :=
  match x.now k with
  | some s => l.set k.toNat s
  | none => l
def Rk.crash (x : Rk) (t cut : Int) (kept : List Int) : Rk := ⟨kept.foldl (rkeep x) (x.torn t cut), [], [], -1, false⟩
def Rk.new (n : Int) : Rk := ⟨List.replicate n.toNat (List.replicate 256 0), [], [], -1, false⟩
theorem ract_Ok {x : Rk} (ok : x.Ok) : x.act.2.Ok := by
  have ⟨a, b, c, d, e, f, g⟩ := ok
  simp only [Rk.act]
  split; exact ⟨a, b, c, d, e, f, g⟩
  split; exact ok
  split
  · exact ⟨a, b, c, d, e, ⟨by have := f.1; simp only; omega, by have := f.2; simp only; omega⟩, g⟩
  · exact ok
theorem ract_same {x : Rk} : x.act.2.At = x.At ∧ x.act.2.Fresh = x.Fresh ∧ x.act.2.Lasts = x.Lasts := by
  simp only [Rk.act]
  split; exact ⟨rfl, rfl, rfl⟩
  split; exact ⟨rfl, rfl, rfl⟩
  split <;> exact ⟨rfl, rfl, rfl⟩
theorem now_len {x : Rk} (ok : x.Ok) {k : Int} {s : Str} (h : x.now k = some s) : s.length = 256 ∧ 0 ≤ k ∧ k < x.Lasts.length := by
  have : ∀ l : List (Int × Str), lastOf l k = some s → (k, s) ∈ l := by
    intro l
    induction l with
    | nil => intro h; cases h
    | cons p r ih =>
      intro h
      simp only [lastOf] at h
      cases hr : lastOf r k with
      | some s' => rw [hr] at h; simp only [Option.some.injEq] at h; subst h; exact List.mem_cons_of_mem _ (ih hr)
      | none =>
        rw [hr] at h
        simp only at h
        split at h
        · simp only [Option.some.injEq] at h; subst h; rename_i e; subst e; simp
        · cases h
  have hm := this _ h
  exact ⟨ok.flen _ (List.of_mem_zip hm).2, ok.inn _ (List.of_mem_zip hm).1⟩
theorem nowS {x : Rk} {k : Int} (h : (x.now k).isSome = true) : ∃ s, x.now k = some s := Option.isSome_iff_exists.1 h
theorem now_in {x : Rk} (ok : x.Ok) {k : Int} (h : (x.now k).isSome = true) : 0 ≤ k ∧ k < x.Lasts.length := by
  obtain ⟨s, hs⟩ := nowS h; exact (now_len ok hs).2
theorem nowD_len {x : Rk} (ok : x.Ok) {k : Int} (h : (x.now k).isSome = true) : ((x.now k).getD []).length = 256 := by
  obtain ⟨s, hs⟩ := nowS h; rw [hs]; exact (now_len ok hs).1
theorem now_F {x : Rk} {k : Int} (h : (x.now k).isSome = false) : x.now k = none := by cases e : x.now k with | none => rfl | some s => rw [e] at h; cases h
theorem rflush_step {aa : List Int} {fs : List Str} {i : Int} {la l0 : List Str} (hs : aa.length = fs.length) (h : la = ((aa.zip fs).take i.toNat).foldl rstep l0) (h0 : 0 ≤ i) (h1 : i < aa.length) :
    List.set la (ix aa i).toNat (ix fs i) = ((aa.zip fs).take (i + 1).toNat).foldl rstep l0 := by
  have hz : (aa.zip fs).length = aa.length := by simp; omega
  have e : (i + 1).toNat = i.toNat + 1 := by omega
  rw [e, List.take_succ_eq_append_getElem (by omega), List.foldl_append, ← h]
  simp only [List.foldl_cons, List.foldl_nil, rstep, List.getElem_zip]
  rw [ix_get (by omega), ix_get (by omega)]
theorem upTo_succ {n : Nat} : upTo (n + 1) = upTo n ++ [(n : Int)] := by simp [upTo, List.range_succ]
theorem dirty_next {x : Rk} {i : Int} {out : List Int} (h : out = (upTo i.toNat).filter fun k => (x.now k).isSome) (h0 : 0 ≤ i) : (if (x.now i).isSome = true then out ++ [i] else out) = (upTo (i + 1).toNat).filter fun k => (x.now k).isSome := by
  have e : (i + 1).toNat = i.toNat + 1 := by omega
  have e2 : ((i.toNat : Nat) : Int) = i := by omega
  rw [e, upTo_succ, List.filter_append, ← h, e2]
  by_cases hi : (x.now i).isSome = true
  · rw [if_pos hi]; simp [hi]
  · rw [if_neg hi]; simp [hi]
theorem rtorn_some {x : Rk} {t cut c : Int} (hc : c = clampC cut) (h : (x.now t).isSome = true) : List.set x.Lasts t.toNat (List.take c.toNat ((x.now t).getD []) ++ List.drop c.toNat (ix x.Lasts t)) = x.torn t cut := by
  obtain ⟨s, hs⟩ := nowS h
  simp only [Rk.torn, hs, Option.getD_some, hc]
theorem rtorn_none {x : Rk} {t cut : Int} (h : (x.now t).isSome = false) : x.Lasts = x.torn t cut := by
  simp only [Rk.torn, now_F h]
theorem rkeep_some {x : Rk} {kept : List Int} {i : Int} {l l0 : List Str} (h : l = (kept.take i.toNat).foldl (rkeep x) l0) (h0 : 0 ≤ i) (h1 : i < kept.length) (hs : (x.now (ix kept i)).isSome = true) :
    List.set l (ix kept i).toNat ((x.now (ix kept i)).getD []) = (kept.take (i + 1).toNat).foldl (rkeep x) l0 := by
  obtain ⟨s, hs⟩ := nowS hs
  rw [take_next h0 h1, List.foldl_append, ← h]
  simp only [List.foldl_cons, List.foldl_nil, rkeep, hs, Option.getD_some]
theorem rkeep_none {x : Rk} {kept : List Int} {i : Int} {l l0 : List Str} (h : l = (kept.take i.toNat).foldl (rkeep x) l0) (h0 : 0 ≤ i) (h1 : i < kept.length) (hs : (x.now (ix kept i)).isSome = false) :
    l = (kept.take (i + 1).toNat).foldl (rkeep x) l0 := by
  rw [take_next h0 h1, List.foldl_append, ← h]
  simp only [List.foldl_cons, List.foldl_nil, rkeep, now_F hs]
theorem ints_next {a b : List Int} {i : Int} (h : ∀ j : Int, 0 ≤ j → j < i → ix a j = ix b j) (e : ix a i = ix b i) : ∀ j : Int, 0 ≤ j → j < i + 1 → ix a j = ix b j := fun j h1 h2 => by
  by_cases hj : j = i
  · subst hj; exact e
  · exact h j h1 (by omega)
theorem ints_all {a b : List Int} {i : Int} (hl : a.length = b.length) (h : ∀ j : Int, 0 ≤ j → j < i → ix a j = ix b j) (hi : a.length ≤ i) : a = b := by
  apply List.ext_getElem hl
  intro j h1 h2
  have := h j (by omega) (by omega)
  rwa [ix_get (by simpa using h1), ix_get (by simpa using h2)] at this
theorem rdirty_end {x : Rk} {i : Int} {out : List Int} (h : out = (upTo i.toNat).filter fun k => (x.now k).isSome) (h0 : 0 ≤ i) (h1 : i ≤ x.Lasts.length) (he : ¬ i < x.Lasts.length ∨ x.At = []) : out = x.dirty := by
  rcases he with he | he
  · have e : i.toNat = x.Lasts.length := by omega
    rw [h, e]; rfl
  · have hn : ∀ k, x.now k = none := fun k => by rw [Rk.now, he]; rfl
    have : ∀ n, (upTo n).filter (fun k => (x.now k).isSome) = [] := fun n => by
      rw [List.filter_eq_nil_iff]; intro k _; simp [hn k]
    rw [h, this, Rk.dirty, this]
theorem rflush_fine {x : Rk} (ok : x.Ok) (h : x.act.1 = true) {i : Int} {la : List Str} (e : la = ((x.act.2.At.zip x.act.2.Fresh).take i.toNat).foldl rstep x.act.2.Lasts) (hi : x.act.2.At.length ≤ i) : x.flush = (0, ⟨la, [], [], x.act.2.Left, x.act.2.Off⟩) := by
  rw [Rk.flush, if_neg (by simp [h]), e, List.take_of_length_le (by simp; omega)]
theorem rwrite_fine {x : Rk} {a : Int} {b : Str} (h1 : b.length = 256) (h2 : 0 ≤ a) (h3 : a < x.Lasts.length) (h : x.act.1 = true) : x.write a b = (0, ⟨x.act.2.Lasts, x.act.2.At ++ [a], x.act.2.Fresh ++ [b], x.act.2.Left, x.act.2.Off⟩) := by
  rw [Rk.write, if_neg (by simp [h1]), if_neg (by omega), if_neg (by simp [h])]
theorem rwrite_power {x : Rk} {a : Int} {b : Str} (h1 : b.length = 256) (h2 : 0 ≤ a) (h3 : a < x.Lasts.length) (h : x.act.1 = false) : x.write a b = (9, x.act.2) := by
  rw [Rk.write, if_neg (by simp [h1]), if_neg (by omega), if_pos h]
theorem rread_fine {x : Rk} {a : Int} {p : Bool} (h2 : 0 ≤ a) (h3 : a < x.Lasts.length) (h : x.Off = false) (hp : (x.now a).isSome = p) : x.read a = (bif p then (x.now a).getD [] else ix x.Lasts a, 0) := by
  rw [Rk.read, if_neg (by omega), if_neg (by simp [h])]
  subst hp
  cases x.now a <;> rfl
theorem rset_len {l : List Str} {i : Nat} {s : Str} (h : ∀ t ∈ l, t.length = 256) (hs : s.length = 256) : ∀ t ∈ l.set i s, t.length = 256 := fun t ht => by
  rcases List.mem_or_eq_of_mem_set ht with h' | h'
  · exact h t h'
  · rw [h']; exact hs
theorem ix_in {α : Type} [Inhabited α] {l : List α} {p : α → Prop} (h : ∀ t ∈ l, p t) {i : Int} (h0 : 0 ≤ i) (h1 : i < l.length) : p (ix l i) := h _ (ix_mem h0 h1)
theorem rdirty_len {x : Rk} (ok : x.Ok) : x.dirty.length ≤ 8192 := by
  have := List.length_filter_le (fun k => (x.now k).isSome) (upTo x.Lasts.length)
  have e : (upTo x.Lasts.length).length = x.Lasts.length := by simp [upTo]
  have := ok.max
  unfold Rk.dirty; omega
theorem filter_len {x : Rk} {n : Nat} : ((upTo n).filter fun k => (x.now k).isSome).length ≤ n := by
  have := List.length_filter_le (fun k => (x.now k).isSome) (upTo n)
  have e : (upTo n).length = n := by simp [upTo]
  omega
theorem clamp_bd (c : Int) : 0 ≤ clampC c ∧ clampC c ≤ 256 := by unfold clampC; (repeat' split) <;> omega
theorem set_len {α : Type} {l : List α} {i : Nat} {a : α} : (l.set i a).length = l.length := List.length_set

end Go.Proofs.Ytdgcgifigkfeaaa
