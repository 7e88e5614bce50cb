/- The walks of a history's functions, printed by program. -/
import Derived.Test.YtpgegnmaophapaaRows
import Derived.Test.YtpgegnmaophapaaWkO
import Derived.Test.YtpgegnmaophapaaWkS
import Derived.Test.YtpgegnmaophapaaShelf
namespace Go.Proofs.Ytpgegnmaophapaa
open Go.Wk Classical
structure Commit where
  ID : Int
  Parents : List Int
def rCommit : Rep Commit where
  sz := 2
  rd := fun M w cs x => ∃ c0 c1, cs = c0 ++ (c1) ∧ rInt.rd M w c0 x.ID ∧ (rSlice rInt).rd M w c1 x.Parents
  len := fun ⟨c0, c1, e, h0, h1⟩ => by rw [e]; simp only [List.length_append, Rep.len _ h0, Rep.len _ h1]; rfl
  mono := fun ⟨c0, c1, e, h0, h1⟩ a b c => ⟨c0, c1, e, Rep.mono _ h0 a b c, Rep.mono _ h1 a b c⟩
  plain := fun ⟨c0, c1, e, h0, h1⟩ => by rw [e]; simp only [List.all_append, Rep.plain _ h0, Rep.plain _ h1]; rfl
theorem opens_rCommit : Opens Try.prog 37 rCommit := fun {H enc fuel w sp cs x} h => by
  obtain ⟨xs, n, _, _, hlen, hxl, hget⟩ := DataW.trod_struct Try.underlying37 h
  have hz : Try.prog.cellsOf 37 = 2 := by kernel_rfl
  rw [hz] at hlen
  have z3 : Try.prog.cellsOf 3 = 1 := by kernel_rfl
  have z26 : Try.prog.cellsOf 26 = 1 := by kernel_rfl
  have g0 : DataW.trod enc Try.prog w 0 sp true n 3 ((cs.drop 0).take (Try.prog.cellsOf 3)) = xs[0]? := hget 0 _ rfl
  rw [List.getElem?_eq_getElem (by rw [hxl]; decide), z3] at g0
  obtain ⟨y0, k0⟩ := (opens_int Try.underlying3) g0
  have g1 : DataW.trod enc Try.prog w 0 sp true n 26 ((cs.drop 1).take (Try.prog.cellsOf 26)) = xs[1]? := hget 1 _ rfl
  rw [List.getElem?_eq_getElem (by rw [hxl]; decide), z26] at g1
  obtain ⟨y1, k1⟩ := (opens_slice Try.underlying26 (by kernel_rfl) (by decide) (opens_int Try.underlying3)) g1
  have q : cs = (cs.drop 0).take (1 + (1)) := wholeL hlen
  exact ⟨⟨y0, y1⟩, _, _, q.trans cutL, k0, k1⟩
theorem rCommit_cells {M : List Nat} {w : World} {b o : Nat} {cs : List Value} {x : Commit} (hc : Cells w b o cs) (h : rCommit.rd M w cs x) : ∃ c0 c1, (Cells w b o c0 ∧ rInt.rd M w c0 x.ID) ∧ (Cells w b (o + 1) c1 ∧ (rSlice rInt).rd M w c1 x.Parents) := by
  obtain ⟨c0, c1, rfl, h0, h1⟩ := h
  have g0 := hc
  have e0 := Rep.len _ h0
  have g1 := g0.right
  rw [e0] at g1
  exact ⟨c0, c1, ⟨g0.left, h0⟩, ⟨g1, h1⟩⟩
theorem rCommit_open {M : List Nat} {w : World} {cs : List Value} {x : Commit} (h : rCommit.rd M w cs x) : ∃ (A1 : Option Addr) (k1 : Nat), cs = [.int .i64 x.ID, .slice A1 x.Parents.length k1] ∧ InI x.ID ∧ (rSlice rInt).rd M w [.slice A1 x.Parents.length k1] x.Parents := by
  obtain ⟨c0, c1, rfl, h0, h1⟩ := h
  obtain ⟨rfl, f0⟩ := h0
  obtain ⟨v1, rfl⟩ := Rep.one _ rfl h1
  obtain ⟨A1, k1, rfl⟩ := rSlice_val h1
  exact ⟨A1, k1, rfl, f0, h1⟩
theorem rCommit_mk {M : List Nat} {w : World} {x : Commit} {A2 : Option Addr} {k2 : Nat} (f0 : InI x.ID) (f1 : (rSlice rInt).rd M w [.slice A2 x.Parents.length k2] x.Parents) : rCommit.rd M w [.int .i64 x.ID, .slice A2 x.Parents.length k2] x :=
  ⟨_, _, rfl, ⟨rfl, f0⟩, f1⟩
/- The plain law of histories. -/
theorem inI_nat {n : Nat} (h : n ≤ 9223372036854775807) : InI (n : Int) := by unfold InI; omega

def Rises (i : Int) (ps : List Int) : Prop := ∀ k (h : k < ps.length), 1 ≤ ps[k] ∧ ps[k] ≤ i ∧ ∀ h' : 0 < k, ps[k - 1] < ps[k]
def Right (l : List Commit) : Prop := ∀ i (h : i < l.length), l[i].ID = i + 1 ∧ Rises i l[i].Parents
def pars (l : List Commit) (a : Int) : List Int := match l[(a - 1).toNat]? with | some c => c.Parents | none => []
def There (l : List Commit) (a : Int) : Prop := 1 ≤ a ∧ a ≤ l.length
inductive Rch (l : List Commit) : Int → Int → Prop
  | refl {a : Int} : There l a → Rch l a a
  | step {a p b : Int} : There l a → p ∈ pars l a → Rch l p b → Rch l a b

theorem pars_at {l : List Commit} {i : Nat} (h : i < l.length) : pars l ((i : Int) + 1) = l[i].Parents := by
  unfold pars
  have : ((i : Int) + 1 - 1).toNat = i := by omega
  rw [this, List.getElem?_eq_getElem h]
theorem pars_get {l : List Commit} {a : Int} (ha : There l a) (h : (a - 1).toNat < l.length) : pars l a = l[(a - 1).toNat].Parents := by
  unfold pars; rw [List.getElem?_eq_getElem h]
theorem rises_mem {i : Int} {ps : List Int} (h : Rises i ps) {p : Int} (hp : p ∈ ps) : 1 ≤ p ∧ p ≤ i := by
  obtain ⟨k, hk, rfl⟩ := List.getElem_of_mem hp
  exact ⟨(h k hk).1, (h k hk).2.1⟩
theorem par_lt {l : List Commit} (hr : Right l) {a p : Int} (ha : There l a) (hp : p ∈ pars l a) : 1 ≤ p ∧ p < a := by
  obtain ⟨h1, h2⟩ := ha
  have hi : (a - 1).toNat < l.length := by omega
  rw [pars_get ⟨h1, h2⟩ hi] at hp
  have := rises_mem (hr _ hi).2 hp
  omega
theorem par_there {l : List Commit} (hr : Right l) {a p : Int} (ha : There l a) (hp : p ∈ pars l a) : There l p := by
  have := par_lt hr ha hp; obtain ⟨h1, h2⟩ := ha; exact ⟨by omega, by omega⟩
theorem Rch.there {l : List Commit} {a b : Int} (h : Rch l a b) : There l a ∧ There l b := by
  induction h with
  | refl h => exact ⟨h, h⟩
  | step h _ _ ih => exact ⟨h, ih.2⟩
theorem Rch.le {l : List Commit} (hr : Right l) {a b : Int} (h : Rch l a b) : b ≤ a := by
  induction h with
  | refl h => omega
  | step h hp _ ih => have := par_lt hr h hp; omega
theorem Rch.trans {l : List Commit} {a b c : Int} (h : Rch l a b) (k : Rch l b c) : Rch l a c := by
  induction h with
  | refl h => exact k
  | step h hp _ ih => exact .step h hp (ih k)
theorem rch_iff {l : List Commit} {a b : Int} : Rch l a b ↔ There l a ∧ (b = a ∨ ∃ p ∈ pars l a, Rch l p b) := by
  constructor
  · intro h
    cases h with
    | refl h => exact ⟨h, .inl rfl⟩
    | step h hp hr => exact ⟨h, .inr ⟨_, hp, hr⟩⟩
  · rintro ⟨h, rfl | ⟨p, hp, hr⟩⟩
    · exact .refl h
    · exact .step h hp hr

theorem right_of {l : List Commit} (h : ∀ i (h : i < l.length), l[i].ID = i + 1 ∧ Rises i l[i].Parents) : Right l := h
/-- Of the first i nodes. -/
def RightTo (l : List Commit) (i : Int) : Prop := ∀ k (h : k < l.length), (k : Int) < i → l[k].ID = k + 1 ∧ Rises k l[k].Parents
theorem rightTo_zero {l : List Commit} : RightTo l 0 := fun k _ h => by omega
theorem rightTo_all {l : List Commit} {i : Int} (h : RightTo l i) (hi : (l.length : Int) ≤ i) : Right l := fun k hk => h k hk (by omega)
def RisesTo (i : Int) (ps : List Int) (j : Int) : Prop := ∀ k (h : k < ps.length), (k : Int) < j → 1 ≤ ps[k] ∧ ps[k] ≤ i ∧ ∀ h' : 0 < k, ps[k - 1] < ps[k]
theorem risesTo_zero {i : Int} {ps : List Int} : RisesTo i ps 0 := fun k _ h => by omega
theorem risesTo_step {i : Int} {ps : List Int} {j : Int} (h : RisesTo i ps j) (h0 : 0 ≤ j) (hj : j.toNat < ps.length) (h1 : 1 ≤ ps[j.toNat]) (h2 : ps[j.toNat] ≤ i) (h3 : ∀ (_ : 0 < j) (h' : (j - 1).toNat < ps.length), ps[(j - 1).toNat] < ps[j.toNat]) : RisesTo i ps (j + 1) := by
  intro k hk hkj
  by_cases e : k = j.toNat
  · subst e
    refine ⟨h1, h2, fun h' => ?_⟩
    have := h3 (by omega) (by omega)
    have e : (j - 1).toNat = j.toNat - 1 := by omega
    simpa only [e] using this
  · exact h k hk (by omega)
theorem rightTo_step {l : List Commit} {i : Int} (h : RightTo l i) (h0 : 0 ≤ i) (hi : i.toNat < l.length) (h1 : l[i.toNat].ID = i + 1) {j : Int} (h2 : RisesTo i l[i.toNat].Parents j) (hj : (l[i.toNat].Parents.length : Int) ≤ j) : RightTo l (i + 1) := by
  intro k hk hki
  by_cases e : k = i.toNat
  · subst e
    refine ⟨by omega, fun q hq => ?_⟩
    have := h2 q hq (by omega)
    have e : ((i.toNat : Nat) : Int) = i := by omega
    rw [e]; exact this
  · exact h k hk (by omega)
theorem not_right_id {l : List Commit} {i : Int} (h0 : 0 ≤ i) (hi : i.toNat < l.length) (h : ¬ l[i.toNat].ID = i + 1) : ¬ Right l := fun hr => h (by have := (hr _ hi).1; omega)
theorem not_right_par {l : List Commit} {i : Int} (h0 : 0 ≤ i) (hi : i.toNat < l.length) {j : Int} (hj0 : 0 ≤ j) (hj : j.toNat < l[i.toNat].Parents.length) (h : l[i.toNat].Parents[j.toNat] < 1 ∨ i < l[i.toNat].Parents[j.toNat]) : ¬ Right l := fun hr => by
  have := (hr _ hi).2 _ hj
  omega
theorem not_right_rise {l : List Commit} {i : Int} (h0 : 0 ≤ i) (hi : i.toNat < l.length) {j : Int} (hj0 : 0 < j) (hj : j.toNat < l[i.toNat].Parents.length) (hj' : (j - 1).toNat < l[i.toNat].Parents.length) (h : l[i.toNat].Parents[j.toNat] ≤ l[i.toNat].Parents[(j - 1).toNat]) : ¬ Right l := fun hr => by
  have := ((hr _ hi).2 _ hj).2.2 (by omega)
  have e : (j - 1).toNat = j.toNat - 1 := by omega
  simp only [e] at h
  omega
def Few (l : List Commit) : Prop := l.length ≤ 60 ∧ ∀ i (h : i < l.length), l[i].Parents.length ≤ 60
def FewTo (l : List Commit) (j : Int) : Prop := ∀ i (h : i < l.length), (i : Int) < j → l[i].Parents.length ≤ 60
theorem fewTo_zero {l : List Commit} : FewTo l 0 := fun i _ h => by omega
theorem fewTo_step {l : List Commit} {j : Int} (h : FewTo l j) (h0 : 0 ≤ j) (hj : j.toNat < l.length) (hp : l[j.toNat].Parents.length ≤ 60) : FewTo l (j + 1) := by
  intro i hi hij
  by_cases e : i = j.toNat
  · subst e; exact hp
  · exact h i hi (by omega)
theorem fewTo_all {l : List Commit} {j : Int} (hl : l.length ≤ 60) (h : FewTo l j) (hj : (l.length : Int) ≤ j) : Few l := ⟨hl, fun i hi => h i hi (by omega)⟩
/-! ### The table -/
theorem mul60 {a b : Int} (h1 : 0 ≤ a) (h2 : a ≤ 60) (h3 : 0 ≤ b) (h4 : b ≤ 60) : -9223372036854775808 ≤ a * b ∧ a * b ≤ 9223372036854775807 := by
  have := Int.mul_nonneg h1 h3
  have : a * b ≤ 60 * 60 := Int.mul_le_mul h2 h4 h3 (by omega)
  omega
theorem mul60z {n : Nat} (h : n ≤ 60) : 0 ≤ (n : Int) * n ∧ (1 : Nat) * ((n : Int) * n) ≤ 140737488355328 ∧ (n : Int) * n ≤ 9223372036854775807 := by
  have := mul60 (a := n) (b := n) (by omega) (by omega) (by omega) (by omega)
  have h1 : 0 ≤ (n : Int) * n := Int.mul_nonneg (by omega) (by omega)
  have : (n : Int) * n ≤ 60 * 60 := Int.mul_le_mul (by omega) (by omega) (by omega) (by omega)
  omega
def TabI (l : List Commit) (T : List Bool) (S : Int → Int → Prop) : Prop :=
  T.length = l.length * l.length ∧ ∀ r c : Int, 0 ≤ r → r < l.length → 0 ≤ c → c < l.length → T[(r * l.length + c).toNat]? = some (decide (S r c))
theorem tab0 {r c : Int} {n : Nat} (h1 : 0 ≤ r) (h2 : 0 ≤ c) : 0 ≤ r * n + c := by
  have := Int.mul_nonneg h1 (show 0 ≤ (n : Int) by omega); omega
theorem tabr {r c : Int} {n : Nat} (h1 : 0 ≤ r) (h2 : r < n) (h3 : 0 ≤ c) (h4 : c < n) : 0 ≤ r * n + c ∧ r * n + c < (n : Int) * n := by
  have a : 0 ≤ r * n := Int.mul_nonneg h1 (by omega)
  have b : (r + 1) * n ≤ n * n := Int.mul_le_mul_of_nonneg_right (by omega) (by omega)
  rw [Int.add_mul] at b
  omega
theorem tab1 {r c : Int} {n : Nat} (h1 : 0 ≤ r) (h2 : r < n) (h3 : 0 ≤ c) (h4 : c < n) : r * n + c < (((n : Int) * n).toNat : Int) := by
  have := tabr h1 h2 h3 h4; omega
theorem tab2 {r c : Int} {n : Nat} (h1 : 0 ≤ r) (h2 : r < n) (h3 : 0 ≤ c) (h4 : c < n) (h5 : n ≤ 60) : -9223372036854775808 ≤ r * n + c ∧ r * n + c ≤ 9223372036854775807 := by
  have := tabr h1 h2 h3 h4
  have := mul60z h5
  omega
theorem tab3 {l : List Commit} {T : List Bool} {S : Int → Int → Prop} {r c : Int} (hT : TabI l T S) (h1 : 0 ≤ r) (h2 : r < l.length) (h3 : 0 ≤ c) (h4 : c < l.length) : (r * l.length + c).toNat < T.length := by
  have := tabr h1 h2 h3 h4
  rw [hT.1]
  have e : ((l.length * l.length : Nat) : Int) = (l.length : Int) * l.length := by push_cast; rfl
  omega
theorem tab_get {l : List Commit} {T : List Bool} {S : Int → Int → Prop} {r c : Int} (hT : TabI l T S) (h1 : 0 ≤ r) (h2 : r < l.length) (h3 : 0 ≤ c) (h4 : c < l.length) (h : (r * l.length + c).toNat < T.length) : T[(r * l.length + c).toNat] = decide (S r c) := by
  have := hT.2 r c h1 h2 h3 h4
  rw [List.getElem?_eq_getElem h] at this
  exact Option.some.inj this
theorem tab_inj {n : Nat} {r c r' c' : Int} (h1 : 0 ≤ r) (h2 : r < n) (h3 : 0 ≤ c) (h4 : c < n) (h1' : 0 ≤ r') (h2' : r' < n) (h3' : 0 ≤ c') (h4' : c' < n) (e : (r * n + c).toNat = (r' * n + c').toNat) : r = r' ∧ c = c' := by
  have a := tabr h1 h2 h3 h4
  have a' := tabr h1' h2' h3' h4'
  have e' : r * n + c = r' * n + c' := by omega
  have : r = r' := by
    rcases Int.lt_trichotomy r r' with h | h | h
    · have b : (r + 1) * n ≤ r' * n := Int.mul_le_mul_of_nonneg_right (by omega) (by omega)
      rw [Int.add_mul] at b; omega
    · exact h
    · have b : (r' + 1) * n ≤ r * n := Int.mul_le_mul_of_nonneg_right (by omega) (by omega)
      rw [Int.add_mul] at b; omega
  subst this
  exact ⟨rfl, by omega⟩
theorem tab_set {l : List Commit} {T : List Bool} {S S' : Int → Int → Prop} {r c : Int} {v : Bool} (hT : TabI l T S) (h1 : 0 ≤ r) (h2 : r < l.length) (h3 : 0 ≤ c) (h4 : c < l.length) (hv : v = true ↔ S' r c)
    (hs : ∀ r' c' : Int, 0 ≤ r' → r' < l.length → 0 ≤ c' → c' < l.length → ¬ (r' = r ∧ c' = c) → (S' r' c' ↔ S r' c')) : TabI l (T.set (r * l.length + c).toNat v) S' := by
  refine ⟨by simpa using hT.1, fun r' c' a1 a2 a3 a4 => ?_⟩
  by_cases e : r' = r ∧ c' = c
  · obtain ⟨rfl, rfl⟩ := e
    rw [List.getElem?_set_self (tab3 hT h1 h2 h3 h4)]
    congr 1
    cases v with
    | true => exact (decide_eq_true (hv.1 rfl)).symm
    | false => exact (decide_eq_false (fun h => by have := hv.2 h; cases this)).symm
  · rw [List.getElem?_set_ne (fun h => e (by have := tab_inj h1 h2 h3 h4 a1 a2 a3 a4 h; exact ⟨this.1.symm, this.2.symm⟩)), hT.2 r' c' a1 a2 a3 a4]
    congr 1
    by_cases h : S r' c'
    · rw [decide_eq_true h, decide_eq_true ((hs r' c' a1 a2 a3 a4 e).2 h)]
    · rw [decide_eq_false h, decide_eq_false (fun h' => h ((hs r' c' a1 a2 a3 a4 e).1 h'))]
theorem tab_congr {l : List Commit} {T : List Bool} {S S' : Int → Int → Prop} (hT : TabI l T S) (hs : ∀ r c : Int, 0 ≤ r → r < l.length → 0 ≤ c → c < l.length → (S' r c ↔ S r c)) : TabI l T S' := by
  refine ⟨hT.1, fun r' c' a1 a2 a3 a4 => ?_⟩
  rw [hT.2 r' c' a1 a2 a3 a4]
  congr 1
  by_cases h : S r' c'
  · rw [decide_eq_true h, decide_eq_true ((hs r' c' a1 a2 a3 a4).2 h)]
  · rw [decide_eq_false h, decide_eq_false (fun h' => h ((hs r' c' a1 a2 a3 a4).1 h'))]
def S0 (l : List Commit) (i : Int) (r c : Int) : Prop := r < i ∧ Rch l (r + 1) (c + 1)
def S1 (l : List Commit) (i k : Int) (r c : Int) : Prop := (r < i ∧ Rch l (r + 1) (c + 1)) ∨ (r = i ∧ (c = i ∨ ∃ q : Nat, (q : Int) < k ∧ ∃ p, (pars l (i + 1))[q]? = some p ∧ Rch l p (c + 1)))
def S2 (l : List Commit) (i k j : Int) (r c : Int) : Prop := S1 l i k r c ∨ (r = i ∧ c < j ∧ ∃ p, (pars l (i + 1))[k.toNat]? = some p ∧ Rch l p (c + 1))
theorem tab_init {l : List Commit} (hl : l.length ≤ 60) : TabI l (List.replicate ((l.length : Int) * l.length).toNat false) (S0 l 0) := by
  refine ⟨?_, fun r c h1 h2 h3 h4 => ?_⟩
  · have e : ((l.length * l.length : Nat) : Int) = (l.length : Int) * l.length := by push_cast; rfl
    simp only [List.length_replicate]; omega
  · have := tabr h1 h2 h3 h4
    rw [List.getElem?_replicate, if_pos (by omega)]
    congr 1
    exact (decide_eq_false (fun h => by have := h.1; omega)).symm
theorem par_bd {l : List Commit} (hr : Right l) {i k : Int} (h0 : 0 ≤ i) (hi : i.toNat < l.length) (hk : k.toNat < l[i.toNat].Parents.length) : 1 ≤ l[i.toNat].Parents[k.toNat] ∧ l[i.toNat].Parents[k.toNat] ≤ i := by
  have := (hr _ hi).2 _ hk; omega
theorem pars_int {l : List Commit} {i : Int} (h0 : 0 ≤ i) (hi : i.toNat < l.length) : pars l (i + 1) = l[i.toNat].Parents := by
  unfold pars
  have : (i + 1 - 1).toNat = i.toNat := by omega
  rw [this, List.getElem?_eq_getElem hi]
theorem tab_diag {l : List Commit} {T : List Bool} {i : Int} (hT : TabI l T (S0 l i)) (h0 : 0 ≤ i) (h1 : i < l.length) : TabI l (T.set (i * l.length + i).toNat true) (S1 l i 0) := by
  refine tab_set hT h0 h1 h0 h1 ⟨fun _ => .inr ⟨rfl, .inl rfl⟩, fun _ => rfl⟩ fun r c a1 a2 a3 a4 hne => ?_
  unfold S1 S0
  constructor
  · rintro (h | ⟨rfl, h | ⟨q, hq, _⟩⟩)
    · exact h
    · exact absurd ⟨rfl, h⟩ hne
    · omega
  · exact .inl
theorem tab_in {l : List Commit} {T : List Bool} {i k : Int} (hT : TabI l T (S1 l i k)) : TabI l T (S2 l i k 0) :=
  tab_congr hT fun r c a1 a2 a3 a4 => ⟨fun h => by rcases h with h | ⟨_, h, _⟩; exact h; omega, .inl⟩
theorem tab_par {l : List Commit} {T : List Bool} {i k j : Int} (hk : 0 ≤ k) (hT : TabI l T (S2 l i k j)) (hj : (l.length : Int) ≤ j) : TabI l T (S1 l i (k + 1)) :=
  tab_congr hT fun r c a1 a2 a3 a4 => by
    unfold S2 S1
    constructor
    · rintro (h | ⟨rfl, h | ⟨q, hq, p, hp, h⟩⟩)
      · exact .inl (.inl h)
      · exact .inl (.inr ⟨rfl, .inl h⟩)
      · by_cases e : (q : Int) < k
        · exact .inl (.inr ⟨rfl, .inr ⟨q, e, p, hp, h⟩⟩)
        · have : q = k.toNat := by omega
          subst this
          exact .inr ⟨rfl, by omega, p, hp, h⟩
    · rintro ((h | ⟨rfl, h | ⟨q, hq, p, hp, h⟩⟩) | ⟨rfl, hc, p, hp, h⟩)
      · exact .inl h
      · exact .inr ⟨rfl, .inl h⟩
      · exact .inr ⟨rfl, .inr ⟨q, by omega, p, hp, h⟩⟩
      · exact .inr ⟨rfl, .inr ⟨k.toNat, by omega, p, hp, h⟩⟩
theorem tab_row {l : List Commit} {T : List Bool} (hr : Right l) {i k : Int} (h0 : 0 ≤ i) (h1 : i < l.length) (hT : TabI l T (S1 l i k)) (hi : i.toNat < l.length) (hk : (l[i.toNat].Parents.length : Int) ≤ k) : TabI l T (S0 l (i + 1)) :=
  tab_congr hT fun r c a1 a2 a3 a4 => by
    unfold S0 S1
    constructor
    · rintro ⟨h, hR⟩
      by_cases e : r < i
      · exact .inl ⟨e, hR⟩
      · have : r = i := by omega
        subst this
        refine .inr ⟨rfl, ?_⟩
        rcases (rch_iff.1 hR).2 with h | ⟨p, hp, h⟩
        · exact .inl (by omega)
        · obtain ⟨q, hq, e⟩ := List.getElem_of_mem hp
          refine .inr ⟨q, ?_, p, by rw [List.getElem?_eq_getElem hq, e], h⟩
          rw [pars_int h0 hi] at hq; omega
    · rintro (⟨h, hR⟩ | ⟨rfl, h | ⟨q, hq, p, hp, h⟩⟩)
      · exact ⟨by omega, hR⟩
      · subst h; exact ⟨by omega, .refl ⟨by omega, by omega⟩⟩
      · exact ⟨by omega, .step ⟨by omega, by omega⟩ (List.mem_of_getElem? hp) h⟩
theorem tab_set_t {l : List Commit} {T : List Bool} {i k j : Int} (hT : TabI l T (S2 l i k j)) (h0 : 0 ≤ i) (h1 : i < l.length) (hj0 : 0 ≤ j) (hj : j < l.length) {h : (i * l.length + j).toNat < T.length} (ht : T[(i * l.length + j).toNat] = true) : TabI l (T.set (i * l.length + j).toNat true) (S2 l i k (j + 1)) := by
  rw [tab_get hT h0 h1 hj0 hj h, decide_eq_true_eq] at ht
  refine tab_set hT h0 h1 hj0 hj ⟨fun _ => ?_, fun _ => rfl⟩ fun r c a1 a2 a3 a4 hne => ?_
  · rcases ht with h | ⟨a, b, c⟩
    · exact .inl h
    · omega
  · unfold S2
    constructor
    · rintro (h | ⟨rfl, hc, h⟩)
      · exact .inl h
      · exact .inr ⟨rfl, by have : ¬ c = j := fun e => hne ⟨rfl, e⟩; omega, h⟩
    · rintro (h | ⟨rfl, hc, h⟩)
      · exact .inl h
      · exact .inr ⟨rfl, by omega, h⟩
theorem tab_set_f {l : List Commit} (hr : Right l) {T : List Bool} {i k j : Int} (hT : TabI l T (S2 l i k j)) (h0 : 0 ≤ i) (h1 : i < l.length) {hi : i.toNat < l.length} (hk0 : 0 ≤ k) (hk : k.toNat < l[i.toNat].Parents.length) (hj0 : 0 ≤ j) (hj : j < l.length)
    {h : (i * l.length + j).toNat < T.length} (ht : T[(i * l.length + j).toNat] = false) {h' : ((l[i.toNat].Parents[k.toNat] - 1) * l.length + j).toNat < T.length} : TabI l (T.set (i * l.length + j).toNat T[((l[i.toNat].Parents[k.toNat] - 1) * l.length + j).toNat]) (S2 l i k (j + 1)) := by
  have hp := par_bd hr h0 hi hk
  rw [tab_get hT h0 h1 hj0 hj h, decide_eq_false_iff_not] at ht
  rw [tab_get hT (by omega) (by omega) hj0 hj h']
  have hpk : (pars l (i + 1))[k.toNat]? = some l[i.toNat].Parents[k.toNat] := by rw [pars_int h0 hi, List.getElem?_eq_getElem hk]
  refine tab_set hT h0 h1 hj0 hj ?_ fun r c a1 a2 a3 a4 hne => ?_
  · rw [decide_eq_true_eq]
    constructor
    · rintro ((⟨_, h⟩ | ⟨h, _⟩) | ⟨h, _⟩)
      · exact .inr ⟨rfl, by omega, _, hpk, by rw [show l[i.toNat].Parents[k.toNat] - 1 + 1 = l[i.toNat].Parents[k.toNat] by omega] at h; exact h⟩
      · omega
      · omega
    · rintro (h | ⟨_, _, p, hp', h⟩)
      · exact absurd (.inl h) ht
      · rw [hpk] at hp'; cases hp'
        exact .inl (.inl ⟨by omega, by rw [show l[i.toNat].Parents[k.toNat] - 1 + 1 = l[i.toNat].Parents[k.toNat] by omega]; exact h⟩)
  · unfold S2
    constructor
    · rintro (h | ⟨rfl, hc, h⟩)
      · exact .inl h
      · exact .inr ⟨rfl, by have : ¬ c = j := fun e => hne ⟨rfl, e⟩; omega, h⟩
    · rintro (h | ⟨rfl, hc, h⟩)
      · exact .inl h
      · exact .inr ⟨rfl, by omega, h⟩
theorem table_ret {l : List Commit} {T : List Bool} {i : Int} {M : List Nat} {w0 w : World} {b : Nat} {E : TypeId} (ho : Own w b E (T.map Value.bool)) (hb : b ∉ M) (hT : TabI l T (S0 l i)) (hi : (l.length : Int) ≤ i) (hl : l.length ≤ 60) (e : Ext [] w0 w) :
    ∃ L A cap, Value.slice (some ⟨b, 0, none⟩) ((l.length : Int) * l.length).toNat ((l.length : Int) * l.length).toNat = .slice A L.length cap ∧ (rSlice rBool).rd M w [.slice A L.length cap] L ∧ TabI l L (fun r c => Rch l (r + 1) (c + 1)) ∧ Ext [] w0 w := by
  have e1 : ((l.length * l.length : Nat) : Int) = (l.length : Int) * l.length := by push_cast; rfl
  have e2 : ((l.length : Int) * l.length).toNat = T.length := by rw [hT.1]; omega
  have := mul60z hl
  rw [e2]
  exact ⟨T, _, _, rfl, rd_bools ho hb (by rw [hT.1]; omega), tab_congr hT fun r c a1 a2 a3 a4 => ⟨fun h => ⟨by omega, h⟩, fun h => h.2⟩, e⟩
/-! ### Sets in maps -/
def setL (S : List Int) : List (Int × Value) := S.map fun k => (k, Value.bool true)
def insS (S : List Int) (k : Int) : List Int := if k ∈ S then S else S ++ [k]
theorem get_setL (S : List Int) (k : Int) : (getL (setL S) k).getD (Value.bool false) = .bool (decide (k ∈ S)) := by
  induction S with
  | nil => rfl
  | cons x r ih =>
    simp only [setL, List.map_cons, getL]
    by_cases h : k = x
    · subst h; simp
    · rw [if_neg h]
      have : decide (k ∈ x :: r) = decide (k ∈ r) := by simp [h]
      rw [this]; exact ih
theorem put_setL (S : List Int) (k : Int) : putL (setL S) k (.bool true) = setL (insS S k) := by
  by_cases h : k ∈ S
  · rw [insS, if_pos h]
    induction S with
    | nil => cases h
    | cons x r ih =>
      simp only [setL, List.map_cons, putL]
      by_cases e : k = x
      · subst e; simp
      · rw [if_neg e]
        have := ih (by simpa [e] using h)
        simp only [setL] at this
        rw [this]
  · rw [insS, if_neg h, putL_new (by simpa [setL] using h)]; simp [setL]
theorem mem_insS {S : List Int} {k x : Int} : x ∈ insS S k ↔ x ∈ S ∨ x = k := by
  unfold insS
  split
  · rename_i h
    constructor
    · exact .inl
    · rintro (h' | rfl)
      · exact h'
      · exact h
  · simp
theorem put_set {w : World} {b : Nat} {S : List Int} {k : Int} (h : MapAt kInt w b (putL (setL S) k (.bool true))) : MapAt kInt w b (setL (insS S k)) := by rwa [put_setL] at h
def delS (S : List Int) (k : Int) : List Int := S.filter fun x => ¬ k = x
theorem del_setL (S : List Int) (k : Int) : delL (setL S) k = setL (delS S k) := by
  unfold delL setL delS
  rw [List.filter_map]; rfl
theorem del_set {w : World} {b : Nat} {S : List Int} {k : Int} (h : MapAt kInt w b (delL (setL S) k)) : MapAt kInt w b (setL (delS S k)) := by rwa [del_setL] at h
theorem mem_delS {S : List Int} {k x : Int} : x ∈ delS S k ↔ x ∈ S ∧ x ≠ k := by
  unfold delS; rw [List.mem_filter]; simp; intro _; exact ⟨fun h e => h e.symm, fun h e => h e.symm⟩
theorem set_nodup {w : World} {b : Nat} {S : List Int} (h : MapAt kInt w b (setL S)) : S.Nodup := by
  have := h.nodup
  have e : (setL S).map (·.1) = S := by unfold setL; rw [List.map_map]; simp [Function.comp_def]
  rwa [e] at this
theorem ne_own_map {κ : Type} {ky : Key κ} {w : World} {b b' : Nat} {T : TypeId} {cs : List Value} {L : List (κ × Value)} (h : Own w b T cs) (h' : MapAt ky w b' L) : b ≠ b' := by
  rintro rfl
  obtain ⟨es, clk, hh, _⟩ := h'
  unfold Own at h
  rw [h] at hh; cases hh
theorem nodup_len : ∀ {n : Nat} {S : List Int}, S.Nodup → (∀ x ∈ S, 1 ≤ x ∧ x ≤ n) → S.length ≤ n := by
  intro n
  induction n with
  | zero =>
    intro S _ hb
    cases S with
    | nil => simp
    | cons x r => have := hb x (by simp); omega
  | succ n ih =>
    intro S h hb
    by_cases hm : ((n : Int) + 1) ∈ S
    · have h1 : (S.erase ((n : Int) + 1)).Nodup := h.erase _
      have := ih h1 (fun x hx => by
        rw [h.mem_erase_iff] at hx
        have := hb x hx.2
        have := hx.1
        omega)
      rw [List.length_erase_of_mem hm] at this
      omega
    · have := ih h (fun x hx => by
        have := hb x hx
        have : x ≠ (n : Int) + 1 := fun e => hm (e ▸ hx)
        omega)
      omega
/-! ### The walk -/
def Closed (l : List Commit) (S : List Int) (a : Int) : Prop := ∀ y ∈ S, y ≤ a → ∀ x, Rch l y x → x ∈ S
def Some1x := 0
def Some1 (l : List Commit) (ps : List Int) (j : Int) (x : Int) : Prop := ∃ q : Nat, (q : Int) < j ∧ ∃ p, ps[q]? = some p ∧ Rch l p x
theorem some1_zero {l : List Commit} {ps : List Int} {x : Int} : ¬ Some1 l ps 0 x := fun ⟨q, h, _⟩ => by omega
theorem some1_succ {l : List Commit} {ps : List Int} {j x : Int} (h0 : 0 ≤ j) (hj : j.toNat < ps.length) : Some1 l ps (j + 1) x ↔ Some1 l ps j x ∨ Rch l ps[j.toNat] x := by
  constructor
  · rintro ⟨q, hq, p, hp, h⟩
    by_cases e : (q : Int) < j
    · exact .inl ⟨q, e, p, hp, h⟩
    · have : q = j.toNat := by omega
      subst this
      rw [List.getElem?_eq_getElem hj] at hp; cases hp; exact .inr h
  · rintro (⟨q, hq, p, hp, h⟩ | h)
    · exact ⟨q, by omega, p, hp, h⟩
    · exact ⟨j.toNat, by omega, _, List.getElem?_eq_getElem hj, h⟩
theorem some1_all {l : List Commit} {ps : List Int} {j x : Int} (hj : (ps.length : Int) ≤ j) : Some1 l ps j x ↔ ∃ p ∈ ps, Rch l p x := by
  constructor
  · rintro ⟨q, _, p, hp, h⟩; exact ⟨p, List.mem_of_getElem? hp, h⟩
  · rintro ⟨p, hp, h⟩
    obtain ⟨q, hq, e⟩ := List.getElem_of_mem hp
    exact ⟨q, by omega, p, by rw [List.getElem?_eq_getElem hq, e], h⟩
theorem walk_pre {l : List Commit} (hr : Right l) {S S1 : List Int} {id j p : Int} (hc : Closed l S id) (hS : ∀ x, x ∈ S1 ↔ x ∈ S ∨ x = id ∨ Some1 l (pars l id) j x) (hp : p < id) : Closed l S1 p := by
  intro y hy hyp x hx
  rw [hS] at hy ⊢
  rcases hy with h | h | ⟨q, hq, p', hp', h⟩
  · exact .inl (hc y h (by omega) x hx)
  · omega
  · exact .inr (.inr ⟨q, hq, p', hp', h.trans hx⟩)
theorem walk_end {l : List Commit} {S S1 : List Int} {id j : Int} (ht : There l id) (hS : ∀ x, x ∈ S1 ↔ x ∈ S ∨ x = id ∨ Some1 l (pars l id) j x) (hj : ((pars l id).length : Int) ≤ j) : ∀ x, x ∈ S1 ↔ x ∈ S ∨ Rch l id x := by
  intro x
  rw [hS, some1_all hj, @rch_iff l id x]
  constructor
  · rintro (h | h | h)
    · exact .inl h
    · exact .inr ⟨ht, .inl h⟩
    · exact .inr ⟨ht, .inr h⟩
  · rintro (h | ⟨_, h | h⟩)
    · exact .inl h
    · exact .inr (.inl h)
    · exact .inr (.inr h)
theorem walk_old {l : List Commit} {S : List Int} {id : Int} (hc : Closed l S id) (h : ¬ There l id ∨ id ∈ S) : ∀ x, x ∈ S ↔ x ∈ S ∨ Rch l id x := fun x =>
  ⟨.inl, fun h' => by
    rcases h' with h' | h'
    · exact h'
    · rcases h with h | h
      · exact absurd h'.there.1 h
      · exact hc id h (Int.le_refl _) x h'⟩
theorem walk_next {l : List Commit} {S S1 S2 : List Int} {id j p : Int} (hS : ∀ x, x ∈ S1 ↔ x ∈ S ∨ x = id ∨ Some1 l (pars l id) j x) (h0 : 0 ≤ j) (hj : j.toNat < (pars l id).length) (hp : p = (pars l id)[j.toNat]) (h2 : ∀ x, x ∈ S2 ↔ x ∈ S1 ∨ Rch l p x) : ∀ x, x ∈ S2 ↔ x ∈ S ∨ x = id ∨ Some1 l (pars l id) (j + 1) x := by
  intro x
  rw [h2, hS, some1_succ h0 hj, hp]
  constructor
  · rintro ((h | h | h) | h)
    · exact .inl h
    · exact .inr (.inl h)
    · exact .inr (.inr (.inl h))
    · exact .inr (.inr (.inr h))
  · rintro (h | h | h | h)
    · exact .inl (.inl h)
    · exact .inl (.inr (.inl h))
    · exact .inl (.inr (.inr h))
    · exact .inr h
theorem pars_mem {l : List Commit} {a : Int} (ha : There l a) {k : Nat} (h1 : (a - 1).toNat < l.length) (h : k < l[(a - 1).toNat].Parents.length) : l[(a - 1).toNat].Parents[k] ∈ pars l a := by
  rw [pars_get ha h1]; exact List.getElem_mem _
theorem pars_eq {l : List Commit} {a : Int} (ha : There l a) {k : Nat} (h1 : (a - 1).toNat < l.length) (h : k < l[(a - 1).toNat].Parents.length) {h' : k < (pars l a).length} : l[(a - 1).toNat].Parents[k] = (pars l a)[k] := by
  simp only [pars_get ha h1]
theorem reached_pre {l : List Commit} {S1 ids : List Int} {j a : Int} (hS : ∀ x, x ∈ S1 ↔ Some1 l ids j x) : Closed l S1 a := by
  intro y hy _ x hx
  rw [hS] at hy ⊢
  obtain ⟨q, hq, p, hp, h⟩ := hy
  exact ⟨q, hq, p, hp, h.trans hx⟩
theorem reached_next {l : List Commit} {S1 S2 ids : List Int} {j : Int} (hS : ∀ x, x ∈ S1 ↔ Some1 l ids j x) (h0 : 0 ≤ j) (hj : j.toNat < ids.length) (h2 : ∀ x, x ∈ S2 ↔ x ∈ S1 ∨ Rch l ids[j.toNat] x) : ∀ x, x ∈ S2 ↔ Some1 l ids (j + 1) x := fun x => by
  rw [h2, hS, some1_succ h0 hj]

/-! ### A set's members in rising order -/
theorem nodup_sub {α : Type} [DecidableEq α] : ∀ {a b : List α}, a.Nodup → (∀ x ∈ a, x ∈ b) → a.length ≤ b.length := by
  intro a
  induction a with
  | nil => intro b _ _; simp
  | cons x r ih =>
    intro b hn hs
    have hx := hs x (by simp)
    have h1 := ih (b := b.erase x) (List.nodup_cons.1 hn).2 (fun y hy => (List.mem_erase_of_ne (fun e => (List.nodup_cons.1 hn).1 (by rw [← e]; exact hy))).2 (hs y (by simp [hy])))
    have h2 := List.length_erase_of_mem hx
    have h3 := List.length_pos_of_mem hx
    simp; omega
def Told (S : List Int) (D : List (Int × Value)) : Prop := (∀ p ∈ D, p ∈ setL S) ∧ (D.map (·.1)).Nodup
theorem told_nil {S : List Int} : Told S [] := ⟨by simp, by simp⟩
theorem told_step {S : List Int} {D : List (Int × Value)} {k : Int} {v : Value} (h : Told S D) (hL : (k, v) ∈ setL S) (hk : k ∉ D.map (·.1)) : Told S (D ++ [(k, v)]) := by
  refine ⟨fun p hp => ?_, ?_⟩
  · rcases List.mem_append.1 hp with h1 | h1
    · exact h.1 p h1
    · simp at h1; rw [h1]; exact hL
  · rw [List.map_append, List.nodup_append]
    refine ⟨h.2, by simp, fun a ha b hb => ?_⟩
    simp only [List.map_cons, List.map_nil, List.mem_singleton] at hb
    subst hb; intro e; subst e; exact hk ha
theorem told_mem {S : List Int} {D : List (Int × Value)} (h : Told S D) {x : Int} (hx : x ∈ D.map (·.1)) : x ∈ S := by
  obtain ⟨p, hp, rfl⟩ := List.mem_map.1 hx
  have := h.1 p hp
  simp only [setL, List.mem_map] at this
  obtain ⟨k, hk, rfl⟩ := this; exact hk
theorem told_le {S : List Int} {D : List (Int × Value)} (h : Told S D) : D.length ≤ S.length := by
  have := nodup_sub h.2 (fun x hx => told_mem h hx)
  simpa using this
theorem told_lt {S : List Int} {D : List (Int × Value)} {k : Int} {v : Value} (h : Told S D) (hL : (k, v) ∈ setL S) (hk : k ∉ D.map (·.1)) : D.length < S.length := by
  have := told_le (told_step h hL hk)
  simp at this; omega
theorem told_in {S : List Int} {k : Int} {v : Value} (hS : ∀ x ∈ S, InI x) (hL : (k, v) ∈ setL S) : InI k := by
  simp only [setL, List.mem_map, Prod.mk.injEq] at hL
  obtain ⟨x, hx, rfl, _⟩ := hL; exact hS x hx
/-- The list of the members, rising. -/
def RiseOf (L : List Int) (p : Int → Prop) : Prop := L.Pairwise (· < ·) ∧ ∀ x, x ∈ L ↔ p x
theorem told_all {S l : List Int} {D : List (Int × Value)} (h : Told S D) (e : l = D.map (·.1)) (ho : ∀ p ∈ setL S, p ∈ D) : RiseOf (srt l) (· ∈ S) := by
  subst e
  refine ⟨srt_lt h.2, fun x => ?_⟩
  rw [srt_mem]
  refine ⟨told_mem h, fun hx => ?_⟩
  exact List.mem_map.2 ⟨(x, .bool true), ho _ (List.mem_map.2 ⟨x, hx, rfl⟩), rfl⟩

/-! ### The table, read at nodes -/
theorem mulq {a n : Int} (h1 : 0 ≤ a) (h2 : a ≤ 60) (h3 : 0 ≤ n) (h4 : n ≤ 60) : 0 ≤ a * n ∧ a * n ≤ 3600 := by
  refine ⟨Int.mul_nonneg h1 h3, ?_⟩
  have := Int.mul_le_mul h2 h4 h3 (by omega)
  omega
theorem tabq {l : List Commit} {T : List Bool} (hT : TabI l T (fun r c => Rch l (r + 1) (c + 1))) {a b : Int} (ha : There l a) (hb : There l b) :
    0 ≤ (a - 1) * l.length + b - 1 ∧ (a - 1) * l.length + b - 1 < T.length ∧ ∀ h : ((a - 1) * l.length + b - 1).toNat < T.length, T[((a - 1) * l.length + b - 1).toNat] = decide (Rch l a b) := by
  have ⟨a1, a2⟩ := ha
  have ⟨b1, b2⟩ := hb
  have e : (a - 1) * l.length + b - 1 = (a - 1) * l.length + (b - 1) := by omega
  have h1 := tab0 (r := a - 1) (c := b - 1) (n := l.length) (by omega) (by omega)
  have h2 := tab3 hT (r := a - 1) (c := b - 1) (by omega) (by omega) (by omega) (by omega)
  refine ⟨by omega, by omega, fun h => ?_⟩
  have h3 := tab_get hT (r := a - 1) (c := b - 1) (by omega) (by omega) (by omega) (by omega) h2
  simp only [e] at h ⊢
  rw [h3]; simp

theorem RiseOf.congr {L : List Int} {p q : Int → Prop} (h : RiseOf L p) (e : ∀ x, p x ↔ q x) : RiseOf L q := ⟨h.1, fun x => (h.2 x).trans (e x)⟩
theorem rise_unique : ∀ {L L' : List Int} {p : Int → Prop}, RiseOf L p → RiseOf L' p → L = L' := by
  intro L
  induction L with
  | nil =>
    intro L' p h h'
    cases L' with
    | nil => rfl
    | cons y r => have := (h.2 y).2 ((h'.2 y).1 (by simp)); simp at this
  | cons x r ih =>
    intro L' p h h'
    cases L' with
    | nil => have := (h'.2 x).2 ((h.2 x).1 (by simp)); simp at this
    | cons y r' =>
      have ⟨h1, h2⟩ := List.pairwise_cons.1 h.1
      have ⟨h1', h2'⟩ := List.pairwise_cons.1 h'.1
      have hx : x = y := by
        have a := (h'.2 x).2 ((h.2 x).1 (by simp))
        have b := (h.2 y).2 ((h'.2 y).1 (by simp))
        rcases List.mem_cons.1 a with a | a
        · exact a
        rcases List.mem_cons.1 b with b | b
        · exact b.symm
        have := h1 y b; have := h1' x a; omega
      subst hx
      congr 1
      refine ih (p := fun z => p z ∧ z ≠ x) ⟨h2, fun z => ?_⟩ ⟨h2', fun z => ?_⟩
      · have e := h.2 z
        constructor
        · intro hz; exact ⟨e.1 (by simp [hz]), by have := h1 z hz; omega⟩
        · rintro ⟨hz, hn⟩
          rcases List.mem_cons.1 (e.2 hz) with a | a
          · exact absurd a hn
          · exact a
      · have e := h'.2 z
        constructor
        · intro hz; exact ⟨e.1 (by simp [hz]), by have := h1' z hz; omega⟩
        · rintro ⟨hz, hn⟩
          rcases List.mem_cons.1 (e.2 hz) with a | a
          · exact absurd a hn
          · exact a
theorem there_in {l : List Commit} (hl : l.length ≤ 60) {x : Int} (h : There l x) : InI x := by unfold There at h; unfold InI; omega
theorem set_small {l : List Commit} (hl : l.length ≤ 60) {S : List Int} {w : World} {b : Nat} (h : MapAt kInt w b (setL S)) (hS : ∀ x ∈ S, There l x) : S.length ≤ 1000 := by
  have := nodup_len (n := l.length) (set_nodup h) (fun x hx => hS x hx)
  omega
theorem rd_nil {α : Type} {r : Rep α} {M : List Nat} {w : World} : (rSlice r).rd M w [.slice none ([] : List α).length 0] [] := ⟨by simp, none, 0, rfl, fun _ => rfl, fun i hi => by simp at hi⟩
def AncL (l : List Commit) (ids L : List Int) : Prop := (Right l → RiseOf L fun x => ∃ a ∈ ids, Rch l a x) ∧ (¬ Right l → L = [])
theorem ancL_no {l : List Commit} {ids : List Int} (h : ¬ Right l) : AncL l ids [] := ⟨fun k => absurd k h, fun _ => rfl⟩
theorem ancL_yes {l : List Commit} {ids L S : List Int} (hr : Right l) (h : RiseOf L (· ∈ S)) (e : ∀ x, x ∈ S ↔ ∃ a ∈ ids, Rch l a x) : AncL l ids L := ⟨fun _ => h.congr e, fun k => absurd hr k⟩
theorem ancL_unique {l : List Commit} {ids L L' : List Int} (h : AncL l ids L) (h' : AncL l ids L') : L = L' := by
  by_cases hr : Right l
  · exact rise_unique (h.1 hr) (h'.1 hr)
  · rw [h.2 hr, h'.2 hr]
theorem ids_there {l : List Commit} {ids S : List Int} (e : ∀ x, x ∈ S ↔ ∃ a ∈ ids, Rch l a x) : ∀ x ∈ S, There l x := fun x hx => by
  obtain ⟨a, _, h⟩ := (e x).1 hx; exact h.there.2

/-! ### The reference's Ancestors -/
theorem anc1 {l : List Commit} {ids : List Int} {i n : Int} {p : Bool} (s : p = decide (Some1 l ids i n)) (hp : p = true) (h0 : 0 ≤ i) (hj : i.toNat < ids.length) : true = decide (Some1 l ids (i + 1) n) := by
  symm; rw [decide_eq_true_eq, some1_succ h0 hj]; left; rw [hp] at s; exact of_decide_eq_true s.symm
theorem anc2 {l : List Commit} {ids : List Int} {i n : Int} {p q : Bool} (s : p = decide (Some1 l ids i n)) (hp : p = false) (h0 : 0 ≤ i) (hj : i.toNat < ids.length) (hq : q = decide (Rch l ids[i.toNat] n)) : q = decide (Some1 l ids (i + 1) n) := by
  rw [hq, decide_eq_decide, some1_succ h0 hj]
  rw [hp] at s
  have := of_decide_eq_false s.symm
  simp [this]
theorem anc3 {l : List Commit} {ids : List Int} {i n : Int} {p : Bool} (s : p = decide (Some1 l ids i n)) (hp : p = false) (h0 : 0 ≤ i) (hj : i.toNat < ids.length) (ht : ¬ There l ids[i.toNat]) : false = decide (Some1 l ids (i + 1) n) :=
  anc2 s hp h0 hj (by symm; rw [decide_eq_false_iff_not]; intro h; exact ht h.there.1)
theorem anc0 {l : List Commit} {ids : List Int} {n : Int} : false = decide (Some1 l ids 0 n) := by
  symm; rw [decide_eq_false_iff_not]; exact some1_zero
def AncTo (l : List Commit) (ids : List Int) (n : Int) (xs : List Int) : Prop := RiseOf xs fun x => 1 ≤ x ∧ x < n ∧ ∃ a ∈ ids, Rch l a x
theorem ancTo_zero {l : List Commit} {ids : List Int} : AncTo l ids 1 [] := ⟨by simp, fun x => by simp; omega⟩
theorem rise_add {xs : List Int} {n : Int} {p q : Int → Prop} (h : RiseOf xs p) (hp : ∀ x, p x → x < n) (hq : ∀ x, q x ↔ p x ∨ x = n) : RiseOf (xs ++ [n]) q := by
  refine ⟨List.pairwise_append.2 ⟨h.1, by simp, fun a ha b hb => ?_⟩, fun x => ?_⟩
  · simp at hb; subst hb; exact hp a ((h.2 a).1 ha)
  · rw [List.mem_append, h.2, hq]; simp
theorem anc_add {l : List Commit} {ids xs : List Int} {n i : Int} {p : Bool} (h : AncTo l ids n xs) (h1 : 1 ≤ n) (s : p = decide (Some1 l ids i n)) (hi : (ids.length : Int) ≤ i) (hp : p = true) : AncTo l ids (n + 1) (xs ++ [n]) := by
  rw [hp] at s
  have hs := (some1_all hi).1 (of_decide_eq_true s.symm)
  refine rise_add h (fun x hx => hx.2.1) fun x => ?_
  constructor
  · rintro ⟨a, b, c⟩
    by_cases e : x = n
    · exact .inr e
    · exact .inl ⟨a, by omega, c⟩
  · rintro (⟨a, b, c⟩ | e)
    · exact ⟨a, by omega, c⟩
    · subst e; exact ⟨h1, by omega, hs⟩
theorem anc_skip {l : List Commit} {ids xs : List Int} {n i : Int} {p : Bool} (h : AncTo l ids n xs) (h1 : 1 ≤ n) (s : p = decide (Some1 l ids i n)) (hi : (ids.length : Int) ≤ i) (hp : p = false) : AncTo l ids (n + 1) xs := by
  rw [hp] at s
  have hs := fun k => (of_decide_eq_false s.symm) ((some1_all hi).2 k)
  refine RiseOf.congr h fun x => ⟨fun ⟨a, b, c⟩ => ⟨a, by omega, c⟩, fun ⟨a, b, c⟩ => ⟨a, ?_, c⟩⟩
  by_cases e : x = n
  · subst e; exact absurd c hs
  · omega
theorem ancTo_all {l : List Commit} {ids xs : List Int} {n : Int} (hr : Right l) (h : AncTo l ids n xs) (hn : (l.length : Int) < n) : AncL l ids xs :=
  ⟨fun _ => h.congr fun x => ⟨fun ⟨_, _, c⟩ => c, fun c => by
    obtain ⟨a, ha, h1⟩ := c
    have := h1.there.2; unfold There at this
    exact ⟨by omega, by omega, a, ha, h1⟩⟩, fun k => absurd hr k⟩

/-! ### The nearest common ones -/
def BothP (l : List Commit) (a b x : Int) : Prop := Rch l a x ∧ Rch l b x
def NearP (l : List Commit) (a b x : Int) : Prop := BothP l a b x ∧ ∀ m, BothP l a b m → Rch l m x → m = x
def NearTo (l : List Commit) (a b : Int) (N : List Int) (i x : Int) : Prop := BothP l a b x ∧ ∀ j : Nat, i < j → ∀ m, N[j]? = some m → Rch l m x → m = x
def NearL (l : List Commit) (a b : Int) (L : List Int) : Prop := (Right l → RiseOf L (NearP l a b)) ∧ (¬ Right l → L = [])
theorem nearL_no {l : List Commit} {a b : Int} (h : ¬ Right l) : NearL l a b [] := ⟨fun k => absurd k h, fun _ => rfl⟩
theorem nearL_unique {l : List Commit} {a b : Int} {L L' : List Int} (h : NearL l a b L) (h' : NearL l a b L') : L = L' := by
  by_cases hr : Right l
  · exact rise_unique (h.1 hr) (h'.1 hr)
  · rw [h.2 hr, h'.2 hr]
theorem rch_self {l : List Commit} {a : Int} (h : There l a) : Rch l a a := rch_iff.2 ⟨h, .inl rfl⟩
theorem rch_pars {l : List Commit} (hr : Right l) {m x : Int} (hm : There l m) : (∃ p ∈ pars l m, Rch l p x) ↔ Rch l m x ∧ x ≠ m := by
  constructor
  · rintro ⟨p, hp, h⟩
    have h1 := (par_lt hr hm hp).2
    have h2 := h.le hr
    exact ⟨rch_iff.2 ⟨hm, .inr ⟨p, hp, h⟩⟩, by omega⟩
  · rintro ⟨h, hn⟩
    rcases (rch_iff.1 h).2 with e | e
    · exact absurd e hn
    · exact e
theorem nearTo_last {l : List Commit} {a b : Int} {N : List Int} (hN : RiseOf N (BothP l a b)) {i : Int} (hi : (N.length : Int) - 1 ≤ i) (x : Int) : NearTo l a b N i x ↔ BothP l a b x :=
  ⟨fun h => h.1, fun h => ⟨h, fun j hj m hm _ => by rw [List.getElem?_eq_none (by omega)] at hm; cases hm⟩⟩
theorem nearTo_all {l : List Commit} {a b : Int} {N : List Int} (hN : RiseOf N (BothP l a b)) {i : Int} (hi : i < 0) (x : Int) : NearTo l a b N i x ↔ NearP l a b x := by
  constructor
  · rintro ⟨h, k⟩
    refine ⟨h, fun m hm hx => ?_⟩
    obtain ⟨j, hj, e⟩ := List.getElem_of_mem ((hN.2 m).2 hm)
    exact k j (by omega) m (by rw [List.getElem?_eq_getElem hj, e]) hx
  · rintro ⟨h, k⟩
    exact ⟨h, fun j hj m hm hx => k m ((hN.2 m).1 (List.mem_of_getElem? hm)) hx⟩
/-- A node that is told of already: nothing goes. -/
theorem near_skip {l : List Commit} {a b : Int} {N : List Int} (hr : Right l) (hN : RiseOf N (BothP l a b)) {i : Int} (h0 : 0 ≤ i) (hi : i.toNat < N.length) (hn : ¬ NearTo l a b N i N[i.toNat]) (x : Int) : NearTo l a b N (i - 1) x ↔ NearTo l a b N i x := by
  constructor
  · rintro ⟨h, k⟩; exact ⟨h, fun j hj => k j (by omega)⟩
  · rintro ⟨h, k⟩
    refine ⟨h, fun j hj m hm hx => ?_⟩
    by_cases e : (j : Int) = i
    · have hj' : j = i.toNat := by omega
      subst hj'
      rw [List.getElem?_eq_getElem hi] at hm
      have em : N[i.toNat] = m := Option.some.inj hm
      subst em
      refine Classical.byContradiction fun hne => hn ⟨(hN.2 _).1 (List.getElem_mem hi), fun j' hj' m' hm' hx' => ?_⟩
      have := k j' hj' m' hm' (hx'.trans hx)
      have h1 := hx.le hr
      have h2 := hx'.le hr
      omega
    · exact k j (by omega) m hm hx
/-- A node that stands: all that it reaches but itself goes. -/
theorem near_step {l : List Commit} {a b : Int} {N : List Int} (hr : Right l) {i : Int} (h0 : 0 ≤ i) (hi : i.toNat < N.length) (x : Int) : NearTo l a b N (i - 1) x ↔ NearTo l a b N i x ∧ ¬ (Rch l N[i.toNat] x ∧ x ≠ N[i.toNat]) := by
  constructor
  · rintro ⟨h, k⟩
    refine ⟨⟨h, fun j hj => k j (by omega)⟩, ?_⟩
    rintro ⟨h1, h2⟩
    exact h2 (k i.toNat (by omega) _ (List.getElem?_eq_getElem hi) h1).symm
  · rintro ⟨⟨h, k⟩, hn⟩
    refine ⟨h, fun j hj m hm hx => ?_⟩
    by_cases e : (j : Int) = i
    · have hj' : j = i.toNat := by omega
      subst hj'
      rw [List.getElem?_eq_getElem hi] at hm
      have em : N[i.toNat] = m := Option.some.inj hm
      subst em
      exact Classical.byContradiction fun hne => hn ⟨hx, fun e => hne e.symm⟩
    · exact k j (by omega) m hm hx

theorem both_in {D : List (Int × Value)} {S SY : List Int} {k : Int} {v : Value} (h : ∀ x, x ∈ S ↔ x ∈ D.map (·.1) ∧ x ∈ SY) (hk : k ∈ SY) : ∀ x, x ∈ insS S k ↔ x ∈ (D ++ [(k, v)]).map (·.1) ∧ x ∈ SY := fun x => by
  rw [mem_insS, h, List.map_append, List.mem_append]
  simp only [List.map_cons, List.map_nil, List.mem_singleton]
  constructor
  · rintro (⟨a, b⟩ | e)
    · exact ⟨.inl a, b⟩
    · subst e; exact ⟨.inr rfl, hk⟩
  · rintro ⟨a | e, b⟩
    · exact .inl ⟨a, b⟩
    · exact .inr e
theorem both_out {D : List (Int × Value)} {S SY : List Int} {k : Int} {v : Value} (h : ∀ x, x ∈ S ↔ x ∈ D.map (·.1) ∧ x ∈ SY) (hk : ¬ k ∈ SY) : ∀ x, x ∈ S ↔ x ∈ (D ++ [(k, v)]).map (·.1) ∧ x ∈ SY := fun x => by
  rw [h, List.map_append, List.mem_append]
  simp only [List.map_cons, List.map_nil, List.mem_singleton]
  constructor
  · rintro ⟨a, b⟩; exact ⟨.inl a, b⟩
  · rintro ⟨a | e, b⟩
    · exact ⟨a, b⟩
    · subst e; exact absurd b hk
theorem told_over {S : List Int} {D : List (Int × Value)} (h : Told S D) (ho : ∀ p ∈ setL S, p ∈ D) (x : Int) : x ∈ D.map (·.1) ↔ x ∈ S :=
  ⟨told_mem h, fun hx => List.mem_map.2 ⟨(x, .bool true), ho _ (List.mem_map.2 ⟨x, hx, rfl⟩), rfl⟩⟩
theorem both_all {l : List Commit} {a b : Int} {D : List (Int × Value)} {S SX SY : List Int} (ht : Told SX D) (h : ∀ x, x ∈ S ↔ x ∈ D.map (·.1) ∧ x ∈ SY) (ho : ∀ p ∈ setL SX, p ∈ D)
    (hX : ∀ x, x ∈ SX ↔ ∃ y ∈ [a], Rch l y x) (hY : ∀ x, x ∈ SY ↔ ∃ y ∈ [b], Rch l y x) : ∀ x, x ∈ S ↔ BothP l a b x := fun x => by
  rw [h, told_over ht ho, hX, hY]; simp [BothP]
theorem del_step {D : List (Int × Value)} {S S2 : List Int} {k : Int} {v : Value} (h : ∀ x, x ∈ S ↔ x ∈ S2 ∧ x ∉ D.map (·.1)) : ∀ x, x ∈ delS S k ↔ x ∈ S2 ∧ x ∉ (D ++ [(k, v)]).map (·.1) := fun x => by
  rw [mem_delS, h, List.map_append, List.mem_append]
  simp only [List.map_cons, List.map_nil, List.mem_singleton, not_or, and_assoc, ne_eq]
theorem near_del {l : List Commit} (hr : Right l) {a b : Int} {N S2 S3 T : List Int} {D : List (Int × Value)} {i : Int} (h0 : 0 ≤ i) (hi : i.toNat < N.length) (tn : There l N[i.toNat]) (s2 : ∀ x, x ∈ S2 ↔ NearTo l a b N i x)
    (ht : Told T D) (ho : ∀ p ∈ setL T, p ∈ D) (u : ∀ x, x ∈ S3 ↔ x ∈ S2 ∧ x ∉ D.map (·.1)) (hT : ∀ x, x ∈ T ↔ ∃ p ∈ pars l N[i.toNat], Rch l p x) : ∀ x, x ∈ S3 ↔ NearTo l a b N (i - 1) x := fun x => by
  rw [u, told_over ht ho, hT, s2, rch_pars hr tn, near_step hr h0 hi]

/-! ### Heads -/
def HeadP (l : List Commit) (x : Int) : Prop := There l x ∧ ∀ i (h : i < l.length), x ∉ l[i].Parents
def HeadTo (l : List Commit) (i x : Int) : Prop := 1 ≤ x ∧ x ≤ i ∧ ∀ k (h : k < l.length), (k : Int) < i → x ∉ l[k].Parents
def HeadIn (l : List Commit) (i : Int) (ps : List Int) (j x : Int) : Prop := (HeadTo l i x ∨ x = i + 1) ∧ ∀ q : Nat, (q : Int) < j → ps[q]? ≠ some x
def HeadL (l : List Commit) (L : List Int) : Prop := (Right l → RiseOf L (HeadP l)) ∧ (¬ Right l → L = [])
theorem headL_no {l : List Commit} (h : ¬ Right l) : HeadL l [] := ⟨fun k => absurd k h, fun _ => rfl⟩
theorem headL_unique {l : List Commit} {L L' : List Int} (h : HeadL l L) (h' : HeadL l L') : L = L' := by
  by_cases hr : Right l
  · exact rise_unique (h.1 hr) (h'.1 hr)
  · rw [h.2 hr, h'.2 hr]
theorem headTo_zero {l : List Commit} {x : Int} : ¬ HeadTo l 0 x := fun ⟨a, b, _⟩ => by omega
theorem headTo_all {l : List Commit} {i : Int} (hi : i = l.length) (x : Int) : HeadTo l i x ↔ HeadP l x := by
  subst hi
  constructor
  · rintro ⟨a, b, c⟩; exact ⟨⟨a, b⟩, fun k h => c k h (by omega)⟩
  · rintro ⟨⟨a, b⟩, c⟩; exact ⟨a, b, fun k h _ => c k h⟩
theorem headIn_zero {l : List Commit} {i : Int} {ps : List Int} {x : Int} : HeadIn l i ps 0 x ↔ HeadTo l i x ∨ x = i + 1 := ⟨fun h => h.1, fun h => ⟨h, fun q hq => by omega⟩⟩
theorem headIn_step {l : List Commit} {i : Int} {ps : List Int} {j : Int} (h0 : 0 ≤ j) (hj : j.toNat < ps.length) (x : Int) : HeadIn l i ps (j + 1) x ↔ HeadIn l i ps j x ∧ x ≠ ps[j.toNat] := by
  constructor
  · rintro ⟨h, k⟩
    refine ⟨⟨h, fun q hq => k q (by omega)⟩, fun e => ?_⟩
    exact k j.toNat (by omega) (by rw [List.getElem?_eq_getElem hj, e])
  · rintro ⟨⟨h, k⟩, hn⟩
    refine ⟨h, fun q hq => ?_⟩
    by_cases e : (q : Int) = j
    · have : q = j.toNat := by omega
      subst this
      rw [List.getElem?_eq_getElem hj]
      intro e; exact hn (Option.some.inj e).symm
    · exact k q (by omega)
theorem headIn_all {l : List Commit} (hr : Right l) {i : Int} (h0 : 0 ≤ i) (hi : i.toNat < l.length) {j : Int} (hj : (l[i.toNat].Parents.length : Int) ≤ j) (x : Int) : HeadIn l i l[i.toNat].Parents j x ↔ HeadTo l (i + 1) x := by
  have hmem : (∀ q : Nat, (q : Int) < j → l[i.toNat].Parents[q]? ≠ some x) ↔ x ∉ l[i.toNat].Parents := by
    constructor
    · intro k hx
      obtain ⟨q, hq, e⟩ := List.getElem_of_mem hx
      exact k q (by omega) (by rw [List.getElem?_eq_getElem hq, e])
    · intro k q _ e; exact k (List.mem_of_getElem? e)
  unfold HeadIn
  rw [hmem]
  constructor
  · rintro ⟨h, k⟩
    refine ⟨?_, ?_, fun q hq hqi => ?_⟩
    · rcases h with h | h
      · exact h.1
      · omega
    · rcases h with h | h
      · have := h.2.1; omega
      · omega
    · by_cases e : (q : Int) = i
      · have : q = i.toNat := by omega
        subst this; exact k
      · rcases h with h | h
        · exact h.2.2 q hq (by omega)
        · intro hx
          have := (rises_mem (hr q hq).2 hx).2
          omega
  · rintro ⟨h1, h2, h3⟩
    refine ⟨?_, h3 i.toNat hi (by omega)⟩
    by_cases e : x = i + 1
    · exact .inr e
    · exact .inl ⟨h1, by omega, fun q hq hqi => h3 q hq (by omega)⟩

theorem head_init {l : List Commit} (hr : Right l) {i : Int} (h0 : 0 ≤ i) (hi : i.toNat < l.length) {S : List Int} {ps : List Int} (s : ∀ x, x ∈ S ↔ HeadTo l i x) : ∀ x, x ∈ insS S l[i.toNat].ID ↔ HeadIn l i ps 0 x := fun x => by
  have e : l[i.toNat].ID = i + 1 := by have := (hr _ hi).1; omega
  rw [mem_insS, s, headIn_zero, e]

/-! ### The reference's heads -/
def OnTo (l : List Commit) (i n : Int) : Prop := ∃ k : Nat, (k : Int) < i ∧ ∃ h : k < l.length, n ∈ l[k].Parents
def OnIn (l : List Commit) (i : Int) (ps : List Int) (j n : Int) : Prop := OnTo l i n ∨ ∃ q : Nat, (q : Int) < j ∧ ps[q]? = some n
theorem on0 {l : List Commit} {n : Int} : false = decide (OnTo l 0 n) := by
  symm; rw [decide_eq_false_iff_not]; rintro ⟨k, h, _⟩; omega
theorem onIn0 {l : List Commit} {i n : Int} {ps : List Int} {p : Bool} (s : p = decide (OnTo l i n)) : p = decide (OnIn l i ps 0 n) := by
  rw [s, decide_eq_decide]
  exact ⟨.inl, fun h => h.elim id fun ⟨q, h, _⟩ => by omega⟩
theorem onIn_succ {l : List Commit} {i n : Int} {ps : List Int} {j : Int} (h0 : 0 ≤ j) (hj : j.toNat < ps.length) : OnIn l i ps (j + 1) n ↔ OnIn l i ps j n ∨ ps[j.toNat] = n := by
  constructor
  · rintro (h | ⟨q, h, e⟩)
    · exact .inl (.inl h)
    · by_cases e' : (q : Int) = j
      · have : q = j.toNat := by omega
        subst this
        rw [List.getElem?_eq_getElem hj] at e
        exact .inr (Option.some.inj e)
      · exact .inl (.inr ⟨q, by omega, e⟩)
  · rintro ((h | ⟨q, h, e⟩) | e)
    · exact .inl h
    · exact .inr ⟨q, by omega, e⟩
    · exact .inr ⟨j.toNat, by omega, by rw [List.getElem?_eq_getElem hj, e]⟩
theorem on1 {l : List Commit} {i n : Int} {ps : List Int} {j : Int} {p : Bool} (s : p = decide (OnIn l i ps j n)) (hp : p = true) (h0 : 0 ≤ j) (hj : j.toNat < ps.length) : true = decide (OnIn l i ps (j + 1) n) := by
  rw [hp] at s
  have := of_decide_eq_true s.symm
  symm; rw [decide_eq_true_eq, onIn_succ h0 hj]; exact .inl this
theorem on2 {l : List Commit} {i n : Int} {ps : List Int} {j : Int} {p : Bool} (s : p = decide (OnIn l i ps j n)) (hp : p = false) (h0 : 0 ≤ j) (hj : j.toNat < ps.length) : decide (ps[j.toNat] = n) = decide (OnIn l i ps (j + 1) n) := by
  rw [hp] at s
  have := of_decide_eq_false s.symm
  rw [decide_eq_decide, onIn_succ h0 hj]; simp [this]
theorem onIn_all {l : List Commit} {i n : Int} {j : Int} {p : Bool} (h0 : 0 ≤ i) (hi : i.toNat < l.length) (s : p = decide (OnIn l i l[i.toNat].Parents j n)) (hj : (l[i.toNat].Parents.length : Int) ≤ j) : p = decide (OnTo l (i + 1) n) := by
  rw [s, decide_eq_decide]
  constructor
  · rintro (⟨k, h, h1, h2⟩ | ⟨q, h, e⟩)
    · exact ⟨k, by omega, h1, h2⟩
    · exact ⟨i.toNat, by omega, hi, List.mem_of_getElem? e⟩
  · rintro ⟨k, h, h1, h2⟩
    by_cases e : (k : Int) = i
    · have : k = i.toNat := by omega
      subst this
      obtain ⟨q, hq, e⟩ := List.getElem_of_mem h2
      exact .inr ⟨q, by omega, by rw [List.getElem?_eq_getElem hq, e]⟩
    · exact .inl ⟨k, by omega, h1, h2⟩
def HeadsTo (l : List Commit) (n : Int) (xs : List Int) : Prop := RiseOf xs fun x => x < n ∧ HeadP l x
theorem headsTo_zero {l : List Commit} : HeadsTo l 1 [] := ⟨by simp, fun x => by simp; intro h1 ⟨h2, _⟩; have := h2.1; omega⟩
theorem on_head {l : List Commit} {i n : Int} {p : Bool} (s : p = decide (OnTo l i n)) (hi : (l.length : Int) ≤ i) (tn : There l n) : HeadP l n ↔ p = false := by
  rw [s, decide_eq_false_iff_not]
  constructor
  · rintro ⟨_, h⟩ ⟨k, _, h1, h2⟩; exact h k h1 h2
  · intro h; exact ⟨tn, fun k hk hx => h ⟨k, by omega, hk, hx⟩⟩
theorem heads_add {l : List Commit} {xs : List Int} {n i : Int} {p : Bool} (h : HeadsTo l n xs) (s : p = decide (OnTo l i n)) (hi : (l.length : Int) ≤ i) (tn : There l n) (hp : p = false) : HeadsTo l (n + 1) (xs ++ [n]) := by
  have hh := (on_head s hi tn).2 hp
  refine rise_add h (fun x hx => hx.1) fun x => ?_
  constructor
  · rintro ⟨a, b⟩
    by_cases e : x = n
    · exact .inr e
    · exact .inl ⟨by omega, b⟩
  · rintro (⟨a, b⟩ | e)
    · exact ⟨by omega, b⟩
    · subst e; exact ⟨by omega, hh⟩
theorem heads_skip {l : List Commit} {xs : List Int} {n i : Int} {p : Bool} (h : HeadsTo l n xs) (s : p = decide (OnTo l i n)) (hi : (l.length : Int) ≤ i) (tn : There l n) (hp : p = true) : HeadsTo l (n + 1) xs := by
  have hh : ¬ HeadP l n := fun k => by have := (on_head s hi tn).1 k; rw [hp] at this; cases this
  refine RiseOf.congr h fun x => ⟨fun ⟨a, b⟩ => ⟨by omega, b⟩, fun ⟨a, b⟩ => ⟨?_, b⟩⟩
  by_cases e : x = n
  · subst e; exact absurd b hh
  · omega
theorem headsTo_all {l : List Commit} {xs : List Int} {n : Int} (hr : Right l) (h : HeadsTo l n xs) (hn : (l.length : Int) < n) : HeadL l xs :=
  ⟨fun _ => h.congr fun x => ⟨fun h => h.2, fun h => ⟨by have := h.1.2; omega, h⟩⟩, fun k => absurd hr k⟩

/-! ### The reference's nearest common ones -/
theorem tabT {l : List Commit} {T : List Bool} (hT : TabI l T (fun r c => Rch l (r + 1) (c + 1))) {a b : Int} (ha : There l a) (hb : There l b) {h : ((a - 1) * l.length + b - 1).toNat < T.length} (e : T[((a - 1) * l.length + b - 1).toNat] = true) : Rch l a b := by
  rw [(tabq hT ha hb).2.2 h] at e; exact of_decide_eq_true e
theorem tabF {l : List Commit} {T : List Bool} (hT : TabI l T (fun r c => Rch l (r + 1) (c + 1))) {a b : Int} (ha : There l a) (hb : There l b) {h : ((a - 1) * l.length + b - 1).toNat < T.length} (e : T[((a - 1) * l.length + b - 1).toNat] = false) : ¬ Rch l a b := by
  rw [(tabq hT ha hb).2.2 h] at e; exact of_decide_eq_false e
theorem nearL_a {l : List Commit} {a b : Int} (h : ¬ There l a) : NearL l a b [] := ⟨fun _ => ⟨by simp, fun x => ⟨fun h => by simp at h, fun k => absurd k.1.1.there.1 h⟩⟩, fun _ => rfl⟩
theorem nearL_b {l : List Commit} {a b : Int} (h : ¬ There l b) : NearL l a b [] := ⟨fun _ => ⟨by simp, fun x => ⟨fun h => by simp at h, fun k => absurd k.1.2.there.1 h⟩⟩, fun _ => rfl⟩
def BothTo (l : List Commit) (a b n : Int) (xs : List Int) : Prop := RiseOf xs fun x => x < n ∧ BothP l a b x
theorem bothTo_zero {l : List Commit} {a b : Int} : BothTo l a b 1 [] := ⟨by simp, fun x => by simp; intro h1 ⟨h2, _⟩; have := h2.there.2.1; omega⟩
theorem bothTo_add {l : List Commit} {a b n : Int} {xs : List Int} (h : BothTo l a b n xs) (h1 : Rch l a n) (h2 : Rch l b n) : BothTo l a b (n + 1) (xs ++ [n]) := by
  refine rise_add h (fun x hx => hx.1) fun x => ?_
  constructor
  · rintro ⟨a, b⟩
    by_cases e : x = n
    · exact .inr e
    · exact .inl ⟨by omega, b⟩
  · rintro (⟨a, b⟩ | e)
    · exact ⟨by omega, b⟩
    · subst e; exact ⟨by omega, h1, h2⟩
theorem bothTo_skip {l : List Commit} {a b n : Int} {xs : List Int} (h : BothTo l a b n xs) (hn : BothP l a b n → False) : BothTo l a b (n + 1) xs := by
  refine RiseOf.congr h fun x => ⟨fun ⟨a, b⟩ => ⟨by omega, b⟩, fun ⟨a, b⟩ => ⟨?_, b⟩⟩
  by_cases e : x = n
  · subst e; exact (hn b).elim
  · omega
theorem bothTo_all {l : List Commit} {a b n : Int} {xs : List Int} (h : BothTo l a b n xs) (hn : (l.length : Int) < n) : RiseOf xs (BothP l a b) :=
  h.congr fun x => ⟨fun h => h.2, fun h => ⟨by have := h.1.there.2.2; omega, h⟩⟩
def NrTo (l : List Commit) (xs : List Int) (x k : Int) : Prop := ∀ j : Nat, (j : Int) < k → ∀ m, xs[j]? = some m → Rch l m x → m = x
theorem nr0 {l : List Commit} {xs : List Int} {x : Int} : true = decide (NrTo l xs x 0) := by symm; rw [decide_eq_true_eq]; intro j hj; omega
theorem nr_succ {l : List Commit} {xs : List Int} {x k : Int} (h0 : 0 ≤ k) (hk : k.toNat < xs.length) : NrTo l xs x (k + 1) ↔ NrTo l xs x k ∧ (Rch l xs[k.toNat] x → xs[k.toNat] = x) := by
  constructor
  · intro h
    exact ⟨fun j hj => h j (by omega), h k.toNat (by omega) _ (List.getElem?_eq_getElem hk)⟩
  · rintro ⟨h, h'⟩ j hj m hm
    by_cases e : (j : Int) < k
    · exact h j e m hm
    · have : j = k.toNat := by omega
      subst this
      rw [List.getElem?_eq_getElem hk] at hm
      cases Option.some.inj hm; exact h'
theorem nr_keep {l : List Commit} {xs : List Int} {x k : Int} {p : Bool} (s : p = decide (NrTo l xs x k)) (h0 : 0 ≤ k) (hk : k.toNat < xs.length) (h : Rch l xs[k.toNat] x → xs[k.toNat] = x) : p = decide (NrTo l xs x (k + 1)) := by
  rw [s, decide_eq_decide, nr_succ h0 hk]; exact ⟨fun a => ⟨a, h⟩, fun a => a.1⟩
theorem nr_off {l : List Commit} {xs : List Int} {x k : Int} (h0 : 0 ≤ k) (hk : k.toNat < xs.length) (h1 : ¬ xs[k.toNat] = x) (h2 : Rch l xs[k.toNat] x) : false = decide (NrTo l xs x (k + 1)) := by
  symm; rw [decide_eq_false_iff_not, nr_succ h0 hk]; exact fun a => h1 (a.2 h2)
def OutTo (l : List Commit) (a b : Int) (xs : List Int) (i : Int) (ys : List Int) : Prop := RiseOf ys fun x => (∃ j : Nat, (j : Int) < i ∧ xs[j]? = some x) ∧ NearP l a b x
theorem outTo_zero {l : List Commit} {a b : Int} {xs : List Int} : OutTo l a b xs 0 [] := ⟨by simp, fun x => by simp; intro j hj; omega⟩
theorem nr_near {l : List Commit} {a b : Int} {xs : List Int} (hB : RiseOf xs (BothP l a b)) {i k : Int} (hi : i.toNat < xs.length) {p : Bool} (s : p = decide (NrTo l xs xs[i.toNat] k)) (hk : (xs.length : Int) ≤ k) : p = true ↔ NearP l a b xs[i.toNat] := by
  rw [s, decide_eq_true_eq]
  constructor
  · intro h
    refine ⟨(hB.2 _).1 (List.getElem_mem hi), fun m hm hx => ?_⟩
    obtain ⟨j, hj, e⟩ := List.getElem_of_mem ((hB.2 m).2 hm)
    exact h j (by omega) m (by rw [List.getElem?_eq_getElem hj, e]) hx
  · rintro ⟨_, h⟩ j _ m hm hx
    exact h m ((hB.2 m).1 (List.mem_of_getElem? hm)) hx
theorem pair_lt {xs : List Int} (h : xs.Pairwise (· < ·)) {i j : Nat} (hij : i < j) (hj : j < xs.length) : xs[i] < xs[j] := List.pairwise_iff_getElem.1 h i j (by omega) hj hij
theorem out_add {l : List Commit} {a b : Int} {xs ys : List Int} (hB : RiseOf xs (BothP l a b)) {i : Int} (h : OutTo l a b xs i ys) (h0 : 0 ≤ i) (hi : i.toNat < xs.length) (hn : NearP l a b xs[i.toNat]) : OutTo l a b xs (i + 1) (ys ++ [xs[i.toNat]]) := by
  refine rise_add h ?_ fun x => ?_
  · rintro x ⟨⟨j, hj, e⟩, _⟩
    have hjl : j < xs.length := by
      rcases Nat.lt_or_ge j xs.length with h | h
      · exact h
      · rw [List.getElem?_eq_none h] at e; cases e
    rw [List.getElem?_eq_getElem hjl] at e
    have := pair_lt hB.1 (i := j) (j := i.toNat) (by omega) hi
    have := Option.some.inj e; omega
  · constructor
    · rintro ⟨⟨j, hj, e⟩, hx⟩
      by_cases e' : (j : Int) < i
      · exact .inl ⟨⟨j, e', e⟩, hx⟩
      · have : j = i.toNat := by omega
        subst this
        rw [List.getElem?_eq_getElem hi] at e
        exact .inr (Option.some.inj e).symm
    · rintro (⟨⟨j, hj, e⟩, hx⟩ | e)
      · exact ⟨⟨j, by omega, e⟩, hx⟩
      · subst e; exact ⟨⟨i.toNat, by omega, List.getElem?_eq_getElem hi⟩, hn⟩
theorem out_skip {l : List Commit} {a b : Int} {xs ys : List Int} {i : Int} (h : OutTo l a b xs i ys) (h0 : 0 ≤ i) (hi : i.toNat < xs.length) (hn : ¬ NearP l a b xs[i.toNat]) : OutTo l a b xs (i + 1) ys := by
  refine RiseOf.congr h fun x => ⟨fun ⟨⟨j, hj, e⟩, b⟩ => ⟨⟨j, by omega, e⟩, b⟩, fun ⟨⟨j, hj, e⟩, b⟩ => ⟨⟨j, ?_, e⟩, b⟩⟩
  by_cases e' : (j : Int) < i
  · exact e'
  · have : j = i.toNat := by omega
    subst this
    rw [List.getElem?_eq_getElem hi] at e
    cases Option.some.inj e; exact absurd b hn
theorem out_all {l : List Commit} {a b : Int} {xs ys : List Int} {i : Int} (hr : Right l) (hB : RiseOf xs (BothP l a b)) (h : OutTo l a b xs i ys) (hi : (xs.length : Int) ≤ i) : NearL l a b ys :=
  ⟨fun _ => h.congr fun x => ⟨fun h => h.2, fun hx => ⟨by
    obtain ⟨j, hj, e⟩ := List.getElem_of_mem ((hB.2 x).2 hx.1)
    exact ⟨j, by omega, by rw [List.getElem?_eq_getElem hj, e]⟩, hx⟩⟩, fun k => absurd hr k⟩

/-! ### The way from a node to another one -/
noncomputable def nxt (l : List Commit) (to a : Int) : Option Int := (pars l a).find? fun p => decide (Rch l p to)
inductive Way (l : List Commit) (to : Int) : Int → List Int → Prop
  | stop : Way l to to [to]
  | step {a p : Int} {L : List Int} : a ≠ to → nxt l to a = some p → Way l to p L → Way l to a (a :: L)
theorem way_unique {l : List Commit} {to a : Int} {L L' : List Int} (h : Way l to a L) (h' : Way l to a L') : L = L' := by
  induction h generalizing L' with
  | stop => cases h' with
    | stop => rfl
    | step h _ _ => exact absurd rfl h
  | step hn hp _ ih => cases h' with
    | stop => exact absurd rfl hn
    | step _ hp' hw =>
      rw [hp] at hp'
      cases Option.some.inj hp'
      rw [ih hw]
def PathL (l : List Commit) (a to : Int) (L : List Int) : Prop := (Right l ∧ Rch l a to → Way l to a L) ∧ (¬ (Right l ∧ Rch l a to) → L = [])
theorem pathL_no {l : List Commit} {a to : Int} (h : ¬ (Right l ∧ Rch l a to)) : PathL l a to [] := ⟨fun k => absurd k h, fun _ => rfl⟩
theorem pathL_unique {l : List Commit} {a to : Int} {L L' : List Int} (h : PathL l a to L) (h' : PathL l a to L') : L = L' := by
  by_cases hr : Right l ∧ Rch l a to
  · exact way_unique (h.1 hr) (h'.1 hr)
  · rw [h.2 hr, h'.2 hr]
def Trail (l : List Commit) (to a cur : Int) (xs : List Int) : Prop := ∃ pre, xs = pre ++ [cur] ∧ ∀ L, Way l to cur L → Way l to a (pre ++ L)
theorem trail_zero {l : List Commit} {to a : Int} : Trail l to a a [a] := ⟨[], rfl, fun _ h => h⟩
theorem trail_step {l : List Commit} {to a cur p : Int} {xs : List Int} (h : Trail l to a cur xs) (hn : cur ≠ to) (hp : nxt l to cur = some p) : Trail l to a p (xs ++ [p]) := by
  obtain ⟨pre, rfl, h⟩ := h
  refine ⟨pre ++ [cur], rfl, fun L hL => ?_⟩
  rw [List.append_assoc]
  exact h _ (.step hn hp hL)
theorem trail_end {l : List Commit} {to a cur : Int} {xs : List Int} (h : Trail l to a cur xs) (e : cur = to) : Way l to a xs := by
  obtain ⟨pre, rfl, h⟩ := h
  subst e
  exact h _ .stop
theorem nxt_some {l : List Commit} {to a : Int} (h : Rch l a to) (hn : a ≠ to) : ∃ p, nxt l to a = some p ∧ p ∈ pars l a ∧ Rch l p to := by
  rcases (rch_iff.1 h).2 with e | ⟨p, hp, hr⟩
  · exact absurd e.symm hn
  · cases hf : nxt l to a with
    | none =>
      have := List.find?_eq_none.1 hf p hp
      simp [hr] at this
    | some q =>
      exact ⟨q, rfl, List.mem_of_find?_eq_some hf, by have := List.find?_some hf; simpa using this⟩
/-- The first of a node's parents that reach, by its place. -/
theorem nxt_at {l : List Commit} {to a : Int} {k : Nat} (hk : k < (pars l a).length) (h : Rch l (pars l a)[k] to) (hb : ∀ j (hj : j < (pars l a).length), j < k → ¬ Rch l (pars l a)[j] to) : nxt l to a = some (pars l a)[k] := by
  unfold nxt
  rw [List.find?_eq_some_iff_getElem]
  exact ⟨by simpa using h, k, hk, rfl, fun j hj => by simpa using hb j (by omega) hj⟩

def LastNx (l : List Commit) (to : Int) (ps : List Int) (k nx : Int) : Prop := nx = ((ps.drop (k + 1).toNat).find? fun p => decide (Rch l p to)).getD 0
theorem lastNx_zero {l : List Commit} {to : Int} {ps : List Int} {k : Int} (hk : (ps.length : Int) ≤ k + 1) : LastNx l to ps k 0 := by
  unfold LastNx; rw [List.drop_eq_nil_of_le (by omega)]; rfl
theorem lastNx_t {l : List Commit} {to : Int} {ps : List Int} {k : Int} (h0 : 0 ≤ k) (hk : k.toNat < ps.length) (h : Rch l ps[k.toNat] to) : LastNx l to ps (k - 1) ps[k.toNat] := by
  unfold LastNx
  have e : (k - 1 + 1).toNat = k.toNat := by omega
  rw [e, List.drop_eq_getElem_cons hk, List.find?_cons_of_pos (by simpa using h)]; rfl
theorem lastNx_f {l : List Commit} {to nx : Int} {ps : List Int} {k : Int} (s : LastNx l to ps k nx) (h0 : 0 ≤ k) (hk : k.toNat < ps.length) (h : ¬ Rch l ps[k.toNat] to) : LastNx l to ps (k - 1) nx := by
  unfold LastNx at s ⊢
  have e : (k - 1 + 1).toNat = k.toNat := by omega
  have e' : (k + 1).toNat = k.toNat + 1 := by omega
  rw [e, List.drop_eq_getElem_cons hk, List.find?_cons_of_neg (by simpa using h), s, e']
theorem lastNx_all {l : List Commit} {to cur nx p : Int} {k : Int} (hc : There l cur) {hi : (cur - 1).toNat < l.length} (s : LastNx l to l[(cur - 1).toNat].Parents k nx) (hk : k < 0) (hp : nxt l to cur = some p) : nx = p := by
  unfold LastNx at s
  unfold nxt at hp
  have e : (k + 1).toNat = 0 := by omega
  rw [pars_get hc hi] at hp
  rw [e, List.drop_zero, hp] at s
  exact s
theorem pathL_yes {l : List Commit} {a to cur : Int} {xs : List Int} (hr : Right l) (hR : Rch l a to) (h : Trail l to a cur xs) (e : cur = to) : PathL l a to xs := ⟨fun _ => trail_end h e, fun k => absurd ⟨hr, hR⟩ k⟩

/-- What IndexFunc tells. -/
def IdxP (l : List Commit) (to : Int) (xs : List Int) (i : Int) : Prop := (0 ≤ i ∧ ∃ h : i.toNat < xs.length, Rch l xs[i.toNat] to ∧ ∀ j (hj : j < xs.length), j < i.toNat → ¬ Rch l xs[j] to) ∨ ∀ x ∈ xs, ¬ Rch l x to
theorem idx_step {l : List Commit} {to : Int} {xs : List Int} {i : Int} (h : ∀ j (hj : j < xs.length), (j : Int) < i → ¬ Rch l xs[j] to) (h0 : 0 ≤ i) (hi : i.toNat < xs.length) (hn : ¬ Rch l xs[i.toNat] to) : ∀ j (hj : j < xs.length), (j : Int) < i + 1 → ¬ Rch l xs[j] to := by
  intro j hj hji
  by_cases e : (j : Int) = i
  · have : j = i.toNat := by omega
    subst this; exact hn
  · exact h j hj (by omega)
theorem idx_yes {l : List Commit} {to : Int} {xs : List Int} {i : Int} (h : ∀ j (hj : j < xs.length), (j : Int) < i → ¬ Rch l xs[j] to) (h0 : 0 ≤ i) (hi : i.toNat < xs.length) (hn : Rch l xs[i.toNat] to) : IdxP l to xs i :=
  .inl ⟨h0, hi, hn, fun j hj hji => h j hj (by omega)⟩
theorem idx_no {l : List Commit} {to : Int} {xs : List Int} {i k : Int} (h : ∀ j (hj : j < xs.length), (j : Int) < i → ¬ Rch l xs[j] to) (hi : (xs.length : Int) ≤ i) : IdxP l to xs k :=
  .inr fun x hx => by obtain ⟨j, hj, e⟩ := List.getElem_of_mem hx; rw [← e]; exact h j hj (by omega)
theorem idx_nxt {l : List Commit} (hr : Right l) {to cur i : Int} (hR : Rch l cur to) (hn : ¬ cur = to) {hi : (cur - 1).toNat < l.length} (h : IdxP l to l[(cur - 1).toNat].Parents i) :
    ∃ h : i.toNat < l[(cur - 1).toNat].Parents.length, 0 ≤ i ∧ nxt l to cur = some l[(cur - 1).toNat].Parents[i.toNat] ∧ Rch l l[(cur - 1).toNat].Parents[i.toNat] to ∧ 1 ≤ l[(cur - 1).toNat].Parents[i.toNat] ∧ l[(cur - 1).toNat].Parents[i.toNat] < cur := by
  have tc := hR.there.1
  have e := pars_get tc hi
  rcases h with ⟨h0, h1, h2, h3⟩ | h
  · refine ⟨h1, h0, ?_, h2, ?_⟩
    · have := nxt_at (l := l) (to := to) (a := cur) (k := i.toNat) (by rw [e]; exact h1) (by simp only [e]; exact h2) (fun j hj hji => by simp only [e] at hj ⊢; exact h3 j hj hji)
      rw [this]; simp only [e]
    · have := par_lt hr tc (p := l[(cur - 1).toNat].Parents[i.toNat]) (by rw [e]; exact List.getElem_mem _)
      exact this
  · obtain ⟨p, _, hp, hp'⟩ := nxt_some hR hn
    rw [e] at hp
    exact absurd hp' (h p hp)

/-! ### The chapter's example -/
def H0 : List Commit := [⟨1, []⟩, ⟨2, [1]⟩, ⟨3, [1]⟩, ⟨4, [2, 3]⟩, ⟨5, [2, 3]⟩]
theorem right0 : Right H0 := by
  intro i h
  match i, h with
  | 0, _ => exact ⟨rfl, fun k hk => by simp [H0] at hk⟩
  | 1, _ => exact ⟨rfl, fun k hk => by match k, hk with | 0, _ => simp [H0]⟩
  | 2, _ => exact ⟨rfl, fun k hk => by match k, hk with | 0, _ => simp [H0]⟩
  | 3, _ => exact ⟨rfl, fun k hk => by match k, hk with | 0, _ => simp [H0] | 1, _ => simp [H0]⟩
  | 4, _ => exact ⟨rfl, fun k hk => by match k, hk with | 0, _ => simp [H0] | 1, _ => simp [H0]⟩
theorem there0 {x : Int} (h : 1 ≤ x) (h' : x ≤ 5) : There H0 x := ⟨h, h'⟩
theorem rch01 (x : Int) : Rch H0 1 x ↔ x = 1 := by rw [rch_iff]; simp [pars, H0]; intro _; exact there0 (by omega) (by omega)
theorem rch02 (x : Int) : Rch H0 2 x ↔ x = 2 ∨ x = 1 := by rw [rch_iff, show pars H0 2 = [1] from rfl]; simp only [List.mem_singleton, exists_eq_left, rch01]; exact ⟨fun h => h.2, fun h => ⟨there0 (by omega) (by omega), h⟩⟩
theorem rch03 (x : Int) : Rch H0 3 x ↔ x = 3 ∨ x = 1 := by rw [rch_iff, show pars H0 3 = [1] from rfl]; simp only [List.mem_singleton, exists_eq_left, rch01]; exact ⟨fun h => h.2, fun h => ⟨there0 (by omega) (by omega), h⟩⟩
theorem rch04 (x : Int) : Rch H0 4 x ↔ x = 4 ∨ (x = 2 ∨ x = 1) ∨ (x = 3 ∨ x = 1) := by rw [rch_iff, show pars H0 4 = [2, 3] from rfl]; simp only [List.mem_cons, List.not_mem_nil, or_false, exists_eq_or_imp, exists_eq_left, rch02, rch03]; exact ⟨fun h => h.2, fun h => ⟨there0 (by omega) (by omega), h⟩⟩
theorem rch05 (x : Int) : Rch H0 5 x ↔ x = 5 ∨ (x = 2 ∨ x = 1) ∨ (x = 3 ∨ x = 1) := by rw [rch_iff, show pars H0 5 = [2, 3] from rfl]; simp only [List.mem_cons, List.not_mem_nil, or_false, exists_eq_or_imp, exists_eq_left, rch02, rch03]; exact ⟨fun h => h.2, fun h => ⟨there0 (by omega) (by omega), h⟩⟩
theorem near0 : NearL H0 4 5 [2, 3] := by
  refine ⟨fun _ => ⟨by simp, fun x => ?_⟩, fun k => absurd right0 k⟩
  simp only [NearP, BothP, rch04, rch05, List.mem_cons, List.not_mem_nil, or_false]
  constructor
  · rintro (rfl | rfl)
    · refine ⟨by omega, fun m hm hx => ?_⟩
      have := hx.le right0
      have h3 : m = 2 ∨ m = 3 := by omega
      rcases h3 with rfl | rfl
      · rfl
      · rw [rch03] at hx; omega
    · refine ⟨by omega, fun m hm hx => ?_⟩
      have := hx.le right0
      omega
  · rintro ⟨h, k⟩
    have h3 : x = 1 ∨ x = 2 ∨ x = 3 := by omega
    rcases h3 with rfl | h
    · have := k 2 (by omega) ((rch02 1).2 (by omega)); omega
    · exact h
theorem head0 : HeadL H0 [4, 5] := by
  refine ⟨fun _ => ⟨by simp, fun x => ?_⟩, fun k => absurd right0 k⟩
  simp only [HeadP, List.mem_cons, List.not_mem_nil, or_false]
  constructor
  · rintro (rfl | rfl)
    · exact ⟨there0 (by omega) (by omega), fun i h => by match i, h with | 0, _ => simp [H0] | 1, _ => simp [H0] | 2, _ => simp [H0] | 3, _ => simp [H0] | 4, _ => simp [H0]⟩
    · exact ⟨there0 (by omega) (by omega), fun i h => by match i, h with | 0, _ => simp [H0] | 1, _ => simp [H0] | 2, _ => simp [H0] | 3, _ => simp [H0] | 4, _ => simp [H0]⟩
  · rintro ⟨⟨h1, h2⟩, k⟩
    have h2 : x ≤ 5 := h2
    have a := k 1 (by simp [H0]); have b := k 3 (by simp [H0])
    simp [H0] at a b
    omega
theorem path0 : PathL H0 4 1 [4, 2, 1] := by
  refine ⟨fun _ => ?_, fun k => absurd ⟨right0, (rch04 1).2 (by omega)⟩ k⟩
  refine .step (p := 2) (by omega) ?_ (.step (p := 1) (by omega) ?_ .stop)
  · unfold nxt; rw [show pars H0 4 = [2, 3] from rfl, List.find?_cons_of_pos (by simpa using (rch02 1).2 (by omega))]
  · unfold nxt; rw [show pars H0 2 = [1] from rfl, List.find?_cons_of_pos (by simpa using (rch01 1).2 (by omega))]

/-! ### Made -/
def RiseP (p : Int) (ps : List Int) : Prop := ∀ k (h : k < ps.length), 1 ≤ ps[k] ∧ ps[k] < p ∧ ∀ h' : 0 < k, ps[k - 1] < ps[k]
theorem riseP_nil {p : Int} : RiseP p [] := fun k h => by simp at h
theorem riseP_skip {p : Int} {ps : List Int} (h : RiseP p ps) : RiseP (p + 1) ps := fun k hk => ⟨(h k hk).1, by have := (h k hk).2.1; omega, (h k hk).2.2⟩
theorem riseP_add {p : Int} {ps : List Int} (h : RiseP p ps) (hp : 1 ≤ p) : RiseP (p + 1) (ps ++ [p]) := fun k hk => by
  have hk' : k < ps.length + 1 := by simpa using hk
  by_cases e : k < ps.length
  · rw [List.getElem_append_left e]
    refine ⟨(h k e).1, by have := (h k e).2.1; omega, fun h' => ?_⟩
    rw [List.getElem_append_left (by omega)]
    exact (h k e).2.2 h'
  · have ek : k = ps.length := by omega
    subst ek
    rw [List.getElem_append_right (by omega)]
    simp only [Nat.sub_self, List.getElem_singleton]
    refine ⟨hp, by omega, fun h' => ?_⟩
    rw [List.getElem_append_left (by omega)]
    exact (h _ (by omega)).2.1
theorem riseP_rises {p i : Int} {ps : List Int} (h : RiseP p ps) (hp : p ≤ i + 1) : Rises i ps := fun k hk => ⟨(h k hk).1, by have := (h k hk).2.1; omega, (h k hk).2.2⟩
theorem right_nil : Right [] := fun i h => by simp at h
theorem right_add {l : List Commit} {i : Int} {ps : List Int} (h : Right l) (hi : (l.length : Int) = i) (hp : Rises i ps) : Right (l ++ [⟨i + 1, ps⟩]) := fun k hk => by
  have hk' : k < l.length + 1 := by simpa using hk
  by_cases e : k < l.length
  · simp only [List.getElem_append_left e]; exact h k e
  · have ek : k = l.length := by omega
    subst ek
    simp only [List.getElem_append_right (Nat.le_refl _), Nat.sub_self, List.getElem_singleton]
    rw [hi]; exact ⟨rfl, hp⟩

theorem tm_lt {a n : Int} (hn : 0 < n) : -n < a.tmod n ∧ a.tmod n < n := by
  have h1 := Int.tmod_lt_of_pos a hn
  have h2 := Int.tmod_lt_of_pos (-a) hn
  rw [Int.neg_tmod] at h2
  omega
theorem tm_norm {a n : Int} (hn : 0 < n) : -n < a.tmod n ∧ a.tmod n < n ∧ 0 ≤ (a.tmod n + n).tmod n ∧ (a.tmod n + n).tmod n < n := by
  have h := tm_lt (a := a) hn
  exact ⟨h.1, h.2, Int.tmod_nonneg _ (by omega), Int.tmod_lt_of_pos _ hn⟩

end Go.Proofs.Ytpgegnmaophapaa
