/- The walks of a history's functions, printed by program. -/
import Derived.Test.YtpgegnmaophapaaT2
namespace Go.Proofs.Ytpgegnmaophapaa
open Go.Wk Classical
/-! ### A chain -/
def chainL (k : Nat) : List Commit := (List.range k).map fun (j : Nat) => ⟨(j : Int) + 1, if j = 0 then [] else [(j : Int)]⟩
theorem chainL_succ (k : Nat) : chainL (k + 1) = chainL k ++ [⟨(k : Int) + 1, if k = 0 then [] else [(k : Int)]⟩] := by
  unfold chainL; rw [List.range_succ, List.map_append]; rfl
theorem chainL_len (k : Nat) : (chainL k).length = k := by unfold chainL; simp
theorem chainL_get (k i : Nat) (h : i < (chainL k).length) : (chainL k)[i] = ⟨(i : Int) + 1, if i = 0 then [] else [(i : Int)]⟩ := by
  rw [List.getElem_eq_iff]
  unfold chainL
  rw [List.getElem?_map, List.getElem?_range (by rw [chainL_len] at h; exact h)]
  rfl
theorem chain_step1 {ls : List Commit} {i : Int} (h : ls = chainL (i - 1).toNat) (h1 : 1 ≤ i) (hi : ¬ 1 < i) : ls ++ [⟨i, []⟩] = chainL (i + 1 - 1).toNat := by
  have : i = 1 := by omega
  subst this
  rw [h]; rfl
theorem chain_step2 {ls : List Commit} {i : Int} (h : ls = chainL (i - 1).toNat) (hi : 1 < i) : ls ++ [⟨i, [i - 1]⟩] = chainL (i + 1 - 1).toNat := by
  have e : (i + 1 - 1).toNat = (i - 1).toNat + 1 := by omega
  rw [h, e, chainL_succ, if_neg (by omega)]
  have e1 : ((i - 1).toNat : Int) = i - 1 := by omega
  rw [e1]
  congr 2
  rw [show i - 1 + 1 = i by omega]
section
variable {l : List Commit} {n : Int}
theorem chn_len (h : l = chainL n.toNat) (h0 : 0 ≤ n) : (l.length : Int) = n := by rw [h, chainL_len]; omega
theorem chn_right (h : l = chainL n.toNat) : Right l := by
  intro i hi
  subst h
  rw [chainL_get]
  refine ⟨rfl, fun k hk => ?_⟩
  by_cases e : i = 0
  · simp [e] at hk
  · simp only [e, if_false, List.length_singleton] at hk ⊢
    have : k = 0 := by omega
    subst this
    simp only [List.getElem_singleton]
    exact ⟨by omega, by omega, fun h' => by omega⟩
theorem chn_pars (h : l = chainL n.toNat) {a : Int} (ta : There l a) : pars l a = if a = 1 then [] else [a - 1] := by
  have hi : (a - 1).toNat < l.length := by obtain ⟨h1, h2⟩ := ta; omega
  rw [pars_get ta hi]
  subst h
  rw [chainL_get]
  obtain ⟨h1, h2⟩ := ta
  by_cases e : a = 1
  · subst e; rfl
  · rw [if_neg (by omega), if_neg e]
    have : (((a - 1).toNat : Nat) : Int) = a - 1 := by omega
    rw [this]
theorem chn_down (h : l = chainL n.toNat) : ∀ (k : Nat) (a b : Int), a - b = k → There l a → 1 ≤ b → Rch l a b := by
  intro k
  induction k with
  | zero => intro a b hk ta hb; have : a = b := by omega
            subst this; exact rch_self ta
  | succ k ih =>
    intro a b hk ta hb
    refine .step (p := a - 1) ta ?_ (ih (a - 1) b (by omega) ⟨by omega, by have := ta.2; omega⟩ hb)
    rw [chn_pars h ta, if_neg (by omega)]; simp
theorem chn_rch (h : l = chainL n.toNat) {a b : Int} (ta : There l a) : Rch l a b ↔ 1 ≤ b ∧ b ≤ a :=
  ⟨fun hr => ⟨hr.there.2.1, hr.le (chn_right h)⟩, fun ⟨h1, h2⟩ => chn_down h (a - b).toNat a b (by omega) ta h1⟩
theorem chn_near (h : l = chainL n.toNat) {a b : Int} (ta : There l a) (tb : There l b) : NearL l a b [min a b] := by
  have hr := chn_right h
  by_cases e : b ≤ a
  · rw [Int.min_eq_right e]; exact near_reach ⟨hr, (chn_rch h ta).2 ⟨tb.1, e⟩⟩
  · rw [Int.min_eq_left (by omega)]; exact nearL_comm (near_reach ⟨hr, (chn_rch h tb).2 ⟨ta.1, by omega⟩⟩)
theorem chn_head (h : l = chainL n.toNat) (h1 : 1 ≤ n) : HeadL l [n] := by
  have hr := chn_right h
  have hlen := chn_len h (by omega)
  refine ⟨fun _ => ⟨by simp, fun x => ?_⟩, fun k => absurd hr k⟩
  rw [List.mem_singleton]
  have hmem : ∀ i (hi : i < l.length), x ∈ l[i].Parents ↔ (x = i ∧ i ≠ 0) := by
    intro i hi
    subst h
    rw [chainL_get]
    by_cases e : i = 0
    · simp [e]
    · simp [e]
  constructor
  · rintro rfl
    exact ⟨⟨by omega, by omega⟩, fun i hi hx => by have := (hmem i hi).1 hx; omega⟩
  · rintro ⟨⟨t1, t2⟩, k⟩
    refine Classical.byContradiction fun hne => k x.toNat (by omega) ((hmem _ (by omega)).2 ⟨by omega, by omega⟩)
theorem chn_anc (h : l = chainL n.toNat) {a i : Int} {xs : List Int} (ta : There l a) (hx : RiseOf xs fun x => 1 ≤ x ∧ x < i) (hi : i = a + 1) : AncL l [a] xs := by
  refine ⟨fun _ => hx.congr fun x => ?_, fun k => absurd (chn_right h) k⟩
  simp only [List.mem_singleton, exists_eq_left, chn_rch h ta]
  omega
def Down (hi i : Int) (ws : List Int) : Prop := ws = (List.range (hi - i).toNat).map fun (k : Nat) => hi - (k : Int)
theorem down_zero {hi : Int} : Down hi hi [] := by unfold Down; simp
theorem down_step {hi i : Int} {ws : List Int} (h : Down hi i ws) (hi' : i ≤ hi) : Down hi (i - 1) (ws ++ [i]) := by
  unfold Down at h ⊢
  have e : (hi - (i - 1)).toNat = (hi - i).toNat + 1 := by omega
  rw [e, List.range_succ, List.map_append, h]
  have e1 : hi - ((hi - i).toNat : Int) = i := by omega
  simp only [List.map_cons, List.map_nil]
  rw [e1]
theorem way_down (h : l = chainL n.toNat) (lo : Int) : ∀ (k : Nat), There l (lo + k) → 1 ≤ lo → Way l lo (lo + k) ((List.range (k + 1)).map fun (j : Nat) => lo + k - (j : Int)) := by
  intro k
  induction k with
  | zero => intro _ _; simp; exact .stop
  | succ k ih =>
    intro ta hlo
    have tb : There l (lo + k) := ⟨by omega, by have := ta.2; omega⟩
    have hw := ih tb hlo
    rw [List.range_succ_eq_map, List.map_cons, List.map_map]
    have e0 : lo + ((k + 1 : Nat) : Int) - ((0 : Nat) : Int) = lo + ((k + 1 : Nat) : Int) := by omega
    rw [e0]
    refine .step (p := lo + k) (by omega) ?_ ?_
    · unfold nxt
      rw [chn_pars h ta, if_neg (by omega), show lo + ((k + 1 : Nat) : Int) - 1 = lo + k by omega, List.find?_cons_of_pos]
      simpa using (chn_rch h tb).2 ⟨hlo, by omega⟩
    · have : (fun j : Nat => lo + ((k + 1 : Nat) : Int) - (j : Int)) ∘ Nat.succ = fun j : Nat => lo + k - (j : Int) := by
        funext j; simp only [Function.comp]; omega
      rw [this]; exact hw
theorem chn_way (h : l = chainL n.toNat) {hi lo i : Int} {ws : List Int} (th : There l hi) (hlo : 1 ≤ lo) (hle : lo ≤ hi) (hd : Down hi i ws) (e : i = lo - 1) : PathL l hi lo ws := by
  refine ⟨fun _ => ?_, fun k => absurd ⟨chn_right h, (chn_rch h th).2 ⟨hlo, hle⟩⟩ k⟩
  have := way_down h lo (hi - lo).toNat (by rw [show lo + ((hi - lo).toNat : Int) = hi by omega]; exact th) hlo
  rw [show lo + ((hi - lo).toNat : Int) = hi by omega] at this
  unfold Down at hd
  rw [hd, show (hi - i).toNat = (hi - lo).toNat + 1 by omega]
  exact this
theorem chn_reaches (h : l = chainL n.toNat) {a b : Int} (ta : There l a) (tb : There l b) : decide (Right l ∧ Rch l a b) = decide (b ≤ a) := by
  rw [decide_eq_decide, chn_rch h ta]
  exact ⟨fun k => k.2.2, fun k => ⟨chn_right h, tb.1, k⟩⟩
end
theorem all_step {zs : List Int} {i : Int} (h : RiseOf zs fun x => 1 ≤ x ∧ x < i) (hi : 1 ≤ i) : RiseOf (zs ++ [i]) fun x => 1 ≤ x ∧ x < i + 1 :=
  rise_add h (fun x hx => hx.2) (fun x => by constructor <;> intro h <;> omega)
theorem all_zero : RiseOf [] fun x => (1 : Int) ≤ x ∧ x < 1 := ⟨by simp, fun x => ⟨fun h => by simp at h, fun h => by omega⟩⟩

end Go.Proofs.Ytpgegnmaophapaa
