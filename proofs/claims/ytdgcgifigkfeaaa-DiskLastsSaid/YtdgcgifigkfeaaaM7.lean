/- Disks: walks, printed by program, and their plain law. -/
import Derived.Test.YtdgcgifigkfeaaaM6
namespace Go.Proofs.Ytdgcgifigkfeaaa
open Go Go.Wk Go.Wl Classical
theorem write_fresh {y : Dk} {a : Int} {b : Str} {k : Int} (h : (aget (y.write a b).2.fresh k).isSome = true) : (aget y.fresh k).isSome = true ∨ ((y.write a b).1 = 0 ∧ k = a) := by
  by_cases h0 : (y.act (if b.length ≠ 256 then 2 else y.wrong a)).1 = 0
  · rw [write_fine rfl h0] at h ⊢
    have h' : (aget (aput (y.act (if b.length ≠ 256 then 2 else y.wrong a)).2.fresh a b) k).isSome = true := h
    rw [aget_put, (act_lasts _).2] at h'
    by_cases e : k = a
    · exact .inr ⟨rfl, e⟩
    · rw [if_neg e] at h'; exact .inl h'
  · rw [write_err rfl h0, (act_lasts _).2] at h; exact .inl h
/-- What the laws' own list of dirty sectors knows. -/
def Knows (dm : List (Int × Bool)) (y : Dk) : Prop := ∀ k, (aget y.fresh k).isSome = true → aget dm k = some true
theorem knows_put {dm : List (Int × Bool)} {y : Dk} {a : Int} {b : Str} (h : Knows dm y) : Knows (aput dm a true) (y.write a b).2 := fun k hk => by
  rw [aget_put]
  by_cases e : k = a
  · rw [if_pos e]
  · rw [if_neg e]
    rcases write_fresh hk with h' | ⟨_, e'⟩
    · exact h k h'
    · exact absurd e' e
theorem knows_err {dm : List (Int × Bool)} {y : Dk} {a : Int} {b : Str} (h : Knows dm y) (hw : ¬ (y.write a b).1 = 0) : Knows dm (y.write a b).2 := fun k hk => by
  rcases write_fresh hk with h' | ⟨e, _⟩
  · exact h k h'
  · exact absurd e hw
theorem knows_new {x : Dk} (ok : x.Ok) (h : x.flush.1 = 0) : Knows [] x.flush.2 := fun k hk => by
  have ha : (x.act 0).1 = 0 := by
    by_cases e : (x.act 0).1 = 0
    · exact e
    · rw [flush_err e] at h; exact absurd h e
  rw [(flush_eq ok ha).2.2.2.1] at hk
  cases hk
theorem lasts_read {dm : List (Int × Bool)} {x y : Dk} (okx : x.Ok) (oky : y.Ok) (e : y.lasts = x.lasts) (hk : Knows dm y) {t c i : Int} {kept : List Int} (h0 : 0 ≤ i) (h1 : i < x.lasts.length) :
    ((x.crash (-1) 0 []).read i).2 = 0 ∧ ((y.crash t c kept).read i).2 = 0 ∧ ((aget dm i).getD false = false → ((x.crash (-1) 0 []).read i).1 = ((y.crash t c kept).read i).1) := by
  have h1' : i < y.lasts.length := by rw [e]; exact h1
  rw [crash_read okx _ _ _ h0 h1, crash_read oky _ _ _ h0 h1', crash_none okx h0 h1]
  refine ⟨rfl, rfl, fun hd => ?_⟩
  have hn : aget y.fresh i = none := by
    cases hs : aget y.fresh i with
    | none => rfl
    | some s => rw [hk i (by rw [hs]; rfl)] at hd; cases hd
  show ix x.lasts i = _
  rw [crash_clean oky t c kept h0 h1' hn, e]

end Go.Proofs.Ytdgcgifigkfeaaa
