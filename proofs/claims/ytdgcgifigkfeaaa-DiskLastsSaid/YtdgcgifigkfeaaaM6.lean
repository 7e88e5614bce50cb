/- Disks: walks, printed by program, and their plain law. -/
import Derived.Test.YtdgcgifigkfeaaaX
namespace Go.Proofs.Ytdgcgifigkfeaaa
open Go Go.Wk Go.Wl Classical
section
variable {x : Dk}
theorem act_go (hl : x.left = -1) (ho : x.off = false) : x.act 0 = (0, x) := by simp [Dk.act, hl, ho]
theorem write_go {a : Int} {b : Str} (hl : x.left = -1) (ho : x.off = false) (h0 : 0 ≤ a) (h1 : a < x.lasts.length) (hb : b.length = 256) : x.write a b = (0, { x with fresh := aput x.fresh a b }) := by
  have hw : x.wrong a = 0 := by rw [Dk.wrong, if_neg (by omega)]
  have := write_fine (x := x) (a := a) (b := b) (wr := 0) (by rw [if_neg (by omega), hw]) (by rw [act_go hl ho])
  rw [this, act_go hl ho]
theorem flush_go (ok : x.Ok) (hl : x.left = -1) (ho : x.off = false) : x.flush.1 = 0 ∧ x.flush.2.lasts.length = x.lasts.length ∧ (∀ i : Int, 0 ≤ i → i < x.lasts.length → ix x.flush.2.lasts i = (aget x.fresh i).getD (ix x.lasts i)) ∧ x.flush.2.fresh = [] ∧ x.flush.2.left = -1 ∧ x.flush.2.off = false := by
  have h := flush_eq ok (by rw [act_go hl ho])
  rw [act_go hl ho] at h
  exact ⟨h.1, h.2.1, h.2.2.1, h.2.2.2.1, h.2.2.2.2.1.trans hl, h.2.2.2.2.2.trans ho⟩
theorem flush_off (h : x.flush.1 ≠ 0) : x.flush.2.off = true := by
  have ha : (x.act 0).1 ≠ 0 := fun e => h (by simp only [Dk.flush]; rw [if_pos e])
  rw [flush_err ha]
  revert ha
  simp only [Dk.act]
  rw [if_neg (by decide), if_neg (by decide), if_neg (by decide)]
  repeat' split
  all_goals simp_all
theorem flush_len (ok : x.Ok) : x.flush.2.lasts.length = x.lasts.length := by
  by_cases h : (x.act 0).1 = 0
  · exact (flush_eq ok h).2.1
  · rw [flush_err h, (act_lasts 0).1]
theorem write_len (a : Int) (b : Str) : (x.write a b).2.lasts = x.lasts := by
  by_cases h : (x.act (if b.length ≠ 256 then 2 else x.wrong a)).1 = 0
  · rw [write_fine rfl h]; exact (act_lasts _).1
  · rw [write_err rfl h]; exact (act_lasts _).1
theorem keepStep_len {fr : List (Int × Str)} {l : List Str} {k : Int} : (keepStep fr l k).length = l.length := by
  unfold keepStep; split
  · exact List.length_set
  · rfl
theorem keep_ix {fr : List (Int × Str)} (hf : ∀ j s, aget fr j = some s → 0 ≤ j) : ∀ (kept : List Int) (l : List Str) {i : Int}, 0 ≤ i → i < l.length → ix (kept.foldl (keepStep fr) l) i = if i ∈ kept then (aget fr i).getD (ix l i) else ix l i
  | [], l, i, _, _ => by rw [if_neg (by simp)]; rfl
  | k :: r, l, i, h0, h1 => by
    show ix (r.foldl (keepStep fr) (keepStep fr l k)) i = _
    rw [keep_ix hf r _ h0 (by rw [keepStep_len]; exact h1)]
    have e : ix (keepStep fr l k) i = if k = i then (aget fr i).getD (ix l i) else ix l i := by
      unfold keepStep
      split
      · rename_i s hs
        rw [ix_set (hf k s hs) h0 h1]
        by_cases e : k = i
        · subst e; rw [if_pos rfl, if_pos rfl, hs]; rfl
        · rw [if_neg e, if_neg e]
      · rename_i hs
        by_cases e : k = i
        · subst e; rw [if_pos rfl, hs]; rfl
        · rw [if_neg e]
    rw [e]
    by_cases ek : k = i
    · subst ek; rw [if_pos rfl, if_pos (by simp : k ∈ k :: r)]
      cases aget fr k with
      | none => simp
      | some s => simp
    · rw [if_neg ek]
      by_cases er : i ∈ r
      · rw [if_pos er, if_pos (by simp [er])]
      · rw [if_neg er, if_neg (by simp [er]; exact fun e => ek e.symm)]
theorem crash_len (ok : x.Ok) (t c : Int) (k : List Int) : (x.crash t c k).lasts.length = x.lasts.length := by
  have h := torn_len ok t c
  exact (keep_len (fun j s hs => (aget_flen ok hs).1) k _ h.2).1.trans h.1
theorem crash_read (ok : x.Ok) (t c : Int) (k : List Int) {i : Int} (h0 : 0 ≤ i) (h1 : i < x.lasts.length) : (x.crash t c k).read i = (ix (x.crash t c k).lasts i, 0) := by
  have hl := crash_len ok t c k
  have hw : (x.crash t c k).wrong i = 0 := by rw [Dk.wrong, if_neg (by omega)]
  rw [Dk.read, if_neg (by rw [hw]; decide)]; rfl
theorem torn_ix (ok : x.Ok) (t c : Int) {i : Int} (h0 : 0 ≤ i) (h1 : i < x.lasts.length) (hn : aget x.fresh i = none) : ix (x.torn t c) i = ix x.lasts i := by
  unfold Dk.torn
  split
  · rename_i s hs
    rw [ix_set (aget_flen ok hs).2.1 h0 h1, if_neg (fun e => by rw [← e, hs] at hn; cases hn)]
  · rfl
/-- A sector that is not dirty is kept by every crash. -/
theorem crash_clean (ok : x.Ok) (t c : Int) (k : List Int) {i : Int} (h0 : 0 ≤ i) (h1 : i < x.lasts.length) (hn : aget x.fresh i = none) : ix (x.crash t c k).lasts i = ix x.lasts i := by
  show ix (k.foldl (keepStep x.fresh) (x.torn t c)) i = _
  rw [keep_ix (fun j s hs => (aget_flen ok hs).2.1) k _ h0 (by rw [(torn_len ok t c).1]; exact h1), hn, torn_ix ok t c h0 h1 hn]
  split <;> rfl
theorem torn_m1 (ok : x.Ok) (c : Int) : x.torn (-1) c = x.lasts := by
  unfold Dk.torn
  split
  · rename_i s hs; have := (aget_flen ok hs).2.1; omega
  · rfl
/-- A crash that keeps all dirty sectors. -/
theorem crash_all (ok : x.Ok) {i : Int} (h0 : 0 ≤ i) (h1 : i < x.lasts.length) : ix (x.crash (-1) 0 x.dirty).lasts i = (aget x.fresh i).getD (ix x.lasts i) := by
  show ix (x.dirty.foldl (keepStep x.fresh) (x.torn (-1) 0)) i = _
  rw [torn_m1 ok, keep_ix (fun j s hs => (aget_flen ok hs).2.1) _ _ h0 h1]
  by_cases h : i ∈ x.dirty
  · rw [if_pos h]
  · rw [if_neg h]
    cases hs : aget x.fresh i with
    | none => rfl
    | some s => exact absurd (dirty_mem.2 (by rw [hs]; rfl)) h
theorem crash_none (ok : x.Ok) {i : Int} (h0 : 0 ≤ i) (h1 : i < x.lasts.length) : ix (x.crash (-1) 0 []).lasts i = ix x.lasts i := by
  show ix (x.torn (-1) 0) i = _
  rw [torn_m1 ok]
theorem crash_dirty (t c : Int) (k : List Int) : (x.crash t c k).dirty = [] := by
  show srt [] = []; simp [srt]
theorem read_all (ok : x.Ok) {i : Int} (h0 : 0 ≤ i) (h1 : i < x.lasts.length) : ((x.crash (-1) 0 x.dirty).read i).2 = 0 ∧ ((x.read i).2 = 0 → (x.read i).1 = ((x.crash (-1) 0 x.dirty).read i).1) ∧ ((x.read i).2 ≠ 0 → x.off = true) := by
  rw [crash_read ok (-1) 0 _ h0 h1, crash_all ok h0 h1]
  have hw : x.wrong i = 0 := by rw [Dk.wrong, if_neg (by omega)]
  unfold Dk.read
  rw [if_neg (by rw [hw]; decide)]
  by_cases ho : x.off = true
  · rw [if_pos ho]; exact ⟨rfl, fun h => absurd h (show (9 : Int) ≠ 0 by decide), fun _ => ho⟩
  · rw [if_neg ho]; exact ⟨rfl, fun _ => rfl, fun h => (h rfl).elim⟩
end
/-! ### A torn sector -/
theorem ofs_same (c : UInt8) : ofs c c = List.replicate 256 c := by
  show List.replicate 255 c ++ [c] = List.replicate (255 + 1) c
  exact List.replicate_succ'.symm
def tn1 (a : UInt8) : Dk := ((Dk.new 2).write 1 (ofs a a)).2
def tn2 (a b : UInt8) : Dk := ((tn1 a).flush.2.write 1 (ofs b b)).2
theorem tn1_eq (a : UInt8) : (Dk.new 2).write 1 (ofs a a) = (0, { Dk.new 2 with fresh := aput (Dk.new 2).fresh 1 (ofs a a) }) := write_go rfl rfl (by decide) (by decide) (ofs_len a a)
theorem tn1_Ok (a : UInt8) : (tn1 a).Ok := write_Ok (new_Ok (by decide) (by decide)) _ _
theorem tn1_f (a : UInt8) : (tn1 a).flush.1 = 0 ∧ (tn1 a).flush.2.lasts.length = 2 ∧ ix (tn1 a).flush.2.lasts 1 = ofs a a ∧ (tn1 a).flush.2.fresh = [] ∧ (tn1 a).flush.2.left = -1 ∧ (tn1 a).flush.2.off = false := by
  have e : tn1 a = { Dk.new 2 with fresh := aput (Dk.new 2).fresh 1 (ofs a a) } := by rw [tn1, tn1_eq]
  have hl : (tn1 a).lasts.length = 2 := by rw [e]; rfl
  have h := flush_go (tn1_Ok a) (by rw [e]; rfl) (by rw [e]; rfl)
  refine ⟨h.1, h.2.1.trans hl, ?_, h.2.2.2.1, h.2.2.2.2.1, h.2.2.2.2.2⟩
  rw [h.2.2.1 1 (by decide) (by rw [hl]; decide), e]
  show (aget (aput [] 1 (ofs a a)) 1).getD _ = _
  rw [aget_put, if_pos rfl]; rfl
theorem tn2_eq (a b : UInt8) : (tn1 a).flush.2.write 1 (ofs b b) = (0, { (tn1 a).flush.2 with fresh := aput (tn1 a).flush.2.fresh 1 (ofs b b) }) :=
  write_go (tn1_f a).2.2.2.2.1 (tn1_f a).2.2.2.2.2 (by decide) (by rw [(tn1_f a).2.1]; decide) (ofs_len b b)
theorem tn2_Ok (a b : UInt8) : (tn2 a b).Ok := write_Ok (flush_Ok (tn1_Ok a)) _ _
theorem tn1_zero (a : UInt8) : ((Dk.new 2).write 1 (ofs a a)).1 = 0 := congrArg Prod.fst (tn1_eq a)
theorem tn2_zero (a b : UInt8) : ((tn1 a).flush.2.write 1 (ofs b b)).1 = 0 := congrArg Prod.fst (tn2_eq a b)
theorem tn2_eq2 (a b : UInt8) : tn2 a b = { (tn1 a).flush.2 with fresh := aput (tn1 a).flush.2.fresh 1 (ofs b b) } := congrArg Prod.snd (tn2_eq a b)
theorem tn2_lasts (a b : UInt8) : (tn2 a b).lasts = (tn1 a).flush.2.lasts := by rw [tn2_eq2]
theorem tn2_fresh (a b : UInt8) : (tn2 a b).fresh = aput (tn1 a).flush.2.fresh 1 (ofs b b) := by rw [tn2_eq2]
def tnS (a b : UInt8) (c : Int) : Str := List.replicate (max 0 (min c 256)).toNat b ++ List.replicate (256 - (max 0 (min c 256)).toNat) a
theorem torn_at {x : Dk} (ok : x.Ok) {t c : Int} {s : Str} (h : aget x.fresh t = some s) (h1 : t < x.lasts.length) : ix (x.torn t c) t = s.take (max 0 (min c 256)).toNat ++ (ix x.lasts t).drop (max 0 (min c 256)).toNat := by
  have h0 := (aget_flen ok h).2.1
  unfold Dk.torn
  rw [h]
  show ix (x.lasts.set t.toNat _) t = _
  rw [ix_set h0 h0 h1, if_pos rfl]
theorem torn_read {x : Dk} {a b : UInt8} {c : Int} (ok : x.Ok) (h1 : (1 : Int) < (x.lasts.length : Nat)) (ef : aget x.fresh 1 = some (ofs b b)) (el : ix x.lasts 1 = ofs a a) : (x.crash 1 c []).read 1 = (tnS a b c, 0) := by
  have hr := crash_read ok 1 c [] (i := 1) (show (0 : Int) ≤ 1 by decide) h1
  have e1 : ix (x.crash 1 c []).lasts 1 = ix (x.torn 1 c) 1 := rfl
  have e2 := torn_at (c := c) ok ef h1
  rw [el, ofs_same, ofs_same, List.take_replicate, List.drop_replicate, show min (max 0 (min c 256)).toNat 256 = (max 0 (min c 256)).toNat from by omega] at e2
  rw [hr, e1, e2, tnS]
theorem tn2_read (a b : UInt8) (c : Int) : ((tn2 a b).crash 1 c []).read 1 = (tnS a b c, 0) := by
  have hl : (tn2 a b).lasts.length = 2 := (congrArg List.length (tn2_lasts a b)).trans (tn1_f a).2.1
  have h1 : (1 : Int) < ((tn2 a b).lasts.length : Nat) := by rw [hl]; decide
  have ef : aget (tn2 a b).fresh 1 = some (ofs b b) := by rw [tn2_fresh, aget_put, if_pos rfl]
  have el : ix (tn2 a b).lasts 1 = ofs a a := (congrArg (fun l => ix l 1) (tn2_lasts a b)).trans (tn1_f a).2.2.1
  have ok := tn2_Ok a b
  generalize tn2 a b = x at hl h1 ef el ok ⊢
  exact torn_read ok h1 ef el
theorem tnS_len (a b : UInt8) (c : Int) : (tnS a b c).length = 256 := by
  unfold tnS; rw [List.length_append, List.length_replicate, List.length_replicate]; omega
theorem tnS_ix (a b : UInt8) (c : Int) {i : Int} (h0 : 0 ≤ i) (h1 : i < 256) : ix (tnS a b c) i = if i < c then b else a := by
  rw [ix_get (by rw [tnS_len]; omega)]
  unfold tnS
  by_cases h : i < c
  · rw [if_pos h, List.getElem_append_left (by rw [List.length_replicate]; omega), List.getElem_replicate]
  · rw [if_neg h, List.getElem_append_right (by rw [List.length_replicate]; omega), List.getElem_replicate]

end Go.Proofs.Ytdgcgifigkfeaaa
