/- 51 texts, one behind the other. -/
import Derived.Test.YtadgfmmmdhlljaaDoorH5
import Derived.Test.YtadgfmmmdhlljaaDoorHEt
import Derived.Laws.RangeString
import Derived.Laws.Runes
import Derived.WalkMore
import Derived.Deep.QuietTactic
import Derived.BigQuiet
import Derived.Laws.RangeAny
import Derived.Deep.LoopGhost
import Derived.Test.YtadgfmmmdhlljaaDoorH3
import Derived.Laws.IdiomStrings
import Derived.Lib.Bytealg
import Derived.Lib.Join
import Derived.Lib.MakeNoZero
import Derived.Laws.CopyOwn
import Derived.Shelf.Strings.Builder2
set_option linter.unusedVariables false
set_option linter.unusedSimpArgs false
section
namespace Go.Proofs.YtadgfmmmdhlljaaDoor
open Go Go.Wk Go.Wl Go.Rx Go.Fo Go.Li Go.Proofs
theorem sim_turn {w w1 w2 : World} {F F' : List Nat} (hs : Sim w w1) (h : Turn w1 w2 F F') : Turn w w2 F F' := by
  obtain ⟨k, rfl⟩ := hs
  exact ⟨⟨h.1.os, h.1.tape, h.1.output, h.1.size, h.1.block⟩, h.2⟩
end Go.Proofs.YtadgfmmmdhlljaaDoor
end
section
namespace Go.Proofs.YtadgfmmmdhlljaaDoor
open Go Go.Wk Go.Wl Go.Rx Go.Fo Go.Li Go.Proofs Go.RowKit Go.Extern.Stop Go.Stop Go.Extern
end Go.Proofs.YtadgfmmmdhlljaaDoor
end
section
namespace Go.Proofs.YtadgfmmmdhlljaaDoor
open Go Go.Wk Go.Wl Go.Rx Go.Fo Go.Proofs Go.RowKit
theorem ib_none {l : List UInt8} {c : UInt8} (h : ∀ b ∈ l, b ≠ c) : Lib.indexByte l c = -1 := by
  induction l with
  | nil => rfl
  | cons a r ih =>
    unfold Lib.indexByte
    rw [if_neg (by simpa using h a (by simp)), ih (fun b hb => h b (by simp [hb]))]
    rfl
set_option maxRecDepth 100000 in
set_option maxHeartbeats 4000000 in
theorem ir_valid (t : ByteArray) (ht : ∀ b ∈ t.data.toList, b.toNat < 128) (hts : t.size ≤ 1000) (r : Int) (hr : 128 ≤ r) (h1 : ¬ r = 65533) (hv : Utf8.valid r = true) (w : World) :
    Calls Tryd.prog 124 #[.string t, .int .i32 r] w fun e w' => e = .returned (.int .i64 (-1)) ∧ ∃ k, w' = { w with drawn := k } := by
  have n1 : ¬ (r < 128) := by omega
  have n0 : 0 ≤ r := by omega
  have hv2 : Lib.validRune r = true := by rw [← hv]; exact (Go.validRune_eq r).symm
  obtain ⟨e2, e4, el⟩ := encode_facts r hv hr
  have hcv : ∀ w, (convert 21 9 (.int .i32 r)).run Tryd.prog w = .ok (.string (Utf8.encode r)) w := fun w => run_convert_int_string w 21 9 .i32 r (by rw [Tryd.underlying21]; rfl) Tryd.underlying9
  generalize Utf8.encode r = rs at e2 e4 el hcv
  by_cases hlt : rs.size - 1 < t.size
  · have hz1 : ((rs.size : Int) - 1) = ((rs.size - 1 : Nat) : Int) := by omega
    have hlt2 : rs.size - 1 < rs.size := by omega
    have hne : ¬ (((t[rs.size - 1]'hlt).toNat : Int) = ((rs[rs.size - 1]'hlt2).toNat : Int)) := fun e => by
      have h1 := ht (t[rs.size - 1]'hlt) (by exact Array.getElem_mem_toList (xs := t.data) hlt)
      have h2 := el hlt2
      omega
    go_enter Tryd.func124, Tryd.ntmps124
    go_wp2_with (go_at_call 139; refine (Tryd.utf8_ValidRune _ _).mono ?_; rintro e w' ⟨rfl, hw⟩; subst hw; rw [hv2])
    go_step3
    go_wp2
    refine wp_loop_rounds 1 ?_
    rw [rounds_succ]
    go_wp2
    go_step3
    go_wp2
    go_region
    go_wp2
    have hz2 : ((rs.size - 1 : Nat) : Int) + 1 = ((rs.size : Nat) : Int) := by omega
    have hix : Lib.indexByte (List.take (t.size - rs.size) (List.drop rs.size t.data.toList)) (rs[rs.size - 1]'hlt2) = -1 := by
      refine ib_none (fun b hb => ?_)
      have h1 := ht b (List.mem_of_mem_drop (List.mem_of_mem_take hb))
      have h2 := el hlt2
      intro e
      rw [e] at h1
      omega
    have hb1 : (((rs.size - 1 : Nat) : Int) + 1 ≤ (t.size : Int)) := by omega
    have hb2 : rs.size - 1 + 1 ≤ t.size := by omega
    have hb3 : rs.size ≤ t.size := by omega
    have hb4 : (rs.size : Int) ≤ (t.size : Int) := by omega
    have hwr : IntKind.i64.wrap (rs.size : Int) = (rs.size : Int) := wrap_small _ (by omega) (by omega)
    go_region_with (first | (go_at_call 134; refine (Tryd.strings_IndexByte _ _ _).mono ?_; rintro e w' ⟨rfl, hw⟩; rw [hw]))
    subst hw
    go_wp2
    rw [Exit.noGoto_ret]
    go_wp2
    rw [Exit.noGoto_ret]
    go_ret
    exact ⟨rfl, _, rfl⟩
  · have hc : ¬ ((rs.size : Int) - 1 < (t.size : Int)) := by omega
    go_enter Tryd.func124, Tryd.ntmps124
    go_wp2_with (go_at_call 139; refine (Tryd.utf8_ValidRune _ _).mono ?_; rintro e w' ⟨rfl, hw⟩; subst hw; rw [hv2])
    go_step3
    go_wp2
    refine wp_loop_rounds 1 ?_
    rw [rounds_succ]
    go_wp2
    rw [Exit.noGoto_ret]
    go_ret
    exact ⟨rfl, _, rfl⟩
end Go.Proofs.YtadgfmmmdhlljaaDoor
end
section
namespace Go.Proofs.YtadgfmmmdhlljaaDoor
open Go Go.Wk Go.Wl Go.Rx Go.Fo Go.Proofs Go.RowKit
theorem Ext.iter (w : World) (s : ByteArray) (p : Nat) : Ext [] w (w.iter s p) := ⟨rfl, rfl, rfl, by show _ ≤ (w.heap.push _).size; rw [Array.size_push]; omega, fun b hb _ => by
  show (w.heap.push _)[b]? = _
  rw [Array.getElem?_push, if_neg (by omega)]⟩
set_option maxRecDepth 100000 in
set_option maxHeartbeats 4000000 in
theorem ir_err (t : ByteArray) (ht : ∀ b ∈ t.data.toList, b.toNat < 128) (w : World) :
    Calls Tryd.prog 124 #[.string t, .int .i32 65533] w fun e w' => e = .returned (.int .i64 (-1)) ∧ Ext [] w w' := by
  have HA : Aside (∀ b ∈ t.data.toList, b.toNat < 128) := ht
  clear ht
  go_enter Tryd.func124, Tryd.ntmps124
  go_wp2
  go_loopg [5, 6] t.size (fun g _ _ wx => ∃ i : Nat, i + g = t.size ∧ wx = w.iter t i)
  case atStart => exact ⟨0, by omega, rfl⟩
  case round =>
    obtain ⟨i, hig, rfl⟩ := hrel
    cases gk with
    | zero =>
      obtain rfl : i = t.size := by omega
      have hnx := run_next_end (P := Tryd.prog) w t t.size
      go_wp2
      go_ret
      exact ⟨rfl, Ext.iter _ _ _⟩
    | succ g =>
      have hi : i < t.size := by omega
      have hx128 : (t[i]'hi).toNat < 128 := HA.out _ (by exact Array.getElem_mem_toList (xs := t.data) hi)
      have hnx := fun ty => run_next_ascii (P := Tryd.prog) w t i ty hi hx128
      generalize (t[i]'hi).toNat = x at hx128 hnx
      have hne : ¬ ((x : Int) = 65533) := by omega
      go_wp2
      go_roundg g
      case measure => omega
      case rel => exact ⟨i + 1, by omega, rfl⟩
set_option maxRecDepth 100000 in
set_option maxHeartbeats 4000000 in
theorem ir_inv (t : ByteArray) (r : Int) (hr : 128 ≤ r) (h1 : ¬ r = 65533) (hv : Utf8.valid r = false) (w : World) :
    Calls Tryd.prog 124 #[.string t, .int .i32 r] w fun e w' => e = .returned (.int .i64 (-1)) ∧ ∃ k, w' = { w with drawn := k } := by
  have n1 : ¬ (r < 128) := by omega
  have n0 : 0 ≤ r := by omega
  have hv2 : Lib.validRune r = false := by rw [← hv]; exact (Go.validRune_eq r).symm
  go_enter Tryd.func124, Tryd.ntmps124
  go_wp2_with (go_at_call 139; refine (Tryd.utf8_ValidRune _ _).mono ?_; rintro e w' ⟨rfl, hw⟩; subst hw; rw [hv2])
  go_ret
  exact ⟨rfl, _, rfl⟩
theorem Ext.drawn (w : World) (k : Nat) : Ext [] w { w with drawn := k } := ⟨rfl, rfl, rfl, Nat.le_refl _, fun _ _ _ => rfl⟩
theorem ir_any (t : ByteArray) (ht : ∀ b ∈ t.data.toList, b.toNat < 128) (hts : t.size ≤ 1000) (r : Int) (hr : 128 ≤ r) (w : World) :
    Calls Tryd.prog 124 #[.string t, .int .i32 r] w fun e w' => e = .returned (.int .i64 (-1)) ∧ Ext [] w w' := by
  by_cases h1 : r = 65533
  · subst h1; exact ir_err t ht w
  · cases hv : Utf8.valid r
    · exact (ir_inv t r hr h1 hv w).mono fun e w' ⟨h, k, hk⟩ => ⟨h, by subst hk; exact Ext.drawn _ _⟩
    · exact (ir_valid t ht hts r hr h1 hv w).mono fun e w' ⟨h, k, hk⟩ => ⟨h, by subst hk; exact Ext.drawn _ _⟩
end Go.Proofs.YtadgfmmmdhlljaaDoor
end
section
namespace Go.Proofs.YtadgfmmmdhlljaaDoor
open Go Go.Wk Go.Wl Go.Rx Go.Fo Go.Proofs Go.RowKit
theorem next_any {P : Program} (wx : World) (p : Nat) (s : ByteArray) (pos : Nat) (ty : TypeId) (hp : wx.heap[p]? = some (.stringIter s pos)) (h : pos < s.size) :
    (Instr.next (.pointer (some ⟨p, 0, none⟩)) true ty).run P wx =
      .ok (.tuple #[.bool true, .int .i64 pos, .int .i32 (Utf8.decode s pos).1]) { wx with heap := wx.heap.setIfInBounds p (.stringIter s (pos + (Utf8.decode s pos).2)) } := by
  simp only [Instr.next, getObj, setObj, Sem.run_bind, Sem.run, hp, Result.andThen, h, if_true]
  simp [goInt]
theorem next_end {P : Program} (wx : World) (p : Nat) (s : ByteArray) (pos : Nat) (ty : TypeId) (hp : wx.heap[p]? = some (.stringIter s pos)) (h : ¬ pos < s.size) :
    (Instr.next (.pointer (some ⟨p, 0, none⟩)) true ty).run P wx = .ok (.tuple #[.bool false]) wx := by
  simp [Instr.next, getObj, Sem.run, hp, h]
/-- A text's reader lies at p, and the rest is as in w. -/
def At (w : World) (s : ByteArray) (i : Nat) (wx : World) : Prop := wx.heap[w.heap.size]? = some (.stringIter s i) ∧ Ext [] w wx
theorem At.start (w : World) (s : ByteArray) : At w s 0 (w.iter s 0) := ⟨World.iter_heap _ _ _, Ext.iter _ _ _⟩
theorem At.step {w : World} {s : ByteArray} {i : Nat} {wx : World} (h : At w s i wx) (j : Nat) : At w s j { wx with heap := wx.heap.setIfInBounds w.heap.size (.stringIter s j) } := by
  obtain ⟨h1, h2⟩ := h
  have hl : w.heap.size < wx.heap.size := by
    apply Classical.byContradiction
    intro hc
    rw [Array.getElem?_eq_none (by omega)] at h1
    cases h1
  refine ⟨?_, h2.os, h2.tape, h2.output, by simpa using h2.size, fun b hb hB => ?_⟩
  · simp [hl]
  · show (wx.heap.setIfInBounds _ _)[b]? = _
    rw [Array.getElem?_setIfInBounds_ne (by omega)]
    exact h2.block b hb hB
theorem At.ext {w : World} {s : ByteArray} {i : Nat} {wx wy : World} (h : At w s i wx) (e : Ext [] wx wy) : At w s i wy := by
  obtain ⟨h1, h2⟩ := h
  have hl : w.heap.size < wx.heap.size := by
    apply Classical.byContradiction
    intro hc
    rw [Array.getElem?_eq_none (by omega)] at h1
    cases h1
  exact ⟨by rw [e.block _ hl (by simp)]; exact h1, e.os.trans h2.os, e.tape.trans h2.tape, e.output.trans h2.output, by have := h2.size; have := e.size; omega, fun b hb hB => by rw [e.block b (by omega) hB]; exact h2.block b hb hB⟩
theorem decode_pos (s : ByteArray) (i : Nat) (h : i < s.size) : 1 ≤ (Utf8.decode s i).2 := by
  by_cases ha : (s[i]'h).toNat < 128
  · rw [decode_ascii s i h ha]; exact Nat.le_refl _
  · exact (decode_high s i h (by omega)).2
theorem get_list {s : ByteArray} {j : Nat} {b : UInt8} (h : s.data.toList[j]? = some b) : s.get! j = b := by
  have hj : j < s.size := by
    have := (List.getElem?_eq_some_iff.1 h).1
    rw [Lib.size_eq]; exact this
  have := get_at s j hj
  rw [Nat.add_zero] at this
  rw [this]
  have e := Lib.data_getElem? s j hj
  rw [e] at h
  exact Option.some.inj h
theorem decode_skip_aux (s : ByteArray) (i : Nat) (h : i < s.size) (ha : 128 ≤ (s[i]'h).toNat) : i + (Utf8.decode s i).2 ≤ s.size ∧ ∀ k, k < (Utf8.decode s i).2 → 128 ≤ (s.get! (i + k)).toNat := by
  have h0 : 128 ≤ (s.get! (i + 0)).toNat := by rw [get_at s i h]; exact ha
  have hn : ¬ (s.get! (i + 0)).toNat < 128 := by omega
  simp only [Utf8.decode, hn, if_false]
  have key : ∀ k, ((decide (i + k < s.size) && (s.get! (i + k)).toNat / 64 == 2) = true) → i + k < s.size ∧ 128 ≤ (s.get! (i + k)).toNat := fun k hk => by
    simp only [Bool.and_eq_true, decide_eq_true_eq, beq_iff_eq] at hk
    exact ⟨hk.1, by omega⟩
  repeat' split
  all_goals rename_i c1 c2
  all_goals try simp only [Bool.and_eq_true] at c1
  all_goals try simp only [Bool.and_eq_true] at c2
  all_goals first
    | (refine ⟨h, fun k hk => ?_⟩; obtain rfl : k = 0 := (by have : k < 1 := hk; omega); exact h0)
    | (simp only [beq_iff_eq, decide_eq_true_eq] at c1; refine ⟨by show i + 2 ≤ s.size; omega, fun k hk => ?_⟩; have hk2 : k < 2 := hk; clear hk; rcases (by omega : k = 0 ∨ k = 1) with rfl | rfl <;> omega)
    | (simp only [beq_iff_eq, decide_eq_true_eq] at c1; refine ⟨by show i + 3 ≤ s.size; omega, fun k hk => ?_⟩; have hk2 : k < 3 := hk; clear hk; rcases (by omega : k = 0 ∨ k = 1 ∨ k = 2) with rfl | rfl | rfl <;> omega)
    | (simp only [beq_iff_eq, decide_eq_true_eq] at c1; refine ⟨by show i + 4 ≤ s.size; omega, fun k hk => ?_⟩; have hk2 : k < 4 := hk; clear hk; rcases (by omega : k = 0 ∨ k = 1 ∨ k = 2 ∨ k = 3) with rfl | rfl | rfl | rfl <;> omega)
/-- The bytes of a rune beyond ASCII are no ASCII bytes. -/
theorem decode_skip (s : ByteArray) (i : Nat) (h : i < s.size) (ha : 128 ≤ (s[i]'h).toNat) : i + (Utf8.decode s i).2 ≤ s.size ∧ ∀ j b, i ≤ j → j < i + (Utf8.decode s i).2 → s.data.toList[j]? = some b → 128 ≤ b.toNat := by
  obtain ⟨h1, h2⟩ := decode_skip_aux s i h ha
  refine ⟨h1, fun j b hij hj hb => ?_⟩
  have := h2 (j - i) (by omega)
  rw [show i + (j - i) = j by omega, get_list hb] at this
  exact this
theorem noAny_skip {s : ByteArray} {cs : List UInt8} {i : Nat} (hcs : ∀ b ∈ cs, b.toNat < 128) (h : i < s.size) (ha : 128 ≤ (s[i]'h).toNat) (hno : Lib.NoAny s.data.toList cs i) : Lib.NoAny s.data.toList cs (i + (Utf8.decode s i).2) := by
  intro j b hj hb
  by_cases hji : j < i
  · exact hno j b hji hb
  · have h2 := (decode_skip s i h ha).2 j b (by omega) hj hb
    cases hc : cs.contains b
    · rfl
    · have := hcs b (by simpa using hc)
      omega
set_option maxRecDepth 1000000 in
set_option maxHeartbeats 8000000 in
theorem ia_short (s chars : ByteArray) (w : World) (h2 : 2 ≤ chars.size) (hch : chars.size ≤ 1000) (h8 : s.size ≤ 8) (hascii : ∀ b ∈ chars.data.toList, b.toNat < 128) :
    Calls Tryd.prog 115 #[.string s, .string chars] w fun e w' => e = .returned (.int .i64 (Lib.indexAny s.data.toList chars.data.toList)) ∧ Ext [] w w' := by
  have HA : Aside (∀ b ∈ chars.data.toList, b.toNat < 128) := hascii
  clear hascii
  have hemp : chars.toList.isEmpty = false := by
    rw [Lib.toList_data]
    cases h : chars.data.toList with
    | nil => have := Lib.size_eq chars; rw [h, List.length_nil] at this; omega
    | cons _ _ => rfl
  have hn1 : ((chars.size : Int) == 1) = false := beq_eq_false_iff_ne.2 (by omega)
  have h8z : decide ((8 : Int) < (s.size : Int)) = false := decide_eq_false (by omega)
  go_enter Tryd.func115, Tryd.ntmps115
  go_wp2_with (go_at_call 125; refine (Tryd.strings_shouldUseASCIISet _ _).mono ?_; rintro e w' ⟨rfl, hw⟩; rw [hw, h8z])
  go_loopg [9, 10] s.size (fun g _ _ wx => ∃ i : Nat, i + g = s.size ∧ At w s i wx ∧ Lib.NoAny s.data.toList chars.data.toList i)
  case atStart => exact ⟨0, by omega, At.start _ _, Lib.NoAny.zero _ _⟩
  case round =>
    obtain ⟨i, hig, hat, hno⟩ := hrel
    have HN : Aside (Lib.NoAny s.data.toList chars.data.toList i) := hno
    clear hno
    cases gk with
    | zero =>
      obtain rfl : i = s.size := by omega
      have hnx := fun ty => next_end (P := Tryd.prog) _ w.heap.size s s.size ty hat.1 (by omega)
      go_wp2
      go_ret
      exact ⟨by rw [Lib.indexAny_none (by rw [← Lib.size_eq]; exact HN.out)]; rfl, hat.2⟩
    | succ g =>
      have hi : i < s.size := by omega
      have hnx := fun ty => next_any (P := Tryd.prog) _ w.heap.size s i ty hat.1 hi
      by_cases hx128 : (s[i]'hi).toNat < 128
      · rw [decode_ascii s i hi hx128] at hnx
        obtain ⟨x, hx⟩ : ∃ x : UInt8, s[i]'hi = x := ⟨_, rfl⟩
        have hxl : s.data.toList[i]? = some x := by rw [← hx]; exact Lib.data_getElem? s i hi
        rw [hx] at hnx hx128
        have Hx : Aside (s.data.toList[i]? = some x) := hxl
        have HT : Aside (At w s i _) := hat
        clear hxl hx hat
        have hcon := Lib.contains_iff_indexByte chars.data.toList x
        have hback : ((x.toNat : Int)).toNat.toUInt8 = x := by simp
        cases hin : chars.data.toList.contains x
        · rw [hin] at hcon
          have hlt : ¬ ((0 : Int) ≤ Lib.indexByte chars.data.toList x) := of_decide_eq_false hcon.symm
          clear hcon
          go_wp2_with (go_at_call 124; refine (Tryd.strings_IndexRune_ascii _ _ _ (by omega) (by omega)).mono ?_; rintro e w' ⟨rfl, hw⟩; rw [hw, hback])
          go_roundg g
          case measure => omega
          case rel => exact ⟨i + 1, by omega, HT.out.step _, HN.out.succ Hx.out hin⟩
        · rw [hin] at hcon
          have hge : (0 : Int) ≤ Lib.indexByte chars.data.toList x := of_decide_eq_true hcon.symm
          clear hcon
          go_wp2_with (go_at_call 124; refine (Tryd.strings_IndexRune_ascii _ _ _ (by omega) (by omega)).mono ?_; rintro e w' ⟨rfl, hw⟩; rw [hw, hback])
          go_ret
          exact ⟨by rw [Lib.indexAny_hit HN.out Hx.out hin]; rfl, (HT.out.step _).2⟩
      · have hr := (decode_high s i hi (by omega)).1
        have hsk := noAny_skip HA.out hi (by omega) HN.out
        have hsz := (decode_skip s i hi (by omega)).1
        have hps := decode_pos s i hi
        generalize Utf8.decode s i = d at hnx hr hsk hsz hps
        obtain ⟨r, n⟩ := d
        have HS : Aside (Lib.NoAny s.data.toList chars.data.toList (i + n)) := hsk
        have HT : Aside (At w s i _) := hat
        clear hsk hat
        go_wp2_with (go_at_call 124; refine (ir_any chars HA.out hch _ (by show (128 : Int) ≤ (r : Int); exact_mod_cast hr) _).mono ?_; rintro e w' ⟨rfl, hw⟩)
        go_roundg (s.size - (i + n))
        case measure => omega
        case rel => exact ⟨i + n, by omega, (HT.out.step _).ext hw, HS.out⟩
end Go.Proofs.YtadgfmmmdhlljaaDoor
end
section
namespace Go.Proofs.YtadgfmmmdhlljaaDoor
open Go Go.Wk Go.Wl Go.Rx Go.Fo Go.Proofs Go.RowKit
theorem zv181 (w : World) : (zeroValue 181).run Tryd.prog w = .ok (.agg (Array.replicate 256 (.bool false))) w := run_zero (by kernel_rfl) w
theorem Ext.alloc2 (w : World) (a b : Obj) : Ext [] w ((w.alloc a).alloc b) := ⟨rfl, rfl, rfl, by show _ ≤ ((w.heap.push _).push _).size; rw [Array.size_push, Array.size_push]; omega, fun b hb _ => by
  show ((w.heap.push _).push _)[b]? = _
  rw [Array.getElem?_push, if_neg (by simp; omega), Array.getElem?_push, if_neg (by omega)]⟩
theorem ia_all (s chars : ByteArray) (w : World) (h2 : 2 ≤ chars.size) (hch : chars.size ≤ 1000) (hs : s.size ≤ 4000000000) (hascii : ∀ b ∈ chars.data.toList, b.toNat < 128) :
    Calls Tryd.prog 115 #[.string s, .string chars] w fun e w' => e = .returned (.int .i64 (Lib.indexAny s.data.toList chars.data.toList)) ∧ Ext [] w w' := by
  by_cases h8 : s.size ≤ 8
  · exact ia_short s chars w h2 hch h8 hascii
  · exact (Tryd.strings_IndexAny_long zv181 s chars w h2 (by omega) (by omega) (by omega) fun j b hb => hascii b (List.mem_of_getElem? hb)).mono fun e w' ⟨h, k⟩ => ⟨h, by subst k; exact Ext.alloc2 _ _ _⟩
theorem indexAny_any (t : List UInt8) : ∀ s : List UInt8, decide (0 ≤ Lib.indexAny s t) = s.any fun c => t.contains c
  | [] => rfl
  | b :: l => by
    have ih := indexAny_any t l
    have hg := Lib.indexAny_ge t l
    unfold Lib.indexAny
    rw [List.any_cons, ← ih]
    cases t.contains b
    · simp only [Bool.false_eq_true, if_false, Bool.false_or, beq_iff_eq]
      apply decide_eq_decide.2
      split <;> omega
    · rfl
set_option maxRecDepth 1000000 in
set_option maxHeartbeats 8000000 in
theorem ca_all (s chars : ByteArray) (w : World) (h2 : 2 ≤ chars.size) (hch : chars.size ≤ 1000) (hs : s.size ≤ 4000000000) (hascii : ∀ b ∈ chars.data.toList, b.toNat < 128) :
    Calls Tryd.prog 90 #[.string s, .string chars] w fun e w' => e = .returned (.bool (s.data.toList.any fun c => chars.data.toList.contains c)) ∧ Ext [] w w' := by
  rw [← indexAny_any]
  go_enter Tryd.func90, Tryd.ntmps90
  go_wp2_with (go_at_call 115; refine (ia_all _ _ _ h2 hch hs hascii).mono ?_; rintro e w' ⟨rfl, hw⟩)
  go_ret
  exact ⟨rfl, hw⟩
#print axioms ca_all
end Go.Proofs.YtadgfmmmdhlljaaDoor
end
section
namespace Go.Proofs.YtadgfmmmdhlljaaDoor
open Go Go.Wk Go.Wl Go.Rx Go.Fo Go.Li Go.Proofs
theorem rep_blB {x : Bool} {Z : Nat → Prop} {w : World} : Rep U eT (fun _ => none) Z w (.bool x) (blB x) := by
  have e : x = decide (x = true) := by cases x <;> rfl
  have r : Rep U eT (fun _ => none) Z w (.bool (decide (x = true))) (blB x) := .bl
  rwa [← e] at r
def cCA (a : List (SV U)) : Option (Q1 U) := match a with | [.str s, .str t] => some ⟨[s.length ≤ 4000000000, t = [13, 10] ∨ t = [59, 58, 44]], [], blB (s.any fun c => t.contains c)⟩ | _ => none
theorem cCAU (args : List (SV U)) (q : Q1 U) (h : cCA args = some q) (ho : allP q.ob) : LendU 90 args q := by
  unfold cCA at h
  split at h
  · rename_i s t
    cases h
    obtain ⟨hs, ht, -⟩ := ho
    refine lend_ext fun D w vs ha => ⟨.bool (s.any fun c => t.contains c), fun w' => rep_blB, trivial, fun w1 hs1 => ?_⟩
    obtain ⟨v1, r1, rfl, h1, ha⟩ := Rep.tup_cons ha
    obtain ⟨v2, r2, rfl, h2, ha⟩ := Rep.tup_cons ha
    obtain rfl := tup0_inv ha
    cases h1 with | str hl1 =>
    cases h2 with | str hl2 =>
    have h2 : 2 ≤ t.length ∧ t.length ≤ 1000 ∧ ∀ b ∈ t, b.toNat < 128 := by rcases ht with rfl | rfl <;> decide
    exact Calls.mono (ca_all ⟨s.toArray⟩ ⟨t.toArray⟩ w1 h2.1 h2.2.1 hs h2.2.2) fun e w2 ⟨h3, h4⟩ => ⟨h3, h4⟩
  · cases h
end Go.Proofs.YtadgfmmmdhlljaaDoor
end
section
namespace Go.Li
open Go Go.Wk Go.Wl
def letterB (c : UInt8) : Bool := (decide (65 ≤ c) && decide (c ≤ 90)) || (decide (97 ≤ c) && decide (c ≤ 122)) || (decide (48 ≤ c) && decide (c ≤ 57)) || c == 45
def standsB (c : UInt8) : Bool := c == 9 || (decide (32 ≤ c) && c != 127)
def upB (c : UInt8) : UInt8 := if 97 ≤ c ∧ c ≤ 122 then c - 32 else c
def upper (s : Str) : Str := s.map upB
/-- What a value says. -/
def said : Str → Str
  | [] => []
  | [c] => [c]
  | c :: d :: r => if c = 94 ∧ d = 110 then 10 :: said r else if c = 94 ∧ d = 39 then 34 :: said r else if c = 94 ∧ d = 94 then 94 :: said r else c :: said (d :: r)
def escB (c : UInt8) : Str := if c = 94 then [94, 94] else if c = 34 then [94, 39] else if c = 10 then [94, 110] else [c]
def esc (v : Str) : Str := v.flatMap escB
def quoteB (c : UInt8) : Bool := c == 59 || c == 58 || c == 44
def told (v : Str) : Str := if v.any quoteB = true then 34 :: (esc v ++ [34]) else esc v
theorem said_cons {c : UInt8} (h : c ≠ 94) (r : Str) : said (c :: r) = c :: said r := by
  cases r with
  | nil => rfl
  | cons d r => rw [said, if_neg (fun e => h e.1), if_neg (fun e => h e.1), if_neg (fun e => h e.1)]
theorem said_esc : ∀ v : Str, said (esc v) = v
  | [] => rfl
  | c :: v => by
    have ih := said_esc v
    have e : esc (c :: v) = escB c ++ esc v := by simp [esc]
    rw [e]
    unfold escB
    split
    · rename_i h; subst h
      show said (94 :: 94 :: esc v) = _
      rw [said, if_neg (by decide), if_neg (by decide), if_pos (by decide), ih]
    · split
      · rename_i _ h; subst h
        show said (94 :: 39 :: esc v) = _
        rw [said, if_neg (by decide), if_pos (by decide), ih]
      · split
        · rename_i _ _ h; subst h
          show said (94 :: 110 :: esc v) = _
          rw [said, if_pos (by decide), ih]
        · rename_i h _ _
          show said (c :: esc v) = _
          rw [said_cons h, ih]
/-! ### Reading -/
def pName (s : Str) : Option (Str × Str) := if s.takeWhile letterB = [] then none else some (upper (s.takeWhile letterB), s.dropWhile letterB)
def plainB (c : UInt8) : Bool := standsB c && !(c == 34 || c == 59 || c == 58 || c == 44)
def inB (c : UInt8) : Bool := standsB c && c != 34
def hdIs (c : UInt8) : Str → Option Str
  | d :: r => if d = c then some r else none
  | [] => none
theorem hdIs_len {c : UInt8} {s r : Str} (h : hdIs c s = some r) : r.length < s.length := by
  cases s with
  | nil => cases h
  | cons d t =>
    by_cases e : d = c
    · simp only [hdIs, if_pos e, Option.some.injEq] at h
      subst h; simp
    · simp only [hdIs, if_neg e] at h
      cases h
theorem hdIs_cons (c : UInt8) (r : Str) : hdIs c (c :: r) = some r := by simp [hdIs]
theorem hdIs_ne {c d : UInt8} (h : d ≠ c) (r : Str) : hdIs c (d :: r) = none := by simp [hdIs, h]
def pValue (s : Str) : Option (Str × Str) :=
  match hdIs 34 s with
  | some r => match hdIs 34 (r.dropWhile inB) with
    | some t => some (said (r.takeWhile inB), t)
    | none => none
  | none => some (said (s.takeWhile plainB), s.dropWhile plainB)
theorem drop_len (p : UInt8 → Bool) (s : Str) : (s.dropWhile p).length ≤ s.length := (List.dropWhile_sublist p).length_le
theorem pValue_len {s : Str} {v r : Str} (h : pValue s = some (v, r)) : r.length ≤ s.length := by
  unfold pValue at h
  split at h
  · rename_i t ht
    split at h
    · rename_i u hu
      cases h
      have := hdIs_len ht
      have := hdIs_len hu
      have := drop_len inB t
      omega
    · cases h
  · cases h; exact drop_len _ _
/-- Values, parted by commas. -/
def pVals (s : Str) : Option (List Str × Str) :=
  match hv : pValue s with
  | none => none
  | some (v, r) => match hr : hdIs 44 r with
    | none => some ([v], r)
    | some t => match pVals t with
      | none => none
      | some (l, u) => some (v :: l, u)
termination_by s.length
decreasing_by have := pValue_len hv; have := hdIs_len hr; omega
theorem pVals_eq (s : Str) : pVals s = match pValue s with
    | none => none
    | some (v, r) => match hdIs 44 r with
      | none => some ([v], r)
      | some t => match pVals t with
        | none => none
        | some (l, u) => some (v :: l, u) := by
  rw [pVals]
  split <;> rename_i h1 <;> simp only [h1]
  split <;> rename_i h2 <;> simp only [h2]
theorem pVals_len : ∀ (n : Nat) (s : Str), s.length ≤ n → ∀ l r, pVals s = some (l, r) → r.length ≤ s.length
  | n, s, hn, l, r, h => by
    rw [pVals_eq] at h
    split at h
    · cases h
    · rename_i v t ht
      have h1 := pValue_len ht
      split at h
      · cases h; exact h1
      · rename_i u hu
        have h2 := hdIs_len hu
        split at h
        · cases h
        · rename_i l' r' h'
          cases h
          match n with
          | 0 => omega
          | n + 1 => have := pVals_len n u (by omega) _ _ h'; omega
def pParam (s : Str) : Option (Param × Str) :=
  match pName s with
  | none => none
  | some (n, r) => match hdIs 61 r with
    | none => none
    | some t => match pVals t with
      | none => none
      | some (l, u) => some (⟨n, l⟩, u)
theorem pName_len {s n r : Str} (h : pName s = some (n, r)) : r.length ≤ s.length := by
  unfold pName at h
  split at h
  · cases h
  · cases h; exact drop_len _ _
theorem pParam_len {s r : Str} {x : Param} (h : pParam s = some (x, r)) : r.length ≤ s.length := by
  unfold pParam at h
  split at h
  · cases h
  · rename_i n t ht
    split at h
    · cases h
    · rename_i u hu
      split at h
      · cases h
      · rename_i l' r' h'
        cases h
        have := pName_len ht
        have := hdIs_len hu
        have := pVals_len _ _ (Nat.le_refl _) _ _ h'
        omega
def pParams (s : Str) : Option (List Param × Str) :=
  match hs : hdIs 59 s with
  | none => some ([], s)
  | some t => match hp : pParam t with
    | none => none
    | some (x, r) => match pParams r with
      | none => none
      | some (l, u) => some (x :: l, u)
termination_by s.length
decreasing_by have := pParam_len hp; have := hdIs_len hs; omega
theorem pParams_eq (s : Str) : pParams s = match hdIs 59 s with
    | none => some ([], s)
    | some t => match pParam t with
      | none => none
      | some (x, r) => match pParams r with
        | none => none
        | some (l, u) => some (x :: l, u) := by
  rw [pParams]
  split <;> rename_i h1 <;> simp only [h1]
  split <;> rename_i h2 <;> simp only [h2]
def pHead (s : Str) : Option (Str × Str × Str) :=
  match pName s with
  | none => none
  | some (n, r) => match hdIs 46 r with
    | none => some ([], n, r)
    | some t => match pName t with
      | none => none
      | some (m, u) => some (n, m, u)
def pProp (s : Str) : Option Prp :=
  match pHead s with
  | none => none
  | some (g, n, r) => match pParams r with
    | none => none
    | some (l, t) => match hdIs 58 t with
      | none => none
      | some v => if v.all standsB = true then some ⟨g, n, l, v⟩ else none
/-! ### Telling -/
def joinV : List Str → Str
  | [] => []
  | [v] => told v
  | v :: l => told v ++ 44 :: joinV l
def tellP (x : Param) : Str := 59 :: (x.Name ++ 61 :: joinV x.Values)
def tell (p : Prp) : Str := (if p.Group = [] then p.Name else p.Group ++ 46 :: p.Name) ++ p.Params.flatMap tellP ++ 58 :: p.Value
def isName (s : Str) : Prop := s ≠ [] ∧ s.all letterB = true ∧ upper s = s
def saysB (c : UInt8) : Bool := standsB c || c == 10
def rightX (x : Param) : Prop := isName x.Name ∧ x.Values ≠ [] ∧ ∀ v ∈ x.Values, v.all saysB = true
def right0 (p : Prp) : Prop := isName p.Name ∧ (p.Group ≠ [] → isName p.Group) ∧ p.Value.all standsB = true ∧ ∀ x ∈ p.Params, rightX x
theorem while_app {p : UInt8 → Bool} {a : Str} (h : a.all p = true) {c : UInt8} (hc : p c = false) (r : Str) : (a ++ c :: r).takeWhile p = a ∧ (a ++ c :: r).dropWhile p = c :: r := by
  have h' : ∀ x ∈ a, p x = true := fun x hx => List.all_eq_true.1 h x hx
  rw [List.takeWhile_append_of_pos h', List.dropWhile_append_of_pos h', List.takeWhile_cons_of_neg (by simp [hc]), List.dropWhile_cons_of_neg (by simp [hc])]
  simp
theorem pName_app {n : Str} (h : isName n) {c : UInt8} (hc : letterB c = false) (r : Str) : pName (n ++ c :: r) = some (n, c :: r) := by
  obtain ⟨h1, h2, h3⟩ := h
  obtain ⟨e1, e2⟩ := while_app h2 hc r
  unfold pName
  rw [e1, e2, if_neg h1, h3]
theorem esc_all {q : UInt8 → Bool} {v : Str} (h : ∀ c ∈ v, ∀ d ∈ escB c, q d = true) : (esc v).all q = true := by
  rw [List.all_eq_true]
  intro d hd
  obtain ⟨c, hc, hd⟩ := List.mem_flatMap.1 hd
  exact h c hc d hd
theorem esc_in {c : UInt8} (h : saysB c = true) : ∀ d ∈ escB c, inB d = true := by
  intro d hd
  unfold escB at hd
  split at hd
  · simp at hd; subst hd; decide
  · split at hd
    · simp at hd; rcases hd with rfl | rfl <;> decide
    · split at hd
      · simp at hd; rcases hd with rfl | rfl <;> decide
      · rename_i h1 h2 h3
        simp at hd; subst hd
        unfold saysB at h
        unfold inB
        simp [h3] at h
        simp [h, h2]
theorem esc_plain {c : UInt8} (h : saysB c = true) (hq : quoteB c = false) : ∀ d ∈ escB c, plainB d = true := by
  intro d hd
  unfold escB at hd
  split at hd
  · simp at hd; subst hd; decide
  · split at hd
    · simp at hd; rcases hd with rfl | rfl <;> decide
    · split at hd
      · simp at hd; rcases hd with rfl | rfl <;> decide
      · rename_i h1 h2 h3
        simp at hd; subst hd
        unfold saysB at h
        unfold quoteB at hq
        unfold plainB
        simp [h3] at h
        simp at hq
        simp [h, h2, hq]
theorem pValue_app {v : Str} (h : v.all saysB = true) {c : UInt8} (hc : c = 44 ∨ c = 59 ∨ c = 58) (r : Str) : pValue (told v ++ c :: r) = some (v, c :: r) := by
  have h' : ∀ x ∈ v, saysB x = true := fun x hx => List.all_eq_true.1 h x hx
  unfold told
  split
  · have hi := esc_all (q := inB) fun c hc => esc_in (h' c hc)
    obtain ⟨e1, e2⟩ := while_app hi (show inB 34 = false by decide) (c :: r)
    have e : 34 :: (esc v ++ [34]) ++ c :: r = 34 :: (esc v ++ 34 :: (c :: r)) := by simp
    rw [e]
    unfold pValue
    rw [hdIs_cons]
    simp only [e1, e2, hdIs_cons, said_esc]
  · rename_i hq
    have hq' : ∀ x ∈ v, quoteB x = false := fun x hx => by
      cases hx' : quoteB x
      · rfl
      · exact absurd (List.any_eq_true.2 ⟨x, hx, hx'⟩) hq
    have hi := esc_all (q := plainB) fun c hc => esc_plain (h' c hc) (hq' c hc)
    have hpc : plainB c = false := by rcases hc with rfl | rfl | rfl <;> decide
    obtain ⟨e1, e2⟩ := while_app hi hpc r
    have e : hdIs 34 (esc v ++ c :: r) = none := by
      cases hv : esc v with
      | nil => exact hdIs_ne (by rcases hc with rfl | rfl | rfl <;> decide) r
      | cons d t =>
        rw [hv] at hi
        have hd : plainB d = true := List.all_eq_true.1 hi d (by simp)
        refine hdIs_ne (fun e => ?_) _
        subst e
        exact absurd hd (by decide)
    unfold pValue
    rw [e]
    simp only [e1, e2, said_esc]
theorem pVals_app : ∀ {l : List Str}, l ≠ [] → (∀ v ∈ l, v.all saysB = true) → ∀ {c : UInt8}, (c = 59 ∨ c = 58) → ∀ r : Str, pVals (joinV l ++ c :: r) = some (l, c :: r)
  | [], h, _, _, _, _ => absurd rfl h
  | [v], _, h, c, hc, r => by
    rw [pVals_eq]
    show (match pValue (told v ++ c :: r) with | none => none | some (v, r) => _) = _
    rw [pValue_app (h v (by simp)) (.inr hc) r]
    have : hdIs 44 (c :: r) = none := hdIs_ne (by rcases hc with rfl | rfl <;> decide) r
    simp only [this]
  | v :: w :: l, _, h, c, hc, r => by
    rw [pVals_eq]
    have e : joinV (v :: w :: l) ++ c :: r = told v ++ 44 :: (joinV (w :: l) ++ c :: r) := by simp [joinV]
    rw [e, pValue_app (h v (by simp)) (.inl rfl)]
    simp only [hdIs_cons]
    rw [pVals_app (l := w :: l) (by simp) (fun x hx => h x (by simp [hx])) hc r]
theorem pParam_app {x : Param} (h : rightX x) {c : UInt8} (hc : c = 59 ∨ c = 58) (r : Str) : pParam (x.Name ++ 61 :: (joinV x.Values ++ c :: r)) = some (x, c :: r) := by
  unfold pParam
  rw [pName_app h.1 (by decide)]
  simp only [hdIs_cons]
  rw [pVals_app h.2.1 h.2.2 hc r]
theorem pParams_app : ∀ {l : List Param}, (∀ x ∈ l, rightX x) → ∀ v : Str, pParams (l.flatMap tellP ++ 58 :: v) = some (l, 58 :: v)
  | [], _, v => by
    rw [pParams_eq]
    have e : ([] : List Param).flatMap tellP ++ 58 :: v = 58 :: v := rfl
    rw [e, hdIs_ne (by decide)]
  | x :: l, h, v => by
    rw [pParams_eq]
    have e : (x :: l).flatMap tellP ++ 58 :: v = 59 :: (x.Name ++ 61 :: (joinV x.Values ++ (l.flatMap tellP ++ 58 :: v))) := by simp [tellP]
    rw [e, hdIs_cons]
    have ih := pParams_app (l := l) (fun y hy => h y (by simp [hy])) v
    have hx := h x (by simp)
    have ⟨c, r, hc, er⟩ : ∃ (c : UInt8) (r : Str), (c = 59 ∨ c = 58) ∧ l.flatMap tellP ++ 58 :: v = c :: r := by
      cases l with
      | nil => exact ⟨58, v, .inr rfl, rfl⟩
      | cons y l => exact ⟨59, _, .inl rfl, rfl⟩
    rw [er] at ih ⊢
    simp only [pParam_app hx hc r, ih]
theorem tell_read {p : Prp} (h : right0 p) : pProp (tell p) = some p := by
  obtain ⟨h1, h2, h3, h4⟩ := h
  have ⟨c, r, hc, er⟩ : ∃ (c : UInt8) (r : Str), (c = 59 ∨ c = 58) ∧ p.Params.flatMap tellP ++ 58 :: p.Value = c :: r := by
    cases p.Params with
    | nil => exact ⟨58, p.Value, .inr rfl, rfl⟩
    | cons y l => exact ⟨59, _, .inl rfl, rfl⟩
  have hl : letterB c = false := by rcases hc with rfl | rfl <;> decide
  have hd : hdIs 46 (c :: r) = none := hdIs_ne (by rcases hc with rfl | rfl <;> decide) r
  have hh : pHead (tell p) = some (p.Group, p.Name, c :: r) := by
    unfold tell pHead
    rw [List.append_assoc, er]
    by_cases hg : p.Group = []
    · rw [if_pos hg, pName_app h1 hl r]
      simp only [hd, hg]
    · rw [if_neg hg, List.append_assoc, List.cons_append, pName_app (h2 hg) (by decide)]
      simp only [hdIs_cons, pName_app h1 hl r]
  unfold pProp
  rw [hh]
  simp only
  rw [← er, pParams_app h4]
  simp only [hdIs_cons, h3, if_true]
end Go.Li
end
section
namespace Go.Proofs.YtadgfmmmdhlljaaDoor
open Go Go.Wk Go.Wl Go.Rx Go.Fo Go.Li Go.Proofs Go.RowKit
/-- So many of a text's bytes are great. -/
def mixed (s : Str) (i j : Nat) : UInt8 := if j < i then upB (s.getD j 0) else s.getD j 0
structure UpAt (w : World) (s : Str) (i : Nat) (wx : World) : Prop where
  cell : ∀ j, j < s.length → wx.cell? ⟨w.heap.size, j, none⟩ = some (.int .u8 (mixed s i j).toNat)
  frz : ∀ j, j < s.length → wx.frozen? ⟨w.heap.size, j, none⟩ = false
  ext : Ext [] w wx
  lt : w.heap.size < wx.heap.size
theorem UpAt.start (w : World) (s : Str) (cap : Nat) : UpAt w s 0 (w.drew.alloc (.cells (bytesRow ⟨s.toArray⟩ cap) 5 ((bytesRow ⟨s.toArray⟩ cap).size, (bytesRow ⟨s.toArray⟩ cap).size + 1))) := by
  have hz : s.length ≤ (bytesRow ⟨s.toArray⟩ cap).size := by unfold bytesRow; rw [Array.size_append, Array.size_map]; show s.length ≤ s.toArray.size + _; simp
  refine ⟨fun j hj => ?_, fun j hj => ?_, ⟨rfl, rfl, rfl, ?_, fun b hb _ => ?_⟩, ?_⟩
  · have h1 := World.cell?_alloc_mark w.drew (bytesRow ⟨s.toArray⟩ cap) 5 ((bytesRow ⟨s.toArray⟩ cap).size, (bytesRow ⟨s.toArray⟩ cap).size + 1) j
    have h2 := bytesRow_at ⟨s.toArray⟩ cap j (by simpa using hj)
    refine h1.trans (h2.trans ?_)
    simp [mixed, List.getD_eq_getElem?_getD, hj]
  · have h1 := World.frozen?_alloc_mark w.drew (bytesRow ⟨s.toArray⟩ cap) 5 (bytesRow ⟨s.toArray⟩ cap).size ((bytesRow ⟨s.toArray⟩ cap).size + 1) j
    refine h1.trans ?_
    rw [decide_eq_false (by omega)]; rfl
  · show _ ≤ (w.heap.push _).size
    rw [Array.size_push]; omega
  · show (w.heap.push _)[b]? = _
    rw [Array.getElem?_push, if_neg (by omega)]
  · show _ < (w.heap.push _).size
    rw [Array.size_push]; omega
theorem UpAt.same {w : World} {s : Str} {i : Nat} {wx : World} (h : UpAt w s i wx) (hu : upB (s.getD i 0) = s.getD i 0) : UpAt w s (i + 1) wx := by
  refine ⟨fun j hj => ?_, h.frz, h.ext, h.lt⟩
  rw [h.cell j hj]
  have e : mixed s i j = mixed s (i + 1) j := by
    unfold mixed
    by_cases h1 : j < i
    · rw [if_pos h1, if_pos (by omega)]
    · rw [if_neg h1]
      by_cases h2 : j = i
      · subst h2; rw [if_pos (by omega), hu]
      · rw [if_neg (by omega)]
  rw [e]
theorem UpAt.step {w : World} {s : Str} {i : Nat} {wx : World} (h : UpAt w s i wx) (hi : i < s.length) : UpAt w s (i + 1) (wx.setCell ⟨w.heap.size, i, none⟩ (.int .u8 (upB (s.getD i 0)).toNat)) := by
  refine ⟨fun j hj => ?_, fun j hj => ?_, ⟨h.ext.os, h.ext.tape, h.ext.output, ?_, fun b hb hB => ?_⟩, ?_⟩
  · by_cases e : j = i
    · subst e
      rw [World.cell?_setCell_same (h := h.cell j hj)]
      simp [mixed]
    · rw [World.cell?_setCell_other (h := fun e' : (⟨w.heap.size, i, none⟩ : Addr) = ⟨w.heap.size, j, none⟩ => e (by injection e' with _ e'; exact e'.symm)), h.cell j hj]
      unfold mixed
      by_cases h1 : j < i
      · rw [if_pos h1, if_pos (by omega)]
      · rw [if_neg h1, if_neg (by omega)]
  · rw [World.frozen?_setCell]; exact h.frz j hj
  · rw [World.size_setCell]; exact h.ext.size
  · rw [heap_setCell_other _ _ _ _ (by show b ≠ w.heap.size; omega)]; exact h.ext.block b hb hB
  · rw [World.size_setCell]; exact h.lt
theorem UpAt.drew {w : World} {s : Str} {i : Nat} {wx : World} (h : UpAt w s i wx) : UpAt w s i wx.drew := ⟨h.cell, h.frz, ⟨h.ext.os, h.ext.tape, h.ext.output, h.ext.size, h.ext.block⟩, h.lt⟩
set_option maxRecDepth 1000000 in
set_option maxHeartbeats 8000000 in
theorem up_ok (s : Str) (w : World) (hs : s.length ≤ 9223372036854775807) :
    Calls Tryd.prog 67 #[.string ⟨s.toArray⟩] w fun e w' => e = .returned (.string ⟨(upper s).toArray⟩) ∧ Ext [] w w' := by
  have hcv := fun w => run_bytes_of_string (P := Tryd.prog) w 9 55 5 ⟨s.toArray⟩ Tryd.underlying9 Tryd.underlying55 Tryd.underlying5
  have hst : ∀ w, UpAt w s 0 _ := fun w => UpAt.start w s (grownCap w s.length 0 5)
  have hsz : (ByteArray.mk s.toArray).size = s.length := rfl
  rw [hsz] at hcv
  go_enter Tryd.func67, Tryd.ntmps67
  go_wp2
  go_loopg [4] s.length (fun gk s0 wx => ∃ i : Nat, i + gk = s.length ∧ s0 = .int .i64 i ∧ UpAt w s i wx)
  case atStart => exact ⟨0, by omega, rfl, hst _⟩
  case round =>
    obtain ⟨i, hig, rfl, hat⟩ := hrel
    cases gk with
    | zero =>
      obtain rfl : i = s.length := by omega
      have hnl : ¬ ((s.length : Int) < (s.length : Int)) := by omega
      have hbk : ∀ wx cap, UpAt w s s.length wx → (convert 55 9 (.slice (some ⟨w.heap.size, 0, none⟩) s.length cap)).run Tryd.prog wx = .ok (.string ⟨(upper s).toArray⟩) wx := fun wx cap h => by
        have hl : (upper s).length = s.length := by simp [upper]
        have := run_convert_bytes_back (P := Tryd.prog) wx 55 9 5 ⟨w.heap.size, 0, none⟩ cap (upper s) Tryd.underlying55 Tryd.underlying5 Tryd.underlying9 (fun j hj => by
          have hj' : j < s.length := by omega
          have e : (Addr.add ⟨w.heap.size, 0, none⟩ j : Addr) = ⟨w.heap.size, j, none⟩ := by simp [Addr.add]; omega
          rw [e, h.cell j hj']
          simp [mixed, hj', upper])
        rw [hl] at this
        exact this
      have hb0 := hbk wr
      have hb1 := hb0 (grownCap w s.length 0 5) hat
      go_wp2
      go_ret
      exact ⟨rfl, hat.ext⟩
    | succ g =>
      have hi : i < s.length := by omega
      have hil : (i : Int) < (s.length : Int) := by omega
      have hc := hat.cell i hi
      have hf := hat.frz i hi
      have hm : mixed s i i = s.getD i 0 := by unfold mixed; rw [if_neg (by omega)]
      rw [hm] at hc
      have hnx : UpAt w s (i + 1) (wr.setCell ⟨w.heap.size, i, none⟩ (.int .u8 (upB (s.getD i 0)).toNat)) := hat.step hi
      have hsm : upB (s.getD i 0) = s.getD i 0 → UpAt w s (i + 1) wr := hat.same
      generalize s.getD i 0 = x at hc hnx hsm
      by_cases h97 : 97 ≤ x
      · have z97 : (97 : Int) ≤ (x.toNat : Int) := by have : (97 : UInt8).toNat ≤ x.toNat := h97; exact_mod_cast this
        by_cases h122 : x ≤ 122
        · have z122 : (x.toNat : Int) ≤ 122 := by have : x.toNat ≤ (122 : UInt8).toNat := h122; exact_mod_cast this
          have eu : ((upB x).toNat : Int) = (x.toNat : Int) - 32 := by
            unfold upB
            rw [if_pos ⟨h97, h122⟩, UInt8.toNat_sub_of_le _ _ (by show (32 : UInt8).toNat ≤ x.toNat; have : (32 : UInt8).toNat = 32 := rfl; omega)]
            have : (32 : UInt8).toNat = 32 := rfl
            omega
          rw [eu] at hnx
          have hw : IntKind.u8.wrap ((x.toNat : Int) - 32) = (x.toNat : Int) - 32 := by
            have := x.toNat_lt
            have hb : IntKind.u8.bits = 8 := rfl
            simp only [IntKind.wrap, hb]
            simp; omega
          go_wp2
          go_roundg g
          case measure => omega
          case rel => exact ⟨i + 1, by omega, by simp, hnx⟩
        · have z122 : ¬ (x.toNat : Int) ≤ 122 := fun e => h122 (by show x.toNat ≤ (122 : UInt8).toNat; exact_mod_cast e)
          have hs2 := hsm (by unfold upB; rw [if_neg (fun e => h122 e.2)])
          go_wp2
          go_roundg g
          case measure => omega
          case rel => exact ⟨i + 1, by omega, by simp, hs2⟩
      · have z97 : ¬ (97 : Int) ≤ (x.toNat : Int) := fun e => h97 (by show (97 : UInt8).toNat ≤ x.toNat; exact_mod_cast e)
        have hs2 := hsm (by unfold upB; rw [if_neg (fun e => h97 e.1)])
        go_wp2
        go_roundg g
        case measure => omega
        case rel => exact ⟨i + 1, by omega, by simp, hs2⟩
end Go.Proofs.YtadgfmmmdhlljaaDoor
end
section
namespace Go.Proofs.YtadgfmmmdhlljaaDoor
open Go Go.Wk Go.Wl Go.Rx Go.Fo Go.Li Go.Proofs Go.RowKit
set_option maxRecDepth 1000000 in
set_option maxHeartbeats 8000000 in
theorem upl_ok (s : Str) (w : World) (hs : s.length ≤ 9223372036854775807) :
    Calls Tryd.prog 113 #[.string ⟨s.toArray⟩] w fun e w' => e = .returned (.string ⟨(upper s).toArray⟩) ∧ Ext [] w w' := by
  have hcv := fun w => run_bytes_of_string (P := Tryd.prog) w 9 55 5 ⟨s.toArray⟩ Tryd.underlying9 Tryd.underlying55 Tryd.underlying5
  have hst : ∀ w, UpAt w s 0 _ := fun w => UpAt.start w s (grownCap w s.length 0 5)
  have hsz : (ByteArray.mk s.toArray).size = s.length := rfl
  rw [hsz] at hcv
  go_enter Tryd.func113, Tryd.ntmps113
  go_wp2
  go_loopg [10] s.length (fun gk s0 wx => ∃ i : Nat, i + gk = s.length ∧ s0 = .int .i64 i ∧ UpAt w s i wx)
  case atStart => exact ⟨0, by omega, rfl, hst _⟩
  case round =>
    obtain ⟨i, hig, rfl, hat⟩ := hrel
    cases gk with
    | zero =>
      obtain rfl : i = s.length := by omega
      have hnl : ¬ ((s.length : Int) < (s.length : Int)) := by omega
      have hbk : ∀ wx cap, UpAt w s s.length wx → (convert 55 9 (.slice (some ⟨w.heap.size, 0, none⟩) s.length cap)).run Tryd.prog wx = .ok (.string ⟨(upper s).toArray⟩) wx := fun wx cap h => by
        have hl : (upper s).length = s.length := by simp [upper]
        have := run_convert_bytes_back (P := Tryd.prog) wx 55 9 5 ⟨w.heap.size, 0, none⟩ cap (upper s) Tryd.underlying55 Tryd.underlying5 Tryd.underlying9 (fun j hj => by
          have hj' : j < s.length := by omega
          have e : (Addr.add ⟨w.heap.size, 0, none⟩ j : Addr) = ⟨w.heap.size, j, none⟩ := by simp [Addr.add]; omega
          rw [e, h.cell j hj']
          simp [mixed, hj', upper])
        rw [hl] at this
        exact this
      have hb0 := hbk wr
      have hb1 := hb0 (grownCap w s.length 0 5) hat
      go_wp2
      go_ret
      exact ⟨rfl, hat.ext⟩
    | succ g =>
      have hi : i < s.length := by omega
      have hil : (i : Int) < (s.length : Int) := by omega
      have hc := hat.cell i hi
      have hf := hat.frz i hi
      have hm : mixed s i i = s.getD i 0 := by unfold mixed; rw [if_neg (by omega)]
      rw [hm] at hc
      have hnx : UpAt w s (i + 1) (wr.setCell ⟨w.heap.size, i, none⟩ (.int .u8 (upB (s.getD i 0)).toNat)) := hat.step hi
      have hsm : upB (s.getD i 0) = s.getD i 0 → UpAt w s (i + 1) wr := hat.same
      generalize s.getD i 0 = x at hc hnx hsm
      by_cases h97 : 97 ≤ x
      · have z97 : (97 : Int) ≤ (x.toNat : Int) := by have : (97 : UInt8).toNat ≤ x.toNat := h97; exact_mod_cast this
        by_cases h122 : x ≤ 122
        · have z122 : (x.toNat : Int) ≤ 122 := by have : x.toNat ≤ (122 : UInt8).toNat := h122; exact_mod_cast this
          have eu : ((upB x).toNat : Int) = (x.toNat : Int) - 32 := by
            unfold upB
            rw [if_pos ⟨h97, h122⟩, UInt8.toNat_sub_of_le _ _ (by show (32 : UInt8).toNat ≤ x.toNat; have : (32 : UInt8).toNat = 32 := rfl; omega)]
            have : (32 : UInt8).toNat = 32 := rfl
            omega
          rw [eu] at hnx
          have hw : IntKind.u8.wrap ((x.toNat : Int) - 32) = (x.toNat : Int) - 32 := by
            have := x.toNat_lt
            have hb : IntKind.u8.bits = 8 := rfl
            simp only [IntKind.wrap, hb]
            simp; omega
          go_wp2
          go_roundg g
          case measure => omega
          case rel => exact ⟨i + 1, by omega, by simp, hnx⟩
        · have z122 : ¬ (x.toNat : Int) ≤ 122 := fun e => h122 (by show x.toNat ≤ (122 : UInt8).toNat; exact_mod_cast e)
          have hs2 := hsm (by unfold upB; rw [if_neg (fun e => h122 e.2)])
          go_wp2
          go_roundg g
          case measure => omega
          case rel => exact ⟨i + 1, by omega, by simp, hs2⟩
      · have z97 : ¬ (97 : Int) ≤ (x.toNat : Int) := fun e => h97 (by show (97 : UInt8).toNat ≤ x.toNat; exact_mod_cast e)
        have hs2 := hsm (by unfold upB; rw [if_neg (fun e => h97 e.1)])
        go_wp2
        go_roundg g
        case measure => omega
        case rel => exact ⟨i + 1, by omega, by simp, hs2⟩
end Go.Proofs.YtadgfmmmdhlljaaDoor
end
section
namespace Go.Li
open Go Go.Wk Go.Wl
theorem all8 {P : UInt8 → Prop} (h : ∀ n : Fin 256, P (UInt8.ofNat n.val)) (c : UInt8) : P c := by
  have := h ⟨c.toNat, c.toNat_lt⟩
  simpa using this
theorem letter_up (c : UInt8) : letterB c = true → letterB (upB c) = true ∧ upB (upB c) = upB c :=
  all8 (P := fun c => letterB c = true → letterB (upB c) = true ∧ upB (upB c) = upB c) (by decide +kernel) c
def lowB (c : UInt8) : UInt8 := if 65 ≤ c ∧ c ≤ 90 then c + 32 else c
theorem low_up (c : UInt8) : upB (lowB c) = upB c ∧ letterB (lowB c) = letterB c ∧ (c ≠ 46 → lowB c ≠ 46) ∧ lowB 46 = 46 :=
  all8 (P := fun c => upB (lowB c) = upB c ∧ letterB (lowB c) = letterB c ∧ (c ≠ 46 → lowB c ≠ 46) ∧ lowB 46 = 46) (by decide +kernel) c
theorem upper_right {a : Str} (h : a.all letterB = true) : (upper a).all letterB = true ∧ upper (upper a) = upper a := by
  induction a with
  | nil => exact ⟨rfl, rfl⟩
  | cons c a ih =>
    rw [List.all_cons, Bool.and_eq_true] at h
    obtain ⟨h1, h2⟩ := letter_up c h.1
    obtain ⟨h3, h4⟩ := ih h.2
    refine ⟨by show ((upB c) :: upper a).all letterB = true; rw [List.all_cons, h1, h3]; rfl, ?_⟩
    show upB (upB c) :: upper (upper a) = upB c :: upper a
    rw [h2, h4]
theorem take_all (p : UInt8 → Bool) (s : Str) : (s.takeWhile p).all p = true := by
  induction s with
  | nil => rfl
  | cons c s ih =>
    rw [List.takeWhile_cons]
    split
    · rename_i h; rw [List.all_cons, h, ih]; rfl
    · rfl
theorem pName_right {s n r : Str} (h : pName s = some (n, r)) : isName n := by
  unfold pName at h
  split at h
  · cases h
  · rename_i hn
    cases h
    obtain ⟨h1, h2⟩ := upper_right (take_all letterB s)
    refine ⟨fun e => hn ?_, h1, h2⟩
    exact List.map_eq_nil_iff.1 e
theorem said_all : ∀ (n : Nat) (s : Str), s.length ≤ n → s.all standsB = true → (said s).all saysB = true := by
  have st : ∀ c, standsB c = true → saysB c = true := fun c h => by unfold saysB; rw [h]; rfl
  intro n
  induction n with
  | zero => intro s h _; obtain rfl := List.eq_nil_of_length_eq_zero (Nat.le_zero.1 h); rfl
  | succ n ih =>
    intro s hs h
    match s, hs, h with
    | [], _, _ => rfl
    | [c], _, h => rw [List.all_cons, Bool.and_eq_true] at h; show List.all [c] saysB = true; rw [List.all_cons, st c h.1]; rfl
    | c :: d :: r, hs, h =>
      rw [List.all_cons, List.all_cons, Bool.and_eq_true, Bool.and_eq_true] at h
      obtain ⟨h1, h2, h3⟩ := h
      simp only [List.length_cons] at hs
      have i1 := ih r (by omega) h3
      have i2 := ih (d :: r) (by simp only [List.length_cons]; omega) (by rw [List.all_cons, h2, h3]; rfl)
      rw [said]
      split
      · rw [List.all_cons, i1]; rfl
      · split
        · rw [List.all_cons, i1]; rfl
        · split
          · rw [List.all_cons, i1]; rfl
          · rw [List.all_cons, i2, st c h1]; rfl
theorem all_imp {p q : UInt8 → Bool} (hpq : ∀ c, p c = true → q c = true) {s : Str} (h : s.all p = true) : s.all q = true := List.all_eq_true.2 fun c hc => hpq c (List.all_eq_true.1 h c hc)
theorem pValue_right {s v r : Str} (h : pValue s = some (v, r)) : v.all saysB = true := by
  unfold pValue at h
  split at h
  · rename_i t ht
    split at h
    · cases h
      exact said_all _ _ (Nat.le_refl _) (all_imp (fun c hc => by unfold inB at hc; rw [Bool.and_eq_true] at hc; exact hc.1) (take_all inB t))
    · cases h
  · cases h
    exact said_all _ _ (Nat.le_refl _) (all_imp (fun c hc => by unfold plainB at hc; rw [Bool.and_eq_true] at hc; exact hc.1) (take_all plainB s))
theorem pVals_right : ∀ (n : Nat) (s : Str), s.length ≤ n → ∀ l r, pVals s = some (l, r) → l ≠ [] ∧ ∀ v ∈ l, v.all saysB = true := by
  intro n
  induction n with
  | zero =>
    intro s hs l r h
    rw [pVals_eq] at h
    split at h
    · cases h
    · rename_i v t ht
      have h1 := pValue_len ht
      have h0 := pValue_right ht
      split at h
      · cases h; exact ⟨by simp, fun x hx => by rw [List.mem_singleton.1 hx]; exact h0⟩
      · rename_i u hu
        have := hdIs_len hu
        omega
  | succ n ih =>
    intro s hs l r h
    rw [pVals_eq] at h
    split at h
    · cases h
    · rename_i v t ht
      have h1 := pValue_len ht
      have h0 := pValue_right ht
      split at h
      · cases h; exact ⟨by simp, fun x hx => by rw [List.mem_singleton.1 hx]; exact h0⟩
      · rename_i u hu
        have := hdIs_len hu
        split at h
        · cases h
        · rename_i l' r' h'
          cases h
          obtain ⟨_, i2⟩ := ih u (by omega) _ _ h'
          refine ⟨by simp, fun x hx => ?_⟩
          rcases List.mem_cons.1 hx with rfl | hx
          · exact h0
          · exact i2 x hx
theorem pParam_right {s r : Str} {x : Param} (h : pParam s = some (x, r)) : rightX x := by
  unfold pParam at h
  split at h
  · cases h
  · rename_i n t ht
    split at h
    · cases h
    · rename_i u hu
      split at h
      · cases h
      · rename_i l' r' h'
        cases h
        obtain ⟨h1, h2⟩ := pVals_right _ _ (Nat.le_refl _) _ _ h'
        exact ⟨pName_right ht, h1, h2⟩
theorem pParams_right : ∀ (n : Nat) (s : Str), s.length ≤ n → ∀ l r, pParams s = some (l, r) → ∀ x ∈ l, rightX x := by
  intro n
  induction n with
  | zero =>
    intro s hs l r h
    rw [pParams_eq] at h
    split at h
    · cases h; intro x hx; cases hx
    · rename_i t ht
      have := hdIs_len ht
      omega
  | succ n ih =>
    intro s hs l r h
    rw [pParams_eq] at h
    split at h
    · cases h; intro x hx; cases hx
    · rename_i t ht
      have h1 := hdIs_len ht
      split at h
      · cases h
      · rename_i x t' hp
        have h2 := pParam_len hp
        split at h
        · cases h
        · rename_i l' r' h'
          cases h
          intro y hy
          rcases List.mem_cons.1 hy with rfl | hy
          · exact pParam_right hp
          · exact ih _ (by omega) _ _ h' y hy
theorem read_right {s : Str} {p : Prp} (h : pProp s = some p) : right0 p := by
  unfold pProp at h
  split at h
  · cases h
  · rename_i g n r hh
    split at h
    · cases h
    · rename_i l t hl
      split at h
      · cases h
      · rename_i v hv
        split at h
        · rename_i hs
          cases h
          have hp := pParams_right _ _ (Nat.le_refl _) _ _ hl
          unfold pHead at hh
          split at hh
          · cases hh
          · rename_i m u hm
            split at hh
            · cases hh
              exact ⟨pName_right hm, fun e => absurd rfl e, hs, hp⟩
            · split at hh
              · cases hh
              · rename_i m2 u2 hm2
                cases hh
                exact ⟨pName_right hm2, fun _ => pName_right hm, hs, hp⟩
        · cases h
end Go.Li
end
section
namespace Go.Fo
open Go Go.Wk Go.Wl
theorem take_next {α : Type} [Inhabited α] {L : List α} {k : Int} (h0 : 0 ≤ k) (h1 : k < L.length) : L.take (k + 1).toNat = L.take k.toNat ++ [ix L k] := by
  rw [show (k + 1).toNat = k.toNat + 1 by omega, List.take_succ_eq_append_getElem (by omega), ix_get (by omega)]
theorem mem_of_ix {α : Type} [Inhabited α] {l : List α} {i : Int} (h0 : 0 ≤ i) (h1 : i < l.length) : ix l i ∈ l := by
  rw [ix_get (by omega)]; exact List.getElem_mem _
end Go.Fo
end
section
namespace Go.Li
open Go Go.Wk Go.Wl
def replB (c : UInt8) (t : Str) (s : Str) : Str := s.flatMap fun d => if d = c then t else [d]
theorem replB_cons (c d : UInt8) (t s : Str) : replB c t (d :: s) = (if d = c then t else [d]) ++ replB c t s := by simp [replB]
theorem replB_app (c : UInt8) (t a b : Str) : replB c t (a ++ b) = replB c t a ++ replB c t b := by simp [replB]
theorem replB_none {c : UInt8} {t : Str} : ∀ {s : Str}, s.count c = 0 → replB c t s = s
  | [], _ => rfl
  | d :: s, h => by
    have hd : d ≠ c := fun e => by subst e; simp at h
    have hs : s.count c = 0 := by rw [List.count_cons] at h; omega
    rw [replB_cons, if_neg hd, replB_none hs]; rfl
theorem replB_hit {c : UInt8} (t : Str) : ∀ {s : Str}, 0 < s.count c → ∃ i : Nat, Lib.indexByte s c = i ∧ i < s.length ∧ replB c t s = s.take i ++ (t ++ replB c t (s.drop (i + 1))) ∧ (s.drop (i + 1)).count c + 1 = s.count c
  | [], h => by simp at h
  | d :: s, h => by
    by_cases hd : d = c
    · subst hd
      exact ⟨0, by simp [Lib.indexByte], by simp, by simp [replB_cons], by simp⟩
    · have hc : (d :: s).count c = s.count c := by rw [List.count_cons_of_ne hd]
      rw [hc] at h
      obtain ⟨i, h1, h2, h3, h4⟩ := replB_hit t h
      refine ⟨i + 1, ?_, by simp; omega, ?_, by rw [hc]; exact h4⟩
      · simp only [Lib.indexByte]
        have hb : (d == c) = false := by simpa using hd
        simp [hb, hd, h1]
        try omega
      · rw [replB_cons, if_neg hd, h3]; simp
theorem esc_repl : ∀ v : Str, replB 10 [94, 110] (replB 34 [94, 39] (replB 94 [94, 94] v)) = esc v
  | [] => rfl
  | c :: v => by
    have ih := esc_repl v
    have e : esc (c :: v) = escB c ++ esc v := by simp [esc]
    rw [e, replB_cons, replB_app, replB_app, ih]
    congr 1
    unfold escB
    by_cases h1 : c = 94
    · subst h1; decide
    · by_cases h2 : c = 34
      · subst h2; decide
      · by_cases h3 : c = 10
        · subst h3; decide
        · simp [h1, h2, h3, replB]
theorem esc_quote : ∀ v : Str, ((esc v).any fun c => [59, 58, 44].contains c) = v.any quoteB
  | [] => rfl
  | c :: v => by
    have ih := esc_quote v
    have e : esc (c :: v) = escB c ++ esc v := by simp [esc]
    rw [e, List.any_append, ih, List.any_cons]
    congr 1
    unfold escB quoteB
    by_cases h1 : c = 94
    · subst h1; decide
    · by_cases h2 : c = 34
      · subst h2; decide
      · by_cases h3 : c = 10
        · subst h3; decide
        · simp [h1, h2, h3, Bool.or_assoc]
          rfl
theorem replB_len (c : UInt8) {t : Str} (ht : t.length = 2) : ∀ s : Str, (replB c t s).length ≤ 2 * s.length
  | [] => Nat.le_refl _
  | d :: s => by
    have ih := replB_len c ht s
    rw [replB_cons, List.length_append, List.length_cons]
    split
    · omega
    · simp; omega
theorem join_told : ∀ l : List Str, Lib.join (l.map told) [44] = joinV l
  | [] => rfl
  | [v] => by simp [Lib.join, joinV]
  | v :: u :: l => by
    have ih := join_told (u :: l)
    simp only [List.map_cons] at ih ⊢
    simp only [Lib.join, joinV]
    simp
    exact ih
end Go.Li
end
section
namespace Go.Proofs.YtadgfmmmdhlljaaDoor
open Go Go.Wk Go.Wl Go.Rx Go.Fo Go.Li Go.Proofs Go.RowKit
/-- A builder whose buffer is laid anew. -/
theorem bd_grown {b : Nat} {w : World} {cs : Array Value} (hb : w.heap[b]? = some (.cells #[.pointer (some ⟨b, 0, none⟩), .slice none 0 0] 78 (0, 0))) (hm : cs.size ≤ maxLen) :
    ∃ F', BldIs 78 5 b ((w.setCell ⟨b, 1, none⟩ (.slice (some ⟨w.heap.size, 0, none⟩) 0 cs.size)).alloc (.cells cs 5)).drew.drew.drew [] F' ∧ Turn w ((w.setCell ⟨b, 1, none⟩ (.slice (some ⟨w.heap.size, 0, none⟩) 0 cs.size)).alloc (.cells cs 5)).drew.drew.drew [b] F' := by
  have ho : Own w b 78 [.pointer (some ⟨b, 0, none⟩), .slice none 0 0] := hb
  have hlt := ho.lt
  obtain ⟨k1, k2, k3⟩ := Own.setCell ho 1 (.slice (some ⟨w.heap.size, 0, none⟩) 0 cs.size)
  have x1 : Ext [] (w.setCell ⟨b, 1, none⟩ (.slice (some ⟨w.heap.size, 0, none⟩) 0 cs.size)) ((w.setCell ⟨b, 1, none⟩ (.slice (some ⟨w.heap.size, 0, none⟩) 0 cs.size)).alloc (.cells cs 5)) := ext_alloc _
  have x2 : Ext [b] w ((w.setCell ⟨b, 1, none⟩ (.slice (some ⟨w.heap.size, 0, none⟩) 0 cs.size)).alloc (.cells cs 5)) := k2.trans x1 (fun _ h => .inl h) (fun _ h => by cases h)
  have hnew : ((w.setCell ⟨b, 1, none⟩ (.slice (some ⟨w.heap.size, 0, none⟩) 0 cs.size)).alloc (.cells cs 5)).heap[w.heap.size]? = some (.cells cs 5 (0, 0)) := by
    have gen : ∀ (X : World) (o : Obj), (X.alloc o).heap[X.heap.size]? = some o := fun X o => by
      show (X.heap.push o)[X.heap.size]? = _
      simp
    have := gen (w.setCell ⟨b, 1, none⟩ (.slice (some ⟨w.heap.size, 0, none⟩) 0 cs.size)) (.cells cs 5 (0, 0))
    rw [k3] at this
    exact this
  have o2 := k1.ext x1 (by simp)
  refine bld_after (x' := []) (v := .slice none 0 0) (v' := .slice (some ⟨w.heap.size, 0, none⟩) 0 cs.size) (F := [b]) (by simp [bldF, Value.ownBlock]) (.inr rfl) o2 ?_ (by simp [Value.ownBlock]; omega) ⟨x2.os, x2.tape, x2.output, x2.size, x2.block⟩ (fun k hk => .inr ?_)
  · exact ⟨rfl, .inr ⟨w.heap.size, cs.size, cs, (0, 0), rfl, Nat.zero_le _, hnew, Nat.zero_le _, Nat.zero_le _, hm, by simp, by simp [Lib.byteCells]⟩⟩
  · have : w.heap.size = k := by simpa [Value.ownBlock] using hk
    omega
set_option maxHeartbeats 2000000 in
set_option maxRecDepth 1000000 in
theorem bd_grow0 (b n : Nat) (w : World) (hb : w.heap[b]? = some (.cells #[.pointer (some ⟨b, 0, none⟩), .slice none 0 0] 78 (0, 0))) (hn : n ≤ 281474976710656) :
    Calls Tryd.prog 123 #[.pointer (some ⟨b, 0, none⟩), .int .i64 n] w fun e w' => e = .returned (.tuple #[]) ∧ ∃ F', BldIs 78 5 b w' [] F' ∧ Turn w w' [b] F' := by
  obtain ⟨cs, hrun, hle, hmax⟩ := Lib.run_makeNoZero (P := Tryd.prog) w.drew #[3] 55 5 Tryd.underlying55 n hn
  have hw : IntKind.i64.wrap (IntKind.i64.wrap 0 + (n : Int)) = n := by
    rw [IntKind.wrap_i64, IntKind.wrap_i64]
    omega
  have hcall : (callFunc 138 #[.int .i64 (IntKind.i64.wrap (IntKind.i64.wrap 0 + (n : Int)))]).run Tryd.prog w.drew = .ok (.value (.slice (some ⟨w.drew.heap.size, 0, none⟩) n cs.size)) (w.drew.drew.drew.alloc (.cells cs 5)) := by
    rw [hw, run_callFunc_extern Tryd.func138 (by kernel_rfl) (by kernel_rfl) (by kernel_rfl) (e := Extern.BytealgMakeNoZero.makeNoZero #[3] #[55]) (by kernel_rfl), hrun]
    rfl
  have ho : Own w b 78 [.pointer (some ⟨b, 0, none⟩), .slice none 0 0] := hb
  have hlt := ho.lt
  have c1 : w.drew.cell? ⟨b, 1, none⟩ = some (.slice none 0 0) := by
    have : w.cell? ⟨b, 1, none⟩ = some (.slice none 0 0) := by rw [Own.cellv ho]; rfl
    exact this
  have ho1 := ho.ext (ext_alloc (B := []) (.cells cs 5)) (by simp)
  have c2 : (w.alloc (.cells cs 5)).cell? ⟨b, 1, none⟩ = some (.slice none 0 0) := by rw [Own.cellv ho1]; rfl
  have f2 : (w.alloc (.cells cs 5)).frozen? ⟨b, 1, none⟩ = false := by unfold Own at ho1; simp [World.frozen?, ho1]
  obtain ⟨ib, hib, hibs⟩ : ∃ j, Tryd.prog.info? 5 = some j ∧ j.size = 1 := by
    obtain ⟨j, hj, h⟩ := Option.map_eq_some_iff.1 (show (Tryd.prog.info? 5).map (·.size) = some 1 by kernel_rfl)
    exact ⟨j, hj, h⟩
  have hcopy : ∀ W : World, (Builtin.copy_ #[55, 55] 3 #[.slice (some ⟨w.heap.size, 0, none⟩) 0 cs.size, .slice none 0 0]).run Tryd.prog W = .ok (goInt 0) W :=
    fun W => run_copy_none W 55 55 3 5 _ _ 0 cs.size 0 0 Tryd.underlying55 (by kernel_rfl) rfl
  clear hw
  have mixed : Tryd.prog.follows .mixedOrders = true := by kernel_rfl
  have hfin := bd_grown (cs := cs) hb (hmax (by unfold maxLen; omega))
  go_enter Tryd.func123, Tryd.ntmps123
  go_wp2
  go_region_o
  all_goals (go_wp2; go_end0; exact ⟨rfl, hfin⟩)

set_option maxHeartbeats 2000000 in
set_option maxRecDepth 1000000 in
theorem bd_Grow (b n : Nat) (w : World) (hb : w.heap[b]? = some (.cells #[.pointer none, .slice none 0 0] 78 (0, 0))) (hn : n ≤ 281474976710656) :
    Calls Tryd.prog 111 #[.pointer (some ⟨b, 0, none⟩), .int .i64 n] w fun e w' => e = .returned (.tuple #[]) ∧ ∃ F', BldIs 78 5 b w' [] F' ∧ Turn w w' [b] F' := by
  have ho : Own w b 78 [.pointer none, .slice none 0 0] := hb
  have hlt := ho.lt
  have c0 : w.cell? ⟨b, 0, none⟩ = some (.pointer none) := by rw [Own.cellv ho]; rfl
  obtain ⟨k1, k2, k3⟩ := Own.setCell ho 0 (.pointer (some ⟨b, 0, none⟩))
  have hb1 : (w.setCell ⟨b, 0, none⟩ (.pointer (some ⟨b, 0, none⟩))).heap[b]? = some (.cells #[.pointer (some ⟨b, 0, none⟩), .slice none 0 0] 78 (0, 0)) := k1
  have c1 : (w.setCell ⟨b, 0, none⟩ (.pointer (some ⟨b, 0, none⟩))).cell? ⟨b, 1, none⟩ = some (.slice none 0 0) := by rw [Own.cellv k1]; rfl
  have c1' : (w.setCell ⟨b, 0, none⟩ (.pointer (some ⟨b, 0, none⟩))).drew.cell? ⟨b, 1, none⟩ = some (.slice none 0 0) := c1
  have fin0 : ∃ F', BldIs 78 5 b (w.setCell ⟨b, 0, none⟩ (.pointer (some ⟨b, 0, none⟩))).drew [] F' ∧ Turn w (w.setCell ⟨b, 0, none⟩ (.pointer (some ⟨b, 0, none⟩))).drew [b] F' :=
    bld_after (x' := []) (v := .slice none 0 0) (v' := .slice none 0 0) (F := [b]) (by simp [bldF, Value.ownBlock]) (.inr rfl) hb1 (World.ownsRowF_nil _ _ _ _) (by simp [Value.ownBlock]) ⟨k2.os, k2.tape, k2.output, k2.size, k2.block⟩ (fun k hk => by simp [Value.ownBlock] at hk)
  have fin1 : ∀ (w2 : World) (F' : List Nat), BldIs 78 5 b w2 [] F' → Turn (w.setCell ⟨b, 0, none⟩ (.pointer (some ⟨b, 0, none⟩))).drew w2 [b] F' → ∃ F', BldIs 78 5 b w2 [] F' ∧ Turn w w2 [b] F' := fun w2 F' h1 h2 => by
    have h3 : Ext [b] (w.setCell ⟨b, 0, none⟩ (.pointer (some ⟨b, 0, none⟩))) w2 := ⟨h2.1.os, h2.1.tape, h2.1.output, h2.1.size, h2.1.block⟩
    refine ⟨F', h1, k2.trans h3 (fun _ h => .inl h) (fun _ h => .inl h), fun k hk => (h2.2 k hk).imp id (fun h => ?_)⟩
    have h : (w.setCell ⟨b, 0, none⟩ (.pointer (some ⟨b, 0, none⟩))).heap.size ≤ k := h
    omega
  have mixed : Tryd.prog.follows .mixedOrders = true := by kernel_rfl
  have e94 : ∀ args w, (callFunc 94 args).run Tryd.prog w = .ok (.enter 94 args) w := Tryd.call94
  have e123 : ∀ args w, (callFunc 123 args).run Tryd.prog w = .ok (.enter 123 args) w := Tryd.call123
  go_enter Tryd.func111, Tryd.ntmps111
  go_wp2_with (go_at_call 94; refine (bd_fresh b w c0 (by simp [World.shape?, hb]) (by simp [World.frozen?, hb])).mono ?_; rintro e w' ⟨rfl, rfl⟩)
  go_region_o
  all_goals go_wp2_with (go_at_call 123; refine (bd_grow0 b n (w.setCell ⟨b, 0, none⟩ (.pointer (some ⟨b, 0, none⟩))).drew hb1 hn).mono ?_; rintro e w2 ⟨rfl, F', h1, h2⟩)
  all_goals first
    | (go_end0; exact ⟨rfl, fin0⟩)
    | (go_end0; exact ⟨rfl, fin1 _ _ h1 h2⟩)
end Go.Proofs.YtadgfmmmdhlljaaDoor
end
section
namespace Go.Proofs.YtadgfmmmdhlljaaDoor
open Go Go.Wk Go.Wl Go.Rx Go.Fo Go.Li Go.Proofs Go.RowKit
/-- Nothing is asked of the package's variables. -/
def G0 : Glob where
  is := fun _ _ => True
  stab := fun _ _ _ _ => trivial
noncomputable def EV0 : Env := { E0 with G := G0 }
theorem EV0_ok : EnvOK EV0 := by
  refine ⟨E0_ok.mixed, E0_ok.zob, E0_ok.call, E0_ok.inl, fun K f args nx c h => ?_, fun K f args nx c h => ?_, fun K o x args r h => ?_, fun K o a x r h => ?_⟩
  · cases h
  · cases h
  · cases h
  · cases h
theorem LendU.okV {K : Nat} {args : List (SV U)} {q : Q1 U} (h : LendU K args q) : LendOK EV0 K args ⟨q.ob, q.hy, q.v, []⟩ := fun D w vs _ _ ha => h D w vs ha
def cUp (a : List (SV U)) : Option (Q1 U) := match a with | [.str s] => some ⟨[], [], .str (upper s)⟩ | _ => none
theorem cUp_of {K : Nat} (hK : ∀ (s : Str) (w : World), s.length ≤ 9223372036854775807 → Calls Tryd.prog K #[.string ⟨s.toArray⟩] w fun e w' => e = .returned (.string ⟨(upper s).toArray⟩) ∧ Ext [] w w') (args : List (SV U)) (q : Q1 U) (h : cUp args = some q) : LendU K args q := by
  unfold cUp at h
  split at h
  · rename_i s
    cases h
    intro D w vs ha
    obtain ⟨v1, r1, rfl, h1, ha⟩ := Rep.tup_cons ha
    obtain rfl := tup0_inv ha
    cases h1 with | str hl =>
    intro w1 hs
    refine Calls.mono (hK s w1 hl) fun e w2 ⟨h1, h2⟩ => ?_
    exact ⟨_, w2, h1, Sim.refl _, sim_ext hs h2, .str (by unfold upper; rw [List.length_map]; exact hl), trivial⟩
  · cases h
/-- strings.Join. -/
theorem join_run (l : List Str) (t : Str) (D : Nat → Prop) (w w1 : World) (hs : Sim w w1) (v : Value) (hv : (dSlice dStr).rd D w [v] l) (h1 : (Lib.join l t).length ≤ 140737488355328) (h2 : l.length ≤ 140737488355328) :
    Calls Tryd.prog 71 #[v, sv t] w1 fun e w' => e = .returned (.string ⟨(Lib.join l t).toArray⟩) ∧ Ext [] w w' := by
  obtain ⟨_, A, cap, e, ⟨_, hcap⟩, hc⟩ := hv
  simp only [List.cons.injEq, and_true] at e
  subst e
  cases l with
  | nil =>
    refine Calls.mono (Tryd.strings_Join_none A cap ⟨t.toArray⟩ w1) fun e w2 ⟨g1, g2⟩ => ?_
    subst g2
    exact ⟨g1, sim_ext hs (Ext.refl _ _)⟩
  | cons x l =>
    obtain ⟨b, o, c, eA, hb, hcell, hrd⟩ := hc 0 (by simp)
    subst eA
    obtain ⟨xs, hxs⟩ : ∃ xs : List ByteArray, xs = (x :: l).map fun s => ⟨s.toArray⟩ := ⟨_, rfl⟩
    have exs : xs.map (·.data.toList) = x :: l := by
      rw [hxs, List.map_map]
      have : ((fun b : ByteArray => b.data.toList) ∘ fun s : Str => (⟨s.toArray⟩ : ByteArray)) = id := by funext s; simp
      rw [this, List.map_id]
    have el : xs.length = (x :: l).length := by rw [hxs, List.length_map]
    have hcells : ∀ (j : Nat) y, xs[j]? = some y → w1.cell? ⟨b, o + j, none⟩ = some (.string y) := fun j y hy => by
      rw [Sim.cell hs]
      have hj : j < (x :: l).length := by
        have := (List.getElem?_eq_some_iff.1 hy).1
        omega
      obtain ⟨b', o', c', eA', _, hcell', hrd'⟩ := hc j hj
      simp only [Option.some.injEq, Addr.mk.injEq] at eA'
      obtain ⟨rfl, rfl, -⟩ := eA'
      have hc1 := hrd'.1
      subst hc1
      obtain ⟨C, T, z, hh, hC⟩ := hcell'
      have := hC 0 (by simp)
      have e1 : o + j * dStr.sz + 0 = o + j := by show o + j * 1 + 0 = o + j; omega
      rw [e1] at this
      have ey : y = ⟨((x :: l)[j]).toArray⟩ := by
        have h := (List.getElem?_eq_some_iff.1 hy).2
        subst hxs
        rw [← h, List.getElem_map]
      rw [ey]
      unfold World.cell?
      simp only [hh]
      simpa [sv] using this
    have hbk : b < w1.heap.size := by
      obtain ⟨k, rfl⟩ := hs
      exact hcell.lt
    have run := Tryd.strings_Join b o cap xs ⟨t.toArray⟩ w1 hcells hbk (by omega) (by omega) (by rw [exs]; exact h1)
    rw [exs, el] at run
    exact Calls.mono run fun e w2 ⟨g1, g2⟩ => ⟨g1, below_ext hs g2⟩
def cJo (a : List (SV U)) : Option (Q1 U) := match a with | [.sl 9 l, .str t] => some ⟨[(Lib.join l t).length ≤ 140737488355328, List.length (α := Str) l ≤ 140737488355328], [], .str (Lib.join l t)⟩ | _ => none
theorem cJoU (args : List (SV U)) (q : Q1 U) (h : cJo args = some q) (ho : allP q.ob) : LendU 71 args q := by
  unfold cJo at h
  split at h
  · rename_i l t
    cases h
    obtain ⟨h1, h2, -⟩ := ho
    intro D w vs ha
    obtain ⟨v1, r1, rfl, hv1, ha⟩ := Rep.tup_cons ha
    obtain ⟨v2, r2, rfl, hv2, ha⟩ := Rep.tup_cons ha
    obtain rfl := tup0_inv ha
    cases hv1 with | sl hv1 =>
    cases hv2 with | str hl2 =>
    intro w1 hs
    exact Calls.mono (join_run l t D w w1 hs v1 hv1 h1 h2) fun e w2 ⟨g1, g2⟩ => ⟨_, w2, g1, Sim.refl _, g2, .str (by have h1 : (Lib.join l t).length ≤ 140737488355328 := h1; omega), trivial⟩
  · cases h
noncomputable def EV1 : Env := ((((EV0.addL 67 cUp).addL 113 cUp).addL 90 cCA).addL 50 cIs).addL 71 cJo
theorem EV1_ok : EnvOK EV1 := ((((EV0_ok.addL Tryd.call67 (fun a q h _ => (cUp_of up_ok a q h).okV)).addL Tryd.call113 (fun a q h _ => (cUp_of upl_ok a q h).okV)).addL Tryd.call90 (fun a q h ho => (cCAU a q h ho).okV)).addL Tryd.call50 (fun a q h _ => (cIsU a q h).okV)).addL Tryd.call71 (fun a q h ho => (cJoU a q h ho).okV)
/-! ### Bytes replaced: a Builder that may be fresh -/
def zobX (t : Nat) : Option ((k : Nat) × U.O k) := bif Nat.beq t 78 then some ⟨1, (none : Option Str)⟩ else none
noncomputable def EX0 : Env := { EV0 with zob := zobX }
theorem EX0_ok : EnvOK EX0 := by
  refine ⟨E0_ok.mixed, fun t k x h => ?_, E0_ok.call, E0_ok.inl, fun K f args nx c h => ?_, fun K f args nx c h => ?_, fun K o x args r h => ?_, fun K o a x r h => ?_⟩
  · have h : zobX t = some ⟨k, x⟩ := h
    unfold zobX at h
    cases hb : Nat.beq t 78 with
    | false => rw [hb] at h; cases h
    | true =>
      rw [hb] at h
      cases h
      have e := Nat.eq_of_beq_eq_true hb
      subst e
      exact ⟨.agg #[.pointer none, .slice none 0 0], by kernel_rfl, fun Z w b ho => ⟨ho, rfl⟩⟩
  · cases h
  · cases h
  · cases h
  · cases h
def cCo (a : List (SV U)) : Option (Q1 U) := match a with | [.str s, .str t] => some ⟨[t.length = 1], [], .int .i64 (s.count (ix t 0) : Nat)⟩ | _ => none
theorem cCoU (args : List (SV U)) (q : Q1 U) (h : cCo args = some q) (ho : allP q.ob) : LendU 136 args q := by
  unfold cCo at h
  split at h
  · rename_i s t
    cases h
    obtain ⟨c, rfl⟩ : ∃ c, t = [c] := by
      have : t.length = 1 := ho.1
      match t, this with
      | [c], _ => exact ⟨c, rfl⟩
    intro D w vs ha
    obtain ⟨v1, r1, rfl, h1, ha⟩ := Rep.tup_cons ha
    obtain ⟨v2, r2, rfl, h2, ha⟩ := Rep.tup_cons ha
    obtain rfl := tup0_inv ha
    cases h1 with | str hl =>
    cases h2 with | str hl2 =>
    intro w1 hs
    refine Calls.mono (Tryd.strings_Count_one ⟨s.toArray⟩ c w1) fun e w2 ⟨g1, g2⟩ => ?_
    subst g2
    have hcl : Lib.countByte (⟨s.toArray⟩ : ByteArray).data.toList c ≤ s.length := List.count_le_length
    exact ⟨_, w2, g1, Sim.refl _, sim_ext hs (Ext.refl _ _), .int fun _ => ⟨by omega, by omega⟩, trivial⟩
  · cases h
def cIn (a : List (SV U)) : Option (Q1 U) := match a with | [.str s, .str t] => some ⟨[t.length = 1], [], .int .i64 (Lib.indexByte s (ix t 0))⟩ | _ => none
theorem cInU (args : List (SV U)) (q : Q1 U) (h : cIn args = some q) (ho : allP q.ob) : LendU 137 args q := by
  unfold cIn at h
  split at h
  · rename_i s t
    cases h
    obtain ⟨c, rfl⟩ : ∃ c, t = [c] := by
      have : t.length = 1 := ho.1
      match t, this with
      | [c], _ => exact ⟨c, rfl⟩
    intro D w vs ha
    obtain ⟨v1, r1, rfl, h1, ha⟩ := Rep.tup_cons ha
    obtain ⟨v2, r2, rfl, h2, ha⟩ := Rep.tup_cons ha
    obtain rfl := tup0_inv ha
    cases h1 with | str hl =>
    cases h2 with | str hl2 =>
    intro w1 hs
    refine Calls.mono (Tryd.strings_Index_one ⟨s.toArray⟩ c w1) fun e w2 ⟨g1, g2⟩ => ?_
    subst g2
    have h1 : -1 ≤ Lib.indexByte (⟨s.toArray⟩ : ByteArray).data.toList c := Lib.indexByte_ge s c
    have h2 : Lib.indexByte (⟨s.toArray⟩ : ByteArray).data.toList c < s.length := indexByte_lt s c
    exact ⟨_, w2, g1, Sim.refl _, sim_ext hs (Ext.refl _ _), .int fun _ => ⟨by omega, by omega⟩, trivial⟩
  · cases h
theorem obc_of1 {K : Nat} {C : U.O 1 → List (SV U) → Option (OR U 1)} {x : Option Str} {args : List (SV U)} {r : OR U 1} (h : ∀ (D : Nat → Prop) (w : World) (vs : List Value), Rep U eT (fun _ => none) D w (.tuple vs.toArray) (.tup args) → ∃ v, (∀ w', Rep U eT (fun _ => none) (fun _ => False) w' v r.r) ∧ allP r.hy ∧
    ∀ (Z : Nat → Prop) b w1 F, (bldO 78 5 b).is Z w1 x F → Calls Tryd.prog K (Value.pointer (some ⟨b, 0, none⟩) :: vs).toArray w1 fun e w2 => e = .returned v ∧ ∃ F', (bldO 78 5 b).is Z w2 r.x F' ∧ Turn w1 w2 F F') : ObcOK EX0 K ⟨1, C⟩ x args r := by
  intro Z D w vs b F _ _ _ hb _ ha
  obtain ⟨v, hr, hy, hc⟩ := h D w vs ha
  intro w1 hs
  have hb1 : (bldO 78 5 b).is Z w1 x F := by obtain ⟨k, rfl⟩ := hs; cases x <;> exact hb
  refine Calls.mono (hc Z b w1 F hb1) fun e w2 ⟨h1, F', h2, h3⟩ => ?_
  exact ⟨v, w2, h1, Sim.refl _, F', h2, sim_turn hs h3, hr w2, hy⟩
def oGX : OC U := ⟨1, fun (x : Option Str) a => match a with | [.int .i64 n] => some ⟨[x = none, 0 ≤ n, n ≤ 140737488355328], [], .tup [], (some [] : Option Str)⟩ | _ => none⟩
theorem oGX_ok (x : U.O oGX.k) (args : List (SV U)) (r : OR U oGX.k) (h : oGX.C x args = some r) (ho : allP r.ob) : ObcOK EX0 111 oGX x args r := by
  unfold oGX at h
  simp only at h
  split at h
  · rename_i n
    cases h
    obtain ⟨hx, h0, h1, -⟩ := ho
    have hx : (x : Option Str) = none := hx
    have h0 : 0 ≤ n := h0
    have h1 : n ≤ 140737488355328 := h1
    refine obc_of1 fun D w vs ha => ⟨.tuple #[], fun _ => .tup0, trivial, fun Z b w1 F hb => ?_⟩
    obtain ⟨v1, r1, rfl, hv, ha⟩ := Rep.tup_cons ha
    obtain rfl := tup0_inv ha
    cases hv with | int hn =>
    obtain ⟨m, rfl⟩ : ∃ m : Nat, n = m := ⟨n.toNat, by omega⟩
    rw [hx] at hb
    have hb : Own w1 b 78 [.pointer none, .slice none 0 0] ∧ F = [b] := hb
    have run := bd_Grow b m w1 hb.1 (by omega)
    rw [← hb.2] at run
    exact run.mono fun _ _ h => h
  · cases h
def oWX : OC U := ⟨1, fun (x : Option Str) a => match a with | [.str t] => some ⟨[x.isSome = true, (x.getD []).length + t.length ≤ 140737488355328], [], .tup [.int .i64 t.length, .err .nil], (some (x.getD [] ++ t) : Option Str)⟩ | _ => none⟩
theorem oWX_ok (x : U.O oWX.k) (args : List (SV U)) (r : OR U oWX.k) (h : oWX.C x args = some r) (ho : allP r.ob) : ObcOK EX0 52 oWX x args r := by
  unfold oWX at h
  simp only at h
  split at h
  · rename_i t
    cases h
    obtain ⟨hx, h0, -⟩ := ho
    obtain ⟨x, rfl⟩ : ∃ s : Str, x = some s := Option.isSome_iff_exists.1 hx
    refine obc_of1 fun D w vs ha => ?_
    obtain ⟨v1, r1, rfl, h1, ha⟩ := Rep.tup_cons ha
    obtain rfl := tup0_inv ha
    cases h1 with | str hl =>
    have hr : ∀ w', Rep U eT (fun _ => none) (fun _ => False) w' (.tuple #[.int .i64 t.length, .nilIface]) (.tup [.int .i64 t.length, .err .nil]) := fun w' => .tup1 (cs := [.nilIface]) (.int fun _ => ⟨by omega, by omega⟩) (.tup1 (cs := []) (.err .nil) .tup0)
    exact ⟨_, hr, trivial, fun Z b w1 F hb => bd_write b x t w1 F hb h0⟩
  · cases h
def oSX : OC U := ⟨1, fun (x : Option Str) a => match a with | [] => some ⟨[x.isSome = true, (x.getD []).length ≤ 9223372036854775807], [], .str (x.getD []), x⟩ | _ => none⟩
theorem oSX_ok (x : U.O oSX.k) (args : List (SV U)) (r : OR U oSX.k) (h : oSX.C x args = some r) (ho : allP r.ob) : ObcOK EX0 53 oSX x args r := by
  unfold oSX at h
  simp only at h
  split at h
  · cases h
    obtain ⟨hx, h0, -⟩ := ho
    obtain ⟨x, rfl⟩ : ∃ s : Str, x = some s := Option.isSome_iff_exists.1 hx
    refine obc_of1 fun D w vs ha => ?_
    obtain rfl := tup0_inv ha
    exact ⟨_, fun w' => .str h0, trivial, fun Z b w1 F hb => bd_string b x w1 F hb⟩
  · cases h
noncomputable def EX : Env := ((((EX0.addL 136 cCo).addL 137 cIn).addO 111 oGX).addO 52 oWX).addO 53 oSX
theorem EX_ok : EnvOK EX := ((((EX0_ok.addL Tryd.call136 (fun a q h ho D w vs _ _ ha => cCoU a q h ho D w vs ha)).addL Tryd.call137 (fun a q h ho D w vs _ _ ha => cInU a q h ho D w vs ha)).addO Tryd.call111 oGX_ok).addO Tryd.call52 oWX_ok).addO Tryd.call53 oSX_ok
end Go.Proofs.YtadgfmmmdhlljaaDoor
end
section
namespace Go.Proofs.YtadgfmmmdhlljaaDoor
open Go Go.Wk Go.Wl Go.Rx Go.Fo Go.Li 
def an122 : Nat → Ann := fun | 122 => ⟨104, fun | 13 => some ⟨[0, 1, 2, 10, 52], [.slot 11 (.int .i64), .slot 53 (.int .i64), .ob 10 1]⟩ | 21 => some ⟨[0, 2, 10, 77], [.slot 11 (.int .i64), .slot 78 (.int .i64), .ob 10 1]⟩ | _ => none, fun  | _ => none⟩ | _ => ⟨0, fun _ => none, fun _ => none⟩
def V122 (s : Str) (c : UInt8) (t : Str) (n : Int) (Q : Str → Prop) : Prop :=
([c] = t ∨ n = (0 : Int) → Q s) ∧
  (¬([c] = t ∨ n = (0 : Int)) →
    [c].length = (1 : Nat) ∧
      ((↑(List.count (ix [c] (0 : Int)) s) : Int) = (0 : Int) → Q s) ∧
        (¬(↑(List.count (ix [c] (0 : Int)) s) : Int) = (0 : Int) →
          (n < (0 : Int) ∨ (↑(List.count (ix [c] (0 : Int)) s) : Int) < n →
              in64 ((↑(List.length t) : Int) - (↑[c].length : Int)) ∧
                in64 ((↑(List.count (ix [c] (0 : Int)) s) : Int) * ((↑(List.length t) : Int) - (↑[c].length : Int))) ∧
                  in64 ((↑(List.length s) : Int) + (↑(List.count (ix [c] (0 : Int)) s) : Int) * ((↑(List.length t) : Int) - (↑[c].length : Int))) ∧
                    (none : Option Str) = none ∧
                      (0 : Int) ≤ (↑(List.length s) : Int) + (↑(List.count (ix [c] (0 : Int)) s) : Int) * ((↑(List.length t) : Int) - (↑[c].length : Int)) ∧
                        (↑(List.length s) : Int) + (↑(List.count (ix [c] (0 : Int)) s) : Int) * ((↑(List.length t) : Int) - (↑[c].length : Int)) ≤ (140737488355328 : Int) ∧
                          ((0 : Int) < (↑[c].length : Int) →
                              ∃ (I : Int → Int → Option Str → Prop),
                                ∃ (m : Int → Int → Option Str → Nat),
                                  I (0 : Int) (0 : Int) (some ([] : List UInt8)) ∧
                                    ∀ (x x_1 : Int) (x_2 : Option Str),
                                      I x x_1 x_2 →
                                        (x_1 < (↑(List.count (ix [c] (0 : Int)) s) : Int) →
                                            (0 : Int) ≤ x ∧
                                              x ≤ (↑(List.length s) : Int) ∧
                                                [c].length = (1 : Nat) ∧
                                                  in64 (x + Lib.indexByte (List.drop x.toNat s) (ix [c] (0 : Int))) ∧
                                                    (0 : Int) ≤ x ∧
                                                      x ≤ x + Lib.indexByte (List.drop x.toNat s) (ix [c] (0 : Int)) ∧
                                                        x + Lib.indexByte (List.drop x.toNat s) (ix [c] (0 : Int)) ≤ (↑(List.length s) : Int) ∧
                                                          x_2.isSome = true ∧
                                                            List.length (x_2.getD []) + (List.drop x.toNat (List.take (x + Lib.indexByte (List.drop x.toNat s) (ix [c] (0 : Int))).toNat s)).length ≤
                                                                (140737488355328 : Nat) ∧
                                                              (some (x_2.getD [] ++ List.drop x.toNat (List.take (x + Lib.indexByte (List.drop x.toNat s) (ix [c] (0 : Int))).toNat s))).isSome = true ∧
                                                                List.length
                                                                        ((some (x_2.getD [] ++ List.drop x.toNat (List.take (x + Lib.indexByte (List.drop x.toNat s) (ix [c] (0 : Int))).toNat s))).getD
                                                                          []) +
                                                                      List.length t ≤
                                                                    (140737488355328 : Nat) ∧
                                                                  in64 (x + Lib.indexByte (List.drop x.toNat s) (ix [c] (0 : Int)) + (↑[c].length : Int)) ∧
                                                                    in64 (x_1 + (1 : Int)) ∧
                                                                      I (x + Lib.indexByte (List.drop x.toNat s) (ix [c] (0 : Int)) + (↑[c].length : Int)) (x_1 + (1 : Int))
                                                                          (some
                                                                            ((some
                                                                                    (x_2.getD [] ++
                                                                                      List.drop x.toNat (List.take (x + Lib.indexByte (List.drop x.toNat s) (ix [c] (0 : Int))).toNat s))).getD
                                                                                [] ++
                                                                              t)) ∧
                                                                        m (x + Lib.indexByte (List.drop x.toNat s) (ix [c] (0 : Int)) + (↑[c].length : Int)) (x_1 + (1 : Int))
                                                                            (some
                                                                              ((some
                                                                                      (x_2.getD [] ++
                                                                                        List.drop x.toNat (List.take (x + Lib.indexByte (List.drop x.toNat s) (ix [c] (0 : Int))).toNat s))).getD
                                                                                  [] ++
                                                                                t)) <
                                                                          m x x_1 x_2) ∧
                                          (¬x_1 < (↑(List.count (ix [c] (0 : Int)) s) : Int) →
                                            (0 : Int) ≤ x ∧
                                              x ≤ (↑(List.length s) : Int) ∧
                                                x_2.isSome = true ∧
                                                  List.length (x_2.getD []) + (List.drop x.toNat s).length ≤ (140737488355328 : Nat) ∧
                                                    (some (x_2.getD [] ++ List.drop x.toNat s)).isSome = true ∧
                                                      List.length ((some (x_2.getD [] ++ List.drop x.toNat s)).getD []) ≤ (9223372036854775807 : Nat) ∧
                                                        Q ((some (x_2.getD [] ++ List.drop x.toNat s)).getD []))) ∧
                            (¬(0 : Int) < (↑[c].length : Int) →
                              (some ([] : List UInt8)).isSome = true ∧
                                List.length ((some ([] : List UInt8)).getD []) + List.length t ≤ (140737488355328 : Nat) ∧
                                  in64 ((↑(List.count (ix [c] (0 : Int)) s) : Int) - (1 : Int)) ∧
                                    ∃ (I : Int → Int → Option Str → Prop),
                                      ∃ (m : Int → Int → Option Str → Nat),
                                        I (0 : Int) (0 : Int) (some ((some ([] : List UInt8)).getD [] ++ t)) ∧
                                          ∀ (x x_1 : Int) (x_2 : Option Str),
                                            I x x_1 x_2 →
                                              (x_1 < (↑(List.count (ix [c] (0 : Int)) s) : Int) - (1 : Int) → (0 : Int) ≤ x ∧ x ≤ (↑(List.length s) : Int) ∧ False) ∧
                                                (¬x_1 < (↑(List.count (ix [c] (0 : Int)) s) : Int) - (1 : Int) →
                                                  (0 : Int) ≤ x ∧
                                                    x ≤ (↑(List.length s) : Int) ∧
                                                      x_2.isSome = true ∧
                                                        List.length (x_2.getD []) + (List.drop x.toNat s).length ≤ (140737488355328 : Nat) ∧
                                                          (some (x_2.getD [] ++ List.drop x.toNat s)).isSome = true ∧
                                                            List.length ((some (x_2.getD [] ++ List.drop x.toNat s)).getD []) ≤ (9223372036854775807 : Nat) ∧
                                                              Q ((some (x_2.getD [] ++ List.drop x.toNat s)).getD [])))) ∧
            (¬(n < (0 : Int) ∨ (↑(List.count (ix [c] (0 : Int)) s) : Int) < n) →
              in64 ((↑(List.length t) : Int) - (↑[c].length : Int)) ∧
                in64 (n * ((↑(List.length t) : Int) - (↑[c].length : Int))) ∧
                  in64 ((↑(List.length s) : Int) + n * ((↑(List.length t) : Int) - (↑[c].length : Int))) ∧
                    (none : Option Str) = none ∧
                      (0 : Int) ≤ (↑(List.length s) : Int) + n * ((↑(List.length t) : Int) - (↑[c].length : Int)) ∧
                        (↑(List.length s) : Int) + n * ((↑(List.length t) : Int) - (↑[c].length : Int)) ≤ (140737488355328 : Int) ∧
                          ((0 : Int) < (↑[c].length : Int) →
                              ∃ (I : Int → Int → Option Str → Prop),
                                ∃ (m : Int → Int → Option Str → Nat),
                                  I (0 : Int) (0 : Int) (some ([] : List UInt8)) ∧
                                    ∀ (x x_1 : Int) (x_2 : Option Str),
                                      I x x_1 x_2 →
                                        (x_1 < n →
                                            (0 : Int) ≤ x ∧
                                              x ≤ (↑(List.length s) : Int) ∧
                                                [c].length = (1 : Nat) ∧
                                                  in64 (x + Lib.indexByte (List.drop x.toNat s) (ix [c] (0 : Int))) ∧
                                                    (0 : Int) ≤ x ∧
                                                      x ≤ x + Lib.indexByte (List.drop x.toNat s) (ix [c] (0 : Int)) ∧
                                                        x + Lib.indexByte (List.drop x.toNat s) (ix [c] (0 : Int)) ≤ (↑(List.length s) : Int) ∧
                                                          x_2.isSome = true ∧
                                                            List.length (x_2.getD []) + (List.drop x.toNat (List.take (x + Lib.indexByte (List.drop x.toNat s) (ix [c] (0 : Int))).toNat s)).length ≤
                                                                (140737488355328 : Nat) ∧
                                                              (some (x_2.getD [] ++ List.drop x.toNat (List.take (x + Lib.indexByte (List.drop x.toNat s) (ix [c] (0 : Int))).toNat s))).isSome = true ∧
                                                                List.length
                                                                        ((some (x_2.getD [] ++ List.drop x.toNat (List.take (x + Lib.indexByte (List.drop x.toNat s) (ix [c] (0 : Int))).toNat s))).getD
                                                                          []) +
                                                                      List.length t ≤
                                                                    (140737488355328 : Nat) ∧
                                                                  in64 (x + Lib.indexByte (List.drop x.toNat s) (ix [c] (0 : Int)) + (↑[c].length : Int)) ∧
                                                                    in64 (x_1 + (1 : Int)) ∧
                                                                      I (x + Lib.indexByte (List.drop x.toNat s) (ix [c] (0 : Int)) + (↑[c].length : Int)) (x_1 + (1 : Int))
                                                                          (some
                                                                            ((some
                                                                                    (x_2.getD [] ++
                                                                                      List.drop x.toNat (List.take (x + Lib.indexByte (List.drop x.toNat s) (ix [c] (0 : Int))).toNat s))).getD
                                                                                [] ++
                                                                              t)) ∧
                                                                        m (x + Lib.indexByte (List.drop x.toNat s) (ix [c] (0 : Int)) + (↑[c].length : Int)) (x_1 + (1 : Int))
                                                                            (some
                                                                              ((some
                                                                                      (x_2.getD [] ++
                                                                                        List.drop x.toNat (List.take (x + Lib.indexByte (List.drop x.toNat s) (ix [c] (0 : Int))).toNat s))).getD
                                                                                  [] ++
                                                                                t)) <
                                                                          m x x_1 x_2) ∧
                                          (¬x_1 < n →
                                            (0 : Int) ≤ x ∧
                                              x ≤ (↑(List.length s) : Int) ∧
                                                x_2.isSome = true ∧
                                                  List.length (x_2.getD []) + (List.drop x.toNat s).length ≤ (140737488355328 : Nat) ∧
                                                    (some (x_2.getD [] ++ List.drop x.toNat s)).isSome = true ∧
                                                      List.length ((some (x_2.getD [] ++ List.drop x.toNat s)).getD []) ≤ (9223372036854775807 : Nat) ∧
                                                        Q ((some (x_2.getD [] ++ List.drop x.toNat s)).getD []))) ∧
                            (¬(0 : Int) < (↑[c].length : Int) →
                              (some ([] : List UInt8)).isSome = true ∧
                                List.length ((some ([] : List UInt8)).getD []) + List.length t ≤ (140737488355328 : Nat) ∧
                                  in64 (n - (1 : Int)) ∧
                                    ∃ (I : Int → Int → Option Str → Prop),
                                      ∃ (m : Int → Int → Option Str → Nat),
                                        I (0 : Int) (0 : Int) (some ((some ([] : List UInt8)).getD [] ++ t)) ∧
                                          ∀ (x x_1 : Int) (x_2 : Option Str),
                                            I x x_1 x_2 →
                                              (x_1 < n - (1 : Int) → (0 : Int) ≤ x ∧ x ≤ (↑(List.length s) : Int) ∧ False) ∧
                                                (¬x_1 < n - (1 : Int) →
                                                  (0 : Int) ≤ x ∧
                                                    x ≤ (↑(List.length s) : Int) ∧
                                                      x_2.isSome = true ∧
                                                        List.length (x_2.getD []) + (List.drop x.toNat s).length ≤ (140737488355328 : Nat) ∧
                                                          (some (x_2.getD [] ++ List.drop x.toNat s)).isSome = true ∧
                                                            List.length ((some (x_2.getD [] ++ List.drop x.toNat s)).getD []) ≤ (9223372036854775807 : Nat) ∧
                                                              Q ((some (x_2.getD [] ++ List.drop x.toNat s)).getD []))))))
set_option maxRecDepth 100000 in
theorem V122_ok {s : Str} {c : UInt8} {t : Str} {n : Int} {Q : Str → Prop} (h : V122 s c t n Q) : vcFun (E := EX) (inlN an122 2) (an122 122) Tryd.f122 [.str s, .str [c], .str t, .int .i64 n] [] [] 0 (resP EX [.str] Q) := Eq.mp (show V122 s c t n Q = vcFun (E := EX) (inlN an122 2) (an122 122) Tryd.f122 [.str s, .str [c], .str t, .int .i64 n] [] [] 0 (resP EX [.str] Q) by kernel_rfl) h
theorem p122 (s : Str) (c : UInt8) (t : Str) (n : Int) (hn : n < 0) (hs : s.length ≤ 1000000000) (ht : t.length = 2) : V122 s c t n (fun y0 => y0 = replB c t s) := by
  unfold V122
  have ec : ix [c] 0 = c := rfl
  have el : (([c] : Str).length : Int) = 1 := rfl
  rw [ec, el]
  refine ⟨fun h => ?_, fun _ => ⟨rfl, fun h0 => (replB_none (by omega)).symm, fun h0 => ⟨fun _ => ?_, fun h1 => absurd (.inl hn) h1⟩⟩⟩
  · rcases h with h | h
    · rw [← h] at ht; simp at ht
    · omega
  have hcl : s.count c ≤ s.length := List.count_le_length
  rw [ht]
  refine ⟨⟨by omega, by omega⟩, ⟨by omega, by omega⟩, ⟨by omega, by omega⟩, rfl, by omega, by omega, fun _ => ?_, fun h => absurd (show (0 : Int) < 1 by omega) h⟩
  refine ⟨fun a i o => 0 ≤ a ∧ a ≤ s.length ∧ 0 ≤ i ∧ ((s.drop a.toNat).count c : Int) + i = s.count c ∧ ∃ x, o = some x ∧ x ++ replB c t (s.drop a.toNat) = replB c t s, fun a _ _ => ((s.length : Int) - a).toNat, ⟨by omega, by omega, by omega, by simp, [], rfl, by simp⟩, ?_⟩
  rintro a i o ⟨a0, a1, i0, hc, x, rfl, hx⟩
  have lx := congrArg List.length hx
  have rl := replB_len c ht s
  rw [List.length_append] at lx
  simp only [Option.getD_some, Option.isSome_some]
  refine ⟨fun hi => ?_, fun hi => ?_⟩
  · obtain ⟨j, h1, h2, h3, h4⟩ := replB_hit t (s := s.drop a.toNat) (c := c) (by omega)
    rw [List.length_drop] at h2
    rw [List.drop_drop] at h3 h4
    have e1 : a.toNat + (j + 1) = (a + j + 1).toNat := by omega
    rw [e1] at h3 h4
    have e2 : List.drop a.toNat (List.take (a + (j : Int)).toNat s) = (s.drop a.toNat).take j := by
      rw [List.drop_take]; congr 1; omega
    rw [h1, e2]
    have l1 : ((s.drop a.toNat).take j).length ≤ s.length := by rw [List.length_take, List.length_drop]; omega
    refine ⟨a0, a1, rfl, ⟨by omega, by omega⟩, a0, by omega, by omega, trivial, by omega, trivial, by rw [List.length_append]; omega, ⟨by omega, by omega⟩, ⟨by omega, by omega⟩, ⟨by omega, by omega, by omega, by omega, _, rfl, ?_⟩, by omega⟩
    rw [← hx, h3]; simp
  · have hz : (s.drop a.toNat).count c = 0 := by omega
    rw [replB_none hz] at hx
    have := congrArg List.length hx
    rw [List.length_append, List.length_drop] at this
    refine ⟨a0, a1, trivial, by rw [List.length_drop]; omega, trivial, by rw [List.length_append, List.length_drop]; omega, hx⟩
def c122 (a : List (SV U)) : Option (Q1 U) := match a with | [.str s, .str [c], .str t, .int .i64 n] => some ⟨[n < 0, List.length (α := UInt8) s ≤ 1000000000, t.length = 2], [], .str (replB c t s)⟩ | _ => none
set_option maxRecDepth 100000 in
theorem c122_ok (args : List (SV U)) (q : Q1 U) (h : c122 args = some q) (ho : allP q.ob) : LendOK EX 122 args ⟨q.ob, q.hy, q.v, []⟩ := by
  unfold c122 at h
  split at h
  · rename_i s c t n
    cases h
    exact lend1 EX_ok (inlN_ok EX_ok an122 2) Tryd.func122 (k := .str) (x := replB c t s) trivial (V122_ok (p122 s c t n ho.1 ho.2.1 ho.2.2.1)) 0
  · cases h
end Go.Proofs.YtadgfmmmdhlljaaDoor
end
section
namespace Go.Proofs.YtadgfmmmdhlljaaDoor
open Go Go.Wk Go.Wl Go.Rx Go.Fo Go.Li 
noncomputable def EV2 : Env := EV1.addL 122 c122
theorem EV2_ok : EnvOK EV2 := EV1_ok.addL Tryd.call122 (fun a q h ho D w vs hD hg ha => c122_ok a q h ho D w vs hD hg ha)
noncomputable def EV : Env := EV2.addI 110 Tryd.f110
theorem EV_ok : EnvOK EV := EV2_ok.addI Tryd.call110 Tryd.func110
end Go.Proofs.YtadgfmmmdhlljaaDoor
end
section
namespace Go.Proofs.YtadgfmmmdhlljaaDoor
open Go Go.Wk Go.Wl Go.Rx Go.Fo Go.Li 
def an108 : Nat → Ann := fun | 108 => ⟨29, fun _ => none, fun  | _ => none⟩ | _ => ⟨0, fun _ => none, fun _ => none⟩
def V108 (c : UInt8) (Q : Bool → Prop) : Prop :=
Q (decide ((((65 : UInt8) ≤ c ∧ c ≤ (90 : UInt8) ∨ (97 : UInt8) ≤ c ∧ c ≤ (122 : UInt8)) ∨ (48 : UInt8) ≤ c ∧ c ≤ (57 : UInt8)) ∨ c = (45 : UInt8)))
set_option maxRecDepth 100000 in
theorem V108_ok {c : UInt8} {Q : Bool → Prop} (h : V108 c Q) : vcFun (E := EV) (inlN an108 2) (an108 108) Tryd.f108 [.byte c] [] [] 0 (resP EV [.bool] Q) := Eq.mp (show V108 c Q = vcFun (E := EV) (inlN an108 2) (an108 108) Tryd.f108 [.byte c] [] [] 0 (resP EV [.bool] Q) by kernel_rfl) h
theorem beq_dec (a b : UInt8) : (a == b) = decide (a = b) := by
  by_cases h : a = b
  · subst h; simp
  · simp [h]
theorem p108 (c : UInt8)  : V108 c (fun y0 => y0 = letterB c) := by
  unfold V108 letterB
  rw [beq_dec]
  simp only [Bool.decide_or, Bool.decide_and]
def c108 (a : List (SV U)) : Option (Q1 U) := match a with | [.byte c] => some ⟨[], [], blB (letterB c)⟩ | _ => none
set_option maxRecDepth 100000 in
theorem c108_ok (args : List (SV U)) (q : Q1 U) (h : c108 args = some q) (ho : allP q.ob) : LendOK EV 108 args ⟨q.ob, q.hy, q.v, []⟩ := by
  unfold c108 at h
  split at h
  · rename_i c
    cases h
    exact lend1 EV_ok (inlN_ok EV_ok an108 2) Tryd.func108 (k := .bool) (x := letterB c) trivial (V108_ok (p108 c )) 0
  · cases h
noncomputable def N108 : Env := EV.addL 108 c108
theorem N108_ok : EnvOK N108 := EV_ok.addL Tryd.call108 c108_ok
end Go.Proofs.YtadgfmmmdhlljaaDoor
end
section
namespace Go.Proofs.YtadgfmmmdhlljaaDoor
open Go Go.Wk Go.Wl Go.Rx Go.Fo Go.Li 
def an36 : Nat → Ann := fun | 36 => ⟨13, fun _ => none, fun  | _ => none⟩ | _ => ⟨0, fun _ => none, fun _ => none⟩
def V36 (c : UInt8) (Q : Bool → Prop) : Prop :=
Q (decide (c = (9 : UInt8) ∨ (32 : UInt8) ≤ c ∧ c ≠ (127 : UInt8)))
set_option maxRecDepth 100000 in
theorem V36_ok {c : UInt8} {Q : Bool → Prop} (h : V36 c Q) : vcFun (E := N108) (inlN an36 2) (an36 36) Tryd.f36 [.byte c] [] [] 0 (resP N108 [.bool] Q) := Eq.mp (show V36 c Q = vcFun (E := N108) (inlN an36 2) (an36 36) Tryd.f36 [.byte c] [] [] 0 (resP N108 [.bool] Q) by kernel_rfl) h
theorem p36 (c : UInt8)  : V36 c (fun y0 => y0 = standsB c) := by
  unfold V36 standsB
  rw [bne, beq_dec, beq_dec]
  simp only [Bool.decide_or, Bool.decide_and, ne_eq, decide_not]
def c36 (a : List (SV U)) : Option (Q1 U) := match a with | [.byte c] => some ⟨[], [], blB (standsB c)⟩ | _ => none
set_option maxRecDepth 100000 in
theorem c36_ok (args : List (SV U)) (q : Q1 U) (h : c36 args = some q) (ho : allP q.ob) : LendOK N108 36 args ⟨q.ob, q.hy, q.v, []⟩ := by
  unfold c36 at h
  split at h
  · rename_i c
    cases h
    exact lend1 N108_ok (inlN_ok N108_ok an36 2) Tryd.func36 (k := .bool) (x := standsB c) trivial (V36_ok (p36 c )) 0
  · cases h
noncomputable def N36 : Env := N108.addL 36 c36
theorem N36_ok : EnvOK N36 := N108_ok.addL Tryd.call36 c36_ok
end Go.Proofs.YtadgfmmmdhlljaaDoor
end
section
namespace Go.Proofs.YtadgfmmmdhlljaaDoor
open Go Go.Wk Go.Wl Go.Rx Go.Fo Go.Li 
def an109 : Nat → Ann := fun | 109 => ⟨85, fun | 3 => some ⟨[0], [.slot 3 .str, .slot 4 (.int .i64)]⟩ | _ => none, fun  | _ => none⟩ | _ => ⟨0, fun _ => none, fun _ => none⟩
def V109 (s : Str) (Q : Str → Prop) : Prop :=
∃ (I : List UInt8 → Int → Prop),
  ∃ (m : List UInt8 → Int → Nat),
    I [] (0 : Int) ∧
      ∀ (x : List UInt8) (x_1 : Int),
        I x x_1 →
          (x_1 < (↑(List.length s) : Int) →
              (0 : Int) ≤ x_1 ∧
                x_1 < (↑(List.length s) : Int) ∧
                  (ix s x_1 = (94 : UInt8) → in64 (x_1 + (1 : Int))) ∧
                    (ix s x_1 = (94 : UInt8) ∧ x_1 + (1 : Int) < (↑(List.length s) : Int) → in64 (x_1 + (1 : Int))) ∧
                      (ix s x_1 = (94 : UInt8) ∧ x_1 + (1 : Int) < (↑(List.length s) : Int) → (0 : Int) ≤ x_1 + (1 : Int)) ∧
                        (ix s x_1 = (94 : UInt8) ∧ x_1 + (1 : Int) < (↑(List.length s) : Int) → x_1 + (1 : Int) < (↑(List.length s) : Int)) ∧
                          ((ix s x_1 = (94 : UInt8) ∧ x_1 + (1 : Int) < (↑(List.length s) : Int)) ∧ ix s (x_1 + (1 : Int)) = (110 : UInt8) →
                              x.length + [(10 : UInt8)].length ≤ (9223372036854775807 : Nat) ∧
                                in64 (x_1 + (1 : Int)) ∧
                                  in64 (x_1 + (1 : Int) + (1 : Int)) ∧ I (x ++ [(10 : UInt8)]) (x_1 + (1 : Int) + (1 : Int)) ∧ m (x ++ [(10 : UInt8)]) (x_1 + (1 : Int) + (1 : Int)) < m x x_1) ∧
                            (¬((ix s x_1 = (94 : UInt8) ∧ x_1 + (1 : Int) < (↑(List.length s) : Int)) ∧ ix s (x_1 + (1 : Int)) = (110 : UInt8)) →
                              (0 : Int) ≤ x_1 ∧
                                x_1 < (↑(List.length s) : Int) ∧
                                  (ix s x_1 = (94 : UInt8) → in64 (x_1 + (1 : Int))) ∧
                                    (ix s x_1 = (94 : UInt8) ∧ x_1 + (1 : Int) < (↑(List.length s) : Int) → in64 (x_1 + (1 : Int))) ∧
                                      (ix s x_1 = (94 : UInt8) ∧ x_1 + (1 : Int) < (↑(List.length s) : Int) → (0 : Int) ≤ x_1 + (1 : Int)) ∧
                                        (ix s x_1 = (94 : UInt8) ∧ x_1 + (1 : Int) < (↑(List.length s) : Int) → x_1 + (1 : Int) < (↑(List.length s) : Int)) ∧
                                          ((ix s x_1 = (94 : UInt8) ∧ x_1 + (1 : Int) < (↑(List.length s) : Int)) ∧ ix s (x_1 + (1 : Int)) = (39 : UInt8) →
                                              x.length + [(34 : UInt8)].length ≤ (9223372036854775807 : Nat) ∧
                                                in64 (x_1 + (1 : Int)) ∧
                                                  in64 (x_1 + (1 : Int) + (1 : Int)) ∧
                                                    I (x ++ [(34 : UInt8)]) (x_1 + (1 : Int) + (1 : Int)) ∧ m (x ++ [(34 : UInt8)]) (x_1 + (1 : Int) + (1 : Int)) < m x x_1) ∧
                                            (¬((ix s x_1 = (94 : UInt8) ∧ x_1 + (1 : Int) < (↑(List.length s) : Int)) ∧ ix s (x_1 + (1 : Int)) = (39 : UInt8)) →
                                              (0 : Int) ≤ x_1 ∧
                                                x_1 < (↑(List.length s) : Int) ∧
                                                  (ix s x_1 = (94 : UInt8) → in64 (x_1 + (1 : Int))) ∧
                                                    (ix s x_1 = (94 : UInt8) ∧ x_1 + (1 : Int) < (↑(List.length s) : Int) → in64 (x_1 + (1 : Int))) ∧
                                                      (ix s x_1 = (94 : UInt8) ∧ x_1 + (1 : Int) < (↑(List.length s) : Int) → (0 : Int) ≤ x_1 + (1 : Int)) ∧
                                                        (ix s x_1 = (94 : UInt8) ∧ x_1 + (1 : Int) < (↑(List.length s) : Int) → x_1 + (1 : Int) < (↑(List.length s) : Int)) ∧
                                                          ((ix s x_1 = (94 : UInt8) ∧ x_1 + (1 : Int) < (↑(List.length s) : Int)) ∧ ix s (x_1 + (1 : Int)) = (94 : UInt8) →
                                                              x.length + [(94 : UInt8)].length ≤ (9223372036854775807 : Nat) ∧
                                                                in64 (x_1 + (1 : Int)) ∧
                                                                  in64 (x_1 + (1 : Int) + (1 : Int)) ∧
                                                                    I (x ++ [(94 : UInt8)]) (x_1 + (1 : Int) + (1 : Int)) ∧ m (x ++ [(94 : UInt8)]) (x_1 + (1 : Int) + (1 : Int)) < m x x_1) ∧
                                                            (¬((ix s x_1 = (94 : UInt8) ∧ x_1 + (1 : Int) < (↑(List.length s) : Int)) ∧ ix s (x_1 + (1 : Int)) = (94 : UInt8)) →
                                                              in64 (x_1 + (1 : Int)) ∧
                                                                (0 : Int) ≤ x_1 ∧
                                                                  x_1 ≤ x_1 + (1 : Int) ∧
                                                                    x_1 + (1 : Int) ≤ (↑(List.length s) : Int) ∧
                                                                      x.length + (List.drop x_1.toNat (List.take (x_1 + (1 : Int)).toNat s)).length ≤ (9223372036854775807 : Nat) ∧
                                                                        in64 (x_1 + (1 : Int)) ∧
                                                                          I (x ++ List.drop x_1.toNat (List.take (x_1 + (1 : Int)).toNat s)) (x_1 + (1 : Int)) ∧
                                                                            m (x ++ List.drop x_1.toNat (List.take (x_1 + (1 : Int)).toNat s)) (x_1 + (1 : Int)) < m x x_1)))) ∧
            (¬x_1 < (↑(List.length s) : Int) → Q x)
set_option maxRecDepth 100000 in
theorem V109_ok {s : Str} {Q : Str → Prop} (h : V109 s Q) : vcFun (E := N36) (inlN an109 2) (an109 109) Tryd.f109 [.str s] [] [] 0 (resP N36 [.str] Q) := Eq.mp (show V109 s Q = vcFun (E := N36) (inlN an109 2) (an109 109) Tryd.f109 [.str s] [] [] 0 (resP N36 [.str] Q) by kernel_rfl) h
theorem said_hit {c d e : UInt8} {r : Str} (h : c = 94 ∧ d = 110 ∧ e = 10 ∨ c = 94 ∧ d = 39 ∧ e = 34 ∨ c = 94 ∧ d = 94 ∧ e = 94) : said (c :: d :: r) = e :: said r := by
  rw [said]
  rcases h with ⟨rfl, rfl, rfl⟩ | ⟨rfl, rfl, rfl⟩ | ⟨rfl, rfl, rfl⟩
  · rw [if_pos (by decide)]
  · rw [if_neg (by decide), if_pos (by decide)]
  · rw [if_neg (by decide), if_neg (by decide), if_pos (by decide)]
theorem said_one {c : UInt8} {r : Str} (h : ¬ (c = 94 ∧ r ≠ [] ∧ (ix r 0 = 110 ∨ ix r 0 = 39 ∨ ix r 0 = 94))) : said (c :: r) = c :: said r := by
  cases r with
  | nil => rfl
  | cons d r =>
    have e : ix (d :: r) 0 = d := rfl
    rw [e] at h
    rw [said, if_neg (fun x => h ⟨x.1, by simp, .inl x.2⟩), if_neg (fun x => h ⟨x.1, by simp, .inr (.inl x.2)⟩), if_neg (fun x => h ⟨x.1, by simp, .inr (.inr x.2)⟩)]
theorem said_drop2 {s : Str} {i : Int} {e : UInt8} (h0 : 0 ≤ i) (h1 : i + 1 < s.length) (h : ix s i = 94 ∧ ix s (i + 1) = 110 ∧ e = 10 ∨ ix s i = 94 ∧ ix s (i + 1) = 39 ∧ e = 34 ∨ ix s i = 94 ∧ ix s (i + 1) = 94 ∧ e = 94) : said (s.drop i.toNat) = e :: said (s.drop (i + 1 + 1).toNat) := by
  rw [ix_drop h0 (by omega), ix_drop (i := i + 1) (by omega) h1, said_hit h]
theorem said_drop1 {s : Str} {i : Int} (h0 : 0 ≤ i) (h1 : i < s.length) (h : ¬ (ix s i = 94 ∧ i + 1 < s.length ∧ (ix s (i + 1) = 110 ∨ ix s (i + 1) = 39 ∨ ix s (i + 1) = 94))) : said (s.drop i.toNat) = ix s i :: said (s.drop (i + 1).toNat) := by
  rw [ix_drop h0 h1, said_one]
  intro ⟨e1, e2, e3⟩
  have hl : i + 1 < s.length := by
    have := List.length_pos_iff.2 e2
    rw [List.length_drop] at this; omega
  rw [ix_drop (i := i + 1) (by omega) hl] at e3
  exact h ⟨e1, hl, e3⟩
theorem said_len : ∀ (n : Nat) (s : Str), s.length ≤ n → (said s).length ≤ s.length := by
  intro n
  induction n with
  | zero => intro s h; obtain rfl := List.eq_nil_of_length_eq_zero (Nat.le_zero.1 h); exact Nat.le_refl _
  | succ n ih =>
    intro s hs
    match s, hs with
    | [], _ => exact Nat.le_refl _
    | [c], _ => exact Nat.le_refl _
    | c :: d :: r, hs =>
      simp only [List.length_cons] at hs
      have i1 := ih r (by omega)
      have i2 := ih (d :: r) (by simp only [List.length_cons]; omega)
      simp only [List.length_cons] at i2
      rw [said]
      split
      · simp only [List.length_cons]; omega
      · split
        · simp only [List.length_cons]; omega
        · split <;> (simp only [List.length_cons]; omega)
theorem one_at {s : Str} {i : Int} (h0 : 0 ≤ i) (h1 : i < s.length) : List.drop i.toNat (List.take (i + 1).toNat s) = [ix s i] := by
  rw [List.drop_take, show (i + 1).toNat - i.toNat = 1 by omega, ix_drop h0 h1]; rfl
theorem p109 (s : Str) (hs : s.length ≤ 100000000) : V109 s (fun y0 => y0 = said s) := by
  unfold V109
  have hl := said_len s.length s (Nat.le_refl _)
  refine ⟨fun x i => 0 ≤ i ∧ i ≤ s.length ∧ x ++ said (s.drop i.toNat) = said s, fun _ i => ((s.length : Int) - i).toNat, ⟨by omega, by omega, rfl⟩, ?_⟩
  rintro x i ⟨i0, i1, hx⟩
  have lx := congrArg List.length hx
  rw [List.length_append] at lx
  have hit : ∀ e, i + 1 < s.length → (ix s i = 94 ∧ ix s (i + 1) = 110 ∧ e = 10 ∨ ix s i = 94 ∧ ix s (i + 1) = 39 ∧ e = 34 ∨ ix s i = 94 ∧ ix s (i + 1) = 94 ∧ e = 94) → (x ++ [e]) ++ said (s.drop (i + 1 + 1).toNat) = said s := fun e h1 h => by
    rw [← hx, said_drop2 i0 h1 h]; simp
  refine ⟨fun hi => ?_, fun hi => ?_⟩
  · have f1 : ∀ {p : Prop}, p → in64 (i + 1) := fun _ => ⟨by omega, by omega⟩
    refine ⟨i0, hi, fun _ => ⟨by omega, by omega⟩, fun _ => ⟨by omega, by omega⟩, fun _ => by omega, fun h => h.2, fun h => ?_, fun h => ⟨i0, hi, fun _ => ⟨by omega, by omega⟩, fun _ => ⟨by omega, by omega⟩, fun _ => by omega, fun h => h.2, fun h2 => ?_, fun h2 => ⟨i0, hi, fun _ => ⟨by omega, by omega⟩, fun _ => ⟨by omega, by omega⟩, fun _ => by omega, fun h => h.2, fun h3 => ?_, fun h3 => ?_⟩⟩⟩
    · obtain ⟨⟨a, b⟩, c⟩ := h
      exact ⟨by simp only [List.length_cons, List.length_nil]; omega, ⟨by omega, by omega⟩, ⟨by omega, by omega⟩, ⟨by omega, by omega, hit 10 b (.inl ⟨a, c, rfl⟩)⟩, by dsimp only; omega⟩
    · obtain ⟨⟨a, b⟩, c⟩ := h2
      exact ⟨by simp only [List.length_cons, List.length_nil]; omega, ⟨by omega, by omega⟩, ⟨by omega, by omega⟩, ⟨by omega, by omega, hit 34 b (.inr (.inl ⟨a, c, rfl⟩))⟩, by dsimp only; omega⟩
    · obtain ⟨⟨a, b⟩, c⟩ := h3
      exact ⟨by simp only [List.length_cons, List.length_nil]; omega, ⟨by omega, by omega⟩, ⟨by omega, by omega⟩, ⟨by omega, by omega, hit 94 b (.inr (.inr ⟨a, c, rfl⟩))⟩, by dsimp only; omega⟩
    · rw [one_at i0 hi]
      have e := said_drop1 i0 hi (fun ⟨a, b, c⟩ => by
        rcases c with c | c | c
        · exact h ⟨⟨a, b⟩, c⟩
        · exact h2 ⟨⟨a, b⟩, c⟩
        · exact h3 ⟨⟨a, b⟩, c⟩)
      exact ⟨⟨by omega, by omega⟩, i0, by omega, by omega, by simp only [List.length_cons, List.length_nil]; omega, ⟨by omega, by omega⟩, ⟨by omega, by omega, by rw [← hx, e]; simp⟩, by dsimp only; omega⟩
  · rw [drop_all (by omega)] at hx
    have : said [] = [] := rfl
    rw [this, List.append_nil] at hx
    exact hx
def c109 (a : List (SV U)) : Option (Q1 U) := match a with | [.str s] => some ⟨[List.length (α := UInt8) s ≤ 100000000], [], .str (said s)⟩ | _ => none
set_option maxRecDepth 100000 in
theorem c109_ok (args : List (SV U)) (q : Q1 U) (h : c109 args = some q) (ho : allP q.ob) : LendOK N36 109 args ⟨q.ob, q.hy, q.v, []⟩ := by
  unfold c109 at h
  split at h
  · rename_i s
    cases h
    exact lend1 N36_ok (inlN_ok N36_ok an109 2) Tryd.func109 (k := .str) (x := said s) trivial (V109_ok (p109 s ho.1)) 0
  · cases h
noncomputable def N109 : Env := N36.addL 109 c109
theorem N109_ok : EnvOK N109 := N36_ok.addL Tryd.call109 c109_ok
end Go.Proofs.YtadgfmmmdhlljaaDoor
end
section
namespace Go.Proofs.YtadgfmmmdhlljaaDoor
open Go Go.Wk Go.Wl Go.Rx Go.Fo Go.Li 
def an112 : Nat → Ann := fun | 112 => ⟨29, fun _ => none, fun  | _ => none⟩ | _ => ⟨0, fun _ => none, fun _ => none⟩
def V112 (c : UInt8) (Q : Bool → Prop) : Prop :=
Q (decide ((((65 : UInt8) ≤ c ∧ c ≤ (90 : UInt8) ∨ (97 : UInt8) ≤ c ∧ c ≤ (122 : UInt8)) ∨ (48 : UInt8) ≤ c ∧ c ≤ (57 : UInt8)) ∨ c = (45 : UInt8)))
set_option maxRecDepth 100000 in
theorem V112_ok {c : UInt8} {Q : Bool → Prop} (h : V112 c Q) : vcFun (E := N109) (inlN an112 2) (an112 112) Tryd.f112 [.byte c] [] [] 0 (resP N109 [.bool] Q) := Eq.mp (show V112 c Q = vcFun (E := N109) (inlN an112 2) (an112 112) Tryd.f112 [.byte c] [] [] 0 (resP N109 [.bool] Q) by kernel_rfl) h
theorem p112 (c : UInt8)  : V112 c (fun y0 => y0 = letterB c) := by
  unfold V112 letterB
  rw [beq_dec]
  simp only [Bool.decide_or, Bool.decide_and]
def c112 (a : List (SV U)) : Option (Q1 U) := match a with | [.byte c] => some ⟨[], [], blB (letterB c)⟩ | _ => none
set_option maxRecDepth 100000 in
theorem c112_ok (args : List (SV U)) (q : Q1 U) (h : c112 args = some q) (ho : allP q.ob) : LendOK N109 112 args ⟨q.ob, q.hy, q.v, []⟩ := by
  unfold c112 at h
  split at h
  · rename_i c
    cases h
    exact lend1 N109_ok (inlN_ok N109_ok an112 2) Tryd.func112 (k := .bool) (x := letterB c) trivial (V112_ok (p112 c )) 0
  · cases h
noncomputable def N112 : Env := N109.addL 112 c112
theorem N112_ok : EnvOK N112 := N109_ok.addL Tryd.call112 c112_ok
end Go.Proofs.YtadgfmmmdhlljaaDoor
end
section
namespace Go.Proofs.YtadgfmmmdhlljaaDoor
open Go Go.Wk Go.Wl Go.Rx Go.Fo Go.Li 
def an105 : Nat → Ann := fun | 105 => ⟨13, fun _ => none, fun  | _ => none⟩ | _ => ⟨0, fun _ => none, fun _ => none⟩
def V105 (c : UInt8) (Q : Bool → Prop) : Prop :=
Q (decide (c = (9 : UInt8) ∨ (32 : UInt8) ≤ c ∧ c ≠ (127 : UInt8)))
set_option maxRecDepth 100000 in
theorem V105_ok {c : UInt8} {Q : Bool → Prop} (h : V105 c Q) : vcFun (E := N112) (inlN an105 2) (an105 105) Tryd.f105 [.byte c] [] [] 0 (resP N112 [.bool] Q) := Eq.mp (show V105 c Q = vcFun (E := N112) (inlN an105 2) (an105 105) Tryd.f105 [.byte c] [] [] 0 (resP N112 [.bool] Q) by kernel_rfl) h
theorem p105 (c : UInt8)  : V105 c (fun y0 => y0 = standsB c) := by
  unfold V105 standsB
  rw [bne, beq_dec, beq_dec]
  simp only [Bool.decide_or, Bool.decide_and, ne_eq, decide_not]
def c105 (a : List (SV U)) : Option (Q1 U) := match a with | [.byte c] => some ⟨[], [], blB (standsB c)⟩ | _ => none
set_option maxRecDepth 100000 in
theorem c105_ok (args : List (SV U)) (q : Q1 U) (h : c105 args = some q) (ho : allP q.ob) : LendOK N112 105 args ⟨q.ob, q.hy, q.v, []⟩ := by
  unfold c105 at h
  split at h
  · rename_i c
    cases h
    exact lend1 N112_ok (inlN_ok N112_ok an105 2) Tryd.func105 (k := .bool) (x := standsB c) trivial (V105_ok (p105 c )) 0
  · cases h
noncomputable def N105 : Env := N112.addL 105 c105
theorem N105_ok : EnvOK N105 := N112_ok.addL Tryd.call105 c105_ok
end Go.Proofs.YtadgfmmmdhlljaaDoor
end
section
namespace Go.Proofs.YtadgfmmmdhlljaaDoor
open Go Go.Wk Go.Wl Go.Rx Go.Fo Go.Li 
def an66 : Nat → Ann := fun | 66 => ⟨18, fun | 1 => some ⟨[0], [.slot 1 (.int .i64)]⟩ | _ => none, fun  | _ => none⟩ | _ => ⟨0, fun _ => none, fun _ => none⟩
def V66 (s : Str) (i : Int) (Q : Int → Prop) : Prop :=
∃ (I : Int → Prop),
  ∃ (m : Int → Nat),
    I i ∧
      ∀ (x : Int),
        I x →
          (x < (↑(List.length s) : Int) → (0 : Int) ≤ x) ∧
            (x < (↑(List.length s) : Int) → x < (↑(List.length s) : Int)) ∧
              (x < (↑(List.length s) : Int) ∧ letterB (ix s x) = true → in64 (x + (1 : Int)) ∧ I (x + (1 : Int)) ∧ m (x + (1 : Int)) < m x) ∧
                (¬(x < (↑(List.length s) : Int) ∧ letterB (ix s x) = true) → Q x)
set_option maxRecDepth 100000 in
theorem V66_ok {s : Str} {i : Int} {Q : Int → Prop} (h : V66 s i Q) : vcFun (E := N105) (inlN an66 2) (an66 66) Tryd.f66 [.str s, .int .i64 i] [] [] 0 (resP N105 [.int .i64] Q) := Eq.mp (show V66 s i Q = vcFun (E := N105) (inlN an66 2) (an66 66) Tryd.f66 [.str s, .int .i64 i] [] [] 0 (resP N105 [.int .i64] Q) by kernel_rfl) h
/-- How many letters of a name begin at a place. -/
def nameLen (s : Str) (i : Int) : Int := (((s.drop i.toNat).takeWhile letterB).length : Nat)
theorem nameLen_in {s : Str} {i : Int} (h0 : 0 ≤ i) (h1 : i < s.length) (h : letterB (ix s i) = true) : nameLen s i = 1 + nameLen s (i + 1) := by
  unfold nameLen
  rw [ix_drop h0 h1, List.takeWhile_cons_of_pos h, List.length_cons]; omega
theorem nameLen_out {s : Str} {i : Int} (h0 : 0 ≤ i) (h : ¬ (i < s.length ∧ letterB (ix s i) = true)) : nameLen s i = 0 := by
  unfold nameLen
  by_cases h1 : i < s.length
  · rw [ix_drop h0 h1, List.takeWhile_cons_of_neg (fun e => h ⟨h1, e⟩)]; rfl
  · rw [drop_all (by omega)]; rfl
theorem p66 (s : Str) (i : Int) (h0 : 0 ≤ i) (h1 : i ≤ (s.length : Int)) (hs : s.length ≤ 100000000) : V66 s i (fun y0 => y0 = i + nameLen s i) := by
  unfold V66
  refine ⟨fun x => i ≤ x ∧ x ≤ s.length ∧ x + nameLen s x = i + nameLen s i, fun x => ((s.length : Int) - x).toNat, ⟨Int.le_refl _, h1, rfl⟩, ?_⟩
  rintro x ⟨x0, x1, hx⟩
  refine ⟨fun _ => by omega, fun h => h, fun ⟨a, b⟩ => ?_, fun h => ?_⟩
  · have e := nameLen_in (by omega) a b
    exact ⟨⟨by omega, by omega⟩, ⟨by omega, by omega, by omega⟩, by dsimp only; omega⟩
  · have e := nameLen_out (by omega) h
    show x = _
    omega
def c66 (a : List (SV U)) : Option (Q1 U) := match a with | [.str s, .int .i64 i] => some ⟨[0 ≤ i, i ≤ (s.length : Int), List.length (α := UInt8) s ≤ 100000000], [], .int .i64 (i + nameLen s i)⟩ | _ => none
set_option maxRecDepth 100000 in
theorem c66_ok (args : List (SV U)) (q : Q1 U) (h : c66 args = some q) (ho : allP q.ob) : LendOK N105 66 args ⟨q.ob, q.hy, q.v, []⟩ := by
  unfold c66 at h
  split at h
  · rename_i s i
    cases h
    exact lend1 N105_ok (inlN_ok N105_ok an66 2) Tryd.func66 (k := .int .i64) (x := i + nameLen s i) trivial (V66_ok (p66 s i ho.1 ho.2.1 ho.2.2.1)) 0
  · cases h
noncomputable def N66 : Env := N105.addL 66 c66
theorem N66_ok : EnvOK N66 := N105_ok.addL Tryd.call66 c66_ok
end Go.Proofs.YtadgfmmmdhlljaaDoor
end
section
namespace Go.Proofs.YtadgfmmmdhlljaaDoor
open Go Go.Wk Go.Wl Go.Rx Go.Fo Go.Li 
def an132 : Nat → Ann := fun | 132 => ⟨46, fun | 3 => some ⟨[0], [.slot 3 (.acc 5), .slot 4 (.int .i64)]⟩ | _ => none, fun  | _ => none⟩ | _ => ⟨0, fun _ => none, fun _ => none⟩
def V132 (s : Str) (Q : Str → Prop) : Prop :=
∃ (I : List UInt8 → Int → Prop),
  ∃ (m : List UInt8 → Int → Nat),
    I [] (0 : Int) ∧
      ∀ (x : List UInt8) (x_1 : Int),
        I x x_1 →
          (x_1 < (↑(List.length s) : Int) →
              (0 : Int) ≤ x_1 ∧
                x_1 < (↑(List.length s) : Int) ∧
                  (ix s x_1 = (94 : UInt8) → in64 (x_1 + (1 : Int))) ∧
                    (ix s x_1 = (94 : UInt8) ∧ x_1 + (1 : Int) < (↑(List.length s) : Int) →
                        in64 (x_1 + (1 : Int)) ∧
                          (0 : Int) ≤ x_1 + (1 : Int) ∧
                            x_1 + (1 : Int) < (↑(List.length s) : Int) ∧
                              (ix s (x_1 + (1 : Int)) = (110 : UInt8) →
                                  in64 (x_1 + (1 : Int)) ∧
                                    (x.length + [(10 : UInt8)].length) * (some (1 : Nat)).getD (0 : Nat) ≤ (140737488355328 : Nat) ∧
                                      in64 (x_1 + (1 : Int) + (1 : Int)) ∧ I (x ++ [(10 : UInt8)]) (x_1 + (1 : Int) + (1 : Int)) ∧ m (x ++ [(10 : UInt8)]) (x_1 + (1 : Int) + (1 : Int)) < m x x_1) ∧
                                (¬ix s (x_1 + (1 : Int)) = (110 : UInt8) →
                                  (ix s (x_1 + (1 : Int)) = (39 : UInt8) →
                                      in64 (x_1 + (1 : Int)) ∧
                                        (x.length + [(34 : UInt8)].length) * (some (1 : Nat)).getD (0 : Nat) ≤ (140737488355328 : Nat) ∧
                                          in64 (x_1 + (1 : Int) + (1 : Int)) ∧
                                            I (x ++ [(34 : UInt8)]) (x_1 + (1 : Int) + (1 : Int)) ∧ m (x ++ [(34 : UInt8)]) (x_1 + (1 : Int) + (1 : Int)) < m x x_1) ∧
                                    (¬ix s (x_1 + (1 : Int)) = (39 : UInt8) →
                                      (ix s (x_1 + (1 : Int)) = (94 : UInt8) →
                                          in64 (x_1 + (1 : Int)) ∧
                                            (x.length + [ix s x_1].length) * (some (1 : Nat)).getD (0 : Nat) ≤ (140737488355328 : Nat) ∧
                                              in64 (x_1 + (1 : Int) + (1 : Int)) ∧ I (x ++ [ix s x_1]) (x_1 + (1 : Int) + (1 : Int)) ∧ m (x ++ [ix s x_1]) (x_1 + (1 : Int) + (1 : Int)) < m x x_1) ∧
                                        (¬ix s (x_1 + (1 : Int)) = (94 : UInt8) →
                                          (x.length + [ix s x_1].length) * (some (1 : Nat)).getD (0 : Nat) ≤ (140737488355328 : Nat) ∧
                                            in64 (x_1 + (1 : Int)) ∧ I (x ++ [ix s x_1]) (x_1 + (1 : Int)) ∧ m (x ++ [ix s x_1]) (x_1 + (1 : Int)) < m x x_1)))) ∧
                      (¬(ix s x_1 = (94 : UInt8) ∧ x_1 + (1 : Int) < (↑(List.length s) : Int)) →
                        ((0 : UInt8) = (110 : UInt8) →
                            in64 (x_1 + (1 : Int)) ∧
                              (x.length + [(10 : UInt8)].length) * (some (1 : Nat)).getD (0 : Nat) ≤ (140737488355328 : Nat) ∧
                                in64 (x_1 + (1 : Int) + (1 : Int)) ∧ I (x ++ [(10 : UInt8)]) (x_1 + (1 : Int) + (1 : Int)) ∧ m (x ++ [(10 : UInt8)]) (x_1 + (1 : Int) + (1 : Int)) < m x x_1) ∧
                          (¬(0 : UInt8) = (110 : UInt8) →
                            ((0 : UInt8) = (39 : UInt8) →
                                in64 (x_1 + (1 : Int)) ∧
                                  (x.length + [(34 : UInt8)].length) * (some (1 : Nat)).getD (0 : Nat) ≤ (140737488355328 : Nat) ∧
                                    in64 (x_1 + (1 : Int) + (1 : Int)) ∧ I (x ++ [(34 : UInt8)]) (x_1 + (1 : Int) + (1 : Int)) ∧ m (x ++ [(34 : UInt8)]) (x_1 + (1 : Int) + (1 : Int)) < m x x_1) ∧
                              (¬(0 : UInt8) = (39 : UInt8) →
                                ((0 : UInt8) = (94 : UInt8) →
                                    in64 (x_1 + (1 : Int)) ∧
                                      (x.length + [ix s x_1].length) * (some (1 : Nat)).getD (0 : Nat) ≤ (140737488355328 : Nat) ∧
                                        in64 (x_1 + (1 : Int) + (1 : Int)) ∧ I (x ++ [ix s x_1]) (x_1 + (1 : Int) + (1 : Int)) ∧ m (x ++ [ix s x_1]) (x_1 + (1 : Int) + (1 : Int)) < m x x_1) ∧
                                  (¬(0 : UInt8) = (94 : UInt8) →
                                    (x.length + [ix s x_1].length) * (some (1 : Nat)).getD (0 : Nat) ≤ (140737488355328 : Nat) ∧
                                      in64 (x_1 + (1 : Int)) ∧ I (x ++ [ix s x_1]) (x_1 + (1 : Int)) ∧ m (x ++ [ix s x_1]) (x_1 + (1 : Int)) < m x x_1))))) ∧
            (¬x_1 < (↑(List.length s) : Int) → Q x)
set_option maxRecDepth 100000 in
theorem V132_ok {s : Str} {Q : Str → Prop} (h : V132 s Q) : vcFun (E := N66) (inlN an132 2) (an132 132) Tryd.f132 [.str s] [] [] 0 (resP N66 [.str] Q) := Eq.mp (show V132 s Q = vcFun (E := N66) (inlN an132 2) (an132 132) Tryd.f132 [.str s] [] [] 0 (resP N66 [.str] Q) by kernel_rfl) h
theorem p132 (s : Str) (hs : s.length ≤ 100000000) : V132 s (fun y0 => y0 = said s) := by
  unfold V132
  have hl := said_len s.length s (Nat.le_refl _)
  refine ⟨fun x i => 0 ≤ i ∧ i ≤ s.length ∧ x ++ said (s.drop i.toNat) = said s, fun _ i => ((s.length : Int) - i).toNat, ⟨by omega, by omega, rfl⟩, ?_⟩
  rintro x i ⟨i0, i1, hx⟩
  have lx := congrArg List.length hx
  rw [List.length_append] at lx
  have hit : ∀ e, i + 1 < s.length → (ix s i = 94 ∧ ix s (i + 1) = 110 ∧ e = 10 ∨ ix s i = 94 ∧ ix s (i + 1) = 39 ∧ e = 34 ∨ ix s i = 94 ∧ ix s (i + 1) = 94 ∧ e = 94) → (x ++ [e]) ++ said (s.drop (i + 1 + 1).toNat) = said s := fun e h1 h => by
    rw [← hx, said_drop2 i0 h1 h]; simp
  have one : ¬ (ix s i = 94 ∧ i + 1 < s.length ∧ (ix s (i + 1) = 110 ∨ ix s (i + 1) = 39 ∨ ix s (i + 1) = 94)) → i < s.length → (x ++ [ix s i]) ++ said (s.drop (i + 1).toNat) = said s := fun h hi => by
    rw [← hx, said_drop1 i0 hi h]; simp
  simp only [List.length_cons, List.length_nil, Option.getD_some]
  refine ⟨fun hi => ⟨i0, hi, fun _ => ⟨by omega, by omega⟩, fun ⟨a, b⟩ => ⟨⟨by omega, by omega⟩, by omega, b, fun h => ?_, fun h => ⟨fun h2 => ?_, fun h2 => ⟨fun h3 => ?_, fun h3 => ?_⟩⟩⟩, fun hn => ⟨fun h => absurd h (by decide), fun _ => ⟨fun h => absurd h (by decide), fun _ => ⟨fun h => absurd h (by decide), fun _ => ?_⟩⟩⟩⟩, fun hi => ?_⟩
  · exact ⟨⟨by omega, by omega⟩, by omega, ⟨by omega, by omega⟩, ⟨by omega, by omega, hit 10 b (.inl ⟨a, h, rfl⟩)⟩, by omega⟩
  · exact ⟨⟨by omega, by omega⟩, by omega, ⟨by omega, by omega⟩, ⟨by omega, by omega, hit 34 b (.inr (.inl ⟨a, h2, rfl⟩))⟩, by omega⟩
  · exact ⟨⟨by omega, by omega⟩, by omega, ⟨by omega, by omega⟩, ⟨by omega, by omega, by rw [a]; exact hit 94 b (.inr (.inr ⟨a, h3, rfl⟩))⟩, by omega⟩
  · refine ⟨by omega, ⟨by omega, by omega⟩, ⟨by omega, by omega, one (fun ⟨_, _, c⟩ => ?_) hi⟩, by omega⟩
    rcases c with c | c | c
    · exact h c
    · exact h2 c
    · exact h3 c
  · exact ⟨by omega, ⟨by omega, by omega⟩, ⟨by omega, by omega, one (fun ⟨a, b, _⟩ => hn ⟨a, b⟩) hi⟩, by omega⟩
  · rw [drop_all (by omega)] at hx
    have : said [] = [] := rfl
    rw [this, List.append_nil] at hx
    exact hx
def c132 (a : List (SV U)) : Option (Q1 U) := match a with | [.str s] => some ⟨[List.length (α := UInt8) s ≤ 100000000], [], .str (said s)⟩ | _ => none
set_option maxRecDepth 100000 in
theorem c132_ok (args : List (SV U)) (q : Q1 U) (h : c132 args = some q) (ho : allP q.ob) : LendOK N66 132 args ⟨q.ob, q.hy, q.v, []⟩ := by
  unfold c132 at h
  split at h
  · rename_i s
    cases h
    exact lend1 N66_ok (inlN_ok N66_ok an132 2) Tryd.func132 (k := .str) (x := said s) trivial (V132_ok (p132 s ho.1)) 0
  · cases h
noncomputable def N132 : Env := N66.addL 132 c132
theorem N132_ok : EnvOK N132 := N66_ok.addL Tryd.call132 c132_ok
end Go.Proofs.YtadgfmmmdhlljaaDoor
end
section
namespace Go.Proofs.YtadgfmmmdhlljaaDoor
open Go Go.Wk Go.Wl Go.Rx Go.Fo Go.Li 
def an73 : Nat → Ann := fun | 73 => ⟨23, fun | 2 => some ⟨[0, 5], [.slot 6 (.int .i64)]⟩ | _ => none, fun  | _ => none⟩ | _ => ⟨0, fun _ => none, fun _ => none⟩
def V73 (s : Str) (Q : Bool → Prop) : Prop :=
∃ (I : Int → Prop),
  ∃ (m : Int → Nat),
    I (0 : Int) ∧
      ∀ (x : Int),
        I x →
          (x < (↑(List.length s) : Int) →
              (0 : Int) ≤ x ∧ x < (↑(List.length s) : Int) ∧ (¬letterB (ix s x) = true → Q false) ∧ (¬¬letterB (ix s x) = true → in64 (x + (1 : Int)) ∧ I (x + (1 : Int)) ∧ m (x + (1 : Int)) < m x)) ∧
            (¬x < (↑(List.length s) : Int) → Q (decide (s ≠ [] ∧ s = upper s)))
set_option maxRecDepth 100000 in
theorem V73_ok {s : Str} {Q : Bool → Prop} (h : V73 s Q) : vcFun (E := N132) (inlN an73 2) (an73 73) Tryd.f73 [.str s] [] [] 0 (resP N132 [.bool] Q) := Eq.mp (show V73 s Q = vcFun (E := N132) (inlN an73 2) (an73 73) Tryd.f73 [.str s] [] [] 0 (resP N132 [.bool] Q) by kernel_rfl) h
def nameB (s : Str) : Bool := decide (s ≠ [] ∧ s.all letterB = true ∧ upper s = s)
theorem all_ix {p : UInt8 → Bool} {s : Str} (h : ∀ j : Int, 0 ≤ j → j < s.length → p (ix s j) = true) : s.all p = true := by
  rw [List.all_eq_true]
  intro c hc
  obtain ⟨j, hj, rfl⟩ := List.getElem_of_mem hc
  have := h j (by omega) (by omega)
  rw [ix_get (by simpa using hj)] at this
  simpa using this
theorem not_all {p : UInt8 → Bool} {s : Str} {x : Int} (h0 : 0 ≤ x) (h1 : x < s.length) (h : ¬ p (ix s x) = true) : ¬ s.all p = true := fun e => h (List.all_eq_true.1 e _ (mem_of_ix h0 h1))
theorem p73 (s : Str) (hs : s.length ≤ 9223372036854775807) : V73 s (fun y0 => y0 = nameB s) := by
  unfold V73
  refine ⟨fun x => 0 ≤ x ∧ x ≤ s.length ∧ ∀ j : Int, 0 ≤ j → j < x → letterB (ix s j) = true, fun x => ((s.length : Int) - x).toNat, ⟨by omega, by omega, fun j _ _ => by omega⟩, ?_⟩
  rintro x ⟨x0, x1, hx⟩
  refine ⟨fun hi => ⟨x0, hi, fun hn => ?_, fun hn => ⟨⟨by omega, by omega⟩, ⟨by omega, by omega, fun j j0 j1 => ?_⟩, by dsimp only; omega⟩⟩, fun hi => ?_⟩
  · exact (decide_eq_false fun h => not_all x0 hi hn h.2.1).symm
  · by_cases e : j = x
    · subst e; exact Classical.not_not.1 hn
    · exact hx j j0 (by omega)
  · have ha : s.all letterB = true := all_ix fun j j0 j1 => hx j j0 (by omega)
    show _ = decide _
    exact decide_eq_decide.2 ⟨fun ⟨a, b⟩ => ⟨a, ha, b.symm⟩, fun ⟨a, _, b⟩ => ⟨a, b.symm⟩⟩
def c73 (a : List (SV U)) : Option (Q1 U) := match a with | [.str s] => some ⟨[List.length (α := UInt8) s ≤ 9223372036854775807], [], blB (nameB s)⟩ | _ => none
set_option maxRecDepth 100000 in
theorem c73_ok (args : List (SV U)) (q : Q1 U) (h : c73 args = some q) (ho : allP q.ob) : LendOK N132 73 args ⟨q.ob, q.hy, q.v, []⟩ := by
  unfold c73 at h
  split at h
  · rename_i s
    cases h
    exact lend1 N132_ok (inlN_ok N132_ok an73 2) Tryd.func73 (k := .bool) (x := nameB s) trivial (V73_ok (p73 s ho.1)) 0
  · cases h
noncomputable def N73 : Env := N132.addL 73 c73
theorem N73_ok : EnvOK N73 := N132_ok.addL Tryd.call73 c73_ok
end Go.Proofs.YtadgfmmmdhlljaaDoor
end
section
namespace Go.Proofs.YtadgfmmmdhlljaaDoor
open Go Go.Wk Go.Wl Go.Rx Go.Fo Go.Li 
def an77 : Nat → Ann := fun | 77 => ⟨18, fun _ => none, fun  | _ => none⟩ | _ => ⟨0, fun _ => none, fun _ => none⟩
def V77 (s : Str) (Q : Bool → Prop) : Prop :=
(s ≠ [] → (0 : Int) ≤ (0 : Int)) ∧
  (s ≠ [] → (0 : Int) ≤ (↑(List.length s) : Int)) ∧ (s ≠ [] → List.length s ≤ (100000000 : Nat)) ∧ Q (decide ((s ≠ [] ∧ (0 : Int) + nameLen s (0 : Int) = (↑(List.length s) : Int)) ∧ upper s = s))
set_option maxRecDepth 100000 in
theorem V77_ok {s : Str} {Q : Bool → Prop} (h : V77 s Q) : vcFun (E := N73) (inlN an77 2) (an77 77) Tryd.f77 [.str s] [] [] 0 (resP N73 [.bool] Q) := Eq.mp (show V77 s Q = vcFun (E := N73) (inlN an77 2) (an77 77) Tryd.f77 [.str s] [] [] 0 (resP N73 [.bool] Q) by kernel_rfl) h
theorem while_len (p : UInt8 → Bool) : ∀ s : Str, (s.takeWhile p).length = s.length ↔ s.all p = true
  | [] => by simp
  | c :: s => by
    have ih := while_len p s
    rw [List.takeWhile_cons, List.all_cons]
    split
    · rename_i h; rw [h, Bool.true_and, List.length_cons, List.length_cons, ← ih]; omega
    · rename_i h
      have h' : p c = false := by simpa using h
      rw [h']; simp
theorem nameLen_all {s : Str} : 0 + nameLen s 0 = (s.length : Int) ↔ s.all letterB = true := by
  rw [← while_len letterB s]
  unfold nameLen
  show 0 + (((s.drop 0).takeWhile letterB).length : Int) = _ ↔ _
  rw [List.drop_zero]; omega
theorem p77 (s : Str) (hs : s.length ≤ 100000000) : V77 s (fun y0 => y0 = nameB s) := by
  unfold V77
  refine ⟨fun _ => Int.le_refl _, fun _ => by omega, fun _ => hs, ?_⟩
  show _ = decide _
  exact decide_eq_decide.2 ⟨fun ⟨⟨a, b⟩, c⟩ => ⟨a, nameLen_all.1 b, c⟩, fun ⟨a, b, c⟩ => ⟨⟨a, nameLen_all.2 b⟩, c⟩⟩
def c77 (a : List (SV U)) : Option (Q1 U) := match a with | [.str s] => some ⟨[List.length (α := UInt8) s ≤ 100000000], [], blB (nameB s)⟩ | _ => none
set_option maxRecDepth 100000 in
theorem c77_ok (args : List (SV U)) (q : Q1 U) (h : c77 args = some q) (ho : allP q.ob) : LendOK N73 77 args ⟨q.ob, q.hy, q.v, []⟩ := by
  unfold c77 at h
  split at h
  · rename_i s
    cases h
    exact lend1 N73_ok (inlN_ok N73_ok an77 2) Tryd.func77 (k := .bool) (x := nameB s) trivial (V77_ok (p77 s ho.1)) 0
  · cases h
noncomputable def N77 : Env := N73.addL 77 c77
theorem N77_ok : EnvOK N77 := N73_ok.addL Tryd.call77 c77_ok
end Go.Proofs.YtadgfmmmdhlljaaDoor
end
section
namespace Go.Proofs.YtadgfmmmdhlljaaDoor
open Go Go.Wk Go.Wl Go.Rx Go.Fo Go.Li 
def an72 : Nat → Ann := fun | 72 => ⟨50, fun | 4 => some ⟨[0], [.slot 3 .str, .slot 4 .bool, .slot 5 (.int .i64)]⟩ | _ => none, fun  | _ => none⟩ | _ => ⟨0, fun _ => none, fun _ => none⟩
def V72 (s : Str) (Q : Str → Prop) : Prop :=
∃ (I : List UInt8 → Bool → Int → Prop),
  ∃ (m : List UInt8 → Bool → Int → Nat),
    I [] false (0 : Int) ∧
      ∀ (x : List UInt8) (x_1 : Bool) (x_2 : Int),
        I x x_1 x_2 →
          (x_2 < (↑(List.length s) : Int) →
              (0 : Int) ≤ x_2 ∧
                x_2 < (↑(List.length s) : Int) ∧
                  (ix s x_2 = (94 : UInt8) →
                      x.length + [(94 : UInt8), (94 : UInt8)].length ≤ (9223372036854775807 : Nat) ∧
                        in64 (x_2 + (1 : Int)) ∧
                          I (x ++ [(94 : UInt8), (94 : UInt8)]) (decide (x_1 = true)) (x_2 + (1 : Int)) ∧ m (x ++ [(94 : UInt8), (94 : UInt8)]) (decide (x_1 = true)) (x_2 + (1 : Int)) < m x x_1 x_2) ∧
                    (¬ix s x_2 = (94 : UInt8) →
                      (ix s x_2 = (34 : UInt8) →
                          x.length + [(94 : UInt8), (39 : UInt8)].length ≤ (9223372036854775807 : Nat) ∧
                            in64 (x_2 + (1 : Int)) ∧
                              I (x ++ [(94 : UInt8), (39 : UInt8)]) (decide (x_1 = true)) (x_2 + (1 : Int)) ∧
                                m (x ++ [(94 : UInt8), (39 : UInt8)]) (decide (x_1 = true)) (x_2 + (1 : Int)) < m x x_1 x_2) ∧
                        (¬ix s x_2 = (34 : UInt8) →
                          (ix s x_2 = (10 : UInt8) →
                              x.length + [(94 : UInt8), (110 : UInt8)].length ≤ (9223372036854775807 : Nat) ∧
                                in64 (x_2 + (1 : Int)) ∧
                                  I (x ++ [(94 : UInt8), (110 : UInt8)]) (decide (x_1 = true)) (x_2 + (1 : Int)) ∧
                                    m (x ++ [(94 : UInt8), (110 : UInt8)]) (decide (x_1 = true)) (x_2 + (1 : Int)) < m x x_1 x_2) ∧
                            (¬ix s x_2 = (10 : UInt8) →
                              (ix s x_2 = (59 : UInt8) →
                                  (ix s x_2 = (59 : UInt8) →
                                      in64 (x_2 + (1 : Int)) ∧
                                        (0 : Int) ≤ x_2 ∧
                                          x_2 ≤ x_2 + (1 : Int) ∧
                                            x_2 + (1 : Int) ≤ (↑(List.length s) : Int) ∧
                                              x.length + (List.drop x_2.toNat (List.take (x_2 + (1 : Int)).toNat s)).length ≤ (9223372036854775807 : Nat) ∧
                                                in64 (x_2 + (1 : Int)) ∧
                                                  I (x ++ List.drop x_2.toNat (List.take (x_2 + (1 : Int)).toNat s)) true (x_2 + (1 : Int)) ∧
                                                    m (x ++ List.drop x_2.toNat (List.take (x_2 + (1 : Int)).toNat s)) true (x_2 + (1 : Int)) < m x x_1 x_2) ∧
                                    (¬ix s x_2 = (59 : UInt8) →
                                      in64 (x_2 + (1 : Int)) ∧
                                        (0 : Int) ≤ x_2 ∧
                                          x_2 ≤ x_2 + (1 : Int) ∧
                                            x_2 + (1 : Int) ≤ (↑(List.length s) : Int) ∧
                                              x.length + (List.drop x_2.toNat (List.take (x_2 + (1 : Int)).toNat s)).length ≤ (9223372036854775807 : Nat) ∧
                                                in64 (x_2 + (1 : Int)) ∧
                                                  I (x ++ List.drop x_2.toNat (List.take (x_2 + (1 : Int)).toNat s)) (decide (x_1 = true)) (x_2 + (1 : Int)) ∧
                                                    m (x ++ List.drop x_2.toNat (List.take (x_2 + (1 : Int)).toNat s)) (decide (x_1 = true)) (x_2 + (1 : Int)) < m x x_1 x_2)) ∧
                                (¬ix s x_2 = (59 : UInt8) →
                                  (ix s x_2 = (58 : UInt8) →
                                      (ix s x_2 = (58 : UInt8) →
                                          in64 (x_2 + (1 : Int)) ∧
                                            (0 : Int) ≤ x_2 ∧
                                              x_2 ≤ x_2 + (1 : Int) ∧
                                                x_2 + (1 : Int) ≤ (↑(List.length s) : Int) ∧
                                                  x.length + (List.drop x_2.toNat (List.take (x_2 + (1 : Int)).toNat s)).length ≤ (9223372036854775807 : Nat) ∧
                                                    in64 (x_2 + (1 : Int)) ∧
                                                      I (x ++ List.drop x_2.toNat (List.take (x_2 + (1 : Int)).toNat s)) true (x_2 + (1 : Int)) ∧
                                                        m (x ++ List.drop x_2.toNat (List.take (x_2 + (1 : Int)).toNat s)) true (x_2 + (1 : Int)) < m x x_1 x_2) ∧
                                        (¬ix s x_2 = (58 : UInt8) →
                                          in64 (x_2 + (1 : Int)) ∧
                                            (0 : Int) ≤ x_2 ∧
                                              x_2 ≤ x_2 + (1 : Int) ∧
                                                x_2 + (1 : Int) ≤ (↑(List.length s) : Int) ∧
                                                  x.length + (List.drop x_2.toNat (List.take (x_2 + (1 : Int)).toNat s)).length ≤ (9223372036854775807 : Nat) ∧
                                                    in64 (x_2 + (1 : Int)) ∧
                                                      I (x ++ List.drop x_2.toNat (List.take (x_2 + (1 : Int)).toNat s)) (decide (x_1 = true)) (x_2 + (1 : Int)) ∧
                                                        m (x ++ List.drop x_2.toNat (List.take (x_2 + (1 : Int)).toNat s)) (decide (x_1 = true)) (x_2 + (1 : Int)) < m x x_1 x_2)) ∧
                                    (¬ix s x_2 = (58 : UInt8) →
                                      (ix s x_2 = (44 : UInt8) →
                                          in64 (x_2 + (1 : Int)) ∧
                                            (0 : Int) ≤ x_2 ∧
                                              x_2 ≤ x_2 + (1 : Int) ∧
                                                x_2 + (1 : Int) ≤ (↑(List.length s) : Int) ∧
                                                  x.length + (List.drop x_2.toNat (List.take (x_2 + (1 : Int)).toNat s)).length ≤ (9223372036854775807 : Nat) ∧
                                                    in64 (x_2 + (1 : Int)) ∧
                                                      I (x ++ List.drop x_2.toNat (List.take (x_2 + (1 : Int)).toNat s)) true (x_2 + (1 : Int)) ∧
                                                        m (x ++ List.drop x_2.toNat (List.take (x_2 + (1 : Int)).toNat s)) true (x_2 + (1 : Int)) < m x x_1 x_2) ∧
                                        (¬ix s x_2 = (44 : UInt8) →
                                          in64 (x_2 + (1 : Int)) ∧
                                            (0 : Int) ≤ x_2 ∧
                                              x_2 ≤ x_2 + (1 : Int) ∧
                                                x_2 + (1 : Int) ≤ (↑(List.length s) : Int) ∧
                                                  x.length + (List.drop x_2.toNat (List.take (x_2 + (1 : Int)).toNat s)).length ≤ (9223372036854775807 : Nat) ∧
                                                    in64 (x_2 + (1 : Int)) ∧
                                                      I (x ++ List.drop x_2.toNat (List.take (x_2 + (1 : Int)).toNat s)) (decide (x_1 = true)) (x_2 + (1 : Int)) ∧
                                                        m (x ++ List.drop x_2.toNat (List.take (x_2 + (1 : Int)).toNat s)) (decide (x_1 = true)) (x_2 + (1 : Int)) < m x x_1 x_2))))))) ∧
            (¬x_2 < (↑(List.length s) : Int) →
              (x_1 = true →
                  [(34 : UInt8)].length + x.length ≤ (9223372036854775807 : Nat) ∧
                    List.length ([(34 : UInt8)] ++ x) + [(34 : UInt8)].length ≤ (9223372036854775807 : Nat) ∧ Q ([(34 : UInt8)] ++ x ++ [(34 : UInt8)])) ∧
                (¬x_1 = true → Q x))
set_option maxRecDepth 100000 in
theorem V72_ok {s : Str} {Q : Str → Prop} (h : V72 s Q) : vcFun (E := N77) (inlN an72 2) (an72 72) Tryd.f72 [.str s] [] [] 0 (resP N77 [.str] Q) := Eq.mp (show V72 s Q = vcFun (E := N77) (inlN an72 2) (an72 72) Tryd.f72 [.str s] [] [] 0 (resP N77 [.str] Q) by kernel_rfl) h
theorem esc_take {s : Str} {i : Int} (h0 : 0 ≤ i) (h1 : i < s.length) : esc (s.take (i + 1).toNat) = esc (s.take i.toNat) ++ escB (ix s i) := by
  rw [take_next h0 h1]; simp [esc]
theorem any_take {s : Str} {i : Int} (h0 : 0 ≤ i) (h1 : i < s.length) : (s.take (i + 1).toNat).any quoteB = ((s.take i.toNat).any quoteB || quoteB (ix s i)) := by
  rw [take_next h0 h1, List.any_append]; simp
theorem esc_len : ∀ s : Str, (esc s).length ≤ 2 * s.length
  | [] => Nat.le_refl _
  | c :: s => by
    have ih := esc_len s
    have e : esc (c :: s) = escB c ++ esc s := by simp [esc]
    have : (escB c).length ≤ 2 := by unfold escB; split <;> (try split) <;> (try split) <;> simp
    rw [e, List.length_append, List.length_cons]; omega
theorem p72 (s : Str) (hs : s.length ≤ 100000000) : V72 s (fun y0 => y0 = told s) := by
  unfold V72
  refine ⟨fun x q i => 0 ≤ i ∧ i ≤ s.length ∧ x = esc (s.take i.toNat) ∧ q = (s.take i.toNat).any quoteB, fun _ _ i => ((s.length : Int) - i).toNat, ⟨by omega, by omega, rfl, rfl⟩, ?_⟩
  rintro x q i ⟨i0, i1, rfl, rfl⟩
  have lx := esc_len (s.take i.toNat)
  rw [List.length_take] at lx
  have ed : ∀ b : Bool, decide (b = true) = b := fun b => by cases b <;> rfl
  refine ⟨fun hi => ?_, fun hi => ?_⟩
  · have e1 := esc_take i0 hi
    have e2 := any_take i0 hi
    have eo := one_at i0 hi
    simp only [ed, eo, List.length_cons, List.length_nil]
    generalize ix s i = c at e1 e2 ⊢
    have go : ∀ (t : Str) (b : Bool), escB c = t → quoteB c = b → (0 ≤ i + 1 ∧ i + 1 ≤ s.length ∧ esc (s.take i.toNat) ++ t = esc (s.take (i + 1).toNat) ∧ ((s.take i.toNat).any quoteB || b) = (s.take (i + 1).toNat).any quoteB) := fun t b h1 h2 => ⟨by omega, by omega, by rw [e1, h1], by rw [e2, h2]⟩
    have sp : ∀ t : Str, t.length = 2 → escB c = t → quoteB c = false → (esc (s.take i.toNat)).length + (0 + 1 + 1) ≤ 9223372036854775807 ∧ in64 (i + 1) ∧ (0 ≤ i + 1 ∧ i + 1 ≤ s.length ∧ esc (s.take i.toNat) ++ t = esc (s.take (i + 1).toNat) ∧ (s.take i.toNat).any quoteB = (s.take (i + 1).toNat).any quoteB) ∧ ((s.length : Int) - (i + 1)).toNat < ((s.length : Int) - i).toNat := fun t _ h1 h2 => by
      obtain ⟨a, b, c', d⟩ := go t false h1 h2
      rw [Bool.or_false] at d
      exact ⟨by omega, ⟨by omega, by omega⟩, ⟨a, b, c', d⟩, by omega⟩
    have pl : ∀ b : Bool, escB c = [c] → quoteB c = b → in64 (i + 1) ∧ 0 ≤ i ∧ i ≤ i + 1 ∧ i + 1 ≤ s.length ∧ (esc (s.take i.toNat)).length + (0 + 1) ≤ 9223372036854775807 ∧ in64 (i + 1) ∧ (0 ≤ i + 1 ∧ i + 1 ≤ s.length ∧ esc (s.take i.toNat) ++ [c] = esc (s.take (i + 1).toNat) ∧ ((s.take i.toNat).any quoteB || b) = (s.take (i + 1).toNat).any quoteB) ∧ ((s.length : Int) - (i + 1)).toNat < ((s.length : Int) - i).toNat := fun b h1 h2 => by
      obtain ⟨a, b', c', d⟩ := go [c] b h1 h2
      exact ⟨⟨by omega, by omega⟩, i0, by omega, by omega, by omega, ⟨by omega, by omega⟩, ⟨a, b', c', d⟩, by omega⟩
    refine ⟨i0, hi, fun h => ?_, fun h1 => ⟨fun h => ?_, fun h2 => ⟨fun h => ?_, fun h3 => ⟨fun h => ⟨fun _ => ?_, fun n => absurd h n⟩, fun h4 => ⟨fun h => ⟨fun _ => ?_, fun n => absurd h n⟩, fun h5 => ⟨fun h => ?_, fun h6 => ?_⟩⟩⟩⟩⟩⟩
    · subst h; exact sp [94, 94] rfl rfl rfl
    · subst h; exact sp [94, 39] rfl rfl rfl
    · subst h; exact sp [94, 110] rfl rfl rfl
    · subst h; have := pl true rfl rfl; rw [Bool.or_true] at this; exact this
    · subst h; have := pl true rfl rfl; rw [Bool.or_true] at this; exact this
    · subst h; have := pl true rfl rfl; rw [Bool.or_true] at this; exact this
    · have := pl false (by unfold escB; rw [if_neg h1, if_neg h2, if_neg h3]) (by unfold quoteB; simp [h4, h5, h6])
      rw [Bool.or_false] at this; exact this
  · have e : s.take i.toNat = s := List.take_of_length_le (by omega)
    rw [e]
    rw [e] at lx
    have le := esc_len s
    simp only [List.length_append, List.length_cons, List.length_nil]
    refine ⟨fun h => ⟨by omega, by omega, ?_⟩, fun h => ?_⟩
    · unfold told; rw [if_pos h]; rfl
    · unfold told; rw [if_neg h]
def c72 (a : List (SV U)) : Option (Q1 U) := match a with | [.str s] => some ⟨[List.length (α := UInt8) s ≤ 100000000], [], .str (told s)⟩ | _ => none
set_option maxRecDepth 100000 in
theorem c72_ok (args : List (SV U)) (q : Q1 U) (h : c72 args = some q) (ho : allP q.ob) : LendOK N77 72 args ⟨q.ob, q.hy, q.v, []⟩ := by
  unfold c72 at h
  split at h
  · rename_i s
    cases h
    exact lend1 N77_ok (inlN_ok N77_ok an72 2) Tryd.func72 (k := .str) (x := told s) trivial (V72_ok (p72 s ho.1)) 0
  · cases h
noncomputable def N72 : Env := N77.addL 72 c72
theorem N72_ok : EnvOK N72 := N77_ok.addL Tryd.call72 c72_ok
end Go.Proofs.YtadgfmmmdhlljaaDoor
end
section
namespace Go.Proofs.YtadgfmmmdhlljaaDoor
open Go Go.Wk Go.Wl Go.Rx Go.Fo Go.Li 
def an30 : Nat → Ann := fun | 30 => ⟨86, fun | 4 => some ⟨[2, 3], [.slot 5 (.int .i64)]⟩ | 11 => some ⟨[2, 3, 5, 6, 7], [.slot 8 (.int .i64)]⟩ | _ => none, fun  | _ => none⟩ | _ => ⟨0, fun _ => none, fun _ => none⟩
def V30 (p : Prp) (q : Prp) (Q : Bool → Prop) : Prop :=
(((p.Group ≠ q.Group ∨ p.Name ≠ q.Name) ∨ p.Value ≠ q.Value) ∨ (↑p.Params.length : Int) ≠ (↑q.Params.length : Int) → Q false) ∧
  (¬(((p.Group ≠ q.Group ∨ p.Name ≠ q.Name) ∨ p.Value ≠ q.Value) ∨ (↑p.Params.length : Int) ≠ (↑q.Params.length : Int)) →
    ∃ (I : Int → Prop),
      ∃ (m : Int → Nat),
        I (0 : Int) ∧
          ∀ (x : Int),
            I x →
              (x < (↑p.Params.length : Int) →
                  (0 : Int) ≤ x ∧
                    x < (↑p.Params.length : Int) ∧
                      (0 : Int) ≤ x ∧
                        x < (↑q.Params.length : Int) ∧
                          ((ix p.Params x).Name ≠ (ix q.Params x).Name ∨ (↑(ix p.Params x).Values.length : Int) ≠ (↑(ix q.Params x).Values.length : Int) → Q false) ∧
                            (¬((ix p.Params x).Name ≠ (ix q.Params x).Name ∨ (↑(ix p.Params x).Values.length : Int) ≠ (↑(ix q.Params x).Values.length : Int)) →
                              ∃ (I_1 : Int → Prop),
                                ∃ (m_1 : Int → Nat),
                                  I_1 (0 : Int) ∧
                                    ∀ (x_1 : Int),
                                      I_1 x_1 →
                                        (x_1 < (↑(ix p.Params x).Values.length : Int) →
                                            (0 : Int) ≤ x_1 ∧
                                              x_1 < (↑(ix p.Params x).Values.length : Int) ∧
                                                (0 : Int) ≤ x_1 ∧
                                                  x_1 < (↑(ix q.Params x).Values.length : Int) ∧
                                                    (ix (ix p.Params x).Values x_1 ≠ ix (ix q.Params x).Values x_1 → Q false) ∧
                                                      (¬ix (ix p.Params x).Values x_1 ≠ ix (ix q.Params x).Values x_1 →
                                                        in64 (x_1 + (1 : Int)) ∧ I_1 (x_1 + (1 : Int)) ∧ m_1 (x_1 + (1 : Int)) < m_1 x_1)) ∧
                                          (¬x_1 < (↑(ix p.Params x).Values.length : Int) → in64 (x + (1 : Int)) ∧ I (x + (1 : Int)) ∧ m (x + (1 : Int)) < m x))) ∧
                (¬x < (↑p.Params.length : Int) → Q true))
set_option maxRecDepth 100000 in
theorem V30_ok {p : Prp} {q : Prp} {Q : Bool → Prop} (h : V30 p q Q) : vcFun (E := N72) (inlN an30 2) (an30 30) Tryd.f30 [.agg [.str p.Group, .str p.Name, .sl (N := U) 59 p.Params, .str p.Value], .agg [.str q.Group, .str q.Name, .sl (N := U) 59 q.Params, .str q.Value]] [] [] 0 (resP N72 [.bool] Q) := Eq.mp (show V30 p q Q = vcFun (E := N72) (inlN an30 2) (an30 30) Tryd.f30 [.agg [.str p.Group, .str p.Name, .sl (N := U) 59 p.Params, .str p.Value], .agg [.str q.Group, .str q.Name, .sl (N := U) 59 q.Params, .str q.Value]] [] [] 0 (resP N72 [.bool] Q) by kernel_rfl) h
theorem list_ix {α : Type} [Inhabited α] {a b : List α} (hl : a.length = b.length) (h : ∀ j : Int, 0 ≤ j → j < a.length → ix a j = ix b j) : a = b := by
  refine List.ext_getElem hl fun j h1 h2 => ?_
  have := h j (by omega) (by omega)
  rw [ix_get (by simpa using h1), ix_get (by simpa using h2)] at this
  simpa using this
theorem p30 (p : Prp) (q : Prp) (hs : p.Params.length ≤ 9223372036854775807) (ht : ∀ x ∈ p.Params, x.Values.length ≤ 9223372036854775807) : V30 p q (fun y0 => y0 = decide (p = q)) := by
  unfold V30
  refine ⟨fun h => (decide_eq_false fun e => by subst e; simp at h).symm, fun h => ?_⟩
  have hg : p.Group = q.Group := Classical.byContradiction fun n => h (.inl (.inl (.inl n)))
  have hn : p.Name = q.Name := Classical.byContradiction fun n => h (.inl (.inl (.inr n)))
  have hv : p.Value = q.Value := Classical.byContradiction fun n => h (.inl (.inr n))
  have hl : (p.Params.length : Int) = q.Params.length := Classical.byContradiction fun n => h (.inr n)
  clear h
  refine ⟨fun x => 0 ≤ x ∧ x ≤ p.Params.length ∧ ∀ j : Int, 0 ≤ j → j < x → ix p.Params j = ix q.Params j, fun x => ((p.Params.length : Int) - x).toNat, ⟨by omega, by omega, fun j _ _ => by omega⟩, ?_⟩
  rintro x ⟨x0, x1, hx⟩
  refine ⟨fun hi => ⟨x0, hi, x0, by omega, fun hb => (decide_eq_false fun e => by subst e; simp at hb).symm, fun hb => ⟨fun y => 0 ≤ y ∧ y ≤ ((ix p.Params x).Values.length : Int) ∧ ∀ j : Int, 0 ≤ j → j < y → ix (ix p.Params x).Values j = ix (ix q.Params x).Values j, fun y => (((ix p.Params x).Values.length : Int) - y).toNat, ⟨by omega, by omega, fun j _ _ => by omega⟩, ?_⟩⟩, fun hi => ?_⟩
  · have bn : (ix p.Params x).Name = (ix q.Params x).Name := Classical.byContradiction fun n => hb (.inl n)
    have bl : ((ix p.Params x).Values.length : Int) = (ix q.Params x).Values.length := Classical.byContradiction fun n => hb (.inr n)
    have hvl := ht _ (mem_of_ix x0 hi)
    rintro y ⟨y0, y1, hy⟩
    refine ⟨fun hj => ⟨y0, hj, y0, by omega, fun hne => (decide_eq_false fun e => by subst e; exact hne rfl).symm, fun he => ⟨⟨by omega, by omega⟩, ⟨by omega, by omega, fun j j0 j1 => ?_⟩, by dsimp only; omega⟩⟩, fun hj => ⟨⟨by omega, by omega⟩, ⟨by omega, by omega, fun j j0 j1 => ?_⟩, by dsimp only; omega⟩⟩
    · by_cases e : j = y
      · subst e; exact Classical.not_not.1 he
      · exact hy j j0 (by omega)
    · by_cases e : j = x
      · subst e
        have ev : (ix p.Params j).Values = (ix q.Params j).Values := list_ix (by omega) fun k k0 k1 => hy k k0 (by omega)
        generalize ix p.Params j = a at bn ev
        generalize ix q.Params j = b at bn ev
        cases a; cases b
        simp only at bn ev
        rw [bn, ev]
      · exact hx j j0 (by omega)
  · have ep : p.Params = q.Params := list_ix (by omega) fun j j0 j1 => hx j j0 (by omega)
    refine (decide_eq_true ?_).symm
    cases p; cases q
    simp only at hg hn hv ep
    rw [hg, hn, hv, ep]
def c30s (p : Prp) (q : Prp) : Q1 U := ⟨[List.length (α := Param) p.Params ≤ 9223372036854775807, ∀ x ∈ p.Params, List.length (α := Str) x.Values ≤ 9223372036854775807], [], blB (decide (p = q))⟩
def c30 (a : List (SV U)) : Option (Q1 U) := match a with | [.agg [.str p0, .str p1, .sl 59 p2, .str p3], .agg [.str q0, .str q1, .sl 59 q2, .str q3]] => some (c30s (⟨p0, p1, p2, p3⟩) (⟨q0, q1, q2, q3⟩)) | _ => none
set_option maxRecDepth 100000 in
theorem c30_ok (args : List (SV U)) (q : Q1 U) (h : c30 args = some q) (ho : allP q.ob) : LendOK N72 30 args ⟨q.ob, q.hy, q.v, []⟩ := by
  unfold c30 at h
  split at h
  · rename_i p0 p1 p2 p3 q0 q1 q2 q3
    cases h
    exact lend1 N72_ok (inlN_ok N72_ok an30 2) Tryd.func30 (k := .bool) trivial (V30_ok (p30 (⟨p0, p1, p2, p3⟩) (⟨q0, q1, q2, q3⟩) ho.1 ho.2.1)) 0
  · cases h
noncomputable def N30 : Env := N72.addL 30 c30
theorem N30_ok : EnvOK N30 := N72_ok.addL Tryd.call30 c30_ok
end Go.Proofs.YtadgfmmmdhlljaaDoor
end
section
namespace Go.Proofs.YtadgfmmmdhlljaaDoor
open Go Go.Wk Go.Wl Go.Rx Go.Fo Go.Li 
def an74 : Nat → Ann := fun | 74 => ⟨27, fun | 2 => some ⟨[0, 1, 7], [.slot 8 (.int .i64)]⟩ | _ => none, fun  | _ => none⟩ | _ => ⟨0, fun _ => none, fun _ => none⟩
def V74 (s : Str) (a : Bool) (Q : Bool → Prop) : Prop :=
∃ (I : Int → Prop),
  ∃ (m : Int → Nat),
    I (0 : Int) ∧
      ∀ (x : Int),
        I x →
          (x < (↑(List.length s) : Int) →
              (0 : Int) ≤ x ∧
                x < (↑(List.length s) : Int) ∧
                  (¬standsB (ix s x) = true ∧ a = true → (0 : Int) ≤ x) ∧
                    (¬standsB (ix s x) = true ∧ a = true → x < (↑(List.length s) : Int)) ∧
                      (¬standsB (ix s x) = true ∧ ¬(a = true ∧ ix s x = (10 : UInt8)) → Q false) ∧
                        (¬(¬standsB (ix s x) = true ∧ ¬(a = true ∧ ix s x = (10 : UInt8))) → in64 (x + (1 : Int)) ∧ I (x + (1 : Int)) ∧ m (x + (1 : Int)) < m x)) ∧
            (¬x < (↑(List.length s) : Int) → Q true)
set_option maxRecDepth 100000 in
theorem V74_ok {s : Str} {a : Bool} {Q : Bool → Prop} (h : V74 s a Q) : vcFun (E := N30) (inlN an74 2) (an74 74) Tryd.f74 [.str s, blB a] [] [] 0 (resP N30 [.bool] Q) := Eq.mp (show V74 s a Q = vcFun (E := N30) (inlN an74 2) (an74 74) Tryd.f74 [.str s, blB a] [] [] 0 (resP N30 [.bool] Q) by kernel_rfl) h
def standAll (a : Bool) (s : Str) : Bool := s.all fun c => standsB c || (a && c == 10)
theorem p74 (s : Str) (a : Bool) (hs : s.length ≤ 9223372036854775807) : V74 s a (fun y0 => y0 = standAll a s) := by
  unfold V74
  refine ⟨fun x => 0 ≤ x ∧ x ≤ s.length ∧ ∀ j : Int, 0 ≤ j → j < x → (fun c => standsB c || (a && c == 10)) (ix s j) = true, fun x => ((s.length : Int) - x).toNat, ⟨by omega, by omega, fun j _ _ => by omega⟩, ?_⟩
  rintro x ⟨x0, x1, hx⟩
  have key : (fun c => standsB c || (a && c == 10)) (ix s x) = true ↔ ¬ (¬ standsB (ix s x) = true ∧ ¬ (a = true ∧ ix s x = 10)) := by
    simp only [Bool.or_eq_true, Bool.and_eq_true, beq_iff_eq]
    constructor
    · rintro (h | h) ⟨h1, h2⟩
      · exact h1 h
      · exact h2 h
    · intro h
      by_cases h1 : standsB (ix s x) = true
      · exact .inl h1
      · exact .inr (Classical.not_not.1 fun h2 => h ⟨h1, h2⟩)
  refine ⟨fun hi => ⟨x0, hi, fun _ => x0, fun _ => hi, fun hn => ?_, fun hn => ⟨⟨by omega, by omega⟩, ⟨by omega, by omega, fun j j0 j1 => ?_⟩, by dsimp only; omega⟩⟩, fun hi => ?_⟩
  · have := not_all (p := fun c => standsB c || (a && c == 10)) x0 hi (fun h => key.1 h hn)
    unfold standAll
    cases hh : (List.all s fun c => standsB c || (a && c == 10))
    · rfl
    · exact absurd hh this
  · by_cases e : j = x
    · subst e; exact key.2 hn
    · exact hx j j0 (by omega)
  · exact (all_ix fun j j0 j1 => hx j j0 (by omega)).symm
def c74s (s : Str) (a : Bool) : Q1 U := ⟨[List.length (α := UInt8) s ≤ 9223372036854775807], [], blB (standAll a s)⟩
def c74 (a : List (SV U)) : Option (Q1 U) := match a with | [.str s, x_a] => (boolOf x_a).bind fun a => some (c74s s a) | _ => none
set_option maxRecDepth 100000 in
theorem c74_ok (args : List (SV U)) (q : Q1 U) (h : c74 args = some q) (ho : allP q.ob) : LendOK N30 74 args ⟨q.ob, q.hy, q.v, []⟩ := by
  unfold c74 at h
  split at h
  · rename_i s x_a
    obtain ⟨a, hb_a, h⟩ := Option.bind_eq_some_iff.1 h
    cases h
    refine LendOK.conv (args' := [.str s, blB a]) (lend1 N30_ok (inlN_ok N30_ok an74 2) Tryd.func74 (k := .bool) trivial (V74_ok (p74 s a ho.1)) 0) fun D w vs hr => ?_
    obtain ⟨u0, r0, rfl, h0, hr⟩ := Rep.tup_cons hr
    obtain ⟨u1, r1, rfl, h1, hr⟩ := Rep.tup_cons hr
    obtain rfl := tup0_inv hr
    exact (.tup1 (cs := [u1]) h0 (.tup1 (cs := []) (boolOf_rep hb_a h1) .tup0))
  · cases h
noncomputable def N74 : Env := N30.addL 74 c74
theorem N74_ok : EnvOK N74 := N30_ok.addL Tryd.call74 c74_ok
end Go.Proofs.YtadgfmmmdhlljaaDoor
end
section
namespace Go.Li
open Go Go.Wk Go.Wl Go.Rx
def whyE (s : Str) : Err := .w 153 s (.no 11)
/-- A name's error. -/
def nE (s : Str) : Err := if s.takeWhile letterB = [] then whyE [110, 97, 109, 101] else .nil
/-- A value, its error, what is left. -/
def gV (s : Str) : Str × Err × Str := match hdIs 34 s with
  | none => (said (s.takeWhile plainB), .nil, s.dropWhile plainB)
  | some r => match hdIs 34 (r.dropWhile inB) with
    | none => ([], whyE [113, 117, 111, 116, 101, 100], r.dropWhile inB)
    | some t => (said (r.takeWhile inB), .nil, t)
theorem hdIs_some {c : UInt8} {s : Str} (h : s ≠ []) (e : ix s 0 = c) : hdIs c s = some (s.drop 1) := by
  cases s with
  | nil => exact absurd rfl h
  | cons d s => have e : d = c := e; subst e; simp [hdIs]
theorem hdIs_none {c : UInt8} {s : Str} (h : s = [] ∨ ix s 0 ≠ c) : hdIs c s = none := by
  cases s with
  | nil => rfl
  | cons d s =>
    rcases h with h | h
    · cases h
    · have h : d ≠ c := h
      simp [hdIs, h]
theorem while_take {p : UInt8 → Bool} {s : Str} {i : Int} (h0 : 0 ≤ i) (h1 : i ≤ s.length) (h : ∀ j : Int, 0 ≤ j → j < i → p (ix s j) = true) (he : ¬ (i < s.length ∧ p (ix s i) = true)) : s.take i.toNat = s.takeWhile p ∧ s.drop i.toNat = s.dropWhile p := by
  obtain ⟨n, rfl⟩ : ∃ n : Nat, i = n := ⟨i.toNat, by omega⟩
  simp only [Int.toNat_natCast]
  clear h0
  induction s generalizing n with
  | nil => have : n = 0 := by simp at h1; omega
           subst this; exact ⟨rfl, rfl⟩
  | cons c s ih =>
    cases n with
    | zero =>
      have hc : ¬ p c = true := fun hc => he ⟨by simp only [List.length_cons]; omega, hc⟩
      simp [List.takeWhile_cons, List.dropWhile_cons, hc]
    | succ n =>
      have hc : p c = true := h 0 (by omega) (by omega)
      have sh : ∀ j : Int, 0 ≤ j → ix (c :: s) (j + 1) = ix s j := fun j hj => by
        unfold ix
        have : (j + 1).toNat = j.toNat + 1 := by omega
        rw [this]; rfl
      obtain ⟨a, b⟩ := ih n (by simp at h1; omega) (fun j j0 j1 => by rw [← sh j j0]; exact h (j + 1) (by omega) (by omega)) (fun ⟨x, y⟩ => he ⟨by simp; omega, by
        have := sh n (by omega)
        push_cast
        rw [this]; exact y⟩)
      simp [List.takeWhile_cons, List.dropWhile_cons, hc, a, b]
end Go.Li
end
section
namespace Go.Li
open Go Go.Wk Go.Wl Go.Rx
/-- Values parted by commas: those, the error, what is left. -/
def gVs : Nat → Str → List Str × Err × Str
  | 0, s => ([], .nil, s)
  | n + 1, s => if (gV s).2.1 ≠ .nil then ([], (gV s).2.1, (gV s).2.2) else match hdIs 44 (gV s).2.2 with
    | none => ([(gV s).1], .nil, (gV s).2.2)
    | some t => ((gV s).1 :: (gVs n t).1, (gVs n t).2.1, (gVs n t).2.2)
def gP (s : Str) : Param × Err × Str := if nE s ≠ .nil then (⟨[], []⟩, nE s, s.dropWhile letterB) else match hdIs 61 (s.dropWhile letterB) with
  | none => (⟨[], []⟩, whyE [112, 97, 114, 97, 109], s.dropWhile letterB)
  | some t => (⟨upper (s.takeWhile letterB), (gVs (t.length + 1) t).1⟩, (gVs (t.length + 1) t).2.1, (gVs (t.length + 1) t).2.2)
def okE (e : Err) : Prop := e = .nil ∨ ∃ s, e = whyE s
theorem nE_ok (s : Str) : okE (nE s) := by unfold nE; split; exact .inr ⟨_, rfl⟩; exact .inl rfl
theorem gV_ok (s : Str) : okE (gV s).2.1 := by
  unfold gV
  split
  · exact .inl rfl
  · split
    · exact .inr ⟨_, rfl⟩
    · exact .inl rfl
theorem gVs_ok : ∀ (n : Nat) (s : Str), okE (gVs n s).2.1
  | 0, s => .inl rfl
  | n + 1, s => by
    unfold gVs
    split
    · exact gV_ok s
    · split
      · exact .inl rfl
      · exact gVs_ok n _
theorem gP_ok (s : Str) : okE (gP s).2.1 := by
  unfold gP
  split
  · exact nE_ok s
  · split
    · exact .inr ⟨_, rfl⟩
    · exact gVs_ok _ _
theorem okE_is {e : Err} (h : okE e) (hn : e ≠ .nil) : e.is 11 := by
  rcases h with h | ⟨s, rfl⟩
  · exact absurd h hn
  · rfl
theorem why_ne (s : Str) : whyE s ≠ .nil := by unfold whyE; intro h; cases h
theorem pName_g (s : Str) : pName s = if nE s = .nil then some (upper (s.takeWhile letterB), s.dropWhile letterB) else none := by
  unfold pName nE
  by_cases h : s.takeWhile letterB = []
  · rw [if_pos h, if_pos h, if_neg (why_ne _)]
  · rw [if_neg h, if_neg h, if_pos rfl]
theorem pValue_g (s : Str) : pValue s = if (gV s).2.1 = .nil then some ((gV s).1, (gV s).2.2) else none := by
  unfold pValue gV
  cases hdIs 34 s with
  | none => rfl
  | some r =>
    simp only
    cases hdIs 34 (r.dropWhile inB) with
    | none => exact (if_neg (why_ne _)).symm
    | some t => rfl
theorem gV_len (s : Str) : (gV s).2.2.length ≤ s.length := by
  unfold gV
  cases h : hdIs 34 s with
  | none => exact drop_len _ _
  | some r =>
    have h1 := hdIs_len h
    have h2 := drop_len inB r
    simp only
    cases h3 : hdIs 34 (r.dropWhile inB) with
    | none => simp only; omega
    | some t => have := hdIs_len h3; simp only; omega
theorem gVs_err {n : Nat} {s : Str} (h : (gV s).2.1 ≠ .nil) : gVs (n + 1) s = ([], (gV s).2.1, (gV s).2.2) := by unfold gVs; rw [if_pos h]
theorem gVs_end {n : Nat} {s : Str} (h : (gV s).2.1 = .nil) (h1 : hdIs 44 (gV s).2.2 = none) : gVs (n + 1) s = ([(gV s).1], .nil, (gV s).2.2) := by
  unfold gVs; rw [if_neg (fun x => x h), h1]
theorem gVs_on {n : Nat} {s t : Str} (h : (gV s).2.1 = .nil) (h1 : hdIs 44 (gV s).2.2 = some t) : gVs (n + 1) s = ((gV s).1 :: (gVs n t).1, (gVs n t).2.1, (gVs n t).2.2) := by
  conv => lhs; unfold gVs
  rw [if_neg (fun x => x h), h1]
theorem pVals_g : ∀ (n : Nat) (s : Str), s.length < n → pVals s = if (gVs n s).2.1 = .nil then some ((gVs n s).1, (gVs n s).2.2) else none
  | 0, s, h => by omega
  | n + 1, s, h => by
    rw [pVals_eq, pValue_g]
    by_cases he : (gV s).2.1 = .nil
    · rw [if_pos he]
      cases h1 : hdIs 44 (gV s).2.2 with
      | none => rw [gVs_end he h1]; simp only [h1, if_true]
      | some t =>
        have h2 := hdIs_len h1
        have h3 := gV_len s
        rw [gVs_on he h1]
        simp only [h1]
        rw [pVals_g n t (by omega)]
        by_cases h4 : (gVs n t).2.1 = .nil
        · simp only [h4, if_true]
        · simp only [h4, if_false]
    · rw [if_neg he, gVs_err he]
      simp only [he, if_false]
theorem gVs_len : ∀ (n : Nat) (s : Str), (gVs n s).2.2.length ≤ s.length ∧ (gVs n s).1.length ≤ s.length + 1
  | 0, s => ⟨Nat.le_refl _, Nat.zero_le _⟩
  | n + 1, s => by
    have hl := gV_len s
    unfold gVs
    split
    · exact ⟨hl, Nat.zero_le _⟩
    · split
      · exact ⟨hl, by simp⟩
      · rename_i t ht
        have h2 := hdIs_len ht
        obtain ⟨a, b⟩ := gVs_len n t
        refine ⟨by dsimp only; omega, ?_⟩
        simp only [List.length_cons]
        omega
theorem gP_len (s : Str) : (gP s).2.2.length ≤ s.length := by
  have h1 := drop_len letterB s
  unfold gP
  split
  · exact h1
  · split
    · exact h1
    · rename_i t ht
      have := hdIs_len ht
      have := (gVs_len (t.length + 1) t).1
      dsimp only; omega
theorem gP_err {s : Str} (h : nE s ≠ .nil) : gP s = (⟨[], []⟩, nE s, s.dropWhile letterB) := by unfold gP; rw [if_pos h]
theorem gP_no {s : Str} (h : nE s = .nil) (h1 : hdIs 61 (s.dropWhile letterB) = none) : gP s = (⟨[], []⟩, whyE [112, 97, 114, 97, 109], s.dropWhile letterB) := by
  unfold gP; rw [if_neg (fun x => x h), h1]
theorem gP_on {s t : Str} (h : nE s = .nil) (h1 : hdIs 61 (s.dropWhile letterB) = some t) : gP s = (⟨upper (s.takeWhile letterB), (gVs (t.length + 1) t).1⟩, (gVs (t.length + 1) t).2.1, (gVs (t.length + 1) t).2.2) := by
  unfold gP; rw [if_neg (fun x => x h), h1]
theorem pParam_g (s : Str) : pParam s = if (gP s).2.1 = .nil then some ((gP s).1, (gP s).2.2) else none := by
  unfold pParam
  rw [pName_g]
  by_cases he : nE s = .nil
  · rw [if_pos he]
    cases h1 : hdIs 61 (s.dropWhile letterB) with
    | none => rw [gP_no he h1]; simp only [h1, why_ne, if_false]
    | some t =>
      rw [gP_on he h1]
      simp only [h1]
      rw [pVals_g (t.length + 1) t (by omega)]
      by_cases h4 : (gVs (t.length + 1) t).2.1 = .nil
      · simp only [h4, if_true]
      · simp only [h4, if_false]
  · rw [if_neg he, gP_err he]
    simp only [he, if_false]
end Go.Li
end
section
namespace Go.Li
open Go Go.Wk Go.Wl Go.Rx
def manyB (p : Prp) : Bool := decide (20 < p.Params.length) || p.Params.any (fun x => decide (20 < x.Values.length)) || !decide ((p.Params.map Param.Name).Nodup)
def prp0 : Prp := ⟨[], [], [], []⟩
def finS (o : Option Prp) : Prp × Err := match o with
  | none => (prp0, .no 11)
  | some p => if manyB p = true then (prp0, .no 5) else (p, .nil)
def parseS (s : Str) : Prp × Err := finS (pProp s)
/-- What is left of a property, its head and some parameters read. -/
def tailS (g n : Str) (l : List Param) (r : Str) : Option Prp := match pParams r with
  | none => none
  | some (l', t) => match hdIs 58 t with
    | none => none
    | some v => if v.all standsB = true then some ⟨g, n, l ++ l', v⟩ else none
theorem prop_tail (s : Str) : pProp s = match pHead s with | none => none | some (g, n, r) => tailS g n [] r := by
  unfold pProp tailS
  cases pHead s with
  | none => rfl
  | some x => rfl
theorem prop_err {s : Str} (h : nE s ≠ .nil) : pProp s = none := by
  rw [prop_tail]; unfold pHead; rw [pName_g, if_neg h]
theorem prop_plain {s : Str} (h : nE s = .nil) (h1 : hdIs 46 (s.dropWhile letterB) = none) : pProp s = tailS [] (upper (s.takeWhile letterB)) [] (s.dropWhile letterB) := by
  rw [prop_tail]; unfold pHead; rw [pName_g, if_pos h]; simp only [h1]
theorem prop_group {s t : Str} (h : nE s = .nil) (h1 : hdIs 46 (s.dropWhile letterB) = some t) : pProp s = if nE t = .nil then tailS (upper (s.takeWhile letterB)) (upper (t.takeWhile letterB)) [] (t.dropWhile letterB) else none := by
  rw [prop_tail]; unfold pHead; rw [pName_g, if_pos h]; simp only [h1]
  rw [pName_g]
  by_cases h2 : nE t = .nil
  · simp only [h2, if_true]
  · simp only [h2, if_false]
theorem tail_err {g n r t : Str} {l : List Param} (h : hdIs 59 r = some t) (h1 : (gP t).2.1 ≠ .nil) : tailS g n l r = none := by
  unfold tailS; rw [pParams_eq, h]; simp only [pParam_g, if_neg h1]
theorem tail_on {g n r t : Str} {l : List Param} (h : hdIs 59 r = some t) (h1 : (gP t).2.1 = .nil) : tailS g n l r = tailS g n (l ++ [(gP t).1]) (gP t).2.2 := by
  unfold tailS; rw [pParams_eq, h]; simp only [pParam_g, if_pos h1]
  cases pParams (gP t).2.2 with
  | none => rfl
  | some x => simp
theorem tail_no {g n r : Str} {l : List Param} (h : hdIs 59 r = none) (h1 : hdIs 58 r = none) : tailS g n l r = none := by
  unfold tailS; rw [pParams_eq, h]; simp only [h1]
theorem tail_end {g n r v : Str} {l : List Param} (h : hdIs 59 r = none) (h1 : hdIs 58 r = some v) : tailS g n l r = if v.all standsB = true then some ⟨g, n, l, v⟩ else none := by
  unfold tailS; rw [pParams_eq, h]; simp only [h1, List.append_nil]
theorem while_nil {p : UInt8 → Bool} {s : Str} : s.dropWhile p = [] ↔ s.all p = true := by
  induction s with
  | nil => simp
  | cons c s ih =>
    rw [List.dropWhile_cons, List.all_cons]
    by_cases h : p c = true
    · rw [if_pos h, h, Bool.true_and]; exact ih
    · rw [if_neg h]
      have : p c = false := by simpa using h
      rw [this]; simp
theorem while_all {p : UInt8 → Bool} {s : Str} (h : s.dropWhile p = []) : s.takeWhile p = s := by
  have := List.takeWhile_append_dropWhile (p := p) (l := s)
  rw [h, List.append_nil] at this; exact this
end Go.Li
end
section
namespace Go.Proofs.YtadgfmmmdhlljaaDoor
open Go Go.Wk Go.Wl Go.Rx Go.Fo Go.Li 
def an69 : Nat → Ann := fun | 69 => ⟨42, fun | 2 => some ⟨[1], [.slot 3 (.int .i64)]⟩ | 7 => some ⟨[1, 3], [.slot 4 (.int .i64)]⟩ | _ => none, fun  | _ => none⟩ | _ => ⟨0, fun _ => none, fun _ => none⟩
def V69 (p : Prp) (Q : Bool → Prop) : Prop :=
∃ (I : Int → Prop),
  ∃ (m : Int → Nat),
    I (0 : Int) ∧
      ∀ (x : Int),
        I x →
          (x < (↑p.Params.length : Int) →
              (0 : Int) ≤ x ∧
                x < (↑p.Params.length : Int) ∧
                  ((20 : Int) < (↑(ix p.Params x).Values.length : Int) → Q true) ∧
                    (¬(20 : Int) < (↑(ix p.Params x).Values.length : Int) →
                      ∃ (I_1 : Int → Prop),
                        ∃ (m_1 : Int → Nat),
                          I_1 (0 : Int) ∧
                            ∀ (x_1 : Int),
                              I_1 x_1 →
                                (x_1 < x →
                                    (0 : Int) ≤ x_1 ∧
                                      x_1 < (↑p.Params.length : Int) ∧
                                        (0 : Int) ≤ x ∧
                                          x < (↑p.Params.length : Int) ∧
                                            ((ix p.Params x_1).Name = (ix p.Params x).Name → Q true) ∧
                                              (¬(ix p.Params x_1).Name = (ix p.Params x).Name → in64 (x_1 + (1 : Int)) ∧ I_1 (x_1 + (1 : Int)) ∧ m_1 (x_1 + (1 : Int)) < m_1 x_1)) ∧
                                  (¬x_1 < x → in64 (x + (1 : Int)) ∧ I (x + (1 : Int)) ∧ m (x + (1 : Int)) < m x))) ∧
            (¬x < (↑p.Params.length : Int) → Q (decide ((20 : Int) < (↑p.Params.length : Int))))
set_option maxRecDepth 100000 in
theorem V69_ok {p : Prp} {Q : Bool → Prop} (h : V69 p Q) : vcFun (E := N74) (inlN an69 2) (an69 69) Tryd.f69 [.agg [.str p.Group, .str p.Name, .sl (N := U) 59 p.Params, .str p.Value]] [] [] 0 (resP N74 [.bool] Q) := Eq.mp (show V69 p Q = vcFun (E := N74) (inlN an69 2) (an69 69) Tryd.f69 [.agg [.str p.Group, .str p.Name, .sl (N := U) 59 p.Params, .str p.Value]] [] [] 0 (resP N74 [.bool] Q) by kernel_rfl) h
theorem many_long {p : Prp} {x : Int} (h0 : 0 ≤ x) (h1 : x < p.Params.length) (h : 20 < ((ix p.Params x).Values.length : Int)) : manyB p = true := by
  unfold manyB
  have : p.Params.any (fun x => decide (20 < x.Values.length)) = true := List.any_eq_true.2 ⟨_, mem_of_ix h0 h1, decide_eq_true (by omega)⟩
  rw [this]; simp
theorem many_twice {p : Prp} {x y : Int} (h0 : 0 ≤ y) (h1 : y < x) (h2 : x < p.Params.length) (h : (ix p.Params y).Name = (ix p.Params x).Name) : manyB p = true := by
  unfold manyB
  have : ¬ (p.Params.map Param.Name).Nodup := fun hn => by
    have hn : List.Pairwise (· ≠ ·) (p.Params.map Param.Name) := hn
    refine List.pairwise_iff_getElem.1 hn y.toNat x.toNat (by rw [List.length_map]; omega) (by rw [List.length_map]; omega) (by omega) ?_
    rw [ix_get (by omega), ix_get (by omega)] at h
    rw [List.getElem_map, List.getElem_map, h]
  rw [decide_eq_false this]; simp
theorem many_none {p : Prp} (h1 : ∀ x : Int, 0 ≤ x → x < p.Params.length → ¬ 20 < ((ix p.Params x).Values.length : Int)) (h2 : ∀ x y : Int, 0 ≤ y → y < x → x < p.Params.length → (ix p.Params y).Name ≠ (ix p.Params x).Name) : manyB p = decide (20 < (p.Params.length : Int)) := by
  unfold manyB
  have e1 : p.Params.any (fun x => decide (20 < x.Values.length)) = false := by
    rw [List.any_eq_false]
    intro x hx
    obtain ⟨j, hj, rfl⟩ := List.getElem_of_mem hx
    have := h1 j (by omega) (by omega)
    rw [ix_get (by simpa using hj)] at this
    simp only [Int.toNat_natCast] at this
    simp only [decide_eq_true_eq]
    omega
  have e2 : (p.Params.map Param.Name).Nodup := by
    show List.Pairwise (· ≠ ·) (p.Params.map Param.Name)
    rw [List.pairwise_iff_getElem]
    intro i j hi hj hij he
    rw [List.length_map] at hi hj
    have := h2 j i (by omega) (by omega) (by omega)
    rw [ix_get (by omega), ix_get (by omega)] at this
    rw [List.getElem_map, List.getElem_map] at he
    simp only [Int.toNat_natCast] at this
    exact this he
  rw [e1, decide_eq_true e2]
  simp only [Bool.or_false, Bool.not_true]
  exact decide_eq_decide.2 (by omega)
theorem p69 (p : Prp) (hs : p.Params.length ≤ 1000000000) : V69 p (fun y0 => y0 = manyB p) := by
  unfold V69
  refine ⟨fun x => 0 ≤ x ∧ x ≤ p.Params.length ∧ (∀ j : Int, 0 ≤ j → j < x → ¬ 20 < ((ix p.Params j).Values.length : Int)) ∧ ∀ i j : Int, 0 ≤ j → j < i → i < x → (ix p.Params j).Name ≠ (ix p.Params i).Name, fun x => ((p.Params.length : Int) - x).toNat, ⟨by omega, by omega, fun j _ _ => by omega, fun i j _ _ _ => by omega⟩, ?_⟩
  rintro x ⟨x0, x1, hx, hn⟩
  refine ⟨fun hi => ⟨x0, hi, fun hb => (many_long x0 hi hb).symm, fun hb => ⟨fun y => 0 ≤ y ∧ y ≤ x ∧ ∀ j : Int, 0 ≤ j → j < y → (ix p.Params j).Name ≠ (ix p.Params x).Name, fun y => (x - y).toNat, ⟨by omega, by omega, fun j _ _ => by omega⟩, ?_⟩⟩, fun hi => ?_⟩
  · rintro y ⟨y0, y1, hy⟩
    refine ⟨fun hj => ⟨y0, by omega, x0, hi, fun he => (many_twice y0 hj hi he).symm, fun he => ⟨⟨by omega, by omega⟩, ⟨by omega, by omega, fun j j0 j1 => ?_⟩, by dsimp only; omega⟩⟩, fun hj => ⟨⟨by omega, by omega⟩, ⟨by omega, by omega, fun j j0 j1 => ?_, fun i j j0 j1 i1 => ?_⟩, by dsimp only; omega⟩⟩
    · by_cases e : j = y
      · subst e; exact he
      · exact hy j j0 (by omega)
    · by_cases e : j = x
      · subst e; exact hb
      · exact hx j j0 (by omega)
    · by_cases e : i = x
      · subst e; exact hy j j0 (by omega)
      · exact hn i j j0 j1 (by omega)
  · exact (many_none (fun j j0 j1 => hx j j0 (by omega)) (fun i j j0 j1 i1 => hn i j j0 j1 (by omega))).symm
def c69s (p : Prp) : Q1 U := ⟨[List.length (α := Param) p.Params ≤ 1000000000], [], blB (manyB p)⟩
def c69 (a : List (SV U)) : Option (Q1 U) := match a with | [.agg [.str p0, .str p1, .sl 59 p2, .str p3]] => some (c69s (⟨p0, p1, p2, p3⟩)) | _ => none
set_option maxRecDepth 100000 in
theorem c69_ok (args : List (SV U)) (q : Q1 U) (h : c69 args = some q) (ho : allP q.ob) : LendOK N74 69 args ⟨q.ob, q.hy, q.v, []⟩ := by
  unfold c69 at h
  split at h
  · rename_i p0 p1 p2 p3
    cases h
    exact lend1 N74_ok (inlN_ok N74_ok an69 2) Tryd.func69 (k := .bool) trivial (V69_ok (p69 (⟨p0, p1, p2, p3⟩) ho.1)) 0
  · cases h
noncomputable def N69 : Env := N74.addL 69 c69
theorem N69_ok : EnvOK N69 := N74_ok.addL Tryd.call69 c69_ok
end Go.Proofs.YtadgfmmmdhlljaaDoor
end
section
namespace Go.Proofs.YtadgfmmmdhlljaaDoor
open Go Go.Wk Go.Wl Go.Rx Go.Fo Go.Li 
def an31 : Nat → Ann := fun | 31 => ⟨76, fun | 3 => some ⟨[1], [.slot 3 (.int .i64), .slot 4 (.int .i64)]⟩ | 8 => some ⟨[1, 4, 5], [.slot 3 (.int .i64), .slot 6 (.int .i64)]⟩ | _ => none, fun  | _ => none⟩ | _ => ⟨0, fun _ => none, fun _ => none⟩
def V31 (p : Prp) (Q : Bool → Prop) : Prop :=
in64
    ((bif false then max (↑(List.length p.Value) : Int) (100000 : Int) else min (↑(List.length p.Value) : Int) (100000 : Int)) +
      bif false then max (↑(List.length p.Name) : Int) (100000 : Int) else min (↑(List.length p.Name) : Int) (100000 : Int)) ∧
  in64
      (((bif false then max (↑(List.length p.Value) : Int) (100000 : Int) else min (↑(List.length p.Value) : Int) (100000 : Int)) +
          bif false then max (↑(List.length p.Name) : Int) (100000 : Int) else min (↑(List.length p.Name) : Int) (100000 : Int)) +
        bif false then max (↑(List.length p.Group) : Int) (100000 : Int) else min (↑(List.length p.Group) : Int) (100000 : Int)) ∧
    ∃ (I : Int → Int → Prop),
      ∃ (m : Int → Int → Nat),
        I
            (((bif false then max (↑(List.length p.Value) : Int) (100000 : Int) else min (↑(List.length p.Value) : Int) (100000 : Int)) +
                bif false then max (↑(List.length p.Name) : Int) (100000 : Int) else min (↑(List.length p.Name) : Int) (100000 : Int)) +
              bif false then max (↑(List.length p.Group) : Int) (100000 : Int) else min (↑(List.length p.Group) : Int) (100000 : Int))
            (0 : Int) ∧
          ∀ (x x_1 : Int),
            I x x_1 →
              (x_1 < (↑p.Params.length : Int) ∧ x_1 ≤ (30 : Int) →
                  (0 : Int) ≤ x_1 ∧
                    x_1 < (↑p.Params.length : Int) ∧
                      in64 (x + bif false then max (↑(List.length (ix p.Params x_1).Name) : Int) (100000 : Int) else min (↑(List.length (ix p.Params x_1).Name) : Int) (100000 : Int)) ∧
                        in64
                            ((x + bif false then max (↑(List.length (ix p.Params x_1).Name) : Int) (100000 : Int) else min (↑(List.length (ix p.Params x_1).Name) : Int) (100000 : Int)) +
                              bif false then max (↑(ix p.Params x_1).Values.length : Int) (100000 : Int) else min (↑(ix p.Params x_1).Values.length : Int) (100000 : Int)) ∧
                          ∃ (I_1 : Int → Int → Prop),
                            ∃ (m_1 : Int → Int → Nat),
                              I_1
                                  ((x + bif false then max (↑(List.length (ix p.Params x_1).Name) : Int) (100000 : Int) else min (↑(List.length (ix p.Params x_1).Name) : Int) (100000 : Int)) +
                                    bif false then max (↑(ix p.Params x_1).Values.length : Int) (100000 : Int) else min (↑(ix p.Params x_1).Values.length : Int) (100000 : Int))
                                  (0 : Int) ∧
                                ∀ (x_2 x_3 : Int),
                                  I_1 x_2 x_3 →
                                    (x_3 < (↑(ix p.Params x_1).Values.length : Int) ∧ x_3 ≤ (30 : Int) →
                                        (0 : Int) ≤ x_3 ∧
                                          x_3 < (↑(ix p.Params x_1).Values.length : Int) ∧
                                            in64
                                                (x_2 +
                                                  bif false then max (↑(ix (ix p.Params x_1).Values x_3).length : Int) (100000 : Int)
                                                  else min (↑(ix (ix p.Params x_1).Values x_3).length : Int) (100000 : Int)) ∧
                                              in64 (x_3 + (1 : Int)) ∧
                                                I_1
                                                    (x_2 +
                                                      bif false then max (↑(ix (ix p.Params x_1).Values x_3).length : Int) (100000 : Int)
                                                      else min (↑(ix (ix p.Params x_1).Values x_3).length : Int) (100000 : Int))
                                                    (x_3 + (1 : Int)) ∧
                                                  m_1
                                                      (x_2 +
                                                        bif false then max (↑(ix (ix p.Params x_1).Values x_3).length : Int) (100000 : Int)
                                                        else min (↑(ix (ix p.Params x_1).Values x_3).length : Int) (100000 : Int))
                                                      (x_3 + (1 : Int)) <
                                                    m_1 x_2 x_3) ∧
                                      (¬(x_3 < (↑(ix p.Params x_1).Values.length : Int) ∧ x_3 ≤ (30 : Int)) → in64 (x_1 + (1 : Int)) ∧ I x_2 (x_1 + (1 : Int)) ∧ m x_2 (x_1 + (1 : Int)) < m x x_1)) ∧
                (¬(x_1 < (↑p.Params.length : Int) ∧ x_1 ≤ (30 : Int)) → Q (decide ((↑p.Params.length : Int) ≤ (30 : Int) ∧ x ≤ (5000 : Int))))
set_option maxRecDepth 100000 in
theorem V31_ok {p : Prp} {Q : Bool → Prop} (h : V31 p Q) : vcFun (E := N69) (inlN an31 2) (an31 31) Tryd.f31 [.agg [.str p.Group, .str p.Name, .sl (N := U) 59 p.Params, .str p.Value]] [] [] 0 (resP N69 [.bool] Q) := Eq.mp (show V31 p Q = vcFun (E := N69) (inlN an31 2) (an31 31) Tryd.f31 [.agg [.str p.Group, .str p.Name, .sl (N := U) 59 p.Params, .str p.Value]] [] [] 0 (resP N69 [.bool] Q) by kernel_rfl) h
def capI (n : Nat) : Int := min (n : Int) 100000
theorem capI_le (n : Nat) : 0 ≤ capI n ∧ capI n ≤ 100000 := by unfold capI; omega
def vsum (l : List Str) : Int := (l.map fun v => capI v.length).sum
theorem vsum_app (a : List Str) (v : Str) : vsum (a ++ [v]) = vsum a + capI v.length := by simp [vsum]
theorem vsum_le : ∀ l : List Str, 0 ≤ vsum l ∧ vsum l ≤ l.length * 100000
  | [] => by simp [vsum]
  | v :: l => by
    have := vsum_le l
    have := capI_le v.length
    have e : vsum (v :: l) = capI v.length + vsum l := by simp [vsum]
    rw [e, List.length_cons]; omega
def xsum (x : Param) : Int := capI x.Name.length + capI x.Values.length + vsum (x.Values.take 31)
theorem xsum_le (x : Param) : 0 ≤ xsum x ∧ xsum x ≤ 3300000 := by
  have := capI_le x.Name.length
  have := capI_le x.Values.length
  have := vsum_le (x.Values.take 31)
  have : (x.Values.take 31).length ≤ 31 := by rw [List.length_take]; omega
  unfold xsum; omega
def psum (l : List Param) : Int := (l.map xsum).sum
theorem psum_app (a : List Param) (x : Param) : psum (a ++ [x]) = psum a + xsum x := by simp [psum]
theorem psum_le : ∀ l : List Param, 0 ≤ psum l ∧ psum l ≤ l.length * 3300000
  | [] => by simp [psum]
  | x :: l => by
    have := psum_le l
    have := xsum_le x
    have e : psum (x :: l) = xsum x + psum l := by simp [psum]
    rw [e, List.length_cons]; omega
def fewN (p : Prp) : Int := capI p.Value.length + capI p.Name.length + capI p.Group.length + psum (p.Params.take 31)
def fewP (p : Prp) : Bool := decide ((p.Params.length : Int) ≤ 30 ∧ fewN p ≤ 5000)
theorem take_end {α : Type} {l : List α} {i : Int} (h0 : 0 ≤ i) (h1 : i ≤ l.length) (h2 : i ≤ 31) (h : ¬ (i < l.length ∧ i ≤ 30)) : l.take i.toNat = l.take 31 := by
  by_cases e : i = 31
  · subst e; rfl
  · have : i = l.length := by omega
    rw [List.take_of_length_le (by omega), List.take_of_length_le (by omega)]
theorem p31 (p : Prp)  : V31 p (fun y0 => y0 = fewP p) := by
  unfold V31
  simp only [cond_false]
  have c1 := capI_le p.Value.length
  have c2 := capI_le p.Name.length
  have c3 := capI_le p.Group.length
  have e1 : min (p.Value.length : Int) 100000 = capI p.Value.length := rfl
  have e2 : min (p.Name.length : Int) 100000 = capI p.Name.length := rfl
  have e3 : min (p.Group.length : Int) 100000 = capI p.Group.length := rfl
  rw [e1, e2, e3]
  refine ⟨⟨by omega, by omega⟩, ⟨by omega, by omega⟩, fun n i => 0 ≤ i ∧ i ≤ p.Params.length ∧ i ≤ 31 ∧ n = capI p.Value.length + capI p.Name.length + capI p.Group.length + psum (p.Params.take i.toNat), fun _ i => ((p.Params.length : Int) - i).toNat, ⟨by omega, by omega, by omega, by simp [psum]⟩, ?_⟩
  rintro n i ⟨i0, i1, i2, hn⟩
  have lp := psum_le (p.Params.take i.toNat)
  rw [List.length_take] at lp
  refine ⟨fun ⟨hi, h30⟩ => ?_, fun hi => ?_⟩
  · have tk := take_next i0 hi
    generalize hx : ix p.Params i = x at tk ⊢
    have d1 := capI_le x.Name.length
    have d2 := capI_le x.Values.length
    have e4 : min (x.Name.length : Int) 100000 = capI x.Name.length := rfl
    have e5 : min (x.Values.length : Int) 100000 = capI x.Values.length := rfl
    rw [e4, e5]
    refine ⟨i0, hi, ⟨by omega, by omega⟩, ⟨by omega, by omega⟩, fun m k => 0 ≤ k ∧ k ≤ x.Values.length ∧ k ≤ 31 ∧ m = n + capI x.Name.length + capI x.Values.length + vsum (x.Values.take k.toNat), fun _ k => ((x.Values.length : Int) - k).toNat, ⟨by omega, by omega, by omega, by simp [vsum]⟩, ?_⟩
    rintro m k ⟨k0, k1, k2, hm⟩
    have lv := vsum_le (x.Values.take k.toNat)
    rw [List.length_take] at lv
    refine ⟨fun ⟨hk, hk30⟩ => ?_, fun hk => ⟨⟨by omega, by omega⟩, ⟨by omega, by omega, by omega, ?_⟩, by first | omega | (dsimp only; omega)⟩⟩
    · have tv := take_next k0 hk
      generalize ix x.Values k = v at tv ⊢
      have e6 : min (v.length : Int) 100000 = capI v.length := rfl
      have d3 := capI_le v.length
      rw [e6]
      exact ⟨k0, hk, ⟨by omega, by omega⟩, ⟨by omega, by omega⟩, ⟨by omega, by omega, by omega, by rw [tv, vsum_app]; omega⟩, by first | omega | (dsimp only; omega)⟩
    · rw [take_end k0 k1 k2 hk] at hm
      rw [tk, psum_app]
      show m = _
      unfold xsum
      omega
  · rw [take_end i0 i1 i2 hi] at hn
    show _ = decide _
    unfold fewN
    rw [hn]
def c31s (p : Prp) : Q1 U := ⟨[], [], blB (fewP p)⟩
def c31 (a : List (SV U)) : Option (Q1 U) := match a with | [.agg [.str p0, .str p1, .sl 59 p2, .str p3]] => some (c31s (⟨p0, p1, p2, p3⟩)) | _ => none
set_option maxRecDepth 100000 in
theorem c31_ok (args : List (SV U)) (q : Q1 U) (h : c31 args = some q) (ho : allP q.ob) : LendOK N69 31 args ⟨q.ob, q.hy, q.v, []⟩ := by
  unfold c31 at h
  split at h
  · rename_i p0 p1 p2 p3
    cases h
    exact lend1 N69_ok (inlN_ok N69_ok an31 2) Tryd.func31 (k := .bool) trivial (V31_ok (p31 (⟨p0, p1, p2, p3⟩) )) 0
  · cases h
noncomputable def N31 : Env := N69.addL 31 c31
theorem N31_ok : EnvOK N31 := N69_ok.addL Tryd.call31 c31_ok
end Go.Proofs.YtadgfmmmdhlljaaDoor
end
section
namespace Go.Proofs.YtadgfmmmdhlljaaDoor
open Go Go.Wk Go.Wl Go.Rx Go.Fo Go.Li 
noncomputable def NI79 : Env := N31.addI 79 Tryd.f79
theorem NI79_ok : EnvOK NI79 := N31_ok.addI Tryd.call79 Tryd.func79
end Go.Proofs.YtadgfmmmdhlljaaDoor
end
section
namespace Go.Proofs.YtadgfmmmdhlljaaDoor
open Go Go.Wk Go.Wl Go.Rx Go.Fo Go.Li 
noncomputable def NI106 : Env := NI79.addI 106 Tryd.f106
theorem NI106_ok : EnvOK NI106 := NI79_ok.addI Tryd.call106 Tryd.func106
end Go.Proofs.YtadgfmmmdhlljaaDoor
end
section
namespace Go.Proofs.YtadgfmmmdhlljaaDoor
open Go Go.Wk Go.Wl Go.Rx Go.Fo Go.Li 
noncomputable def NI107 : Env := NI106.addI 107 Tryd.f107
theorem NI107_ok : EnvOK NI107 := NI106_ok.addI Tryd.call107 Tryd.func107
end Go.Proofs.YtadgfmmmdhlljaaDoor
end
section
namespace Go.Proofs.YtadgfmmmdhlljaaDoor
open Go Go.Wk Go.Wl Go.Rx Go.Fo Go.Li 
noncomputable def NI114 : Env := NI107.addI 114 Tryd.f114
theorem NI114_ok : EnvOK NI114 := NI107_ok.addI Tryd.call114 Tryd.func114
end Go.Proofs.YtadgfmmmdhlljaaDoor
end
section
namespace Go.Proofs.YtadgfmmmdhlljaaDoor
open Go Go.Wk Go.Wl Go.Rx Go.Fo Go.Li 
noncomputable def NI75 : Env := NI114.addI 75 Tryd.f75
theorem NI75_ok : EnvOK NI75 := NI114_ok.addI Tryd.call75 Tryd.func75
end Go.Proofs.YtadgfmmmdhlljaaDoor
end
section
namespace Go.Proofs.YtadgfmmmdhlljaaDoor
open Go Go.Wk Go.Wl Go.Rx Go.Fo Go.Li 
noncomputable def NI76 : Env := NI75.addI 76 Tryd.f76
theorem NI76_ok : EnvOK NI76 := NI75_ok.addI Tryd.call76 Tryd.func76
end Go.Proofs.YtadgfmmmdhlljaaDoor
end
section
namespace Go.Proofs.YtadgfmmmdhlljaaDoor
open Go Go.Wk Go.Wl Go.Rx Go.Fo Go.Li 
noncomputable def NI104 : Env := NI76.addI 104 Tryd.f104
theorem NI104_ok : EnvOK NI104 := NI76_ok.addI Tryd.call104 Tryd.func104
end Go.Proofs.YtadgfmmmdhlljaaDoor
end
section
namespace Go.Proofs.YtadgfmmmdhlljaaDoor
open Go Go.Wk Go.Wl Go.Rx Go.Fo Go.Li 
def an102 : Nat → Ann := fun | 102 => ⟨27, fun _ => none, fun  | _ => none⟩ | _ => ⟨0, fun _ => none, fun _ => none⟩
def V102 (s : Str) (c : UInt8) (Q : Str → Bool → Prop) : Prop :=
(¬s = [] → (0 : Int) ≤ (0 : Int)) ∧
  (¬s = [] → (0 : Int) < (↑(List.length s) : Int)) ∧
    (s = [] ∨ ix s (0 : Int) ≠ c → Q s false) ∧ (¬(s = [] ∨ ix s (0 : Int) ≠ c) → (0 : Int) ≤ (1 : Int) ∧ (1 : Int) ≤ (↑(List.length s) : Int) ∧ Q (List.drop (Int.toNat (1 : Int)) s) true)
set_option maxRecDepth 100000 in
theorem V102_ok {s : Str} {c : UInt8} {Q : Str → Bool → Prop} (h : V102 s c Q) : vcFun (E := NI104) (inlN an102 2) (an102 102) Tryd.f102 [.ref 0 0, .byte c] [(0, .own 148 [.str s])] [] 1 (resM NI104 148 1 1 [.str, .bool] Q) := Eq.mp (show V102 s c Q = vcFun (E := NI104) (inlN an102 2) (an102 102) Tryd.f102 [.ref 0 0, .byte c] [(0, .own 148 [.str s])] [] 1 (resM NI104 148 1 1 [.str, .bool] Q) by kernel_rfl) h
theorem len_pos5 {α : Type} {s : List α} (h : ¬ s = []) : (0 : Int) < (s.length : Nat) := by
  have := List.length_pos_iff.2 h; omega
theorem p102 (s : Str) (c : UInt8)  : V102 s c (fun y0 y1 => y0 = (hdIs c s).getD s ∧ y1 = (hdIs c s).isSome) := by
  unfold V102
  refine ⟨fun _ => by omega, fun h => len_pos5 h, fun h => ?_, fun h => ?_⟩
  · rw [hdIs_none (h.imp id id)]; exact ⟨rfl, rfl⟩
  · have hs : s ≠ [] := fun e => h (.inl e)
    have hc : ix s 0 = c := Classical.not_not.1 fun e => h (.inr e)
    rw [hdIs_some hs hc]
    have := len_pos5 hs
    exact ⟨by omega, by omega, rfl, rfl⟩
def m102 : MC U := ⟨148, fun a ce => match a, ce with | [.byte c], [.str s] => some ⟨[], [], blB ((hdIs c s).isSome), [.str ((hdIs c s).getD s)]⟩ | _, _ => none⟩
set_option maxRecDepth 100000 in
theorem m102_ok (args cells : List (SV U)) (r : MR U) (h : m102.C args cells = some r) (ho : allP r.ob) : MutOK Tryd.prog U eT G0 102 m102.S args cells r := by
  unfold m102 at h
  simp only at h
  split at h
  · rename_i c s
    cases h
    exact mut_ok NI104_ok (inlN_ok NI104_ok an102 2) Tryd.func102 (m := 1) (n := 1) (ks := [.str, .bool]) (X := ((hdIs c s).getD s, (hdIs c s).isSome, ())) rfl (V102_ok (p102 s c ))
  · cases h
noncomputable def N102 : Env := NI104.addI 102 Tryd.f102
theorem N102_ok : EnvOK N102 := NI104_ok.addI Tryd.call102 Tryd.func102
def M102 : Nat → Option (MC U) := addF 102 m102 noM
theorem M102_ok : ∀ K o args cells r, M102 K = some o → o.C args cells = some r → allP r.ob → MutOK Tryd.prog U eT G0 K o.S args cells r := addM_ok m102_ok noM_ok
end Go.Proofs.YtadgfmmmdhlljaaDoor
end
section
namespace Go.Proofs.YtadgfmmmdhlljaaDoor
open Go Go.Wk Go.Wl Go.Rx Go.Fo Go.Li 
def an101 : Nat → Ann := fun | 101 => ⟨13, fun _ => none, fun  | _ => none⟩ | 104 => ⟨42, fun | 2 => some ⟨[0, 1], [.slot 5 (.int .i64)]⟩ | _ => none, fun  | _ => none⟩ | _ => ⟨0, fun _ => none, fun _ => none⟩
def V101 (s : Str) (Q : Str → Str → Err → Prop) : Prop :=
∃ (I : Int → Prop),
  ∃ (m : Int → Nat),
    I (0 : Int) ∧
      ∀ (x : Int),
        I x →
          (x < (↑(List.length s) : Int) → (0 : Int) ≤ x) ∧
            (x < (↑(List.length s) : Int) → x < (↑(List.length s) : Int)) ∧
              (x < (↑(List.length s) : Int) ∧ letterB (ix s x) = true → in64 (x + (1 : Int)) ∧ I (x + (1 : Int)) ∧ m (x + (1 : Int)) < m x) ∧
                (¬(x < (↑(List.length s) : Int) ∧ letterB (ix s x) = true) →
                  (0 : Int) ≤ x ∧
                    x ≤ (↑(List.length s) : Int) ∧
                      (0 : Int) ≤ x ∧
                        x ≤ (↑(List.length s) : Int) ∧
                          (List.take x.toNat s = [] → Q (List.drop x.toNat s) [] (Err.w (153 : Nat) [(110 : UInt8), (97 : UInt8), (109 : UInt8), (101 : UInt8)] (Err.no (11 : Int)))) ∧
                            (¬List.take x.toNat s = [] → Q (List.drop x.toNat s) (upper (List.take x.toNat s)) Err.nil))
set_option maxRecDepth 100000 in
theorem V101_ok {s : Str} {Q : Str → Str → Err → Prop} (h : V101 s Q) : vcFun (E := N102) (inlMN N102 M102 an101 2) (an101 101) Tryd.f101 [.ref 0 0] [(0, .own 148 [.str s])] [] 1 (resM N102 148 1 2 [.str, .str, .err] Q) := Eq.mp (show V101 s Q = vcFun (E := N102) (inlMN N102 M102 an101 2) (an101 101) Tryd.f101 [.ref 0 0] [(0, .own 148 [.str s])] [] 1 (resM N102 148 1 2 [.str, .str, .err] Q) by kernel_rfl) h
theorem p101 (s : Str) (hs : s.length ≤ 1000000000) : V101 s (fun y0 y1 y2 => y0 = s.dropWhile letterB ∧ y1 = upper (s.takeWhile letterB) ∧ y2 = nE s) := by
  unfold V101
  refine ⟨fun i => 0 ≤ i ∧ i ≤ s.length ∧ ∀ j : Int, 0 ≤ j → j < i → letterB (ix s j) = true, fun i => ((s.length : Int) - i).toNat, ⟨by omega, by omega, fun j _ _ => by omega⟩, ?_⟩
  rintro i ⟨i0, i1, hi⟩
  refine ⟨fun _ => i0, fun h => h, fun ⟨h, hc⟩ => ⟨⟨by omega, by omega⟩, ⟨by omega, by omega, fun j j0 j1 => ?_⟩, by first | omega | (dsimp only; omega)⟩, fun he => ?_⟩
  · by_cases e : j = i
    · subst e; exact hc
    · exact hi j j0 (by omega)
  · obtain ⟨e1, e2⟩ := while_take i0 i1 hi he
    rw [e1, e2]
    refine ⟨i0, i1, i0, i1, fun h => ⟨rfl, ?_, ?_⟩, fun h => ⟨rfl, rfl, ?_⟩⟩
    · rw [h]; rfl
    · unfold nE whyE; rw [if_pos h]
    · unfold nE; rw [if_neg h]
def m101 : MC U := ⟨148, fun a ce => match a, ce with | [], [.str s] => some ⟨[List.length (α := UInt8) s ≤ 1000000000], [], .tup [.str (upper (s.takeWhile letterB)), .err (nE s)], [.str (s.dropWhile letterB)]⟩ | _, _ => none⟩
set_option maxRecDepth 100000 in
theorem m101_ok (args cells : List (SV U)) (r : MR U) (h : m101.C args cells = some r) (ho : allP r.ob) : MutOK Tryd.prog U eT G0 101 m101.S args cells r := by
  unfold m101 at h
  simp only at h
  split at h
  · rename_i s
    cases h
    exact mut_ok N102_ok (inlMN_ok N102_ok M102_ok an101 2) Tryd.func101 (m := 1) (n := 2) (ks := [.str, .str, .err]) (X := (s.dropWhile letterB, upper (s.takeWhile letterB), nE s, ())) rfl (V101_ok (p101 s ho.1))
  · cases h
noncomputable def N101 : Env := N102.addI 101 Tryd.f101
theorem N101_ok : EnvOK N101 := N102_ok.addI Tryd.call101 Tryd.func101
def M101 : Nat → Option (MC U) := addF 101 m101 M102
theorem M101_ok : ∀ K o args cells r, M101 K = some o → o.C args cells = some r → allP r.ob → MutOK Tryd.prog U eT G0 K o.S args cells r := addM_ok m101_ok M102_ok
end Go.Proofs.YtadgfmmmdhlljaaDoor
end
section
namespace Go.Proofs.YtadgfmmmdhlljaaDoor
open Go Go.Wk Go.Wl Go.Rx Go.Fo Go.Li Go.Proofs Go.RowKit
/-- strings.IndexByte. -/
def cIB (a : List (SV U)) : Option (Q1 U) := match a with | [.str s, .byte c] => some ⟨[], [], .int .i64 (Lib.indexByte s c)⟩ | _ => none
theorem cIBU (args : List (SV U)) (q : Q1 U) (h : cIB args = some q) : LendU 134 args q := by
  unfold cIB at h
  split at h
  · rename_i s c
    cases h
    intro D w vs ha
    obtain ⟨v1, r1, rfl, h1, ha⟩ := Rep.tup_cons ha
    obtain ⟨v2, r2, rfl, h2, ha⟩ := Rep.tup_cons ha
    obtain rfl := tup0_inv ha
    cases h1 with | str hl =>
    cases h2 with | byte =>
    intro w1 hs
    have run := Tryd.strings_IndexByte ⟨s.toArray⟩ (c.toNat : Int) w1
    have ec : ((c.toNat : Int)).toNat.toUInt8 = c := by simp
    rw [ec] at run
    refine Calls.mono run fun e w2 ⟨g1, g2⟩ => ?_
    subst g2
    have h1 : -1 ≤ Lib.indexByte (⟨s.toArray⟩ : ByteArray).data.toList c := Lib.indexByte_ge s c
    have h2 : Lib.indexByte (⟨s.toArray⟩ : ByteArray).data.toList c < s.length := indexByte_lt s c
    exact ⟨_, w2, g1, Sim.refl _, sim_ext hs (Ext.refl _ _), .int fun _ => ⟨by omega, by omega⟩, trivial⟩
  · cases h
noncomputable def NIB : Env := N101.addL 134 cIB
theorem NIB_ok : EnvOK NIB := N101_ok.addL Tryd.call134 (fun a q h _ D w vs _ _ ha => cIBU a q h D w vs ha)
end Go.Proofs.YtadgfmmmdhlljaaDoor
end
section
namespace Go.Proofs.YtadgfmmmdhlljaaDoor
open Go Go.Wk Go.Wl Go.Rx Go.Fo Go.Li 
def an133 : Nat → Ann := fun | 133 => ⟨10, fun _ => none, fun  | _ => none⟩ | _ => ⟨0, fun _ => none, fun _ => none⟩
def V133 (c : UInt8) (Q : Bool → Prop) : Prop :=
Q (decide (standsB c = true ∧ Lib.indexByte [(34 : UInt8), (59 : UInt8), (58 : UInt8), (44 : UInt8)] c < (0 : Int)))
set_option maxRecDepth 100000 in
theorem V133_ok {c : UInt8} {Q : Bool → Prop} (h : V133 c Q) : vcFun (E := NIB) (inlMN NIB M101 an133 2) (an133 133) Tryd.f133 [.byte c] [] [] 0 (resP NIB [.bool] Q) := Eq.mp (show V133 c Q = vcFun (E := NIB) (inlMN NIB M101 an133 2) (an133 133) Tryd.f133 [.byte c] [] [] 0 (resP NIB [.bool] Q) by kernel_rfl) h
theorem special8 (c : UInt8) : decide (Lib.indexByte [34, 59, 58, 44] c < 0) = !(c == 34 || c == 59 || c == 58 || c == 44) :=
  all8 (P := fun c => decide (Lib.indexByte [34, 59, 58, 44] c < 0) = !(c == 34 || c == 59 || c == 58 || c == 44)) (by decide +kernel) c
theorem p133 (c : UInt8)  : V133 c (fun y0 => y0 = plainB c) := by
  unfold V133
  show _ = _
  unfold plainB
  rw [← special8, Bool.decide_and, Bool.decide_eq_true]
def c133 (a : List (SV U)) : Option (Q1 U) := match a with | [.byte c] => some ⟨[], [], blB (plainB c)⟩ | _ => none
set_option maxRecDepth 100000 in
theorem c133_ok (args : List (SV U)) (q : Q1 U) (h : c133 args = some q) (ho : allP q.ob) : LendOK NIB 133 args ⟨q.ob, q.hy, q.v, []⟩ := by
  unfold c133 at h
  split at h
  · rename_i c
    cases h
    exact lend1 NIB_ok (inlMN_ok NIB_ok M101_ok an133 2) Tryd.func133 (k := .bool) (x := plainB c) trivial (V133_ok (p133 c )) 0
  · cases h
noncomputable def N133 : Env := NIB.addL 133 c133
theorem N133_ok : EnvOK N133 := NIB_ok.addL Tryd.call133 c133_ok
end Go.Proofs.YtadgfmmmdhlljaaDoor
end
section
namespace Go.Proofs.YtadgfmmmdhlljaaDoor
open Go Go.Wk Go.Wl Go.Rx Go.Fo Go.Li 
def an135 : Nat → Ann := fun | 135 => ⟨9, fun _ => none, fun  | _ => none⟩ | _ => ⟨0, fun _ => none, fun _ => none⟩
def V135 (c : UInt8) (Q : Bool → Prop) : Prop :=
Q (decide (standsB c = true ∧ c ≠ (34 : UInt8)))
set_option maxRecDepth 100000 in
theorem V135_ok {c : UInt8} {Q : Bool → Prop} (h : V135 c Q) : vcFun (E := N133) (inlMN N133 M101 an135 2) (an135 135) Tryd.f135 [.byte c] [] [] 0 (resP N133 [.bool] Q) := Eq.mp (show V135 c Q = vcFun (E := N133) (inlMN N133 M101 an135 2) (an135 135) Tryd.f135 [.byte c] [] [] 0 (resP N133 [.bool] Q) by kernel_rfl) h
theorem p135 (c : UInt8)  : V135 c (fun y0 => y0 = inB c) := by
  unfold V135
  show _ = _
  unfold inB
  rw [bne, beq_dec, Bool.decide_and, Bool.decide_eq_true]
  simp only [ne_eq, decide_not]
def c135 (a : List (SV U)) : Option (Q1 U) := match a with | [.byte c] => some ⟨[], [], blB (inB c)⟩ | _ => none
set_option maxRecDepth 100000 in
theorem c135_ok (args : List (SV U)) (q : Q1 U) (h : c135 args = some q) (ho : allP q.ob) : LendOK N133 135 args ⟨q.ob, q.hy, q.v, []⟩ := by
  unfold c135 at h
  split at h
  · rename_i c
    cases h
    exact lend1 N133_ok (inlMN_ok N133_ok M101_ok an135 2) Tryd.func135 (k := .bool) (x := inB c) trivial (V135_ok (p135 c )) 0
  · cases h
noncomputable def N135 : Env := N133.addL 135 c135
theorem N135_ok : EnvOK N135 := N133_ok.addL Tryd.call135 c135_ok
end Go.Proofs.YtadgfmmmdhlljaaDoor
end
section
namespace Go.Proofs.YtadgfmmmdhlljaaDoor
open Go Go.Wk Go.Wl Go.Rx Go.Fo Go.Li 
def an121 : Nat → Ann := fun | 121 => ⟨20, fun _ => none, fun  | _ => none⟩ | 104 => ⟨42, fun | 2 => some ⟨[0, 1], [.slot 5 (.int .i64)]⟩ | _ => none, fun  | _ => none⟩ | _ => ⟨0, fun _ => none, fun _ => none⟩
def V121 (s : Str) (Q : Str → Str → Err → Prop) : Prop :=
(¬(hdIs (34 : UInt8) s).isSome = true →
    ∃ (I : Int → Prop),
      ∃ (m : Int → Nat),
        I (0 : Int) ∧
          ∀ (x : Int),
            I x →
              (x < (↑(List.length ((hdIs (34 : UInt8) s).getD s)) : Int) → (0 : Int) ≤ x) ∧
                (x < (↑(List.length ((hdIs (34 : UInt8) s).getD s)) : Int) → x < (↑(List.length ((hdIs (34 : UInt8) s).getD s)) : Int)) ∧
                  (x < (↑(List.length ((hdIs (34 : UInt8) s).getD s)) : Int) ∧ plainB (ix ((hdIs (34 : UInt8) s).getD s) x) = true →
                      in64 (x + (1 : Int)) ∧ I (x + (1 : Int)) ∧ m (x + (1 : Int)) < m x) ∧
                    (¬(x < (↑(List.length ((hdIs (34 : UInt8) s).getD s)) : Int) ∧ plainB (ix ((hdIs (34 : UInt8) s).getD s) x) = true) →
                      (0 : Int) ≤ x ∧
                        x ≤ (↑(List.length ((hdIs (34 : UInt8) s).getD s)) : Int) ∧
                          (0 : Int) ≤ x ∧
                            x ≤ (↑(List.length ((hdIs (34 : UInt8) s).getD s)) : Int) ∧
                              (List.take x.toNat ((hdIs (34 : UInt8) s).getD s)).length ≤ (100000000 : Nat) ∧
                                Q (List.drop x.toNat ((hdIs (34 : UInt8) s).getD s)) (said (List.take x.toNat ((hdIs (34 : UInt8) s).getD s))) Err.nil)) ∧
  (¬¬(hdIs (34 : UInt8) s).isSome = true →
    ∃ (I : Int → Prop),
      ∃ (m : Int → Nat),
        I (0 : Int) ∧
          ∀ (x : Int),
            I x →
              (x < (↑(List.length ((hdIs (34 : UInt8) s).getD s)) : Int) → (0 : Int) ≤ x) ∧
                (x < (↑(List.length ((hdIs (34 : UInt8) s).getD s)) : Int) → x < (↑(List.length ((hdIs (34 : UInt8) s).getD s)) : Int)) ∧
                  (x < (↑(List.length ((hdIs (34 : UInt8) s).getD s)) : Int) ∧ inB (ix ((hdIs (34 : UInt8) s).getD s) x) = true → in64 (x + (1 : Int)) ∧ I (x + (1 : Int)) ∧ m (x + (1 : Int)) < m x) ∧
                    (¬(x < (↑(List.length ((hdIs (34 : UInt8) s).getD s)) : Int) ∧ inB (ix ((hdIs (34 : UInt8) s).getD s) x) = true) →
                      (0 : Int) ≤ x ∧
                        x ≤ (↑(List.length ((hdIs (34 : UInt8) s).getD s)) : Int) ∧
                          (0 : Int) ≤ x ∧
                            x ≤ (↑(List.length ((hdIs (34 : UInt8) s).getD s)) : Int) ∧
                              (¬(hdIs (34 : UInt8) (List.drop x.toNat ((hdIs (34 : UInt8) s).getD s))).isSome = true →
                                  Q ((hdIs (34 : UInt8) (List.drop x.toNat ((hdIs (34 : UInt8) s).getD s))).getD (List.drop x.toNat ((hdIs (34 : UInt8) s).getD s))) []
                                    (Err.w (153 : Nat) [(113 : UInt8), (117 : UInt8), (111 : UInt8), (116 : UInt8), (101 : UInt8), (100 : UInt8)] (Err.no (11 : Int)))) ∧
                                (¬¬(hdIs (34 : UInt8) (List.drop x.toNat ((hdIs (34 : UInt8) s).getD s))).isSome = true →
                                  (List.take x.toNat ((hdIs (34 : UInt8) s).getD s)).length ≤ (100000000 : Nat) ∧
                                    Q ((hdIs (34 : UInt8) (List.drop x.toNat ((hdIs (34 : UInt8) s).getD s))).getD (List.drop x.toNat ((hdIs (34 : UInt8) s).getD s)))
                                      (said (List.take x.toNat ((hdIs (34 : UInt8) s).getD s))) Err.nil)))
set_option maxRecDepth 100000 in
theorem V121_ok {s : Str} {Q : Str → Str → Err → Prop} (h : V121 s Q) : vcFun (E := N135) (inlMN N135 M101 an121 2) (an121 121) Tryd.f121 [.ref 0 0] [(0, .own 148 [.str s])] [] 1 (resM N135 148 1 2 [.str, .str, .err] Q) := Eq.mp (show V121 s Q = vcFun (E := N135) (inlMN N135 M101 an121 2) (an121 121) Tryd.f121 [.ref 0 0] [(0, .own 148 [.str s])] [] 1 (resM N135 148 1 2 [.str, .str, .err] Q) by kernel_rfl) h
theorem p121 (s : Str) (hs : s.length ≤ 100000000) : V121 s (fun y0 y1 y2 => y0 = (gV s).2.2 ∧ y1 = (gV s).1 ∧ y2 = (gV s).2.1) := by
  unfold V121
  unfold gV
  cases h1 : hdIs 34 s with
  | none =>
    simp only [Option.isSome_none, Option.getD_none]
    refine ⟨fun _ => ?_, fun h => absurd (by decide) h⟩
    refine ⟨fun i => 0 ≤ i ∧ i ≤ s.length ∧ ∀ j : Int, 0 ≤ j → j < i → plainB (ix s j) = true, fun i => ((s.length : Int) - i).toNat, ⟨by omega, by omega, fun j _ _ => by omega⟩, ?_⟩
    rintro i ⟨i0, i1, hi⟩
    refine ⟨fun _ => i0, fun h => h, fun ⟨h, hc⟩ => ⟨⟨by omega, by omega⟩, ⟨by omega, by omega, fun j j0 j1 => ?_⟩, by first | omega | (dsimp only; omega)⟩, fun he => ?_⟩
    · by_cases e : j = i
      · subst e; exact hc
      · exact hi j j0 (by omega)
    · obtain ⟨e1, e2⟩ := while_take i0 i1 hi he
      have l1 : (s.take i.toNat).length ≤ s.length := by rw [List.length_take]; omega
      rw [e1] at l1
      rw [e1, e2]
      exact ⟨i0, i1, i0, i1, by omega, by first | rfl | trivial, by first | rfl | trivial, by first | rfl | trivial⟩
  | some r =>
    have hr := hdIs_len h1
    simp only [Option.isSome_some, Option.getD_some]
    refine ⟨fun h => absurd (by decide) h, fun _ => ?_⟩
    refine ⟨fun i => 0 ≤ i ∧ i ≤ r.length ∧ ∀ j : Int, 0 ≤ j → j < i → inB (ix r j) = true, fun i => ((r.length : Int) - i).toNat, ⟨by omega, by omega, fun j _ _ => by omega⟩, ?_⟩
    rintro i ⟨i0, i1, hi⟩
    refine ⟨fun _ => i0, fun h => h, fun ⟨h, hc⟩ => ⟨⟨by omega, by omega⟩, ⟨by omega, by omega, fun j j0 j1 => ?_⟩, by first | omega | (dsimp only; omega)⟩, fun he => ?_⟩
    · by_cases e : j = i
      · subst e; exact hc
      · exact hi j j0 (by omega)
    · obtain ⟨e1, e2⟩ := while_take i0 i1 hi he
      have l1 : (r.take i.toNat).length ≤ r.length := by rw [List.length_take]; omega
      rw [e1] at l1
      rw [e1, e2]
      skip
      cases h2 : hdIs 34 (r.dropWhile inB) with
      | none =>
        simp only [Option.isSome_none, Option.getD_none]
        exact ⟨i0, i1, i0, i1, fun _ => ⟨by first | rfl | trivial, by first | rfl | trivial, by first | rfl | trivial⟩, fun h => absurd (by decide) h⟩
      | some t =>
        simp only [Option.isSome_some, Option.getD_some]
        exact ⟨i0, i1, i0, i1, fun h => absurd (by decide) h, fun _ => ⟨by omega, by first | rfl | trivial, by first | rfl | trivial, by first | rfl | trivial⟩⟩
def m121 : MC U := ⟨148, fun a ce => match a, ce with | [], [.str s] => some ⟨[List.length (α := UInt8) s ≤ 100000000], [], .tup [.str ((gV s).1), .err ((gV s).2.1)], [.str ((gV s).2.2)]⟩ | _, _ => none⟩
set_option maxRecDepth 100000 in
theorem m121_ok (args cells : List (SV U)) (r : MR U) (h : m121.C args cells = some r) (ho : allP r.ob) : MutOK Tryd.prog U eT G0 121 m121.S args cells r := by
  unfold m121 at h
  simp only at h
  split at h
  · rename_i s
    cases h
    exact mut_ok N135_ok (inlMN_ok N135_ok M101_ok an121 2) Tryd.func121 (m := 1) (n := 2) (ks := [.str, .str, .err]) (X := ((gV s).2.2, (gV s).1, (gV s).2.1, ())) rfl (V121_ok (p121 s ho.1))
  · cases h
noncomputable def N121 : Env := N135.addI 121 Tryd.f121
theorem N121_ok : EnvOK N121 := N135_ok.addI Tryd.call121 Tryd.func121
def M121 : Nat → Option (MC U) := addF 121 m121 M101
theorem M121_ok : ∀ K o args cells r, M121 K = some o → o.C args cells = some r → allP r.ob → MutOK Tryd.prog U eT G0 K o.S args cells r := addM_ok m121_ok M101_ok
end Go.Proofs.YtadgfmmmdhlljaaDoor
end
section
namespace Go.Proofs.YtadgfmmmdhlljaaDoor
open Go Go.Wk Go.Wl Go.Rx Go.Fo Go.Li 
def an65 : Nat → Ann := fun | 65 => ⟨30, fun | 2 => some ⟨[1, 6, 7], [.slot 8 (.int .i64)]⟩ | _ => none, fun  | _ => none⟩ | 106 => ⟨9, fun _ => none, fun  | _ => none⟩ | 79 => ⟨19, fun | 2 => some ⟨[0, 1, 7], [.slot 8 (.int .i64)]⟩ | _ => none, fun  | _ => none⟩ | 107 => ⟨9, fun _ => none, fun  | _ => none⟩ | _ => ⟨0, fun _ => none, fun _ => none⟩
def V65 (p : Prp) (Q : Bool → Prop) : Prop :=
∃ (I : Int → Prop),
  ∃ (m : Int → Nat),
    I (0 : Int) ∧
      ∀ (x : Int),
        I x →
          (x < (↑p.Params.length : Int) →
              (0 : Int) ≤ x ∧
                x < (↑p.Params.length : Int) ∧
                  ((20 : Int) < (↑(ix p.Params x).Values.length : Int) → Q true) ∧
                    (¬(20 : Int) < (↑(ix p.Params x).Values.length : Int) →
                      (0 : Int) ≤ x ∧
                        x ≤ (↑p.Params.length : Int) ∧
                          ∃ (I_1 : Int → Prop),
                            ∃ (m_1 : Int → Nat),
                              I_1 (0 : Int) ∧
                                ∀ (x_1 : Int),
                                  I_1 x_1 →
                                    (x_1 < (↑(List.take x.toNat p.Params).length : Int) →
                                        (0 : Int) ≤ x_1 ∧
                                          x_1 < (↑(List.take x.toNat p.Params).length : Int) ∧
                                            ((ix (List.take x.toNat p.Params) x_1).Name = (ix p.Params x).Name →
                                                ((0 : Int) ≤ x_1 → Q true) ∧ (¬(0 : Int) ≤ x_1 → in64 (x + (1 : Int)) ∧ I (x + (1 : Int)) ∧ m (x + (1 : Int)) < m x)) ∧
                                              (¬(ix (List.take x.toNat p.Params) x_1).Name = (ix p.Params x).Name → in64 (x_1 + (1 : Int)) ∧ I_1 (x_1 + (1 : Int)) ∧ m_1 (x_1 + (1 : Int)) < m_1 x_1)) ∧
                                      (¬x_1 < (↑(List.take x.toNat p.Params).length : Int) →
                                        ((0 : Int) ≤ (-1 : Int) → Q true) ∧ (¬(0 : Int) ≤ (-1 : Int) → in64 (x + (1 : Int)) ∧ I (x + (1 : Int)) ∧ m (x + (1 : Int)) < m x)))) ∧
            (¬x < (↑p.Params.length : Int) → Q (decide ((20 : Int) < (↑p.Params.length : Int))))
set_option maxRecDepth 100000 in
theorem V65_ok {p : Prp} {Q : Bool → Prop} (h : V65 p Q) : vcFun (E := N121) (inlMN N121 M121 an65 4) (an65 65) Tryd.f65 [.agg [.str p.Group, .str p.Name, .sl (N := U) 59 p.Params, .str p.Value]] [] [] 0 (resP N121 [.bool] Q) := Eq.mp (show V65 p Q = vcFun (E := N121) (inlMN N121 M121 an65 4) (an65 65) Tryd.f65 [.agg [.str p.Group, .str p.Name, .sl (N := U) 59 p.Params, .str p.Value]] [] [] 0 (resP N121 [.bool] Q) by kernel_rfl) h
theorem ix_take {α : Type} [Inhabited α] {l : List α} {n : Nat} {j : Int} (h0 : 0 ≤ j) (h1 : j < n) : ix (l.take n) j = ix l j := by
  unfold ix
  rw [List.getD_eq_getElem?_getD, List.getD_eq_getElem?_getD, List.getElem?_take_of_lt (by omega)]
theorem p65 (p : Prp) (hs : p.Params.length ≤ 1000000000) : V65 p (fun y0 => y0 = manyB p) := by
  unfold V65
  refine ⟨fun x => 0 ≤ x ∧ x ≤ p.Params.length ∧ (∀ j : Int, 0 ≤ j → j < x → ¬ 20 < ((ix p.Params j).Values.length : Int)) ∧ ∀ i j : Int, 0 ≤ j → j < i → i < x → (ix p.Params j).Name ≠ (ix p.Params i).Name, fun x => ((p.Params.length : Int) - x).toNat, ⟨by omega, by omega, fun j _ _ => by omega, fun i j _ _ _ => by omega⟩, ?_⟩
  rintro x ⟨x0, x1, hx, hn⟩
  refine ⟨fun hi => ⟨x0, hi, fun hb => (many_long x0 hi hb).symm, fun hb => ⟨x0, x1, fun y => 0 ≤ y ∧ y ≤ x ∧ ∀ j : Int, 0 ≤ j → j < y → (ix p.Params j).Name ≠ (ix p.Params x).Name, fun y => (x - y).toNat, ⟨by omega, by omega, fun j _ _ => by omega⟩, ?_⟩⟩, fun hi => ?_⟩
  · rintro y ⟨y0, y1, hy⟩
    have lt : ((List.take x.toNat p.Params).length : Int) = x := by rw [List.length_take]; omega
    rw [lt]
    refine ⟨fun hj => ?_, fun hj => ⟨fun h => by omega, fun _ => ⟨⟨by omega, by omega⟩, ⟨by omega, by omega, fun j j0 j1 => ?_, fun i j j0 j1 i1 => ?_⟩, by first | omega | (dsimp only; omega)⟩⟩⟩
    · rw [ix_take y0 (by omega)]
      refine ⟨y0, hj, fun he => ⟨fun _ => (many_twice y0 hj hi he).symm, fun h => absurd y0 h⟩, fun he => ⟨⟨by omega, by omega⟩, ⟨by omega, by omega, fun j j0 j1 => ?_⟩, by first | omega | (dsimp only; omega)⟩⟩
      by_cases e : j = y
      · subst e; exact he
      · exact hy j j0 (by omega)
    · by_cases e : j = x
      · subst e; exact hb
      · exact hx j j0 (by omega)
    · by_cases e : i = x
      · subst e; exact hy j j0 (by omega)
      · exact hn i j j0 j1 (by omega)
  · exact (many_none (fun j j0 j1 => hx j j0 (by omega)) (fun i j j0 j1 i1 => hn i j j0 j1 (by omega))).symm
def c65s (p : Prp) : Q1 U := ⟨[List.length (α := Param) p.Params ≤ 1000000000], [], blB (manyB p)⟩
def c65 (a : List (SV U)) : Option (Q1 U) := match a with | [.agg [.str p0, .str p1, .sl 59 p2, .str p3]] => some (c65s (⟨p0, p1, p2, p3⟩)) | _ => none
set_option maxRecDepth 100000 in
theorem c65_ok (args : List (SV U)) (q : Q1 U) (h : c65 args = some q) (ho : allP q.ob) : LendOK N121 65 args ⟨q.ob, q.hy, q.v, []⟩ := by
  unfold c65 at h
  split at h
  · rename_i p0 p1 p2 p3
    cases h
    exact lend1 N121_ok (inlMN_ok N121_ok M121_ok an65 4) Tryd.func65 (k := .bool) trivial (V65_ok (p65 (⟨p0, p1, p2, p3⟩) ho.1)) 0
  · cases h
noncomputable def N65 : Env := N121.addL 65 c65
theorem N65_ok : EnvOK N65 := N121_ok.addL Tryd.call65 c65_ok
end Go.Proofs.YtadgfmmmdhlljaaDoor
end
section
namespace Go.Proofs.YtadgfmmmdhlljaaDoor
open Go Go.Wk Go.Wl Go.Rx Go.Fo Go.Li 
def an103 : Nat → Ann := fun | 103 => ⟨45, fun | 7 => some ⟨[0, 2, 6], [.own 0 [.str], .own 2 [.str, (.acc 9)], .own 6 [.str, (.acc 9)]]⟩ | _ => none, fun  | _ => none⟩ | _ => ⟨0, fun _ => none, fun _ => none⟩
def V103 (s : Str) (Q : Str → Param → Err → Prop) : Prop :=
List.length s ≤ (1000000000 : Nat) ∧
  (nE s ≠ Err.nil → Q (List.dropWhile letterB s) (Param.mk [] []) (nE s)) ∧
    (¬nE s ≠ Err.nil →
      (¬(hdIs (61 : UInt8) (List.dropWhile letterB s)).isSome = true →
          Q ((hdIs (61 : UInt8) (List.dropWhile letterB s)).getD (List.dropWhile letterB s)) (Param.mk [] [])
            (Err.w (153 : Nat) [(112 : UInt8), (97 : UInt8), (114 : UInt8), (97 : UInt8), (109 : UInt8)] (Err.no (11 : Int)))) ∧
        (¬¬(hdIs (61 : UInt8) (List.dropWhile letterB s)).isSome = true →
          ∃ (I : List UInt8 → List UInt8 → List (List UInt8) → List UInt8 → List (List UInt8) → Prop),
            ∃ (m : List UInt8 → List UInt8 → List (List UInt8) → List UInt8 → List (List UInt8) → Nat),
              I ((hdIs (61 : UInt8) (List.dropWhile letterB s)).getD (List.dropWhile letterB s)) [] [] (upper (List.takeWhile letterB s)) [] ∧
                ∀ (x x_1 : List UInt8) (x_2 : List (List UInt8)) (x_3 : List UInt8) (x_4 : List (List UInt8)),
                  I x x_1 x_2 x_3 x_4 →
                    x.length ≤ (100000000 : Nat) ∧
                      ((gV x).snd.fst ≠ Err.nil → Q (gV x).snd.snd (Param.mk x_3 x_4) (gV x).snd.fst) ∧
                        (¬(gV x).snd.fst ≠ Err.nil →
                          (x_4.length + [(gV x).fst].length) * (some (16 : Nat)).getD (0 : Nat) ≤ (140737488355328 : Nat) ∧
                            (¬(hdIs (44 : UInt8) (gV x).snd.snd).isSome = true → Q ((hdIs (44 : UInt8) (gV x).snd.snd).getD (gV x).snd.snd) (Param.mk x_3 (x_4 ++ [(gV x).fst])) Err.nil) ∧
                              (¬¬(hdIs (44 : UInt8) (gV x).snd.snd).isSome = true →
                                I ((hdIs (44 : UInt8) (gV x).snd.snd).getD (gV x).snd.snd) x_1 x_2 x_3 (x_4 ++ [(gV x).fst]) ∧
                                  m ((hdIs (44 : UInt8) (gV x).snd.snd).getD (gV x).snd.snd) x_1 x_2 x_3 (x_4 ++ [(gV x).fst]) < m x x_1 x_2 x_3 x_4))))
set_option maxRecDepth 100000 in
theorem V103_ok {s : Str} {Q : Str → Param → Err → Prop} (h : V103 s Q) : vcFun (E := N65) (inlMN N65 M121 an103 2) (an103 103) Tryd.f103 [.ref 0 0] [(0, .own 148 [.str s])] [] 1 (resM N65 148 1 2 [.str, .val 59, .err] Q) := Eq.mp (show V103 s Q = vcFun (E := N65) (inlMN N65 M121 an103 2) (an103 103) Tryd.f103 [.ref 0 0] [(0, .own 148 [.str s])] [] 1 (resM N65 148 1 2 [.str, .val 59, .err] Q) by kernel_rfl) h
theorem p103 (s : Str) (hs : s.length ≤ 100000000) : V103 s (fun y0 y1 y2 => y0 = (gP s).2.2 ∧ y1 = (gP s).1 ∧ y2 = (gP s).2.1) := by
  unfold V103
  have hd := drop_len letterB s
  refine ⟨by omega, fun he => ?_, fun he => ?_⟩
  · rw [gP_err he]; exact ⟨rfl, rfl, rfl⟩
  have he : nE s = .nil := Classical.not_not.1 he
  refine ⟨fun h1 => ?_, fun h1 => ?_⟩
  · have h1 : hdIs 61 (s.dropWhile letterB) = none := by simpa using h1
    rw [h1, gP_no he h1]; exact ⟨rfl, rfl, rfl⟩
  obtain ⟨t, h1⟩ := Option.isSome_iff_exists.1 (Classical.not_not.1 h1)
  have ht := hdIs_len h1
  rw [h1, gP_on he h1]
  simp only [Option.getD_some]
  refine ⟨fun x a b n vs => a = [] ∧ b = [] ∧ n = upper (s.takeWhile letterB) ∧ vs.length + x.length ≤ s.length ∧ ∃ k, x.length < k ∧ vs ++ (gVs k x).1 = (gVs (t.length + 1) t).1 ∧ (gVs k x).2 = (gVs (t.length + 1) t).2, fun x _ _ _ _ => x.length, ⟨rfl, rfl, rfl, by simp; omega, t.length + 1, by omega, rfl, rfl⟩, ?_⟩
  rintro x a b n vs ⟨rfl, rfl, rfl, hl, k, hk, h2, h3⟩
  obtain ⟨k, rfl⟩ : ∃ j, k = j + 1 := ⟨k - 1, by omega⟩
  have gl := gV_len x
  refine ⟨by omega, fun hv => ?_, fun hv => ⟨by simp; omega, fun h4 => ?_, fun h4 => ?_⟩⟩
  · rw [gVs_err hv] at h2 h3
    rw [← h2, ← h3]; simp
  · have hv : (gV x).2.1 = .nil := Classical.not_not.1 hv
    have h4 : hdIs 44 (gV x).2.2 = none := by simpa using h4
    rw [gVs_end hv h4] at h2 h3
    rw [← h2, ← h3, h4]; simp
  · have hv : (gV x).2.1 = .nil := Classical.not_not.1 hv
    obtain ⟨u, h4⟩ := Option.isSome_iff_exists.1 (Classical.not_not.1 h4)
    have hu := hdIs_len h4
    rw [gVs_on hv h4] at h2 h3
    rw [h4]
    simp only [Option.getD_some]
    refine ⟨⟨by first | rfl | trivial, by first | rfl | trivial, by first | rfl | trivial, by simp; omega, k, by omega, by rw [← h2]; simp, h3⟩, by omega⟩
def m103 : MC U := ⟨148, fun a ce => match a, ce with | [], [.str s] => some ⟨[List.length (α := UInt8) s ≤ 100000000], [], .tup [.agg [.str ((gP s).1).Name, .sl 9 ((gP s).1).Values], .err ((gP s).2.1)], [.str ((gP s).2.2)]⟩ | _, _ => none⟩
set_option maxRecDepth 100000 in
theorem m103_ok (args cells : List (SV U)) (r : MR U) (h : m103.C args cells = some r) (ho : allP r.ob) : MutOK Tryd.prog U eT G0 103 m103.S args cells r := by
  unfold m103 at h
  simp only at h
  split at h
  · rename_i s
    cases h
    exact mut_ok N65_ok (inlMN_ok N65_ok M121_ok an103 2) Tryd.func103 (m := 1) (n := 2) (ks := [.str, .val 59, .err]) (X := ((gP s).2.2, (gP s).1, (gP s).2.1, ())) rfl (V103_ok (p103 s ho.1))
  · cases h
noncomputable def N103 : Env := N65.addI 103 Tryd.f103
theorem N103_ok : EnvOK N103 := N65_ok.addI Tryd.call103 Tryd.func103
def M103 : Nat → Option (MC U) := addF 103 m103 M121
theorem M103_ok : ∀ K o args cells r, M103 K = some o → o.C args cells = some r → allP r.ob → MutOK Tryd.prog U eT G0 K o.S args cells r := addM_ok m103_ok M121_ok
end Go.Proofs.YtadgfmmmdhlljaaDoor
end
section
namespace Go.Proofs.YtadgfmmmdhlljaaDoor
open Go Go.Wk Go.Wl Go.Rx Go.Fo Go.Li 
noncomputable def NI64 : Env := N103.addI 64 Tryd.f64
theorem NI64_ok : EnvOK NI64 := N103_ok.addI Tryd.call64 Tryd.func64
end Go.Proofs.YtadgfmmmdhlljaaDoor
end
section
namespace Go.Rx
open Go Go.Wk Go.Wl
def HZ (E : Env) (inl : Inl E) (an : Ann) (fn : Func) (args : List E.SV) (n : Nat) (ks : List VK) (X : Vals E.N ks) : Prop := vcFun inl an fn args [] [] 0 (resZ E n ks (eqs E.N ks X []))
theorem conH {E : Env} {inl : Inl E} {nx K n : Nat} {fn : Func} {an : Ann} {ks : List VK} {X : Vals E.N ks} {args : List E.SV} {ob : List Prop} (hE : EnvOK E) (hI : InlOK E inl) (hf : E.P.funcs[K]? = some fn) (hk : ks.all noAcc = true) (hp : args.all pureS = true)
    (hv : HZ E inl an fn args n ks X) : ConOK E.P E.N E.T E.G K args nx ⟨ob, [], tellA n (tell E ks X), []⟩ := conZ hE hI hf hk hp hv
end Go.Rx
end
