/- 16 texts, one behind the other. -/
import Derived.Test.YtadgfmmmdhlljaaDoorJ3
import Derived.Lib.FrozenHead
import Derived.Lib.UnsafeStr
import Derived.Test.YtadgfmmmdhlljaaDoorJ2
import Derived.Test.YtadgfmmmdhlljaaDoorChecked
import Derived.Shelf.Unicode.DecodeSlow
set_option linter.unusedVariables false
set_option linter.unusedSimpArgs false
section
namespace Go.Rx
open Go Go.Wk Go.Wl
section
variable {N : Uni} {p : Nat → Bool}
theorem dSlots_lk : ∀ {ents : List (Ent N)} {j0 k : Nat} {s : SV N}, lk (dSlots p j0 ents) k = some s → ∃ j e, ents[j]? = some e ∧ p (j0 + j) = true ∧ e.dst = some k ∧ s = e.now
  | [], _, _, _, h => by cases h
  | e :: r, j0, k, s, h => by
    have go : lk (dSlots p (j0 + 1) r) k = some s → ∃ j e', (e :: r)[j]? = some e' ∧ p (j0 + j) = true ∧ e'.dst = some k ∧ s = e'.now := fun h => by
      obtain ⟨j, e', h1, h2, h3⟩ := dSlots_lk h
      exact ⟨j + 1, e', by simpa using h1, by rw [show j0 + (j + 1) = j0 + 1 + j by omega]; exact h2, h3⟩
    unfold dSlots at h
    cases hp : p j0 with
    | false => rw [hp, cond_false] at h; exact go h
    | true =>
      rw [hp, cond_true] at h
      split at h
      · rename_i d hd
        rw [lk_cons] at h
        by_cases e1 : d = k
        · rw [if_pos e1] at h; cases h; exact ⟨0, e, rfl, hp, by rw [hd, e1], rfl⟩
        · rw [if_neg e1] at h; exact go h
      · exact go h
theorem dGs_lk : ∀ {ents : List (Ent N)} {j0 k j' : Nat} {b : Bool} {s : SV N}, lk (dGs p j0 ents) k = some (j', b, s) → ∃ j e jj, ents[j]? = some e ∧ p (j0 + j) = true ∧ p jj = true ∧ e.dst = some k ∧ e.g = some (jj, j', b) ∧ s = e.sv
  | [], _, _, _, _, _, h => by cases h
  | e :: r, j0, k, j', b, s, h => by
    have go : lk (dGs p (j0 + 1) r) k = some (j', b, s) → ∃ j e' jj, (e :: r)[j]? = some e' ∧ p (j0 + j) = true ∧ p jj = true ∧ e'.dst = some k ∧ e'.g = some (jj, j', b) ∧ s = e'.sv := fun h => by
      obtain ⟨j, e', jj, h1, h2, h3⟩ := dGs_lk h
      exact ⟨j + 1, e', jj, by simpa using h1, by rw [show j0 + (j + 1) = j0 + 1 + j by omega]; exact h2, h3⟩
    unfold dGs at h
    cases hp : p j0 with
    | false => rw [hp, cond_false] at h; exact go h
    | true =>
      rw [hp, cond_true] at h
      split at h
      · rename_i d jj dj b' hd hg
        cases hpj : p jj with
        | false => rw [hpj, cond_false] at h; exact go h
        | true =>
          rw [hpj, cond_true] at h
          rw [lk_cons] at h
          by_cases e1 : d = k
          · rw [if_pos e1] at h; cases h; exact ⟨0, e, jj, rfl, hp, hpj, by rw [hd, e1], hg, rfl⟩
          · rw [if_neg e1] at h; exact go h
      · exact go h
theorem allP_app {a b : List Prop} (h : allP a) (k : allP b) : allP (a ++ b) := by
  induction a with
  | nil => exact k
  | cons p r ih => exact ⟨h.1, ih h.2⟩
theorem dHy_all : ∀ {ents : List (Ent N)} {j0 : Nat}, (∀ j e, ents[j]? = some e → p (j0 + j) = true → allP e.hy) → allP (dHy p j0 ents)
  | [], _, _ => trivial
  | e :: r, j0, h => by
    have go : allP (dHy p (j0 + 1) r) := dHy_all fun j e' h1 h2 => h (j + 1) e' (by simpa using h1) (by rw [show j0 + (j + 1) = j0 + 1 + j by omega]; exact h2)
    unfold dHy
    cases hp : p j0 with
    | false => exact go
    | true => exact allP_app (h 0 e rfl hp) go
theorem lk_filter {β : Type} {q : Nat → Bool} {l : List (Nat × β)} {k : Nat} {s : β} (h : lk (l.filter (fun p => q p.1)) k = some s) : q k = true ∧ lk l k = some s := by
  induction l with
  | nil => cases h
  | cons p r ih =>
    rw [List.filter_cons] at h
    by_cases hq : q p.1 = true
    · rw [if_pos hq] at h
      have h : lk ((p.1, p.2) :: r.filter (fun p => q p.1)) k = some s := h
      show _ ∧ lk ((p.1, p.2) :: r) k = some s
      rw [lk_cons] at h ⊢
      by_cases e : p.1 = k
      · rw [if_pos e] at h ⊢; exact ⟨by rw [← e]; exact hq, h⟩
      · rw [if_neg e] at h ⊢; exact ih h
    · rw [if_neg hq] at h
      have ⟨h1, h2⟩ := ih h
      refine ⟨h1, ?_⟩
      show lk ((p.1, p.2) :: r) k = some s
      rw [lk_cons, if_neg]
      · exact h2
      · intro e; rw [e] at hq; exact hq h1
end
section
variable {B0 : List Nat} {w0 w w' : World} {Z : Nat → Prop} {l l' : List It}
theorem Sep.sub (hs : Sep B0 w0 Z w l) (h : l'.Sublist l) : Sep B0 w0 Z w l' := by
  obtain ⟨h1, h2⟩ := Sep.pw hs
  exact Sep.of_pw hs.ext hs.zlt (fun t ht => h1 t (h.subset ht)) (h2.sublist h)
end
section
variable {E : Env} {C : Ctx} {ρ ρ' : Env1} {Z Z' : Nat → Prop} {w w' : World} {its its' : Items E.N} {nx nx' : Nat}
theorem Mem.sub (hm : Mem E C ρ Z w its nx) (h : its'.Sublist its) (hn : nx ≤ nx') : Mem E C ρ Z w its' nx' := ⟨Sep.sub hm.sep (h.map _), fun i hi => hm.fr i (by omega), hm.ge, hm.zge, hm.zle⟩
theorem without_again {X T : List Nat} (h : ∀ t ∈ T, t ∈ X) : without (without its X) T = without its X := by
  unfold without
  rw [List.filter_eq_self]
  intro p hp
  rw [List.mem_filter] at hp
  have h1 := hp.2
  simp only [Bool.not_eq_true', List.elem_eq_mem, decide_eq_false_iff_not] at h1 ⊢
  exact fun ht => h1 (h _ ht)
end
def EntOK (E : Env) (ρ : Env1) (Z : Nat → Prop) (w : World) (D : Nat → Bool) (V : Nat → Value) (j : Nat) (e : Ent E.N) : Prop :=
  allP e.hy ∧ match e.g with
    | none => Rep E.N E.T ρ Z w (V j) e.sv
    | some (jj, _, b) => D jj = true ∧ (V jj = .bool b → Rep E.N E.T ρ Z w (V j) e.sv) ∧ (V jj ≠ .bool b → V j = undef)
structure JI (E : Env) (C : Ctx) (fx : Slots E.N) (lkd : Items E.N) (st0 : E.St) (f0 : Fr) (F : DA E.N) (D : Nat → Bool) (V : Nat → Value) (w : World) (ρ : Env1) (Z : Nat → Prop) (k : Nat) : Prop where
  eff : ∀ r e, F.effs[r]? = some e → (D e = true ↔ r < k)
  mem : ∃ m, F.mems[k]? = some m ∧ Mem E C ρ Z w (m.1 ++ lkd) m.2
  tn : Tn C.ρ0 C.Z0 C.w1 ρ Z w
  sl : ∀ k s, lk st0.slots k = some s → Rep E.N E.T ρ Z w (f0 k) s
  fx : ∀ p ∈ fx, Rep E.N E.T ρ Z w (f0 p.1) p.2
  ent : ∀ j e, F.ents[j]? = some e → D j = true → EntOK E ρ Z w D V j e
  g : E.G.is C.Z0 C.w1
def JF (E : Env) (C : Ctx) (fx : Slots E.N) (lkd : Items E.N) (st0 : E.St) (f0 : Fr) (F : DA E.N) : JP := fun D V w => ∃ ρ Z k, JI E C fx lkd st0 f0 F D V w ρ Z k
structure WA (E : Env) (l : List Oper) (H : Hints) (i : Nat) (a : DA E.N) : Prop where
  len : a.ents.length = i
  ent : ∀ j e, a.ents[j]? = some e → dstAt l j = e.dst ∧ ∀ jj dj b, e.g = some (jj, dj, b) → dstAt l jj = some dj
  eff : ∀ e ∈ a.effs, e < i ∧ ∃ T, lk H e = some T
  up : a.effs.Pairwise (· < ·)
  mlen : a.mems.length = a.effs.length + 1
  chain : ∀ (r e : Nat) (m m' : Items E.N × Nat), a.effs[r]? = some e → a.mems[r]? = some m → a.mems[r + 1]? = some m' → ∃ T new, lk H e = some T ∧ m'.1 = new ++ without (E := E) m.1 T
  nx : ∀ m ∈ a.mems, m.2 ≤ NX
structure Up {N : Uni} (a F : DA N) (i : Nat) : Prop where
  ents : ∃ x, F.ents = a.ents ++ x
  effs : ∃ y, F.effs = a.effs ++ y ∧ ∀ e ∈ y, i ≤ e
  mems : ∃ z, F.mems = a.mems ++ z
theorem Up.ent {N : Uni} {a F : DA N} {i j : Nat} {e : Ent N} (h : Up a F i) (hj : a.ents[j]? = some e) : F.ents[j]? = some e := by
  obtain ⟨x, hx⟩ := h.ents
  rw [hx, List.getElem?_append_left (lt_get hj)]; exact hj
theorem Up.eff {N : Uni} {a F : DA N} {i j e : Nat} (h : Up a F i) (hj : a.effs[j]? = some e) : F.effs[j]? = some e := by
  obtain ⟨x, hx, _⟩ := h.effs
  rw [hx, List.getElem?_append_left (lt_get hj)]; exact hj
theorem Up.mem {N : Uni} {a F : DA N} {i j : Nat} {e : Items N × Nat} (h : Up a F i) (hj : a.mems[j]? = some e) : F.mems[j]? = some e := by
  obtain ⟨x, hx⟩ := h.mems
  rw [hx, List.getElem?_append_left (lt_get hj)]; exact hj
section
variable {E : Env} {C C' : Ctx} {n : Nat} {l : List Oper} {ms : List Nat} {H : Hints} {f0 : Fr} {st0 : E.St} {fx : Slots E.N} {lkd lkd' : Items E.N} {F a : DA E.N} {D : Nat → Bool} {V : Nat → Value} {w w' : World} {ρ ρ' : Env1} {Z Z' : Nat → Prop} {i k : Nat} {g : Fr} {its : Items E.N} {nx : Nat}
theorem kept_free (hf : dsFree fx l = true) {p : Nat × E.SV} (hp : p ∈ fx) : keptOk ms i p.1 l 0 = true := by
  have key : ∀ (r : List Oper) (j : Nat), (∀ o ∈ r, ∀ d, o.dst = some d → d ≠ p.1) → keptOk ms i p.1 r j = true := by
    intro r
    induction r with
    | nil => intro j _; rfl
    | cons o r ih =>
      intro j h
      unfold keptOk
      rw [ih (j + 1) (fun o ho => h o (List.mem_cons_of_mem _ ho)), Bool.and_true]
      split
      · rename_i d hd
        rw [beq_ne (h o (List.mem_cons_self ..) d hd)]; rfl
      · rfl
  refine key l 0 fun o ho d hd e => ?_
  unfold dsFree at hf
  rw [List.all_eq_true] at hf
  have := hf o ho
  rw [hd] at this
  simp only [Option.isNone_iff_eq_none] at this
  exact lk_none this p hp e
theorem JI.rel (hj : JI E C fx lkd st0 f0 F D V w ρ Z k) (hf : dsFree fx l = true) (hw : WA E l H i a) (hu : ∀ (j : Nat) (e : Ent E.N), a.ents[j]? = some e → F.ents[j]? = some e) (hd : ∀ j, bit ms i j = true → D j = true)
    (hdone : ∀ j t, D j = true → dstAt l j = some t → g t = V j) (hkept : ∀ t, keptOk ms i t l 0 = true → g t = f0 t) (hm : Mem E C' ρ Z w (its ++ lkd') nx) (ht : Tn C'.ρ0 C'.Z0 C'.w1 ρ Z w) (hg0 : E.G.is C'.Z0 C'.w1) : Rel E C' fx lkd' (dSt l ms st0 i a its nx) ρ Z g w := by
  refine ⟨fun k s hk => ?_, fun p hp => by rw [hkept _ (kept_free hf hp)]; exact hj.fx p hp, fun k j' b s hk => ?_, hm, ht, hg0⟩
  · rcases lk_app hk with hk | ⟨_, hk⟩
    · obtain ⟨j, e, h1, h2, h3, rfl⟩ := dSlots_lk hk
      rw [Nat.zero_add] at h2
      have hD := hd j h2
      have hg := hdone j k hD (by rw [(hw.ent j e h1).1]; exact h3)
      have ho := (hj.ent j e (hu j e h1) hD).2
      unfold Ent.now
      split
      · rename_i hn; rw [hn] at ho; rw [hg]; exact ho
      · exact .un
    · have ⟨h1, h2⟩ := lk_filter (q := fun t => keptOk ms i t l 0) hk
      rw [hkept k h1]; exact hj.sl k s h2
  · obtain ⟨j, e, jj, h1, h2, h3, h4, h5, rfl⟩ := dGs_lk hk
    rw [Nat.zero_add] at h2
    have hD := hd j h2
    have hg := hdone j k hD (by rw [(hw.ent j e h1).1]; exact h4)
    have hg' := hdone jj j' (hd jj h3) ((hw.ent j e h1).2 _ _ _ h5)
    have ho := (hj.ent j e (hu j e h1) hD).2
    rw [h5] at ho
    rw [hg, hg']; exact ho.2
theorem JI.hys (hj : JI E C fx lkd st0 f0 F D V w ρ Z k) (hu : ∀ (j : Nat) (e : Ent E.N), a.ents[j]? = some e → F.ents[j]? = some e) (hd : ∀ j, bit ms i j = true → D j = true) : allP (dHy (bit ms i) 0 a.ents) :=
  dHy_all fun j e h1 h2 => (hj.ent j e (hu j e h1) (hd j (by rw [Nat.zero_add] at h2; exact h2))).1
theorem EntOK.turn {e : Ent E.N} {j : Nat} {v : Value} (h : EntOK E ρ Z w D V j e) (t : Tn ρ Z w ρ' Z' w') (hi : D i = false) (hj : D j = true) : EntOK E ρ' Z' w' (setD D i) (setV V i v) j e := by
  have ne : ∀ {x}, D x = true → x ≠ i := fun hx e => by rw [e, hi] at hx; cases hx
  refine ⟨h.1, ?_⟩
  have h2 := h.2
  split at h2
  · rename_i hg
    rw [setV_ne (ne hj)]; exact t.rep h2
  · rename_i jj dj b hg
    rw [setV_ne (ne hj), setV_ne (ne h2.1), setD_ne (ne h2.1)]
    exact ⟨h2.1, fun e => t.rep (h2.2.1 e), h2.2.2⟩
end
end Go.Rx
end
section
namespace Go.Rx
open Go Go.Wk Go.Wl
section
variable {E : Env} {C C' : Ctx} {n : Nat} {l : List Oper} {ms : List Nat} {H : Hints} {f0 : Fr} {st0 : E.St} {fx : Slots E.N} {lkd lkd' : Items E.N} {F a : DA E.N} {D : Nat → Bool} {V : Nat → Value} {w w' : World} {ρ ρ' : Env1} {Z Z' : Nat → Prop} {i k m : Nat} {g : Fr} {its : Items E.N} {nx : Nat}
theorem bif_none {α : Type} {b : Bool} {o : Option α} {r : α} (h : (bif b then none else o) = some r) : b = false ∧ o = some r := by
  cases b with
  | true => cases h
  | false => exact ⟨rfl, h⟩
theorem loOf_spec : ∀ {effs : List Nat} {r : Nat}, r < loOf ms i effs → ∃ e, effs[r]? = some e ∧ bit ms i e = true
  | [], _, h => by simp [loOf] at h
  | e :: s, r, h => by
    unfold loOf at h
    cases hb : bit ms i e with
    | false => rw [hb] at h; simp at h
    | true =>
      rw [hb, cond_true] at h
      cases r with
      | zero => exact ⟨e, rfl, hb⟩
      | succ r => obtain ⟨e', h1, h2⟩ := loOf_spec (effs := s) (r := r) (by omega); exact ⟨e', by simpa using h1, h2⟩
theorem up_inj {effs : List Nat} (h : effs.Pairwise (· < ·)) {r s e : Nat} (hr : effs[r]? = some e) (hs : effs[s]? = some e) : r = s := by
  rw [List.pairwise_iff_getElem] at h
  have h1 := lt_get hr
  have h2 := lt_get hs
  rw [List.getElem?_eq_getElem h1] at hr
  rw [List.getElem?_eq_getElem h2] at hs
  simp only [Option.some.injEq] at hr hs
  rcases Nat.lt_trichotomy r s with c | c | c
  · have := h r s h1 h2 c; omega
  · exact c
  · have := h s r h2 h1 c; omega
theorem shut_sub (hj : JI E C fx lkd st0 f0 F D V w ρ Z k) (hF : WA E l H m F) (hu : Up a F i) (hdep : ∀ j, bit ms i j = true → D j = true) (hsucc : ∀ j, bit ms j i = true → D j = false) {m0 mk : Items E.N × Nat} (hm0 : a.mems[loOf ms i a.effs]? = some m0) (hmk : F.mems[k]? = some mk) :
    (without m0.1 (shut ms H i (a.effs.take (loOf ms i a.effs)))).Sublist mk.1 := by
  have hlo : loOf ms i a.effs ≤ k := by
    rcases Nat.lt_or_ge k (loOf ms i a.effs) with h | h
    · obtain ⟨e, h1, h2⟩ := loOf_spec h
      have := (hj.eff k e (hu.eff h1)).1 (hdep e h2)
      omega
    · exact h
  have key : ∀ t mr, F.mems[loOf ms i a.effs + t]? = some mr → loOf ms i a.effs + t ≤ k → (without m0.1 (shut ms H i (a.effs.take (loOf ms i a.effs)))).Sublist mr.1 := by
    intro t
    induction t with
    | zero =>
      intro mr hr _
      have := hu.mem hm0
      rw [Nat.add_zero, this] at hr
      cases hr
      exact List.filter_sublist
    | succ t ih =>
      intro mr hr hk
      have hl := lt_get hr
      obtain ⟨m1, hm1⟩ : ∃ m1, F.mems[loOf ms i a.effs + t]? = some m1 := ⟨_, List.getElem?_eq_getElem (by omega)⟩
      have hl2 : loOf ms i a.effs + t < F.effs.length := by have := hF.mlen; omega
      obtain ⟨e, he⟩ : ∃ e, F.effs[loOf ms i a.effs + t]? = some e := ⟨_, List.getElem?_eq_getElem hl2⟩
      obtain ⟨T, new, hT, hnew⟩ := hF.chain _ e m1 mr he hm1 hr
      have hs := ih m1 hm1 (by omega)
      have hDe : D e = true := (hj.eff _ e he).2 (by omega)
      have hTX : ∀ t ∈ T, t ∈ shut ms H i (a.effs.take (loOf ms i a.effs)) := fun t ht => by
        obtain ⟨x, hx, _⟩ := lk_mem hT
        unfold shut
        rw [List.mem_flatMap]
        refine ⟨(e, T), List.mem_of_getElem? hx, ?_⟩
        have h1 : bit ms e i = false := by
          cases hb : bit ms e i with
          | false => rfl
          | true => rw [hsucc e hb] at hDe; cases hDe
        have h2 : (a.effs.take (loOf ms i a.effs)).elem e = false := by
          cases hb : (a.effs.take (loOf ms i a.effs)).elem e with
          | false => rfl
          | true =>
            exfalso
            have hb := List.mem_of_elem_eq_true hb
            obtain ⟨r, hr1, hr2⟩ := List.getElem_of_mem hb
            simp only [List.length_take] at hr1
            rw [List.getElem_take] at hr2
            have hr3 : a.effs[r]? = some e := by rw [List.getElem?_eq_getElem (by omega), hr2]
            have := up_inj hF.up (hu.eff hr3) he
            omega
        rw [h1, h2]; exact ht
      rw [hnew, ← without_again hTX]
      exact List.Sublist.trans (List.Sublist.filter _ hs) (List.sublist_append_right _ _)
  have := key (k - loOf ms i a.effs) mk (by rw [show loOf ms i a.effs + (k - loOf ms i a.effs) = k by omega]; exact hmk) (by omega)
  exact this
theorem JI.quiet (hj : JI E C fx lkd st0 f0 F D V w ρ Z k) (hF : WA E l H m F) (hH : lk H i = none) (hDi : D i = false) (x : Ext [] w w') {e : Ent E.N} (he : F.ents[i]? = some e) {v : Value} (ho : EntOK E ρ Z w' (setD D i) (setV V i v) i e) : JI E C fx lkd st0 f0 F (setD D i) (setV V i v) w' ρ Z k := by
  obtain ⟨mm, hm, hmem⟩ := hj.mem
  obtain ⟨m1, t⟩ := hmem.ext0 x
  refine ⟨fun r e' hr => ?_, ⟨mm, hm, m1⟩, hj.tn.trans t, fun k s h => t.rep (hj.sl k s h), fun p hp => t.rep (hj.fx p hp), fun j e' hj' hD => ?_, hj.g⟩
  · obtain ⟨_, T, hT⟩ := hF.eff e' (List.mem_of_getElem? hr)
    rw [setD_ne (fun e2 => by rw [e2, hH] at hT; cases hT)]
    exact hj.eff r e' hr
  · by_cases e2 : j = i
    · subst e2; rw [he] at hj'; cases hj'; exact ho
    · rw [setD_ne e2] at hD
      exact (hj.ent j e' hj' hD).turn t hDi hD
theorem quiet_ok (hE : EnvOK E) {o : Oper} {e : Ent E.N} {ob : List Prop} (hf : dsFree fx l = true) (hq : dQuiet n fx lkd l ms H st0 i o a = some (ob, e)) (hH : lk H i = none)
    (hob : im (dHy (bit ms i) 0 a.ents) (allP ob)) (hw : WA E l H i a) (hF : WA E l H m F) (hu : Up a F i) (he : F.ents[i]? = some e) : OneJ E.P n l ms (JF E C fx lkd st0 f0 F) f0 i o := by
  intro D V g w hJ hDi hdep hsucc hdone hkept
  obtain ⟨ρ, Z, k, hj⟩ := hJ
  have hob := im_hy hob (hj.hys (fun j e h => hu.ent h) hdep)
  unfold dQuiet at hq
  split at hq
  · cases hq
  rename_i m0 hm0
  have h2 := bif_some hq
  clear hq
  obtain ⟨hfr, hq⟩ := h2
  obtain ⟨mk, hmk, hmem⟩ := hj.mem
  have hR := hj.rel hf hw (fun j e h => hu.ent h) hdep hdone hkept (C' := C) (hmem.sub ((shut_sub hj hF hu hdep hsucc hm0 hmk).append_right lkd) (hF.nx mk (List.mem_of_getElem? hmk))) hj.tn hj.g
  obtain ⟨dst, op, ty, pos, after, guard⟩ := o
  cases guard with
  | none =>
    simp only at hq hfr
    split at hq
    · rename_i q d hgop
      simp only [Option.some.injEq, Prod.mk.injEq] at hq
      obtain ⟨rfl, rfl⟩ := hq
      exact gOp_ok hE hR AllG.nil hgop hob (free_some hfr).1 fun v w' x hr hy => WL_nil ⟨rfl, v, rfl, ρ, Z, k, hj.quiet hF hH hDi x he ⟨hy, by show Rep E.N E.T ρ Z w' (setV V i v i) q.v; rw [setV_self]; exact hr⟩⟩
    · cases hq
  | some jb =>
    obtain ⟨j, b⟩ := jb
    simp only at hq hfr
    split at hq
    · rename_i dj hdj
      have h2 := bif_some hq
      clear hq
      obtain ⟨hb, hq⟩ := h2
      simp only [Bool.and_eq_true] at hb
      obtain ⟨hbj, hnj⟩ := hb
      have hDj := hdep j hbj
      have hji : j ≠ i := fun e => by rw [e, hDi] at hDj; cases hDj
      have hgj := hdone j dj hDj hdj
      split at hq
      · rename_i p q d hs
        simp only [Option.some.injEq, Prod.mk.injEq] at hq
        obtain ⟨rfl, rfl⟩ := hq
        unfold gSel at hs
        split at hs
        · rename_i p1 dp q1 d1 hg ho1
          have h2 := bif_none hs
          clear hs
          have hs := h2.2
          simp only [Option.some.injEq, Prod.mk.injEq] at hs
          obtain ⟨rfl, rfl, rfl⟩ := hs
          obtain ⟨g1, g2⟩ := gprop_ok hR 8 dj b p1 dp hg
          by_cases hp : p1
          · have e1 := g1.1 hp
            refine WL_on hdj hnj e1 (gOp_ok hE hR (chain_ok hR 8 dj b e1) ho1 (imp_all hp hob) (free_some hfr).1 fun v w' x hr hy => WL_nil ⟨rfl, v, rfl, ρ, Z, k, hj.quiet hF hH hDi x he ⟨imp_of fun _ => hy, ?_⟩⟩)
            show setD D i j = true ∧ (setV V i v j = .bool b → Rep E.N E.T ρ Z w' (setV V i v i) q1.v) ∧ (setV V i v j ≠ .bool b → setV V i v i = undef)
            rw [setD_ne hji, setV_ne hji, setV_self, ← hgj]
            exact ⟨hDj, fun _ => hr, fun h => absurd e1 h⟩
          · have e1 := g2 hp
            have ho : EntOK E ρ Z w (setD D i) (setV V i undef) i ⟨some d1, some (j, dj, b), q1.v, imp p1 q1.hy⟩ := by
              refine ⟨imp_of fun h => absurd h hp, ?_⟩
              show setD D i j = true ∧ (setV V i undef j = .bool b → Rep E.N E.T ρ Z w (setV V i undef i) q1.v) ∧ (setV V i undef j ≠ .bool b → setV V i undef i = undef)
              rw [setD_ne hji, setV_ne hji, setV_self, ← hgj]
              exact ⟨hDj, fun h => absurd (g1.2 h) hp, fun _ => rfl⟩
            have fin := hj.quiet hF hH hDi (Ext.refl [] w) he ho
            rcases e1 with e1 | e1
            · exact WL_off hdj hnj (free_some hfr).1 e1 (WL_nil ⟨rfl, undef, rfl, ρ, Z, k, fin⟩)
            · exact WL_off0 hdj hnj (free_some hfr).1 e1 (WL_nil ⟨rfl, undef, rfl, ρ, Z, k, fin⟩)
        · cases hs
      · cases hq
    · cases hq
end
end Go.Rx
end
section
namespace Go.Rx
open Go Go.Wk Go.Wl
section
variable {E : Env} {C C' : Ctx} {n : Nat} {l : List Oper} {ms : List Nat} {H : Hints} {f0 : Fr} {st0 : E.St} {fx : Slots E.N} {lkd lkd' : Items E.N} {F a : DA E.N} {D : Nat → Bool} {V : Nat → Value} {w w' : World} {ρ ρ' : Env1} {Z Z' : Nat → Prop} {i k m : Nat} {g : Fr} {its : Items E.N} {nx : Nat}
theorem eff_ok (hE : EnvOK E) {o : Oper} {e : Ent E.N} {ob : List Prop} {T : List Nat} {mm : Items E.N × Nat} (hf : dsFree fx l = true) (hq : dEff n fx lkd l ms st0 i o a T = some (ob, e, mm))
    (hob : im (dHy (bit ms i) 0 a.ents) (allP ob)) (hw : WA E l H i a) (hF : WA E l H m F) (hu : Up a F i) (he : F.ents[i]? = some e) (hei : F.effs[a.effs.length]? = some i) (hmm : F.mems[a.effs.length + 1]? = some mm) : OneJ E.P n l ms (JF E C fx lkd st0 f0 F) f0 i o := by
  intro D V g w hJ hDi hdep hsucc hdone hkept
  obtain ⟨ρ, Z, k, hj⟩ := hJ
  have hob := im_hy hob (hj.hys (fun j e h => hu.ent h) hdep)
  obtain ⟨mk, hmk, hmem⟩ := hj.mem
  obtain ⟨dst, op, ty, pos, after, guard⟩ := o
  unfold dEff at hq
  split at hq
  · rename_i m0 hm0
    have h2 := bif_some hq
    clear hq
    obtain ⟨hb, hq⟩ := h2
    simp only [Bool.and_eq_true] at hb
    obtain ⟨hfr, hall⟩ := hb
    simp only at hfr hq
    split at hq
    case h_2 => cases hq
    rename_i gg ch hdg
    have hk : k = a.effs.length := by
      rcases Nat.lt_trichotomy k a.effs.length with c | c | c
      · exfalso
        obtain ⟨e', he'⟩ : ∃ e', a.effs[k]? = some e' := ⟨_, List.getElem?_eq_getElem c⟩
        rw [List.all_eq_true] at hall
        have := (hj.eff k e' (hu.eff he')).1 (hdep e' (hall e' (List.mem_of_getElem? he')))
        omega
      · exact c
      · exfalso
        have := (hj.eff _ i hei).2 c
        rw [hDi] at this; cases this
    subst hk
    have := hu.mem hm0
    rw [this] at hmk; cases hmk
    split at hq
    · rename_i s hs
      have h2 := bif_some hq
      clear hq
      obtain ⟨_, hq⟩ := h2
      simp only [Option.some.injEq, Prod.mk.injEq] at hq
      obtain ⟨rfl, rfl, rfl⟩ := hq
      have hR := hj.rel hf hw (fun j e h => hu.ent h) hdep hdone hkept (C' := C.at ρ Z w) (its := within mk.1 T) (lkd' := without mk.1 T ++ lkd) (nx := mk.2) (hmem.down.perm (by rw [← List.append_assoc]; exact (split_perm mk.1 T).append_right lkd)) (Tn.refl _ _ _) (Glob.turn hj.g hj.tn)
      have hgg : ∃ hG : AllG g ch, allP s.ob ∧ ∀ {Q : Exit → Fr → World → Prop}, WL E.P false n l Q [⟨dst, op, ty, pos, after, none⟩] g w → WL E.P false n l Q [⟨dst, op, ty, pos, after, guard⟩] g w := by
        unfold dG at hdg
        cases guard with
        | none =>
          simp only [Option.some.injEq, Prod.mk.injEq] at hdg
          obtain ⟨rfl, rfl⟩ := hdg
          exact ⟨AllG.nil, hob, fun h => h⟩
        | some jb =>
          obtain ⟨j, b⟩ := jb
          simp only at hdg
          split at hdg
          · rename_i dj hdj
            have h3 := bif_some hdg
            clear hdg
            obtain ⟨hb3, hdg⟩ := h3
            simp only [Bool.and_eq_true] at hb3
            obtain ⟨⟨_, hnj⟩, _⟩ := hb3
            split at hdg
            · rename_i p dp hgp
              simp only [Option.some.injEq, Prod.mk.injEq] at hdg
              obtain ⟨rfl, rfl⟩ := hdg
              have hob2 : p ∧ allP s.ob := hob
              have e1 := (gprop_ok hR 8 dj b p dp hgp).1.1 hob2.1
              exact ⟨chain_ok hR 8 dj b e1, hob2.2, fun h => WL_on hdj hnj e1 h⟩
            · cases hdg
          · cases hdg
      obtain ⟨hG, hob, hon⟩ := hgg
      refine hon (fEff_ok hE hR hG hfr hs hob fun v ρ' Z' w' hr hy => WL_nil ⟨rfl, v, rfl, ρ', Z', a.effs.length + 1, ?_⟩)
      have t : Tn ρ Z w ρ' Z' w' := hr.tn
      have hM := Mem.upC hmem hr.mem
      refine ⟨fun r e' hr' => ?_, ⟨_, hmm, ?_⟩, hj.tn.trans t, fun k s h => t.rep (hj.sl k s h), fun p hp => t.rep (hj.fx p hp), fun j e' hj' hD => ?_, hj.g⟩
      · rcases Nat.lt_trichotomy r a.effs.length with c | c | c
        · have h1 := hj.eff r e' hr'
          have hne : e' ≠ i := fun e2 => by subst e2; have := up_inj hF.up hr' hei; omega
          rw [setD_ne hne, h1]; omega
        · subst c
          rw [hei] at hr'; cases hr'
          rw [setD_self]; simp
        · have h1 := hj.eff r e' hr'
          have hne : e' ≠ i := fun e2 => by subst e2; have := up_inj hF.up hr' hei; omega
          rw [setD_ne hne, h1]; omega
      · rw [List.append_assoc]
        cases dst with
        | none => exact hM
        | some d => exact hM
      · by_cases e2 : j = i
        · subst e2; rw [he] at hj'; cases hj'
          refine ⟨hy, ?_⟩
          show Rep E.N E.T ρ' Z' w' (setV V j v j) _
          rw [setV_self]
          cases dst with
          | none => exact .un
          | some d =>
            have := hr.sl d s.v (by show lk ((d, s.v) :: _) d = _; rw [lk_cons, if_pos rfl])
            rw [show putF g (some d) v d = v from upd_same] at this
            exact this
        · rw [setD_ne e2] at hD
          exact (hj.ent j e' hj' hD).turn t hDi hD
    · cases hq
  · cases hq
theorem WA.quiet {o : Oper} {e : Ent E.N} {ob : List Prop} (hw : WA E l H i a) (ho : l[i]? = some o) (hq : dQuiet n fx lkd l ms H st0 i o a = some (ob, e)) : WA E l H (i + 1) ⟨a.ents ++ [e], a.effs, a.mems⟩ := by
  have hent : o.dst = e.dst ∧ ∀ jj dj b, e.g = some (jj, dj, b) → dstAt l jj = some dj := by
    unfold dQuiet at hq
    split at hq
    · cases hq
    have h2 := bif_some hq
    clear hq
    obtain ⟨_, hq⟩ := h2
    split at hq
    · split at hq
      · rename_i q d hgop hd
        simp only [Option.some.injEq, Prod.mk.injEq] at hq
        obtain ⟨_, rfl⟩ := hq
        exact ⟨hd, fun jj dj b h => by cases h⟩
      · cases hq
    · rename_i j b hg
      split at hq
      · rename_i dj hdj
        have h2 := bif_some hq
        clear hq
        obtain ⟨_, hq⟩ := h2
        split at hq
        · rename_i p q d hs
          simp only [Option.some.injEq, Prod.mk.injEq] at hq
          obtain ⟨_, rfl⟩ := hq
          refine ⟨?_, fun jj dj' b' h => by cases h; exact hdj⟩
          unfold gSel at hs
          split at hs
          · rename_i hd
            have h2 := bif_none hs
            have hs := h2.2
            simp only [Option.some.injEq, Prod.mk.injEq] at hs
            rw [hd, hs.2.2]
          · cases hs
        · cases hq
      · cases hq
  refine ⟨by simp [hw.len], fun j e' hj => ?_, fun e' h => ⟨by have := (hw.eff e' h).1; omega, (hw.eff e' h).2⟩, hw.up, hw.mlen, hw.chain, hw.nx⟩
  have hl := hw.len
  by_cases c : j < a.ents.length
  · have hj : (a.ents ++ [e])[j]? = some e' := hj
    rw [List.getElem?_append_left c] at hj; exact hw.ent j e' hj
  · have hj : (a.ents ++ [e])[j]? = some e' := hj
    rw [List.getElem?_append_right (by omega)] at hj
    have : j - a.ents.length = 0 := by have := lt_get hj; simp at this; omega
    rw [this] at hj; cases hj
    have : j = i := by omega
    subst this
    exact ⟨by rw [dstAt_some ho]; exact hent.1, hent.2⟩
theorem WA.effs {o : Oper} {e : Ent E.N} {ob : List Prop} {T : List Nat} {mm : Items E.N × Nat} (hw : WA E l H i a) (ho : l[i]? = some o) (hH : lk H i = some T) (hq : dEff n fx lkd l ms st0 i o a T = some (ob, e, mm)) : WA E l H (i + 1) ⟨a.ents ++ [e], a.effs ++ [i], a.mems ++ [mm]⟩ := by
  have hent : o.dst = e.dst ∧ e.g = none ∧ mm.2 ≤ NX ∧ ∃ m0 new, a.mems[a.effs.length]? = some m0 ∧ mm.1 = new ++ without (E := E) m0.1 T := by
    unfold dEff at hq
    split at hq
    · rename_i m0 hm0
      have h2 := bif_some hq
      clear hq
      obtain ⟨_, hq⟩ := h2
      split at hq
      case h_2 => cases hq
      split at hq
      · rename_i s hs
        have h2 := bif_some hq
        clear hq
        obtain ⟨hn, hq⟩ := h2
        simp only [Option.some.injEq, Prod.mk.injEq] at hq
        obtain ⟨rfl, rfl, rfl⟩ := hq
        exact ⟨rfl, rfl, Nat.le_of_ble_eq_true hn, m0, _, hm0, rfl⟩
      · cases hq
    · cases hq
  obtain ⟨h1, h2, h3, m0, new, h4, h5⟩ := hent
  have hl := hw.len
  have hml := hw.mlen
  refine ⟨by simp [hw.len], fun j e' hj => ?_, fun e' h => ?_, ?_, by simp [hml], fun r e' m m' he hm hm' => ?_, fun m h => ?_⟩
  · have hj : (a.ents ++ [e])[j]? = some e' := hj
    by_cases c : j < a.ents.length
    · rw [List.getElem?_append_left c] at hj; exact hw.ent j e' hj
    · rw [List.getElem?_append_right (by omega)] at hj
      have : j - a.ents.length = 0 := by have := lt_get hj; simp at this; omega
      rw [this] at hj; cases hj
      have : j = i := by omega
      subst this
      exact ⟨by rw [dstAt_some ho]; exact h1, fun jj dj b h => by rw [h2] at h; cases h⟩
  · have h : e' ∈ a.effs ++ [i] := h
    rw [List.mem_append, List.mem_singleton] at h
    rcases h with h | rfl
    · exact ⟨by have := (hw.eff e' h).1; omega, (hw.eff e' h).2⟩
    · exact ⟨by omega, T, hH⟩
  · show (a.effs ++ [i]).Pairwise (· < ·)
    rw [List.pairwise_append]
    refine ⟨hw.up, List.pairwise_singleton _ _, fun x hx y hy => ?_⟩
    rw [List.mem_singleton] at hy; subst hy
    exact (hw.eff x hx).1
  · have he : (a.effs ++ [i])[r]? = some e' := he
    have hm : (a.mems ++ [mm])[r]? = some m := hm
    have hm' : (a.mems ++ [mm])[r + 1]? = some m' := hm'
    by_cases c : r < a.effs.length
    · rw [List.getElem?_append_left c] at he
      rw [List.getElem?_append_left (by omega)] at hm hm'
      exact hw.chain r e' m m' he hm hm'
    · rw [List.getElem?_append_right (by omega)] at he
      have : r - a.effs.length = 0 := by have := lt_get he; simp at this; omega
      have hr : r = a.effs.length := by omega
      subst hr
      rw [this] at he; cases he
      rw [List.getElem?_append_left (by omega)] at hm
      rw [List.getElem?_append_right (by omega)] at hm'
      have : a.effs.length + 1 - a.mems.length = 0 := by omega
      rw [this] at hm'; cases hm'
      rw [h4] at hm; cases hm
      exact ⟨T, new, hH, h5⟩
  · have h : m ∈ a.mems ++ [mm] := h
    rw [List.mem_append, List.mem_singleton] at h
    rcases h with h | rfl
    · exact hw.nx m h
    · exact h3
theorem dGo_ok (hE : EnvOK E) (hf : dsFree fx l = true) {K : DA E.N → Prop} : ∀ (r : List Oper) (i : Nat) (a : DA E.N), (∀ x, r[x]? = l[i + x]?) → WA E l H i a → dGo n fx lkd l ms H st0 K i r a → ∃ F, WA E l H (i + r.length) F ∧ Up a F i ∧ StepsJ E.P n l ms (JF E C fx lkd st0 f0 F) f0 i r ∧ K F
  | [], i, a, _, hw, h => ⟨a, hw, ⟨⟨[], by simp⟩, ⟨[], by simp, fun e h => by cases h⟩, ⟨[], by simp⟩⟩, .nil, h⟩
  | o :: r, i, a, hr, hw, h => by
    have ho : l[i]? = some o := by have := hr 0; simpa using this.symm
    have hr' : ∀ x, r[x]? = l[i + 1 + x]? := fun x => by have := hr (x + 1); rw [show i + (x + 1) = i + 1 + x by omega] at this; simpa using this
    unfold dGo at h
    split at h
    · rename_i ob a' hone
      have ⟨hob, hgo⟩ : im (dHy (bit ms i) 0 a.ents) (allP ob) ∧ dGo n fx lkd l ms H st0 K (i + 1) r a' := by
        cases hb : ob.isEmpty with
        | true => rw [hb, cond_true] at h; rw [List.isEmpty_iff.1 hb]; exact ⟨im_of fun _ => trivial, h⟩
        | false => rw [hb, cond_false] at h; exact ⟨im_of fun hy => cjl_all (im_hy h.1 hy), h.2⟩
      unfold dOne at hone
      split at hone
      · rename_i hH
        split at hone
        · rename_i ob1 e hq
          simp only [Option.some.injEq, Prod.mk.injEq] at hone
          obtain ⟨rfl, rfl⟩ := hone
          obtain ⟨F, hF, hu, hs, hK⟩ := dGo_ok hE hf r (i + 1) _ hr' (hw.quiet ho hq) hgo
          have he : F.ents[i]? = some e := hu.ent (by show (a.ents ++ [e])[i]? = _; rw [List.getElem?_append_right (by have := hw.len; omega), hw.len, Nat.sub_self]; rfl)
          have hu' : Up a F i := by
            obtain ⟨⟨x, hx⟩, ⟨y, hy, hy'⟩, hz⟩ := hu
            exact ⟨⟨[e] ++ x, by rw [hx]; simp⟩, ⟨y, hy, fun e h => by have := hy' e h; omega⟩, hz⟩
          exact ⟨F, by rw [List.length_cons, show i + (r.length + 1) = i + 1 + r.length by omega]; exact hF, hu', .cons (quiet_ok hE hf hq hH hob hw hF hu' he) hs, hK⟩
        · cases hone
      · rename_i T hH
        split at hone
        · rename_i ob1 e mm hq
          simp only [Option.some.injEq, Prod.mk.injEq] at hone
          obtain ⟨rfl, rfl⟩ := hone
          obtain ⟨F, hF, hu, hs, hK⟩ := dGo_ok hE hf r (i + 1) _ hr' (hw.effs ho hH hq) hgo
          have he : F.ents[i]? = some e := hu.ent (by show (a.ents ++ [e])[i]? = _; rw [List.getElem?_append_right (by have := hw.len; omega), hw.len, Nat.sub_self]; rfl)
          have hei : F.effs[a.effs.length]? = some i := hu.eff (by show (a.effs ++ [i])[a.effs.length]? = _; rw [List.getElem?_append_right (Nat.le_refl _), Nat.sub_self]; rfl)
          have hmm : F.mems[a.effs.length + 1]? = some mm := hu.mem (by show (a.mems ++ [mm])[a.effs.length + 1]? = _; rw [← hw.mlen, List.getElem?_append_right (Nat.le_refl _), Nat.sub_self]; rfl)
          have hu' : Up a F i := by
            obtain ⟨⟨x, hx⟩, ⟨y, hy, hy'⟩, ⟨z, hz⟩⟩ := hu
            refine ⟨⟨[e] ++ x, by rw [hx]; simp⟩, ⟨[i] ++ y, by rw [hy]; simp, fun e h => ?_⟩, ⟨[mm] ++ z, by rw [hz]; simp⟩⟩
            rw [List.mem_append, List.mem_singleton] at h
            rcases h with h | h
            · omega
            · have := hy' e h; omega
          exact ⟨F, by rw [List.length_cons, show i + (r.length + 1) = i + 1 + r.length by omega]; exact hF, hu', .cons (eff_ok hE hf hq hob hw hF hu' he hei hmm) hs, hK⟩
        · cases hone
    · exact h.elim
theorem updAll_map {g g' : Fr} : ∀ {ks : List Nat} {k : Nat}, k ∈ ks → updAll g' (ks.map fun k => (k, g k)) k = g k
  | x :: r, k, h => by
    show upd (updAll g' (r.map fun k => (k, g k))) x (g x) k = g k
    by_cases e : x = k
    · subst e; exact upd_same
    · rw [upd_ne e]
      rcases List.mem_cons.1 h with h | h
      · exact absurd h.symm e
      · exact updAll_map h
theorem live_map {g : Fr} : ∀ {ks : List Nat}, Live g (ks.map fun k => (k, g k))
  | [] => trivial
  | _ :: _ => ⟨rfl, live_map⟩
theorem vcDraw_ok (hE : EnvOK E) {id : Nat} {f : Fr} {K : E.St → Prop} {Q : Exit → Fr → World → Prop} (h : Rel E C fx lkd st0 ρ Z f w) (hv : vcDraw n fx lkd l st0 K) (hQ : ∀ st' ρ' Z' f' w', Rel E C fx lkd st' ρ' Z' f' w' → K st' → Q .normal f' w') : W E.P n (.region id l.toArray true) Q f w := by
  unfold vcDraw at hv
  cases hb : (afterOk l && dstsU l [] && dstIn (dsts l) n l && dsFree fx l && Nat.ble st0.nx NX) with
  | false => rw [hb] at hv; exact hv.elim
  | true =>
    rw [hb, cond_true] at hv
    rw [Bool.and_eq_true, Bool.and_eq_true] at hb
    obtain ⟨⟨ha, hf⟩, hn⟩ := hb
    obtain ⟨F, hF, hu, hs, hK⟩ := dGo_ok (C := C) (f0 := f) hE hf l 0 _ (fun x => by simp) ⟨rfl, fun j e h => by simp at h, fun e h => (by cases h), List.Pairwise.nil, rfl, fun r e m m' h => by simp at h, fun m h => by
      have h : m ∈ [(st0.items, st0.nx)] := h
      rw [List.mem_singleton] at h; subst h; exact Nat.le_of_ble_eq_true hn⟩ hv
    rw [Nat.zero_add] at hF
    refine W_region_J (JF E C fx lkd st0 f F) (dsts l) hE.mixed ha (masks l) rfl (fun V => ⟨ρ, Z, 0, fun r e _ => by simp, ⟨_, hu.mem (j := 0) rfl, h.mem⟩, h.tn, h.sl, h.fx, fun j e _ hD => (by cases hD), h.g⟩) hs fun D V g w' hD hJ hdone hkept => ?_
    obtain ⟨ρ', Z', k, hj⟩ := hJ
    obtain ⟨mk, hmk, hmem⟩ := hj.mem
    have hk : k = F.effs.length := by
      rcases Nat.lt_or_ge k F.effs.length with c | c
      · exfalso
        obtain ⟨e, he⟩ : ∃ e, F.effs[k]? = some e := ⟨_, List.getElem?_eq_getElem c⟩
        have h1 := (hF.eff e (List.mem_of_getElem? he)).1
        have := (hj.eff k e he).1 (hD e (by simpa [Nat.blt_eq] using h1))
        omega
      · have := lt_get hmk
        have := hF.mlen
        omega
    subst hk
    unfold dFin at hK
    rw [hmk] at hK
    simp only at hK
    have hlen : ∀ {j : Nat} {e : Ent E.N}, F.ents[j]? = some e → Nat.blt j l.length = true := fun {j e} he => by have := lt_get he; rw [hF.len] at this; simpa [Nat.blt_eq] using this
    have hK := im_hy hK (dHy_all fun j e h1 _ => (hj.ent j e h1 (hD j (hlen h1))).1)
    have hg : Rel E C fx lkd ⟨dSlots (fun _ => true) 0 F.ents ++ st0.slots.filter (fun p => !(dsts l).elem p.1), [], mk.1, mk.2⟩ ρ' Z' g w' := by
      refine ⟨fun k s hk => ?_, fun p hp => ?_, fun k j' b s hk => (by cases hk), hmem, hj.tn, hj.g⟩
      · rcases lk_app hk with hk | ⟨_, hk⟩
        · obtain ⟨j, e, h1, _, h3, rfl⟩ := dSlots_lk hk
          have hg := hdone j k (hlen h1) (by rw [(hF.ent j e h1).1]; exact h3)
          have ho := (hj.ent j e h1 (hD j (hlen h1))).2
          unfold Ent.now
          split
          · rename_i hn; rw [hn] at ho; rw [hg]; exact ho
          · exact .un
        · have ⟨h1, h2⟩ := lk_filter (q := fun t => !(dsts l).elem t) hk
          rw [hkept k (by simpa using h1)]; exact hj.sl k s h2
      · rw [hkept p.1 ?_]
        · exact hj.fx p hp
        · cases hx : (dsts l).elem p.1 with
          | false => rfl
          | true =>
            exfalso
            have hx := List.mem_of_elem_eq_true hx
            unfold dsts at hx
            rw [List.mem_filterMap] at hx
            obtain ⟨o, ho, hd⟩ := hx
            unfold dsFree at hf
            rw [List.all_eq_true] at hf
            have := hf o ho
            rw [hd] at this
            simp only [Option.isNone_iff_eq_none] at this
            exact lk_none this p hp rfl
    generalize hst : (⟨dSlots (fun _ => true) 0 F.ents ++ st0.slots.filter (fun p => !(dsts l).elem p.1), [], mk.1, mk.2⟩ : E.St) = stF at hg hK
    refine ⟨((stF.slots ++ fx).map (·.1)).map fun k => (k, g k), live_map, fun g' => hQ stF ρ' Z' _ w' ?_ hK⟩
    refine ⟨fun k s hk => ?_, fun p hp => ?_, fun k j' b s hk => ?_, hg.mem, hg.tn, hg.g⟩
    · obtain ⟨x, hx, _⟩ := lk_mem hk
      rw [updAll_map (List.mem_map.2 ⟨_, List.mem_append_left _ (List.mem_of_getElem? hx), rfl⟩)]
      exact hg.sl k s hk
    · rw [updAll_map (List.mem_map.2 ⟨p, List.mem_append_right _ hp, rfl⟩)]
      exact hg.fx p hp
    · rw [← hst] at hk; cases hk
end
end Go.Rx
end
section
namespace Go.Rx
open Go Go.Wk Go.Wl
section
variable {E : Env} {C : Ctx} {f fb : Fr} {w wb : World} {ρb ρ : Env1} {Z Zb : Nat → Prop} {lkd : Items E.N} {fx : Slots E.N} {st st' : E.St} {inl : Inl E} {an : Ann}
theorem distinct_nodup : ∀ {l : List Nat}, distinct l = true → l.Nodup
  | [], _ => List.nodup_nil
  | a :: r, h => by
    simp only [distinct, Bool.and_eq_true, Bool.not_eq_true'] at h
    rw [List.nodup_cons]
    refine ⟨fun hm => ?_, distinct_nodup h.2⟩
    have := List.elem_eq_true_of_mem hm
    rw [this] at h; exact absurd h.1 (by simp)
theorem rbP_ok {keep ids : List Nat} {vs : List LV} {α : Type} {g : Cur E.N α vs} {Kα : α → Prop} {K : α → E.St → Prop} (h0 : Rel E C fx lkd st ρb Zb fb wb)
    (h : Rel E (C.at ρb Zb wb) (keepS fx st keep ++ fx) (without st.items ids ++ lkd) st' ρ Z f w) (hv : rbP E fx st (keepS fx st keep ++ fx) st' vs g Kα) (hK : allC E fx st vs g ⟨[], [], [], st.nx⟩ K) :
    ∃ new ρ2 a, Kα a ∧ K a new ∧ Rel E (C.at ρb Zb wb) (keepS fx st keep ++ fx) (without st.items ids ++ lkd) new ρ2 Z f w := by
  unfold rbP at hv
  cases hb : rbOK E fx st (keepS fx st keep ++ fx) st' vs with
  | false => rw [hb] at hv; exact hv.elim
  | true =>
    rw [hb, cond_true] at hv
    unfold rbOK at hb
    simp only [Bool.and_eq_true] at hb
    obtain ⟨hd, hr⟩ := hb
    split at hv
    · rename_i a ha
      have hρ : ∀ i L, ρb i = some L → ρ i = some L := h.mem.ge
      have hbase : ∀ s id off, slotOf fx st s = .ref id off → ∃ L, ρb id = some L := fun s id off e => by
        have := h0.slot s
        rw [e] at this
        generalize fb s = u at this
        cases this with
        | ref hL => exact ⟨_, hL⟩
      obtain ⟨new, ρ2, os, hF, hp, hk⟩ := rbAll_ok hbase hρ h vs g a ⟨[], [], [], st.nx⟩ ρb [] ha (eqL_spec hr) ⟨.nil, h0.mem.fr, fun _ _ h => h, fun k s e => (by cases e), rfl⟩ K hK
      have hnd : (os.filterMap id).Nodup := hp.nodup_iff.2 (by simpa using distinct_nodup hd)
      refine ⟨new, ρ2, a, hv, hk, hF.sl, fun p hp => ?_, fun k j b s e => (by rw [hF.gs] at e; cases e), ?_, ⟨hF.sub, h.tn.z, h.tn.ext⟩, h.g⟩
      · have r1 := h.fx p hp
        have r2 : ∃ v, Rep E.N E.T ρb Zb wb v p.2 := by
          rcases List.mem_append.1 hp with hp | hp
          · simp only [keepS, List.mem_map] at hp
            obtain ⟨s, _, rfl⟩ := hp
            exact ⟨_, h0.slot s⟩
          · exact ⟨_, h0.fx p hp⟩
        obtain ⟨v, r2⟩ := r2
        exact Rep.sub (Rep.lower r1 r2 hρ) hF.sub
      · refine Mem.rebuild h.mem (fun p hp => ?_) hF.tg hnd hF.fr hF.sub
        obtain ⟨k, hk⟩ := List.getElem?_of_mem hp
        have e1 : holds E.N E.T ρ p.1 Z w p.2 := h.mem.holds (k := st'.items.length + k) (by rw [List.getElem?_append_right (by omega)]; simpa using hk)
        have e2 : holds E.N E.T ρb p.1 Zb wb p.2 := by
          have hin : p ∈ st.items ++ lkd := by
            rcases List.mem_append.1 hp with hp | hp
            · exact List.mem_append_left _ ((List.mem_filter.1 hp).1)
            · exact List.mem_append_right _ hp
          obtain ⟨k2, hk2⟩ := List.getElem?_of_mem hin
          exact h0.mem.holds hk2
        obtain ⟨a1, a2⟩ := holds_lower e1 e2 hρ
        obtain ⟨b1, b2⟩ := holds_sub hF.sub a1
        exact ⟨b1, by rw [b2, a2]⟩
    · exact hv.elim
/-- The ends of a piece of code, ars they are told. -/
def endK (K : Ks E) (e : Exit) (st : E.St) : Prop := match e with
  | .normal => K.n st
  | .ret => K.r st
  | .exit i => (match lk K.e i with | some k => k st | none => False)
  | _ => False
def QK (E : Env) (C : Ctx) (fx : Slots E.N) (lkd : Items E.N) (K : Ks E) : Exit → Fr → World → Prop := fun e f w => ∃ st ρ Z, Rel E C fx lkd st ρ Z f w ∧ endK K e st
theorem lk_map {α β : Type} {l : List (Nat × α)} {g : α → β} {i : Nat} : lk (l.map fun p => (p.1, g p.2)) i = (lk l i).map g := by
  induction l with
  | nil => rfl
  | cons p r ih =>
    show (bif Nat.beq p.1 i then some (g p.2) else lk (r.map fun p => (p.1, g p.2)) i) = (bif Nat.beq p.1 i then some p.2 else lk r i).map g
    cases Nat.beq p.1 i with
    | true => rfl
    | false => exact ih
theorem Rel.g0 (h : Rel E C fx lkd st ρ Z f w) : Rel E C fx lkd ⟨st.slots, [], st.items, st.nx⟩ ρ Z f w := ⟨h.sl, h.fx, fun k j b s e => (by cases e), h.mem, h.tn, h.g⟩
theorem leaveQ {keep ids : List Nat} {K : Ks E} {n : E.St → Prop} {e : Exit} (h0 : Rel E C fx lkd st ρb Zb fb wb) (hn : e ≠ .normal)
    (h : QK E (C.at ρb Zb wb) (keepS fx st keep ++ fx) (without st.items ids ++ lkd) (backK (keepS fx st keep) (without st.items ids) K n) e f w) : QK E C fx lkd K e f w := by
  obtain ⟨st', ρ', Z', hr, he⟩ := h
  have hl := Rel.leave h0 hr
  cases e with
  | normal => exact absurd rfl hn
  | ret => exact ⟨_, _, _, hl, he⟩
  | exit i =>
    simp only [endK, backK] at he
    rw [lk_map] at he
    cases hk : lk K.e i with
    | none => rw [hk] at he; exact he.elim
    | some k => rw [hk] at he; exact ⟨_, _, _, hl, by simp only [endK, hk]; exact he⟩
  | _ => exact he.elim
theorem vc_ok (hE : EnvOK E) (hI : InlOK E inl) : ∀ (c : Code) (C : Ctx) (fx : Slots E.N) (lkd : Items E.N) (st : E.St) (K : Ks E) (ρ : Env1) (Z : Nat → Prop) (f : Fr) (w : World), Rel E C fx lkd st ρ Z f w → vc inl an c fx lkd st K → W E.P an.n c (QK E C fx lkd K) f w := by
  intro c
  induction c with
  | skip => intro C fx lkd st K ρ Z f w h hv; exact W_skip ⟨st, ρ, Z, h, hv⟩
  | ret => intro C fx lkd st K ρ Z f w h hv; exact W_ret ⟨st, ρ, Z, h, hv⟩
  | exit i => intro C fx lkd st K ρ Z f w h hv; exact W_exit ⟨st, ρ, Z, h, hv⟩
  | region id l dr =>
    intro C fx lkd st K ρ Z f w h hv
    simp only [vc] at hv
    have e : l = l.toList.toArray := by simp
    cases hb : (!dr || quietR l.toList) with
    | false =>
      rw [hb, cond_false] at hv
      have hdr : dr = true := by
        cases dr with
        | true => rfl
        | false => rw [Bool.not_false, Bool.true_or] at hb; cases hb
      subst hdr
      have := vcDraw_ok (id := id) (Q := QK E C fx lkd K) hE h.g0 hv (fun st' ρ' Z' f' w' hr hk => ⟨st', ρ', Z', hr, hk⟩)
      rw [← e] at this; exact this
    | true =>
      rw [hb, cond_true] at hv
      have key : WL E.P dr an.n l.toList (QK E C fx lkd K) l.toList f w := vcOps_ok hE hI l.toList _ ρ Z f w h.g0 hv (fun st' ρ' Z' f' w' hr _ hk => ⟨st', ρ', Z', hr, hk⟩)
      cases dr with
      | false =>
        have := W_region (id := id) key
        rw [← e] at this; exact this
      | true =>
        have hb2 : drawOk l.toList = true := by
          unfold quietR at hb
          simp only [Bool.not_true, Bool.false_or, Bool.and_eq_true] at hb
          exact hb.1
        have := W_region_quiet (id := id) hE.mixed hb2 key
        rw [← e] at this; exact this
  | seq a b iha ihb =>
    intro C fx lkd st K ρ Z f w h hv
    simp only [vc] at hv
    split at hv
    · refine W_seq (W_mono (iha C fx lkd st _ ρ Z f w h hv) fun e f' w' q => ?_)
      obtain ⟨st', ρ', Z', hr, he⟩ := q
      cases e with
      | normal => exact ihb C fx lkd st' K ρ' Z' f' w' hr he
      | ret => exact ⟨st', ρ', Z', hr, he⟩
      | exit i => exact ⟨st', ρ', Z', hr, he⟩
      | _ => exact he.elim
    · rename_i j hj
      obtain ⟨J, hva, hvb⟩ := hv
      refine W_seq (W_mono (iha _ _ _ _ _ ρ Z f w (h.enter j.keep (idsOf E fx st j.vars)) hva) fun e f' w' q => ?_)
      cases e with
      | normal =>
        obtain ⟨st', ρ', Z', hr, he⟩ := q
        obtain ⟨new, ρ2, x, hx, hk, hr2⟩ := rbP_ok h hr he hvb
        exact ihb C fx lkd _ K ρ2 Z' f' w' (Rel.leave h hr2) (hk hx)
      | ret => exact leaveQ h (by intro e; cases e) q
      | exit i => exact leaveQ h (by intro e; cases e) q
      | _ => obtain ⟨_, _, _, _, he⟩ := q; exact he.elim
  | cond o a b iha ihb =>
    intro C fx lkd st K ρ Z f w h hv
    simp only [vc] at hv
    have hr := h.ev AllG.nil o
    split at hv
    · rename_i e; rw [e] at hr
      exact W_cond_true (by generalize Wk.ev f o = u at hr; cases hr; rfl) (iha C fx lkd st K ρ Z f w h hv)
    · rename_i e; rw [e] at hr
      exact W_cond_false (by generalize Wk.ev f o = u at hr; cases hr; rfl) (ihb C fx lkd st K ρ Z f w h hv)
    · rename_i p d e; rw [e] at hr
      have e1 : Wk.ev f o = .bool (@decide p d) := by generalize Wk.ev f o = u at hr; cases hr; rfl
      exact W_cond e1 (fun hp => iha C fx lkd st K ρ Z f w h (hv.1 (of_decide_eq_true hp))) (fun hp => ihb C fx lkd st K ρ Z f w h (hv.2 (of_decide_eq_false hp)))
    · exact hv.elim
  | block i c ih =>
    intro C fx lkd st K ρ Z f w h hv
    refine W_block (W_mono (ih C fx lkd st _ ρ Z f w h hv) fun e f' w' q => ?_)
    obtain ⟨st', ρ', Z', hr, he⟩ := q
    cases e with
    | normal => exact ⟨st', ρ', Z', hr, he⟩
    | ret => exact ⟨st', ρ', Z', hr, he⟩
    | exit j =>
      have he : (match (bif Nat.beq i j then some K.n else lk K.e j) with | some k => k st' | none => False) := he
      show (bif Nat.beq j i then QK E C fx lkd K .normal f' w' else QK E C fx lkd K (.exit j) f' w')
      have hc : Nat.beq i j = Nat.beq j i := by
        by_cases e : i = j
        · rw [e]
        · rw [beq_ne e, beq_ne (Ne.symm e)]
      rw [hc] at he
      cases hb : Nat.beq j i with
      | true => rw [hb] at he; exact ⟨st', ρ', Z', hr, he⟩
      | false => rw [hb] at he; exact ⟨st', ρ', Z', hr, he⟩
    | _ => exact he.elim
  | loop c ih =>
    intro C fx lkd st K ρ Z f w h hv
    simp only [vc] at hv
    split at hv
    · exact hv.elim
    · rename_i a ha
      obtain ⟨I, m, h0, hb⟩ := hv
      refine W_loopE (fun k f' w' => ∃ (new : E.St) (ρ2 : Env1) (Z2 : Nat → Prop) (im : Prop × Nat), (im.1 → vc inl an c (keepS fx st a.keep ++ fx) (without st.items (idsOf E fx st a.vars) ++ lkd) new
            (backK (keepS fx st a.keep) (without st.items (idsOf E fx st a.vars)) K (fun st' => rbP E fx st (keepS fx st a.keep ++ fx) st' a.vars (zipC a.vars I m) (fun im' => im'.1 ∧ im'.2 < im.2)))) ∧ im.1 ∧ im.2 = k ∧ Rel E (C.at ρ Z w) (keepS fx st a.keep ++ fx) (without st.items (idsOf E fx st a.vars) ++ lkd) new ρ2 Z2 f' w') ?_ ?_
      · obtain ⟨new, ρ2, im, h1, h2, h3⟩ := rbP_ok h (h.enter a.keep (idsOf E fx st a.vars)) h0 hb
        exact ⟨im.2, new, ρ2, Z, im, h2, h1, rfl, h3⟩
      · rintro k f' w' ⟨new, ρ2, Z2, im, hbody, hi, rfl, hr⟩
        refine W_mono (ih _ _ _ _ _ ρ2 Z2 f' w' hr (hbody hi)) fun e f2 w2 q => ?_
        cases e with
        | normal =>
          obtain ⟨st', ρ', Z', hr', he⟩ := q
          obtain ⟨new2, ρ3, im2, g1, g2, g3⟩ := rbP_ok h hr' he hb
          exact ⟨im2.2, g1.2, new2, ρ3, Z', im2, g2, g1.1, rfl, g3⟩
        | ret => exact leaveQ h (by intro e; cases e) q
        | exit i => exact leaveQ h (by intro e; cases e) q
        | _ => obtain ⟨_, _, _, _, he⟩ := q; exact he.elim
  | _ => intro C fx lkd st K ρ Z f w h hv; exact hv.elim
end
end Go.Rx
end
section
namespace Go.Rx
open Go Go.Wk Go.Wl
section
variable {E : Env} {C : Ctx} {w : World} {ρ : Env1} {Z : Nat → Prop} {its lkd : Items E.N} {nx : Nat} {inl : Inl E} {an : Ann} {fn : Func} {K : Nat} {args : List E.SV} {vs : List Value}
theorem args_sl : ∀ {vs : List Value} {args : List E.SV} {n : Nat}, Rep E.N E.T ρ Z w (.tuple vs.toArray) (.tup args) → ∀ k s, lk (number n args) (n + k) = some s → Rep E.N E.T ρ Z w (nth vs k) s
  | vs, [], n, _, k, s, e => by cases e
  | vs, a :: args, n, h, k, s, e => by
    obtain ⟨v, r, rfl, h1, h2⟩ := Rep.tup_cons h
    have e : (bif Nat.beq n (n + k) then some a else lk (number (n + 1) args) (n + k)) = some s := e
    cases k with
    | zero => rw [Nat.add_zero, Nat.beq_refl, cond_true] at e; cases e; exact h1
    | succ k =>
      rw [beq_ne (by omega), cond_false] at e
      exact args_sl (n := n + 1) h2 k s (by rw [← e]; congr 1; omega)
theorem args_len : ∀ {vs : List Value} {args : List E.SV}, Rep E.N E.T ρ Z w (.tuple vs.toArray) (.tup args) → vs.length = args.length
  | vs, [], h => by
    generalize e : Value.tuple vs.toArray = u at h
    cases h with
    | tup0 => have : vs = [] := by simpa using e
              rw [this]; rfl
  | vs, a :: args, h => by
    obtain ⟨v, r, rfl, h1, h2⟩ := Rep.tup_cons h
    simp [args_len h2]
/-- What a walk of a function shows. -/
def Done (E : Env) (C : Ctx) (ρ : Env1) (Z : Nat → Prop) (w : World) (lkd : Items E.N) (k : E.SV → Items E.N → Nat → Prop) (v : Value) (w' : World) : Prop :=
  ∃ ρ' Z' s its' nx', Mem E C ρ' Z' w' (its' ++ lkd) nx' ∧ Tn ρ Z w ρ' Z' w' ∧ Rep E.N E.T ρ' Z' w' v s ∧ k s its' nx'
/-- An answer's value. -/
def getR (tmps : Array Value) : ResultVar → Sem Value
  | .tmp t => pure (tmps.getD t undef)
  | .cell a t => do loadVar t (← asAddr (tmps.getD a undef))
section
variable {P : Program} {tmps : Array Value} {v0 v1 v2 : Value} {r0 r1 r2 : ResultVar}
theorem results_0 (h : fn.results = #[]) : (results fn tmps).run P w = .ok (.tuple #[]) w := results_none h _ _ _
theorem results_1 (h : fn.results = #[r0]) (h0 : (getR tmps r0).run P w = .ok v0 w) : (results fn tmps).run P w = .ok v0 w := by
  have e : results fn tmps = (do let vs ← fn.results.mapM (getR tmps); pure (if h : vs.size = 1 then vs[0] else .tuple vs)) := rfl
  rw [e, h]
  simp only [List.mapM_toArray, List.mapM_cons, List.mapM_nil, Sem.run_bind, h0, Result.andThen_ok, Sem.run_pure, Sem.run_map]
  simp
theorem results_2 (h : fn.results = #[r0, r1]) (h0 : (getR tmps r0).run P w = .ok v0 w) (h1 : (getR tmps r1).run P w = .ok v1 w) : (results fn tmps).run P w = .ok (.tuple #[v0, v1]) w := by
  have e : results fn tmps = (do let vs ← fn.results.mapM (getR tmps); pure (if h : vs.size = 1 then vs[0] else .tuple vs)) := rfl
  rw [e, h]
  simp only [List.mapM_toArray, List.mapM_cons, List.mapM_nil, Sem.run_bind, h0, h1, Result.andThen_ok, Sem.run_pure, Sem.run_map]
  simp
theorem results_3 (h : fn.results = #[r0, r1, r2]) (h0 : (getR tmps r0).run P w = .ok v0 w) (h1 : (getR tmps r1).run P w = .ok v1 w) (h2 : (getR tmps r2).run P w = .ok v2 w) : (results fn tmps).run P w = .ok (.tuple #[v0, v1, v2]) w := by
  have e : results fn tmps = (do let vs ← fn.results.mapM (getR tmps); pure (if h : vs.size = 1 then vs[0] else .tuple vs)) := rfl
  rw [e, h]
  simp only [List.mapM_toArray, List.mapM_cons, List.mapM_nil, Sem.run_bind, h0, h1, h2, Result.andThen_ok, Sem.run_pure, Sem.run_map]
  simp
end
def RunR (P : Program) (fn : Func) (n : Nat) (f : Fr) (w : World) (v : Value) : Prop := ∀ a w1, Is a f n → Sim w w1 → (results fn a.tmps).run P w1 = .ok v w1
def RetV (P : Program) (fn : Func) (n : Nat) (R : Value → World → Prop) : Exit → Fr → World → Prop
  | .ret, f, w => ∃ v, RunR P fn n f w v ∧ R v w
  | .normal, f, w => ∃ v, RunR P fn n f w v ∧ R v w
  | _, _, _ => False
theorem Call_V {P : Program} {c : Code} {n : Nat} {args : List Value} {R : Value → World → Prop} (hf : P.funcs[K]? = some fn) (hb : fn.body = some c) (hn : fn.ntmps = n) (hs : Nat.ble args.length n = true) (h : W P n c (RetV P fn n R) (nth args) w) : CallR P K args w R :=
  Call_enter hf hb hn hs _ (fun e a w1 f w hf hv q => by
    cases e with
    | ret => obtain ⟨v, h1, h2⟩ := q; exact ⟨hf.defers, v, h1 a w1 hf hv, v, w, rfl, hv, h2⟩
    | normal => obtain ⟨v, h1, h2⟩ := q; exact ⟨hf.defers, v, h1 a w1 hf hv, v, w, rfl, hv, h2⟩
    | _ => exact q.elim) h
theorem run_loadVar {P : Program} {T : TypeId} {b mm : Nat} {cs : List Value} (hA : ∀ w, (isAgg T).run P w = .ok true w) (hz : ∀ w, (sizeOf T).run P w = .ok mm w) (hl : cs.length = mm) (hc : Cells w b 0 cs) : (loadVar T ⟨b, 0, none⟩).run P w = .ok (.agg cs.toArray) w := by
  have h := loadCellsFrom_run (P := P) hc cs.length 0 #[] (by omega)
  simp only [List.drop_zero, Array.empty_append] at h
  subst hl
  simp [loadVar, hA, hz, loadCells, h, go_sem]
theorem resS_ok {st : E.St} {f : Fr} {n : Nat} {fx : Slots E.N} {r : ResultVar} {s : E.SV} (h : Rel E C fx lkd st ρ Z f w) (e : resS st r = some s) : ∃ v, Rep E.N E.T ρ Z w v s ∧ ∀ a w1, Is a f n → Sim w w1 → (getR a.tmps r).run E.P w1 = .ok v w1 := by
  cases r with
  | tmp t =>
    exact ⟨f t, h.sl t s e, fun a w1 hi hs => by simp only [getR]; rw [hi.get]; rfl⟩
  | cell a0 T =>
    simp only [resS] at e
    split at e
    · rename_i id off hl
      split at e
      · rename_i Ty cells hi
        split at e
        · rename_i m hA hz
          have ⟨h1, h2⟩ := bif_some e
          simp only [Option.some.injEq] at h2; subst h2
          simp only [Bool.and_eq_true] at h1
          have e0 := Nat.eq_of_beq_eq_true h1.1
          have e1 := Nat.eq_of_beq_eq_true h1.2
          subst e0
          have hr := h.sl a0 _ hl
          obtain ⟨j, hj, _⟩ := lk_mem hi
          obtain ⟨L, cs, hL, hbs, ho, hrep⟩ := h.mem.holds (its_get (l2 := lkd) hj)
          have hL : ρ id = some L := hL
          have hp : f a0 = .pointer (some ⟨L.b, 0, none⟩) := by
            generalize f a0 = u at hr
            cases hr with | ref hL' => rw [hL] at hL'; cases hL'; rfl
          refine ⟨.agg cs.toArray, hrep, fun a w1 hi' hs => ?_⟩
          have hc : Cells w1 L.b 0 cs := Cells.sim ho.all hs
          have := run_loadVar (P := E.P) (w := w1) (mm := m) (agg_run hA) (fun w => run_size hz w) (by rw [hrep.len]; exact e1.symm) hc
          simp only [getR]
          rw [hi'.get, hp]
          rw [Sem.run_bind]
          simp only [asAddr, Sem.run_pure, Result.andThen_ok]
          exact this
        · cases e
      · cases e
    · cases e
theorem vcFun_ok (hE : EnvOK E) (hI : InlOK E inl) (hf : E.P.funcs[K]? = some fn) {k : E.SV → Items E.N → Nat → Prop} (hv : vcFun inl an fn args its lkd nx k) (hm : Mem E C ρ Z w (its ++ lkd) nx) (hg : E.G.is Z w) (ha : Rep E.N E.T ρ Z w (.tuple vs.toArray) (.tup args)) : CallR E.P K vs w (Done E C ρ Z w lkd k) := by
  unfold vcFun at hv
  split at hv
  · rename_i c hc
    cases hb : Nat.ble args.length fn.ntmps with
    | false => rw [hb] at hv; exact hv.elim
    | true =>
      rw [hb, cond_true] at hv
      have hle : Nat.ble vs.length fn.ntmps = true := by rw [args_len ha]; exact hb
      have h0 : Rel E (C.at ρ Z w) [] lkd ⟨number 0 args, [], its, nx⟩ ρ Z (nth vs) w := ⟨fun k s e => args_sl (n := 0) ha k s (by simpa using e), fun p hp => (by cases hp), fun k j b s e => (by cases e), hm.down, Tn.refl _ _ _, hg⟩
      have hw := vc_ok (an := ⟨fn.ntmps, an.loop, an.join⟩) hE hI c _ _ _ _ _ ρ Z (nth vs) w h0 hv
      refine Call_V hf hc rfl hle (W_mono hw fun e f' w' q => ?_)
      obtain ⟨st, ρ', Z', hr, he⟩ := q
      have fin : (match resV fn st with | some v => k v st.items st.nx | none => False) → ∃ v, RunR E.P fn fn.ntmps f' w' v ∧ Done E C ρ Z w lkd k v w' := fun hk => by
        split at hk
        · rename_i s hs
          have key : ∃ v, Rep E.N E.T ρ' Z' w' v s ∧ RunR E.P fn fn.ntmps f' w' v := by
            unfold resV at hs
            split at hs
            · rename_i e0
              cases hs
              exact ⟨_, .tup0, fun a w1 hi hs => results_0 (by apply Array.ext'; simpa using e0)⟩
            · rename_i r e0
              obtain ⟨v, h1, h2⟩ := resS_ok (n := fn.ntmps) hr hs
              exact ⟨v, h1, fun a w1 hi hs => results_1 (by apply Array.ext'; simpa using e0) (h2 a w1 hi hs)⟩
            · rename_i r1 r2 e0
              split at hs
              · rename_i a b ha hb
                cases hs
                obtain ⟨v1, h1, g1⟩ := resS_ok (n := fn.ntmps) hr ha
                obtain ⟨v2, h2, g2⟩ := resS_ok (n := fn.ntmps) hr hb
                exact ⟨.tuple #[v1, v2], .tup1 (cs := [v2]) h1 (.tup1 (cs := []) h2 .tup0), fun a w1 hi hs => results_2 (by apply Array.ext'; simpa using e0) (g1 a w1 hi hs) (g2 a w1 hi hs)⟩
              · cases hs
            · rename_i r1 r2 r3 e0
              split at hs
              · rename_i a b c ha hb hc
                cases hs
                obtain ⟨v1, h1, g1⟩ := resS_ok (n := fn.ntmps) hr ha
                obtain ⟨v2, h2, g2⟩ := resS_ok (n := fn.ntmps) hr hb
                obtain ⟨v3, h3, g3⟩ := resS_ok (n := fn.ntmps) hr hc
                exact ⟨.tuple #[v1, v2, v3], .tup1 (cs := [v2, v3]) h1 (.tup1 (cs := [v3]) h2 (.tup1 (cs := []) h3 .tup0)), fun a w1 hi hs => results_3 (by apply Array.ext'; simpa using e0) (g1 a w1 hi hs) (g2 a w1 hi hs) (g3 a w1 hi hs)⟩
              · cases hs
            · cases hs
          obtain ⟨v, h1, h2⟩ := key
          exact ⟨v, h2, ρ', Z', s, st.items, st.nx, Mem.upC hm hr.mem, hr.tn, h1, hk⟩
        · exact hk.elim
      cases e with
      | normal => exact fin he
      | ret => exact fin he
      | exit i => exact he.elim
      | _ => exact he.elim
  · exact hv.elim
theorem inlN_ok (hE : EnvOK E) (an : Nat → Ann) : ∀ m, InlOK E (inlN (E := E) an m)
  | 0 => fun _ _ _ _ _ _ h => h.elim
  | m + 1 => fun K args its lkd nx k h => by
    have h : (match E.inl K with | some fn => vcFun (inlN an m) (an K) fn args its lkd nx k | none => False) := h
    split at h
    · rename_i fn hf
      exact ⟨by rw [hf]; rfl, fun C ρ Z w vs hm hg ha => vcFun_ok hE (inlN_ok hE an m) (hE.inl K fn hf) h hm hg ha⟩
    · exact h.elim
/-- The ground of a function that is given nothing to turn. -/
def ctx0 (ρ : Env1) (Z : Nat → Prop) (w : World) : Ctx := ⟨ρ, Z, w, [], w⟩
theorem mem0 {nx : Nat} (hfr : ∀ i, nx ≤ i → ρ i = none) (hz : ∀ b, Z b → b < w.heap.size) : Mem E (ctx0 ρ Z w) ρ Z w [] nx :=
  ⟨Wl.Sep.nil hz, hfr, fun _ _ h => h, fun _ h => h, fun _ h => .inl h⟩
/-- A walk with nothing to turn, in words of the world alone. -/
theorem Done.pure {k : E.SV → Items E.N → Nat → Prop} {v : Value} {w' : World} (h : Done E (ctx0 ρ Z w) ρ Z w [] k v w') : ∃ ρ' Z' s its' nx', Ext [] w w' ∧ Mem E (ctx0 ρ Z w) ρ' Z' w' its' nx' ∧ Tn ρ Z w ρ' Z' w' ∧ Rep E.N E.T ρ' Z' w' v s ∧ k s its' nx' := by
  obtain ⟨ρ', Z', s, its', nx', hm, ht, hr, hk⟩ := h
  rw [List.append_nil] at hm
  exact ⟨ρ', Z', s, its', nx', hm.sep.ext, hm, ht, hr, hk⟩
end
end Go.Rx
end
section
namespace Go.Rx
open Go Go.Wk Go.Wl
section
variable {E : Env} {C : Ctx} {w : World} {ρ : Env1} {Z : Nat → Prop} {its : Items E.N} {nx : Nat} {inl : Inl E} {an : Ann} {fn : Func} {K : Nat} {args : List E.SV} {vs : List Value}
def itsOf (E : Env) : (k : VK) → k.den E.N → List (Item E.N)
  | .acc t, x => [.ac t x]
  | _, _ => []
def rvOf (E : Env) (nx : Nat) (k : VK) (x : k.den E.N) : E.SV := (fl1 E nx k x).1
theorem fl1_its (k : VK) (x : k.den E.N) : (fl1 E nx k x).2.1 = number nx (itsOf E k x) ∧ (fl1 E nx k x).2.2 = nx + (itsOf E k x).length := by cases k <;> exact ⟨rfl, rfl⟩
theorem number_len {β : Type} : ∀ (l : List β) (n : Nat), (number n l).length = l.length
  | [], _ => rfl
  | _ :: r, n => by simp [number, number_len r (n + 1)]
/-- Kinds whose values lead nowhere. -/
def bare (E : Env) : (k : VK) → k.den E.N → Prop
  | .int _, _ => True
  | .byte, _ => True
  | .bool, _ => True
  | .str, _ => True
  | .err, e => e = .nil ∨ ∃ n, e = .no n
  | _, _ => False
theorem bare_rep {k : VK} {x : k.den E.N} {v : Value} (hb : bare E k x) (h : Rep E.N E.T ρ Z w v (rvOf E nx k x)) : Rep E.N E.T (fun _ => none) (fun _ => False) w v (rvOf E nx k x) := by
  cases k with
  | int k => cases h with | int h => exact .int h
  | byte => cases h; exact .byte
  | bool => change Rep E.N E.T ρ Z w v (blB x) at h; cases h; exact .bl
  | str => cases h with | str h => exact .str h
  | err =>
    cases h with
    | err h =>
      rcases hb with rfl | ⟨n, rfl⟩
      · cases h; exact .err .nil
      · cases h with | no h => exact .err (.no h)
  | _ => exact hb.elim
theorem resP1 {k : VK} {x : k.den E.N} {s : E.SV} {i : Nat} (h : resP E [k] (fun y => y = x) s its i) : rb1 E its k s = some x := by
  unfold resP parts at h
  simp only [rbCells] at h
  cases hy : rb1 E its k s with
  | none => rw [hy] at h; exact h.elim
  | some y => rw [hy] at h; have h : y = x := h; rw [h]
theorem resP2 {k1 k2 : VK} {x1 : k1.den E.N} {x2 : k2.den E.N} {s : E.SV} {i : Nat} (h : resP E [k1, k2] (fun y z => y = x1 ∧ z = x2) s its i) : ∃ s1 s2, s = .tup [s1, s2] ∧ rb1 E its k1 s1 = some x1 ∧ rb1 E its k2 s2 = some x2 := by
  have one : ∀ u : E.SV, (match rbCells E its [k1, k2] [u] (fun y z => y = x1 ∧ z = x2) with | some p => p | none => False) → False := fun u h => by
    simp only [rbCells] at h
    cases hy : rb1 E its k1 u with
    | none => rw [hy] at h; exact h
    | some y => rw [hy] at h; exact h
  unfold resP at h
  cases s with
  | tup vs =>
    match vs, h with
    | [], h => exact h.elim
    | [u], h => exact (one u h).elim
    | [s1, s2], h =>
      simp only [parts, rbCells] at h
      cases hy : rb1 E its k1 s1 with
      | none => rw [hy] at h; exact h.elim
      | some y =>
        rw [hy] at h
        cases hz : rb1 E its k2 s2 with
        | none => simp only [hz] at h
        | some z => simp only [hz] at h; exact ⟨s1, s2, rfl, by rw [hy, h.1], by rw [hz, h.2]⟩
    | s1 :: s2 :: s3 :: r, h =>
      simp only [parts, rbCells] at h
      cases hy : rb1 E its k1 s1 with
      | none => rw [hy] at h; exact h.elim
      | some y =>
        rw [hy] at h
        cases hz : rb1 E its k2 s2 with
        | none => simp only [hz] at h
        | some z => simp only [hz] at h
  | _ => exact (one _ h).elim
theorem resP3 {k1 k2 k3 : VK} {x1 : k1.den E.N} {x2 : k2.den E.N} {x3 : k3.den E.N} {s : E.SV} {i : Nat} (h : resP E [k1, k2, k3] (fun y z u => y = x1 ∧ z = x2 ∧ u = x3) s its i) : ∃ s1 s2 s3, s = .tup [s1, s2, s3] ∧ rb1 E its k1 s1 = some x1 ∧ rb1 E its k2 s2 = some x2 ∧ rb1 E its k3 s3 = some x3 := by
  have one : ∀ u : E.SV, (match rbCells E its [k1, k2, k3] [u] (fun y z u => y = x1 ∧ z = x2 ∧ u = x3) with | some p => p | none => False) → False := fun u h => by
    simp only [rbCells] at h
    cases hy : rb1 E its k1 u with
    | none => rw [hy] at h; exact h
    | some y => rw [hy] at h; exact h
  unfold resP at h
  cases s with
  | tup vs =>
    match vs, h with
    | [], h => exact h.elim
    | [u], h => exact (one u h).elim
    | [s1, s2], h =>
      simp only [parts, rbCells] at h
      cases hy : rb1 E its k1 s1 with
      | none => rw [hy] at h; exact h.elim
      | some y =>
        rw [hy] at h
        cases hz : rb1 E its k2 s2 with
        | none => simp only [hz] at h
        | some z => simp only [hz] at h
    | [s1, s2, s3], h =>
      simp only [parts, rbCells] at h
      cases hy : rb1 E its k1 s1 with
      | none => rw [hy] at h; exact h.elim
      | some y =>
        rw [hy] at h
        cases hz : rb1 E its k2 s2 with
        | none => simp only [hz] at h
        | some z =>
          simp only [hz] at h
          cases hu : rb1 E its k3 s3 with
          | none => simp only [hu] at h
          | some u => simp only [hu] at h; exact ⟨s1, s2, s3, rfl, by rw [hy, h.1], by rw [hz, h.2.1], by rw [hu, h.2.2]⟩
    | s1 :: s2 :: s3 :: s4 :: r, h =>
      simp only [parts, rbCells] at h
      cases hy : rb1 E its k1 s1 with
      | none => rw [hy] at h; exact h.elim
      | some y =>
        rw [hy] at h
        cases hz : rb1 E its k2 s2 with
        | none => simp only [hz] at h
        | some z =>
          simp only [hz] at h
          cases hu : rb1 E its k3 s3 with
          | none => simp only [hu] at h
          | some u => simp only [hu] at h
  | _ => exact (one _ h).elim
/-- A lent call that answers one plain value. -/
theorem lend1 (hE : EnvOK E) (hI : InlOK E inl) (hf : E.P.funcs[K]? = some fn) {k : VK} {x : k.den E.N} {ob : List Prop} (hb : bare E k x) (hv : vcFun inl an fn args [] [] 0 (resP E [k] (fun y => y = x))) (n : Nat) : LendOK E K args ⟨ob, [], rvOf E n k x, []⟩ := fun D w vs hD hg ha =>
  (vcFun_ok (C := ctx0 (fun _ => none) D w) hE hI hf hv (mem0 (nx := 0) (fun _ _ => rfl) hD) hg ha).mono fun v w' h => by
    obtain ⟨ρ', Z', s, its', nx', hx, hm, ht, hr, hk⟩ := h.pure
    obtain ⟨ρ3, os', _, _, _, hr3, _⟩ := rb1_ok (lkd := []) (n2 := n) (ρ2 := fun _ => none) (os := []) (new := []) (by simpa using hm) hr (resP1 hk) (fun _ _ => rfl) .nil
    exact ⟨hx, bare_rep hb hr3, trivial⟩
theorem tup2_inv {v : Value} {s1 s2 : E.SV} (h : Rep E.N E.T ρ Z w v (.tup [s1, s2])) : ∃ v1 v2, v = .tuple #[v1, v2] ∧ Rep E.N E.T ρ Z w v1 s1 ∧ Rep E.N E.T ρ Z w v2 s2 := by
  obtain ⟨cs, rfl⟩ := Rep.tup_inv h
  obtain ⟨v1, r, rfl, h1, h⟩ := Rep.tup_cons h
  obtain ⟨v2, r, rfl, h2, h⟩ := Rep.tup_cons h
  have : r = [] := by
    generalize e : Value.tuple r.toArray = u at h
    cases h with | tup0 => simpa using e
  subst this
  exact ⟨v1, v2, rfl, h1, h2⟩
theorem tup3_inv {v : Value} {s1 s2 s3 : E.SV} (h : Rep E.N E.T ρ Z w v (.tup [s1, s2, s3])) : ∃ v1 v2 v3, v = .tuple #[v1, v2, v3] ∧ Rep E.N E.T ρ Z w v1 s1 ∧ Rep E.N E.T ρ Z w v2 s2 ∧ Rep E.N E.T ρ Z w v3 s3 := by
  obtain ⟨cs, rfl⟩ := Rep.tup_inv h
  obtain ⟨v1, r, rfl, h1, h⟩ := Rep.tup_cons h
  obtain ⟨v2, r, rfl, h2, h⟩ := Rep.tup_cons h
  obtain ⟨v3, r, rfl, h3, h⟩ := Rep.tup_cons h
  have : r = [] := by
    generalize e : Value.tuple r.toArray = u at h
    cases h with | tup0 => simpa using e
  subst this
  exact ⟨v1, v2, v3, rfl, h1, h2, h3⟩
theorem tup2 {v1 v2 : Value} {s1 s2 : E.SV} (h1 : Rep E.N E.T ρ Z w v1 s1) (h2 : Rep E.N E.T ρ Z w v2 s2) : Rep E.N E.T ρ Z w (.tuple #[v1, v2]) (.tup [s1, s2]) := .tup1 (cs := [v2]) h1 (.tup1 (cs := []) h2 .tup0)
theorem tup3 {v1 v2 v3 : Value} {s1 s2 s3 : E.SV} (h1 : Rep E.N E.T ρ Z w v1 s1) (h2 : Rep E.N E.T ρ Z w v2 s2) (h3 : Rep E.N E.T ρ Z w v3 s3) : Rep E.N E.T ρ Z w (.tuple #[v1, v2, v3]) (.tup [s1, s2, s3]) := .tup1 (cs := [v2, v3]) h1 (tup2 h2 h3)
theorem lend2 (hE : EnvOK E) (hI : InlOK E inl) (hf : E.P.funcs[K]? = some fn) {k1 k2 : VK} {x1 : k1.den E.N} {x2 : k2.den E.N} {ob : List Prop} (hb1 : bare E k1 x1) (hb2 : bare E k2 x2) (hv : vcFun inl an fn args [] [] 0 (resP E [k1, k2] (fun y z => y = x1 ∧ z = x2))) (n : Nat) : LendOK E K args ⟨ob, [], .tup [rvOf E n k1 x1, rvOf E n k2 x2], []⟩ := fun D w vs hD hg ha =>
  (vcFun_ok (C := ctx0 (fun _ => none) D w) hE hI hf hv (mem0 (nx := 0) (fun _ _ => rfl) hD) hg ha).mono fun v w' h => by
    obtain ⟨ρ', Z', s, its', nx', hx, hm, ht, hr, hk⟩ := h.pure
    obtain ⟨s1, s2, rfl, e1, e2⟩ := resP2 hk
    obtain ⟨v1, v2, rfl, h1, h2⟩ := tup2_inv hr
    obtain ⟨_, _, _, _, _, r1, _⟩ := rb1_ok (lkd := []) (n2 := n) (ρ2 := fun _ => none) (os := []) (new := []) (by simpa using hm) h1 e1 (fun _ _ => rfl) .nil
    obtain ⟨_, _, _, _, _, r2, _⟩ := rb1_ok (lkd := []) (n2 := n) (ρ2 := fun _ => none) (os := []) (new := []) (by simpa using hm) h2 e2 (fun _ _ => rfl) .nil
    exact ⟨hx, tup2 (bare_rep hb1 r1) (bare_rep hb2 r2), trivial⟩
theorem fl1_non {k : VK} {x : k.den E.N} (h : itsOf E k x = []) (n : Nat) : fl1 E n k x = (rvOf E nx k x, [], n) := by
  cases k with
  | acc t => cases h
  | _ => rfl
theorem acc_nd {k : VK} {s : E.SV} {l : List Nat} (h : l = accId k s ++ List.filterMap id ([] : List (Option Nat))) : l.Nodup := by rw [h]; unfold accId; split <;> simp
theorem con_end {os : List (Option Nat)} {new : Items E.N} {n2 : Nat} {ρ' ρ2 : Env1} {Z' : Nat → Prop} {w' : World} {its' : Items E.N} {nx' : Nat} (hm : Mem E (ctx0 (fun _ => none) Z w) ρ' Z' w' its' nx') (ht : Tgts E [] ρ' Z' w' its' ρ2 os new) (hnd : (os.filterMap id).Nodup) (hfr : ∀ i, n2 ≤ i → ρ2 i = none) :
    Sep [] w Z' w' (toIts E.N E.T ρ2 [] new) := by
  have := Mem.rebuild (lkd := []) (by simpa using hm) (fun _ h => by cases h) ht hnd hfr (fun _ _ h => by cases h)
  simpa [ctx0] using this.sep
theorem con1 (hE : EnvOK E) (hI : InlOK E inl) (hf : E.P.funcs[K]? = some fn) {k : VK} {x : k.den E.N} {ob : List Prop} (hp : args.all pureS = true) (hv : vcFun inl an fn args [] [] 0 (resP E [k] (fun y => y = x))) : ConOK E.P E.N E.T E.G K args nx ⟨ob, [], rvOf E nx k x, itsOf E k x⟩ :=
  ⟨fun ρ Z w vs hfr hz hg ha => (vcFun_ok (C := ctx0 (fun _ => none) Z w) hE hI hf hv (mem0 (fun _ _ => rfl) hz) hg (pureT_rep hp ha _)).mono fun v w' h => by
    obtain ⟨ρ', Z', s, its', nx', hx, hm, ht, hr, hk⟩ := h.pure
    obtain ⟨ρ3, os, t1, f1, s1, r1, o1⟩ := rb1_ok (lkd := []) (n2 := nx) (ρ2 := ρ) (os := []) (new := []) (by simpa using hm) hr (resP1 hk) hfr .nil
    rw [(fl1_its k x).1, List.append_nil] at t1
    rw [(fl1_its k x).2] at f1
    refine ⟨ρ3, Z', s1, f1, hm.zge, fun b hb => ?_, r1, con_end hm t1 (acc_nd o1) f1, trivial⟩
    rcases hm.zle b hb with h | h | h
    · exact .inl h
    · cases h
    · exact .inr h⟩
/-- One more answer, that lays nothing. -/
theorem rb_more {os : List (Option Nat)} {new : Items E.N} {n2 : Nat} {ρ' ρ2 : Env1} {Z' : Nat → Prop} {w' : World} {its' : Items E.N} {nx' : Nat} {C : Ctx} {k : VK} {x : k.den E.N} {v : Value} {s : E.SV} (hm : Mem E C ρ' Z' w' its' nx') (hu : Rep E.N E.T ρ' Z' w' v s) (h : rb1 E its' k s = some x) (hn : itsOf E k x = []) (hfr : ∀ i, n2 ≤ i → ρ2 i = none) (ht : Tgts E C.B0 ρ' Z' w' its' ρ2 os new) (hnd : (os.filterMap id).Nodup) :
    ∃ ρ3 os', Tgts E C.B0 ρ' Z' w' its' ρ3 os' new ∧ (∀ i, n2 ≤ i → ρ3 i = none) ∧ (∀ i L, ρ2 i = some L → ρ3 i = some L) ∧ Rep E.N E.T ρ3 Z' w' v (rvOf E nx k x) ∧ (os'.filterMap id).Nodup := by
  obtain ⟨ρ3, os', t, f, s1, r, o⟩ := rb1_ok (lkd := []) (by simpa using hm) hu h hfr ht
  rw [fl1_non (nx := nx) hn n2] at t f r
  refine ⟨ρ3, os', by simpa using t, f, s1, r, ?_⟩
  rw [o]
  cases k with
  | acc t => cases hn
  | _ => exact hnd
theorem con2 (hE : EnvOK E) (hI : InlOK E inl) (hf : E.P.funcs[K]? = some fn) {k1 k2 : VK} {x1 : k1.den E.N} {x2 : k2.den E.N} {ob : List Prop} (h2 : itsOf E k2 x2 = []) (hp : args.all pureS = true) (hv : vcFun inl an fn args [] [] 0 (resP E [k1, k2] (fun y z => y = x1 ∧ z = x2))) :
    ConOK E.P E.N E.T E.G K args nx ⟨ob, [], .tup [rvOf E nx k1 x1, rvOf E nx k2 x2], itsOf E k1 x1⟩ :=
  ⟨fun ρ Z w vs hfr hz hg ha => (vcFun_ok (C := ctx0 (fun _ => none) Z w) hE hI hf hv (mem0 (fun _ _ => rfl) hz) hg (pureT_rep hp ha _)).mono fun v w' h => by
    obtain ⟨ρ', Z', s, its', nx', hx, hm, ht, hr, hk⟩ := h.pure
    obtain ⟨s1, s2, rfl, e1, e2⟩ := resP2 hk
    obtain ⟨v1, v2, rfl, g1, g2⟩ := tup2_inv hr
    obtain ⟨ρ3, os, t1, f1, b1, r1, o1⟩ := rb1_ok (lkd := []) (n2 := nx) (ρ2 := ρ) (os := []) (new := []) (by simpa using hm) g1 e1 hfr .nil
    rw [(fl1_its k1 x1).1, List.append_nil] at t1
    rw [(fl1_its k1 x1).2] at f1
    obtain ⟨ρ4, os2, t2, f2, b2, r2, nd2⟩ := rb_more (nx := nx) hm g2 e2 h2 f1 t1 (acc_nd o1)
    refine ⟨ρ4, Z', sub_trans b1 b2, f2, hm.zge, fun b hb => ?_, tup2 (Rep.sub r1 b2) r2, con_end hm t2 nd2 f2, trivial⟩
    rcases hm.zle b hb with h | h | h
    · exact .inl h
    · cases h
    · exact .inr h⟩
theorem con3 (hE : EnvOK E) (hI : InlOK E inl) (hf : E.P.funcs[K]? = some fn) {k1 k2 k3 : VK} {x1 : k1.den E.N} {x2 : k2.den E.N} {x3 : k3.den E.N} {ob : List Prop} (h2 : itsOf E k2 x2 = []) (h3 : itsOf E k3 x3 = []) (hp : args.all pureS = true) (hv : vcFun inl an fn args [] [] 0 (resP E [k1, k2, k3] (fun y z u => y = x1 ∧ z = x2 ∧ u = x3))) :
    ConOK E.P E.N E.T E.G K args nx ⟨ob, [], .tup [rvOf E nx k1 x1, rvOf E nx k2 x2, rvOf E nx k3 x3], itsOf E k1 x1⟩ :=
  ⟨fun ρ Z w vs hfr hz hg ha => (vcFun_ok (C := ctx0 (fun _ => none) Z w) hE hI hf hv (mem0 (fun _ _ => rfl) hz) hg (pureT_rep hp ha _)).mono fun v w' h => by
    obtain ⟨ρ', Z', s, its', nx', hx, hm, ht, hr, hk⟩ := h.pure
    obtain ⟨s1, s2, s3, rfl, e1, e2, e3⟩ := resP3 hk
    obtain ⟨v1, v2, v3, rfl, g1, g2, g3⟩ := tup3_inv hr
    obtain ⟨ρ3, os, t1, f1, b1, r1, o1⟩ := rb1_ok (lkd := []) (n2 := nx) (ρ2 := ρ) (os := []) (new := []) (by simpa using hm) g1 e1 hfr .nil
    rw [(fl1_its k1 x1).1, List.append_nil] at t1
    rw [(fl1_its k1 x1).2] at f1
    obtain ⟨ρ4, os2, t2, f2, b2, r2, nd2⟩ := rb_more (nx := nx) hm g2 e2 h2 f1 t1 (acc_nd o1)
    obtain ⟨ρ5, os3, t3, f3, b3, r3, nd3⟩ := rb_more (nx := nx) hm g3 e3 h3 f2 t2 nd2
    refine ⟨ρ5, Z', sub_trans (sub_trans b1 b2) b3, f3, hm.zge, fun b hb => ?_, tup3 (Rep.sub (Rep.sub r1 b2) b3) (Rep.sub r2 b3) r3, con_end hm t3 nd3 f3, trivial⟩
    rcases hm.zle b hb with h | h | h
    · exact .inl h
    · cases h
    · exact .inr h⟩
end
end Go.Rx
end
section
namespace Go.Rx
open Go Go.Wk Go.Wl
section
variable {N : Uni} {T : ErrT} {ρ : Env1} {Z : Nat → Prop} {w : World} {cs cs' : List Value} {ls ls' : List (SV N)}
theorem RepL.split (n : Nat) (h : RepL N T ρ Z w cs ls) : RepL N T ρ Z w (cs.take n) (ls.take n) ∧ RepL N T ρ Z w (cs.drop n) (ls.drop n) := by
  induction n generalizing cs ls with
  | zero => exact ⟨by simpa using RepL.nil, by simpa using h⟩
  | succ n ih =>
    cases ls with
    | nil => obtain rfl := RepL.nil_inv h; exact ⟨by simpa using RepL.nil, by simpa using RepL.nil⟩
    | cons s r =>
      obtain ⟨v, rr, rfl, h1, hp, h2⟩ := RepL.cons_inv h
      obtain ⟨a, b⟩ := ih h2
      exact ⟨RepL.cons h1 hp a, b⟩
/-- One piece alone. -/
def pb {α : Type} (f : SV N → Option α) : List (SV N) → Option α
  | [s] => f s
  | _ => none
def asLN (N : Uni) (t : Nat) : SV N → Option (List (N.U t))
  | .nils => some []
  | .sl t' l => if h : t' = t then some (castL h l) else none
  | _ => none
theorem asLN_rd {t : Nat} {v : Value} {s : SV N} {l : List (N.U t)} (h : Rep N T ρ Z w v s) (e : asLN N t s = some l) : (dSlice (N.tb t).r).rd Z w [v] l := by
  cases h with
  | nils => simp [asLN] at e; subst e; exact dSlice_nil
  | sl h =>
    simp only [asLN] at e
    split at e
    · rename_i ht; subst ht; simp [castL] at e; subst e; exact h
    · cases e
  | _ => simp [asLN] at e
theorem pb_inv {α : Type} {f : SV N → Option α} {x : α} {r : Rd α} (hr : ∀ (v : Value) (s : SV N), Rep N T ρ Z w v s → f s = some x → r.rd Z w [v] x) (h : RepL N T ρ Z w cs ls) (e : pb f ls = some x) : r.rd Z w cs x := by
  unfold pb at e
  split at e
  · obtain ⟨v, rfl, h1, _⟩ := RepL.one_inv h; exact hr v _ h1 e
  · cases e
theorem pb_int {x : Int} (h : RepL N T ρ Z w cs ls) (e : pb asI64 ls = some x) : dInt.rd Z w cs x := pb_inv (fun v s h e => by have ⟨a, b⟩ := asI64_rd h e; rw [a]; exact ⟨rfl, b⟩) h e
theorem pb_byte {x : UInt8} (h : RepL N T ρ Z w cs ls) (e : pb asY ls = some x) : dByte.rd Z w cs x := pb_inv (r := dByte) (fun v s h e => by obtain rfl := asY_rd h e; rfl) h e
theorem pb_bool {x : Bool} (h : RepL N T ρ Z w cs ls) (e : pb asB ls = some x) : dBool.rd Z w cs x := pb_inv (r := dBool) (fun v s h e => by obtain rfl := asB_rd h e; rfl) h e
theorem pb_str {x : Str} (h : RepL N T ρ Z w cs ls) (e : pb asS ls = some x) : dStr.rd Z w cs x := pb_inv (r := dStr) (fun v s h e => by have ⟨a, b⟩ := asS_rd h e; rw [a]; exact ⟨rfl, b⟩) h e
theorem pb_sl {t : Nat} {x : List (N.U t)} (h : RepL N T ρ Z w cs ls) (e : pb (asLN N t) ls = some x) : (dSlice (N.tb t).r).rd Z w cs x := pb_inv (r := dSlice (N.tb t).r) (fun v s h e => asLN_rd h e) h e
theorem sv_sl {t : Nat} {x : List (N.U t)} (h : (dSlice (N.tb t).r).rd Z w cs x) : RepL N T ρ Z w cs [.sl t x] := by
  have hl := Rd.len _ h
  have hp := Rd.plain _ h
  match cs, hl with
  | [v], _ =>
    simp only [List.all_cons, List.all_nil, Bool.and_true] at hp
    exact RepL.one (.sl h) hp
theorem InI.in64 {x : Int} (h : InI x) : Go.Rx.in64 x := h
end
end Go.Rx
end
section
namespace Go.Rx
open Go Go.Wk Go.Wl
def addF {α : Type} (K : Nat) (x : α) (f : Nat → Option α) : Nat → Option α := fun k => bif Nat.beq k K then some x else f k
/-- One contract more: its arguments are lent, its answers lead nowhere. -/
def Env.addL (E : Env) (K : Nat) (C : List E.SV → Option (Q1 E.N)) : Env := ⟨E.P, E.N, E.T, E.ty, E.zob, addF K (fun a _ => (C a).map fun q => ⟨q.ob, q.hy, q.v, []⟩) E.con, fun k => bif Nat.beq k K then true else E.lend k, E.obc, E.inl, E.G, E.wrc⟩
/-- One contract more: its arguments are not turned from now on. -/
def Env.addC (E : Env) (K : Nat) (C : List E.SV → Nat → Option (CR E.N)) : Env := ⟨E.P, E.N, E.T, E.ty, E.zob, addF K C E.con, fun k => bif Nat.beq k K then false else E.lend k, E.obc, E.inl, E.G, E.wrc⟩
/-- One method more. -/
def Env.addO (E : Env) (K : Nat) (o : OC E.N) : Env := ⟨E.P, E.N, E.T, E.ty, E.zob, E.con, E.lend, addF K o E.obc, E.inl, E.G, E.wrc⟩
/-- One function more that is walked where it is called. -/
def Env.addI (E : Env) (K : Nat) (fn : Func) : Env := ⟨E.P, E.N, E.T, E.ty, E.zob, E.con, E.lend, E.obc, addF K fn E.inl, E.G, E.wrc⟩
/-- One call more that writes a number's cell. -/
def Env.addW (E : Env) (K : Nat) (o : WC E.N) : Env := ⟨E.P, E.N, E.T, E.ty, E.zob, E.con, E.lend, E.obc, E.inl, E.G, addF K o E.wrc⟩
section
variable {E : Env} {K : Nat}
abbrev CallOK (P : Program) (K : Nat) : Prop := ∀ xs w, (callFunc K xs).run P w = .ok (.enter K xs) w
theorem addF_inv {α : Type} {x y : α} {f : Nat → Option α} {k : Nat} (h : addF K x f k = some y) : (k = K ∧ y = x) ∨ f k = some y := by
  unfold addF at h
  cases hb : Nat.beq k K with
  | true => rw [hb, cond_true] at h; cases h; exact .inl ⟨Nat.eq_of_beq_eq_true hb, rfl⟩
  | false => rw [hb, cond_false] at h; exact .inr h
theorem addF_some {α : Type} {x : α} {f : Nat → Option α} {k : Nat} (h : (addF K x f k).isSome = true) : k = K ∨ (f k).isSome = true := by
  obtain ⟨y, hy⟩ := Option.isSome_iff_exists.1 h
  rcases addF_inv hy with ⟨e, _⟩ | e
  · exact .inl e
  · exact .inr (by rw [e]; rfl)
theorem LendOK.con {args : List E.SV} {c : CR E.N} {nx : Nat} (h : LendOK E K args c) (hi : c.its = []) (hp : args.all pureS = true) : ConOK E.P E.N E.T E.G K args nx c :=
  ⟨fun ρ Z w vs hfr hz hg ha => (h Z w vs hz hg (pureT_rep hp ha _)).mono fun v w' ⟨x, r, hy⟩ => ⟨ρ, Z, fun _ _ h => h, by rw [hi]; exact hfr, fun _ h => h, fun _ h => .inl h, Rep.bare r, by
    rw [hi]
    exact ⟨x, fun b hb => by have := hz b hb; have := x.size; omega, fun k t h => by simp [toIts, number] at h, fun j k s t h => by simp [toIts, number] at h⟩, hy⟩⟩
theorem EnvOK.addL (h : EnvOK E) {C : List E.SV → Option (Q1 E.N)} (hc : CallOK E.P K) (ok : ∀ args q, C args = some q → allP q.ob → LendOK E K args ⟨q.ob, q.hy, q.v, []⟩) : EnvOK (E.addL K C) := by
  refine ⟨h.mixed, h.zob, fun k hk => ?_, h.inl, fun k f args nx c hf hr hp ho => ?_, fun k f args nx c hf hl hr hi ho => ?_, h.obc, h.wrc⟩
  · by_cases e : k = K
    · subst e; exact hc
    · refine h.call k ?_
      simp only [Bool.or_eq_true] at hk ⊢
      rcases hk with ((hk | hk) | hk) | hk
      · rcases addF_some hk with e' | e'
        · exact absurd e' e
        · exact .inl (.inl (.inl e'))
      · exact .inl (.inl (.inr hk))
      · exact .inl (.inr hk)
      · exact .inr hk
  · rcases addF_inv hf with ⟨e1, e2⟩ | hf
    · rw [e2] at hr
      obtain ⟨q, hq, e3⟩ := Option.map_eq_some_iff.1 hr
      subst e3
      rw [e1]
      exact (ok args q hq ho).con rfl hp
    · exact h.con k f args nx c hf hr hp ho
  · rcases addF_inv hf with ⟨e1, e2⟩ | hf'
    · rw [e2] at hr
      obtain ⟨q, hq, e3⟩ := Option.map_eq_some_iff.1 hr
      subst e3
      rw [e1]
      exact ok args q hq ho
    · by_cases e : k = K
      · have hf : addF K (fun a _ => (C a).map fun q => (⟨q.ob, q.hy, q.v, []⟩ : CR E.N)) E.con k = some f := hf
        unfold addF at hf
        rw [e, Nat.beq_refl, cond_true] at hf
        have e2 := Option.some.inj hf
        rw [← e2] at hr
        obtain ⟨q, hq, e3⟩ := Option.map_eq_some_iff.1 hr
        subst e3
        rw [e]
        exact ok args q hq ho
      · refine h.lend k f args nx c hf' ?_ hr hi ho
        have hl : (bif Nat.beq k K then true else E.lend k) = true := hl
        rw [beq_ne e, cond_false] at hl; exact hl
theorem EnvOK.addC (h : EnvOK E) {C : List E.SV → Nat → Option (CR E.N)} (hc : CallOK E.P K) (ok : ∀ args nx c, C args nx = some c → args.all pureS = true → allP c.ob → ConOK E.P E.N E.T E.G K args nx c) : EnvOK (E.addC K C) := by
  refine ⟨h.mixed, h.zob, fun k hk => ?_, h.inl, fun k f args nx c hf hr hp ho => ?_, fun k f args nx c hf hl hr hi ho => ?_, h.obc, h.wrc⟩
  · by_cases e : k = K
    · subst e; exact hc
    · refine h.call k ?_
      simp only [Bool.or_eq_true] at hk ⊢
      rcases hk with ((hk | hk) | hk) | hk
      · rcases addF_some hk with e' | e'
        · exact absurd e' e
        · exact .inl (.inl (.inl e'))
      · exact .inl (.inl (.inr hk))
      · exact .inl (.inr hk)
      · exact .inr hk
  · rcases addF_inv hf with ⟨e1, e2⟩ | hf
    · rw [e2] at hr
      rw [e1]; exact ok args nx c hr hp ho
    · exact h.con k f args nx c hf hr hp ho
  · have hl : (bif Nat.beq k K then false else E.lend k) = true := hl
    have e : k ≠ K := fun e => by subst e; rw [Nat.beq_refl, cond_true] at hl; cases hl
    rw [beq_ne e, cond_false] at hl
    rcases addF_inv hf with ⟨e', _⟩ | hf'
    · exact absurd e' e
    · exact h.lend k f args nx c hf' hl hr hi ho
theorem EnvOK.addO (h : EnvOK E) {o : OC E.N} (hc : CallOK E.P K) (ok : ∀ x args r, o.C x args = some r → allP r.ob → ObcOK E K o x args r) : EnvOK (E.addO K o) := by
  refine ⟨h.mixed, h.zob, fun k hk => ?_, h.inl, h.con, h.lend, fun k o' x args r ho hr hob => ?_, h.wrc⟩
  · by_cases e : k = K
    · subst e; exact hc
    · refine h.call k ?_
      simp only [Bool.or_eq_true] at hk ⊢
      rcases hk with ((hk | hk) | hk) | hk
      · exact .inl (.inl (.inl hk))
      · rcases addF_some hk with e' | e'
        · exact absurd e' e
        · exact .inl (.inl (.inr e'))
      · exact .inl (.inr hk)
      · exact .inr hk
  · rcases addF_inv ho with ⟨e1, e2⟩ | ho
    · cases e2
      rw [e1]; exact ok x args r hr hob
    · exact h.obc k o' x args r ho hr hob
theorem EnvOK.addI (h : EnvOK E) {fn : Func} (hc : CallOK E.P K) (hf : E.P.funcs[K]? = some fn) : EnvOK (E.addI K fn) := by
  refine ⟨h.mixed, h.zob, fun k hk => ?_, fun k g hg => ?_, h.con, h.lend, h.obc, h.wrc⟩
  · by_cases e : k = K
    · subst e; exact hc
    · refine h.call k ?_
      simp only [Bool.or_eq_true] at hk ⊢
      rcases hk with ((hk | hk) | hk) | hk
      · exact .inl (.inl (.inl hk))
      · exact .inl (.inl (.inr hk))
      · rcases addF_some hk with e' | e'
        · exact absurd e' e
        · exact .inl (.inr e')
      · exact .inr hk
  · rcases addF_inv hg with ⟨rfl, rfl⟩ | hg
    · exact hf
    · exact h.inl k g hg
theorem EnvOK.addW (h : EnvOK E) {o : WC E.N} (hc : CallOK E.P K) (ok : ∀ a x r, o.C a x = some r → allP r.ob → WrcOK E K o a x r) : EnvOK (E.addW K o) := by
  refine ⟨h.mixed, h.zob, fun k hk => ?_, h.inl, h.con, h.lend, h.obc, fun k o' a x r ho hr hob => ?_⟩
  · by_cases e : k = K
    · subst e; exact hc
    · refine h.call k ?_
      simp only [Bool.or_eq_true] at hk ⊢
      rcases hk with ((hk | hk) | hk) | hk
      · exact .inl (.inl (.inl hk))
      · exact .inl (.inl (.inr hk))
      · exact .inl (.inr hk)
      · rcases addF_some hk with e' | e'
        · exact absurd e' e
        · exact .inr e'
  · rcases addF_inv ho with ⟨e1, e2⟩ | ho
    · cases e2
      rw [e1]; exact ok a x r hr hob
    · exact h.wrc k o' a x r ho hr hob
end
end Go.Rx
end
section
namespace Go.Rx
open Go Go.Wk Go.Wl
/-- The number that an error leads to, if it leads to one. -/
def Err.num : Err → Option Int
  | .nil => none
  | .no n => some n
  | .fault _ n => some n
  | .w _ _ e => e.num
def Err.is (e : Err) (n : Int) : Prop := e.num = some n
instance (e : Err) (n : Int) : Decidable (e.is n) := by unfold Err.is; infer_instance
/-- What the statements' own No says. -/
def Err.nr (e : Err) : Int := match e with
  | .nil => 0
  | e => match e.num with | some n => if 1 ≤ n ∧ n ≤ 16 then n else -1 | none => -1
/-- What api.Place says. -/
def Err.at_ : Err → Int
  | .fault a _ => a
  | .w _ _ e => e.at_
  | _ => 0
theorem lend3 {E : Env} {inl : Inl E} {an : Ann} {fn : Func} {K : Nat} {args : List E.SV} (hE : EnvOK E) (hI : InlOK E inl) (hf : E.P.funcs[K]? = some fn) {k1 k2 k3 : VK} {x1 : k1.den E.N} {x2 : k2.den E.N} {x3 : k3.den E.N} {ob : List Prop} (hb1 : bare E k1 x1) (hb2 : bare E k2 x2) (hb3 : bare E k3 x3) (hv : vcFun inl an fn args [] [] 0 (resP E [k1, k2, k3] (fun y z u => y = x1 ∧ z = x2 ∧ u = x3))) (n : Nat) : LendOK E K args ⟨ob, [], .tup [rvOf E n k1 x1, rvOf E n k2 x2, rvOf E n k3 x3], []⟩ := fun D w vs hD hg ha =>
  (vcFun_ok (C := ctx0 (fun _ => none) D w) hE hI hf hv (mem0 (nx := 0) (fun _ _ => rfl) hD) hg ha).mono fun v w' h => by
    obtain ⟨ρ', Z', s, its', nx', hx, hm, ht, hr, hk⟩ := h.pure
    obtain ⟨s1, s2, s3, rfl, e1, e2, e3⟩ := resP3 hk
    obtain ⟨v1, v2, v3, rfl, h1, h2, h3⟩ := tup3_inv hr
    obtain ⟨_, _, _, _, _, r1, _⟩ := rb1_ok (lkd := []) (n2 := n) (ρ2 := fun _ => none) (os := []) (new := []) (by simpa using hm) h1 e1 (fun _ _ => rfl) .nil
    obtain ⟨_, _, _, _, _, r2, _⟩ := rb1_ok (lkd := []) (n2 := n) (ρ2 := fun _ => none) (os := []) (new := []) (by simpa using hm) h2 e2 (fun _ _ => rfl) .nil
    obtain ⟨_, _, _, _, _, r3, _⟩ := rb1_ok (lkd := []) (n2 := n) (ρ2 := fun _ => none) (os := []) (new := []) (by simpa using hm) h3 e3 (fun _ _ => rfl) .nil
    exact ⟨hx, tup3 (bare_rep hb1 r1) (bare_rep hb2 r2) (bare_rep hb3 r3), trivial⟩
/-! ### Builders -/
theorem ownsRowF_stab {w w' : World} {e : TypeId} {v : Value} {n : Nat} {xs : List Value} {B : List Nat} (h : w.ownsRowF 0 e 1 v n xs) (x : Ext B w w') (hB : ∀ k, v.ownBlock = some k → k ∉ B) : w'.ownsRowF 0 e 1 v n xs := by
  refine ⟨h.1, ?_⟩
  rcases h.2 with h0 | ⟨g, cap, cur, fz, rfl, h1, h2, h3⟩
  · exact .inl h0
  · exact .inr ⟨g, cap, cur, fz, rfl, h1, x.get (hB g rfl) h2, h3⟩
def bldF (b : Nat) (v : Value) : List Nat := b :: v.ownBlock.toList
def BldIs (T e b : Nat) (w : World) (x : Str) (F : List Nat) : Prop :=
  ∃ p v, (p = .pointer none ∨ p = .pointer (some ⟨b, 0, none⟩)) ∧ w.heap[b]? = some (.cells #[p, v] T (0, 0)) ∧ w.ownsRowF 0 e 1 v x.length (Lib.byteCells x) ∧ v.ownBlock ≠ some b ∧ F = bldF b v
def bld (T e b : Nat) : Ob Str where
  is := fun _ w x F => BldIs T e b w x F
  stab := fun {x F} Z Z' B w w' h ext hB _ => by
    obtain ⟨p, v, hp, hb, ho, hne, rfl⟩ := h
    have hbl : b < w.heap.size := by
      rcases Nat.lt_or_ge b w.heap.size with h | h
      · exact h
      · rw [Array.getElem?_eq_none h] at hb; cases hb
    have nb : b ∉ B := fun hm => by have := hB b hm (.inl (by simp [bldF])); omega
    refine ⟨p, v, hp, ext.get nb hb, ownsRowF_stab ho ext fun k hk hm => ?_, hne, rfl⟩
    have := hB k hm (.inl (by simp [bldF, hk]))
    have := (ho.lt k hk).2
    omega
  lt := fun {Z w x F} h b' hb' => by
    obtain ⟨p, v, hp, hb, ho, hne, rfl⟩ := h
    rcases List.mem_cons.1 hb' with rfl | hm
    · rcases Nat.lt_or_ge b' w.heap.size with h | h
      · exact h
      · rw [Array.getElem?_eq_none h] at hb; cases hb
    · have : v.ownBlock = some b' := by simpa using hm
      exact (ho.lt b' this).2
theorem bld_zero {T e b : Nat} {w : World} (h : Own w b T [.pointer none, .slice none 0 0]) : BldIs T e b w [] [b] :=
  ⟨.pointer none, .slice none 0 0, .inl rfl, h, World.ownsRowF_nil w 0 e 1, by simp [Value.ownBlock], by simp [bldF, Value.ownBlock]⟩
/-- A builder that may be fresh. -/
def bldO (T e b : Nat) : Ob (Option Str) where
  is := fun _ w x F => match x with
    | none => Own w b T [.pointer none, .slice none 0 0] ∧ F = [b]
    | some s => BldIs T e b w s F
  stab := fun {x F} Z Z' B w w' h ext hB hz => by
    cases x with
    | none => exact ⟨h.1.ext ext (fun hm => by have := hB b hm (.inl (by rw [h.2]; simp)); have := h.1.lt; omega), h.2⟩
    | some s => exact (bld T e b).stab Z Z' B w w' h ext hB hz
  lt := fun {Z w x F} h => by
    cases x with
    | none => intro b' hb'; rw [h.2] at hb'; rw [List.mem_singleton.1 hb']; exact h.1.lt
    | some s => exact (bld T e b).lt (Z := Z) h
/-- What a builder's call leaves: another row, or the same; nothing else that was there is turned. -/
theorem bld_after {T e b : Nat} {w w' : World} {v v' : Value} {p : Value} {x' : Str} {F : List Nat} (hF : F = bldF b v) (hp : p = .pointer none ∨ p = .pointer (some ⟨b, 0, none⟩)) (hb : w'.heap[b]? = some (.cells #[p, v'] T (0, 0))) (ho : w'.ownsRowF 0 e 1 v' x'.length (Lib.byteCells x')) (hne : v'.ownBlock ≠ some b)
    (ext : Ext F w w') (hv : ∀ k, v'.ownBlock = some k → v.ownBlock = some k ∨ w.heap.size ≤ k) : ∃ F', BldIs T e b w' x' F' ∧ Turn w w' F F' :=
  ⟨bldF b v', ⟨p, v', hp, hb, ho, hne, rfl⟩, ext, fun k hk => by
    rcases List.mem_cons.1 hk with rfl | hk
    · exact .inl (by rw [hF]; simp [bldF])
    · rcases hv k (by simpa using hk) with h | h
      · exact .inl (by rw [hF]; simp [bldF, h])
      · exact .inr h⟩
section
open Go.Lib
variable {P : Program} (w : World)
/-- A text is put behind a row of bytes of one's own: the row stays, or there is a new one. -/
theorem run_append_bld (t u ty e : TypeId) (i : TypeInfo) (ht : P.underlying t = some (.slice e)) (hu : P.underlying u = some .string) (hi : P.info? e = some i) (hz : i.zero = some (.int .u8 0)) (hsize : i.size = 1) (hby : i.bytes = 1)
    (v : Value) (n : Nat) (xs : List Value) (hown : w.ownsRowF 0 e 1 v n xs) (s : ByteArray) (h63 : n + s.size ≤ maxLen) (hbytes : n + s.size ≤ 140737488355328) :
    ∃ v' w', (Builtin.append_ #[t, u] ty #[v, .string s]).run P w = .ok v' w' ∧ w'.ownsRowF 0 e 1 v' (n + s.size) (xs ++ strCells s) ∧ w.grownBy w' v.ownBlock ∧ ∀ k, v'.ownBlock = some k → v.ownBlock = some k ∨ w.heap.size ≤ k := by
  rcases hown.2 with ⟨rfl, rfl⟩ | ⟨g, cap, cur, fz, rfl, hbg, hg, hfz, hnc, hcm, hcs, htake⟩
  · obtain ⟨v', w', h1, h2, h3, h4⟩ := run_append_own_string (P := P) w w.heap.size t u ty e i ht hu hi hz hsize hby (.slice none 0 0) 0 xs ⟨hown.1, .inl ⟨rfl, rfl⟩⟩ s h63 hbytes (Nat.le_refl _)
    refine ⟨v', w', h1, ⟨h2.1, ?_⟩, h3, fun k hk => .inr (h2.lt k hk).1⟩
    rcases h2.2 with h | ⟨g, cap, cur, hv, _, r⟩
    · exact .inl h
    · exact .inr ⟨g, cap, cur, (0, 0), hv, Nat.zero_le _, r.1, Nat.zero_le _, r.2⟩
  · obtain ⟨v', w', r1, r2, r3, _⟩ := run_append_own_stringF (P := P) w 0 t u ty e i ht hu hi hz hsize hby _ n xs hown s h63 hbytes (Nat.zero_le _)
    refine ⟨v', w', r1, r2, r3, fun k hk => ?_⟩
    have hsmall : n + s.size ≤ 9223372036854775807 := by simp only [maxLen] at h63; omega
    have hxl : xs.length = n := by simpa using hown.1
    by_cases hroom : n + s.size ≤ cap
    · have hcs' : cur.size = cap := by simpa using hcs
      have hr := run_append_room_stringF (P := P) w t u ty e i ht hu hi hsize g n cap cur fz hg (by simpa using hfz) s hroom (by omega)
      rw [hr] at r1
      cases r1
      exact .inl hk
    · have holds : ∀ j u, xs[j]? = some u → w.cell? ((⟨g, 0, none⟩ : Addr).add j) = some u := hown.cells (g := g) rfl
      have hr := run_append_grow_string (P := P) w t u ty e i (.int .u8 0) ht hu hi hz ⟨g, 0, none⟩ n cap xs (by rw [hsize]; simpa using hxl) holds s (by omega) (by omega) (by rw [hby]; exact growslice_fits (by omega) (by omega))
      rw [hr] at r1
      cases r1
      exact .inr (by have := Option.some.inj hk; simp only at this; omega)
theorem wpList_append_bld {ops : Array Oper} {rest : List Oper} {o : Oper} {a : Act} {Q : Exit → Act → World → Prop} (hgd : o.guard = none) (sl x : Operand) (t u : TypeId)
    (ho : o.op = .call { callee := .builtin .append, args := #[sl, x], argTypes := #[t, u] }) (e : TypeId) (i : TypeInfo) (ht : P.underlying t = some (.slice e)) (hu : P.underlying u = some .string) (hi : P.info? e = some i) (hz : i.zero = some (.int .u8 0))
    (hsize : i.size = 1) (hby : i.bytes = 1) (v : Value) (n : Nat) (xs : List Value) (hs : a.eval sl = v) (hown : w.ownsRowF 0 e 1 v n xs) (s : ByteArray) (hx : a.eval x = .string s) (h63 : n + s.size ≤ maxLen) (hbytes : n + s.size ≤ 140737488355328)
    (h : ∀ v' w', w'.ownsRowF 0 e 1 v' (n + s.size) (xs ++ strCells s) → w.grownBy w' v.ownBlock → (∀ k, v'.ownBlock = some k → v.ownBlock = some k ∨ w.heap.size ≤ k) → wpList P ops Q rest (a.put o.dst v') w') : wpList P ops Q (o :: rest) a w := by
  refine wpList_plain hgd fun K hK => ?_
  obtain ⟨v', w', hr, h2, h3, h4⟩ := run_append_bld (P := P) w t u o.type e i ht hu hi hz hsize hby v n xs hown s h63 hbytes
  unfold Oper.wp execOp
  simp only [ho, resolve, invoke, builtin, Sem.run_bind, Sem.run_pure, Result.andThen_ok, List.map_toArray, List.map_cons, List.map_nil, hs, hx, hr]
  exact hK _ _ (h v' w' h2 h3 h4)
end
theorem Ext.ofGrown {w w' : World} {row : Option Nat} (h : w.grownBy w' row) : Ext row.toList w w' :=
  ⟨h.os, h.tape, h.output, h.size, fun k hk hm => h.block k hk (fun e => hm (by simp [← e]))⟩
end Go.Rx
end
section
namespace Go.Rx
open Go Go.Wk Go.Wl
/-- Values of several kinds. -/
def Vals (N : Uni) : List VK → Type
  | [] => Unit
  | k :: r => k.den N × Vals N r
/-- All that was read is ars given. -/
def eqs (N : Uni) : (ks : List VK) → Vals N ks → List Prop → cellsDen N Prop ks
  | [], _, ps => cjl ps
  | _ :: r, X, ps => fun x => eqs N r X.2 (ps ++ [x = X.1])
structure MR (N : Uni) where
  ob : List Prop
  hy : List Prop
  r : SV N
  cells : List (SV N)
/-- A method: the struct's type; what is told of it by the other arguments and the cells. -/
structure MC (N : Uni) where
  S : Nat
  C : List (SV N) → List (SV N) → Option (MR N)
def MutOK (P : Program) (N : Uni) (T : ErrT) (G : Glob) (K S : Nat) (args cells : List (SV N)) (r : MR N) : Prop :=
  ∀ (Z : Nat → Prop) (w : World) (vs : List Value) (b : Nat) (cs : List Value), (∀ b, Z b → b < w.heap.size) → ¬ Z b → G.is Z w → Rep N T (fun _ => none) Z w (.tuple vs.toArray) (.tup args) → Own w b S cs → RepL N T (fun _ => none) Z w cs cells →
    CallR P K (.pointer (some ⟨b, 0, none⟩) :: vs) w (fun v w' => ∃ (Z' : Nat → Prop) (cs' : List Value), Ext [b] w w' ∧ (∀ b, Z b → Z' b) ∧ (∀ b', Z' b' → Z b' ∨ (w.heap.size ≤ b' ∧ b' < w'.heap.size)) ∧ ¬ Z' b ∧ Own w' b S cs' ∧ RepL N T (fun _ => none) Z' w' cs' r.cells ∧ Rep N T (fun _ => none) Z' w' v r.r ∧ allP r.hy)
def inlM (E : Env) (M : Nat → Option (MC E.N)) (inl : Inl E) : Inl E := fun K args its lkd nx k => match M K with
  | none => inl K args its lkd nx k
  | some o => (match args with
    | .ref id off :: rest => bif Nat.beq off 0 && rest.all pureS && (E.inl K).isSome then (match lk its id with
      | some (.own S cells) => bif Nat.beq S o.S && cells.all pureS then (match o.C rest cells with
        | some r => cj r.ob (im r.hy (k r.r (upd1 its id (.own S r.cells)) nx))
        | none => False) else False
      | _ => False) else False
    | _ => False)
section
variable {E : Env} {C : Ctx} {w w' : World} {ρ ρ' : Env1} {Z Z' : Nat → Prop} {its lkd : Items E.N} {nx : Nat} {inl : Inl E}
theorem none_sub {v : Value} {s : E.SV} (h : Rep E.N E.T (fun _ => none) Z w v s) : Rep E.N E.T ρ Z w v s := Rep.sub h (fun _ _ h => by cases h)
theorem none_subL {cs : List Value} {ss : List E.SV} (h : RepL E.N E.T (fun _ => none) Z w cs ss) : RepL E.N E.T ρ Z w cs ss := none_sub (s := .agg ss) h
theorem pureL_rep {cs : List Value} {ss : List E.SV} (hp : ss.all pureS = true) (h : RepL E.N E.T ρ Z w cs ss) (ρ' : Env1) : RepL E.N E.T ρ' Z w cs ss := by
  induction ss generalizing cs with
  | nil => obtain rfl := RepL.nil_inv h; exact RepL.nil
  | cons s ss ih =>
    obtain ⟨v, r, rfl, h1, hv, h2⟩ := RepL.cons_inv h
    simp only [List.all_cons, Bool.and_eq_true] at hp
    exact RepL.cons (pureS_rep hp.1 h1 ρ') hv (ih hp.2 h2)
/-- One part turned by a call that keeps new memory. -/
theorem Mem.mut {j id : Nat} {i i' : Item E.N} (hm : Mem E C ρ Z w its nx) (hj : its[j]? = some (id, i)) (e : Ext (foot E.N ρ id i) w w') (hZ : ∀ b, Z b → Z' b) (hZ' : ∀ b, Z' b → Z b ∨ (w.heap.size ≤ b ∧ b < w'.heap.size)) (hh : Go.Rx.holds E.N E.T ρ id Z' w' i') (hF : foot E.N ρ id i' = foot E.N ρ id i) : Mem E C ρ Z' w' (its.set j (id, i')) nx ∧ Tn ρ Z w ρ Z' w' := by
  have ok := hm.sep.ok j _ (toIts_at hj)
  have hs := Wl.Sep.updZ hm.sep j (toIts_at hj) (t' := toIt E.N E.T ρ C.B0 id i') e hh toIt_stab (fun b hb => by
    have hb : b ∈ foot E.N ρ id i := by rw [← hF]; exact hb
    have hlt := ok.lt b hb
    refine ⟨.inl hb, by have := e.size; omega, fun hz => ?_⟩
    rcases hZ' b hz with h | h
    · exact ok.notZ b hb h
    · omega) hZ hZ' rfl
  refine ⟨⟨?_, hm.fr, hm.ge, fun b hb => hZ b (hm.zge b hb), fun b hb => ?_⟩, fun _ _ h => h, fun b h _ => hZ b h, _, e, fun b hb hz => absurd hz (ok.notZ b hb)⟩
  · have : (toIts E.N E.T ρ C.B0 its).set j (toIt E.N E.T ρ C.B0 id i') = toIts E.N E.T ρ C.B0 (its.set j (id, i')) := by simp [toIts, List.map_set]
    rw [← this]; exact hs
  · rcases hZ' b hb with h | h
    · exact hm.zle b h
    · exact .inr (.inr (by have := hm.sep.ext.size; omega))
theorem inlM_ok {M : Nat → Option (MC E.N)} (hM : ∀ K o args cells r, M K = some o → o.C args cells = some r → allP r.ob → MutOK E.P E.N E.T E.G K o.S args cells r) (hI : InlOK E inl) : InlOK E (inlM E M inl) := by
  intro K args its lkd nx k hv
  unfold inlM at hv
  split at hv
  · exact hI K args its lkd nx k hv
  · rename_i o ho
    split at hv
    · rename_i id off rest
      cases hb : (Nat.beq off 0 && rest.all pureS && (E.inl K).isSome) with
      | false => rw [hb, cond_false] at hv; exact hv.elim
      | true =>
        rw [hb, cond_true] at hv
        simp only [Bool.and_eq_true] at hb
        obtain ⟨⟨h0, hp⟩, hin⟩ := hb
        have h0 := Nat.eq_of_beq_eq_true h0
        subst h0
        refine ⟨hin, fun C ρ Z w vs hm hg ha => ?_⟩
        split at hv
        · rename_i S cells hi
          cases hb : (Nat.beq S o.S && cells.all pureS) with
          | false => rw [hb, cond_false] at hv; exact hv.elim
          | true =>
            rw [hb, cond_true] at hv
            simp only [Bool.and_eq_true] at hb
            obtain ⟨hS, hpc⟩ := hb
            have hS := Nat.eq_of_beq_eq_true hS
            subst hS
            split at hv
            · rename_i r hr
              obtain ⟨hob, hv⟩ := cj_ob hv
              obtain ⟨j, hj, hu, _⟩ := lk_mem hi
              have hjg := its_get (l2 := lkd) hj
              obtain ⟨L, cs, hL, hbs, hown, hrep⟩ := hm.holds hjg
              have hL : ρ id = some L := hL
              obtain ⟨v1, vr, hvs, hv1, hvr⟩ := Rep.tup_cons ha
              have hv1' : v1 = .pointer (some ⟨L.b, 0, none⟩) := by
                cases hv1 with
                | ref hL' => rw [hL] at hL'; cases hL'; rfl
              subst hv1'
              have hF : foot E.N ρ id (.own o.S cells) = [L.b] := by rw [foot_own hL, hbs]
              have nz : ¬ Z L.b := (hm.sep.ok j _ (toIts_at hjg)).notZ L.b (by show L.b ∈ foot E.N ρ id (.own o.S cells); rw [hF]; simp)
              have run := hM K o rest cells r ho hr hob Z w vr L.b cs hm.sep.zlt nz hg (pureT_rep hp hvr _) hown (pureL_rep hpc hrep _)
              rw [← hvs] at run
              refine run.mono fun v w' ⟨Z', cs', x, hz1, hz2, _, ho', hc', hr', hy⟩ => ?_
              have ⟨m1, t1⟩ := Mem.mut (i' := .own o.S r.cells) hm hjg (by rw [hF]; exact x) hz1 hz2 ⟨L, cs', hL, hbs, ho', none_subL hc'⟩ (by rw [foot_own hL, foot_own hL])
              rw [List.set_append_left _ _ (lt_get hj), ← hu] at m1
              exact ⟨ρ, Z', r.r, _, nx, m1, t1, none_sub hr', im_hy hv hy⟩
            · exact hv.elim
        · exact hv.elim
    · exact hv.elim
/-! ### Out of walks -/
theorem frz0_own {j id S : Nat} {cells : List E.SV} : ∀ {vs vs' : List E.SV} {its its' : Items E.N}, frz0 its vs = some (vs', its') → its[j]? = some (id, .own S cells) → its'[j]? = some (id, .own S cells)
  | [], vs', its, its', h, hj => by
    simp [frz0] at h; obtain ⟨rfl, rfl⟩ := h; exact hj
  | v :: r, vs', its, its', h, hj => by
    have other : (match frz0 its r with | some (r', its') => some (v :: r', its') | none => none) = some (vs', its') → its'[j]? = some (id, .own S cells) := fun h => by
      split at h
      · rename_i r' its1 hr
        simp only [Option.some.injEq, Prod.mk.injEq] at h
        obtain ⟨rfl, rfl⟩ := h
        exact frz0_own hr hj
      · cases h
    cases v with
    | acc id2 =>
      simp only [frz0] at h
      split at h
      · rename_i t l hi
        split at h
        · rename_i r' its1 hr
          simp only [Option.some.injEq, Prod.mk.injEq] at h
          obtain ⟨rfl, rfl⟩ := h
          obtain ⟨i, hi1, hu, _⟩ := lk_mem hi
          refine frz0_own hr ?_
          rw [hu, List.getElem?_set_ne (fun e => by subst e; rw [hi1] at hj; cases hj)]
          exact hj
        · cases h
      · split at h
        · rename_i r' its1 hr
          simp only [Option.some.injEq, Prod.mk.injEq] at h
          obtain ⟨rfl, rfl⟩ := h
          exact frz0_own hr hj
        · cases h
      · cases h
    | ref => cases h
    | el => cases h
    | clo => cases h
    | agg => cases h
    | tup => cases h
    | _ => exact other h
theorem frz1_own {j id S : Nat} {cells : List E.SV} {v v' : E.SV} {its its' : Items E.N} (h : frz1 its v = some (v', its')) (hj : its[j]? = some (id, .own S cells)) : its'[j]? = some (id, .own S cells) := by
  have other : (match frz0 its [v] with | some ([v'], its') => some (v', its') | _ => none) = some (v', its') → its'[j]? = some (id, .own S cells) := fun h => by
    split at h
    · rename_i u its1 hf
      simp only [Option.some.injEq, Prod.mk.injEq] at h
      obtain ⟨rfl, rfl⟩ := h
      exact frz0_own hf hj
    · cases h
  cases v with
  | agg vs =>
    simp only [frz1] at h
    split at h
    · rename_i vs' its1 hf
      simp only [Option.some.injEq, Prod.mk.injEq] at h
      obtain ⟨rfl, rfl⟩ := h
      exact frz0_own hf hj
    · cases h
  | _ => exact other h
theorem frz_own {j id S : Nat} {cells : List E.SV} : ∀ {vs vs' : List E.SV} {its its' : Items E.N}, frz its vs = some (vs', its') → its[j]? = some (id, .own S cells) → its'[j]? = some (id, .own S cells)
  | [], vs', its, its', h, hj => by
    simp [frz] at h; obtain ⟨rfl, rfl⟩ := h; exact hj
  | v :: r, vs', its, its', h, hj => by
    unfold frz at h
    split at h
    · rename_i v' its1 h1
      split at h
      · rename_i r' its2 h2
        simp only [Option.some.injEq, Prod.mk.injEq] at h
        obtain ⟨rfl, rfl⟩ := h
        exact frz_own h2 (frz1_own h1 hj)
      · cases h
    · cases h
/-- Answers, one by one. -/
def ansV (n : Nat) (s : E.SV) : Option (List E.SV) := match n with
  | 1 => some [s]
  | _ => (match s with | .tup vs => some vs | _ => none)
def tellA {N : Uni} (n : Nat) (vs : List (SV N)) : SV N := match n with
  | 1 => vs.headD .un
  | _ => .tup vs
/-- What is told of the own cells and the answer. -/
def resM (E : Env) (S m n : Nat) (ks : List VK) (Q : cellsDen E.N Prop ks) : E.SV → Items E.N → Nat → Prop := fun s its _ => match lk its 0, ansV n s with
  | some (.own S' cells), some ars => bif Nat.beq S' S && Nat.beq cells.length m then (match frz its (cells ++ ars) with
    | some (vs, its') => (match rbCells E its' ks vs Q with | some p => p | none => False)
    | none => False) else False
  | _, _ => False
def tell (E : Env) : (ks : List VK) → Vals E.N ks → List E.SV
  | [], _ => []
  | k :: r, X => rvOf E 0 k X.1 :: tell E r X.2
theorem tell_len : ∀ (ks : List VK) (X : Vals E.N ks), (tell E ks X).length = ks.length
  | [], _ => rfl
  | _ :: r, X => by simp [tell, tell_len r X.2]
def noAcc : VK → Bool
  | .acc _ => false
  | _ => true
theorem cjl_app : ∀ {ps qs : List Prop}, cjl (ps ++ qs) → cjl ps ∧ cjl qs
  | [], _, h => ⟨trivial, h⟩
  | [p], [], h => ⟨h, trivial⟩
  | [p], q :: r, h => ⟨h.1, h.2⟩
  | p :: q :: r, qs, h => by
    have := cjl_app (ps := q :: r) h.2
    exact ⟨⟨h.1, this.1⟩, this.2⟩
theorem eqs_ok (its : Items E.N) : ∀ (ks : List VK) (vs : List E.SV) (X : Vals E.N ks) (ps : List Prop) (p : Prop), rbCells E its ks vs (eqs E.N ks X ps) = some p → p → cjl ps ∧ vs.length = ks.length ∧
    ∀ {ρ : Env1} {Z : Nat → Prop} {w : World} {C : Ctx} {nx : Nat} {us : List Value}, Mem E C ρ Z w its nx → ks.all noAcc = true → (us.length = vs.length ∧ ∀ (i : Nat) (u : Value) (s : E.SV), us[i]? = some u → vs[i]? = some s → Rep E.N E.T ρ Z w u s) → ∀ (i : Nat) (u : Value) (s : E.SV), us[i]? = some u → (tell E ks X)[i]? = some s → Rep E.N E.T (fun _ => none) Z w u s
  | [], [], X, ps, p, h, hp => by
    have h := Option.some.inj (show some (cjl ps) = some p from h)
    subst h
    exact ⟨hp, rfl, fun _ _ _ i u s _ hs => by simp [tell] at hs⟩
  | [], _ :: _, X, ps, p, h, hp => by cases h
  | _ :: _, [], X, ps, p, h, hp => by cases h
  | k :: ks, v :: vs, X, ps, p, h, hp => by
    simp only [rbCells] at h
    split at h
    · rename_i x hx
      obtain ⟨h1, h2, h3⟩ := eqs_ok its ks vs X.2 (ps ++ [x = X.1]) p h hp
      obtain ⟨h4, h5⟩ := cjl_app h1
      have h5 : x = X.1 := h5
      subst h5
      refine ⟨h4, by simp [h2], fun {ρ Z w C nx us} hm hk hlr i u s hu hs => ?_⟩
      obtain ⟨hl, hr⟩ := hlr
      simp only [List.all_cons, Bool.and_eq_true] at hk
      cases us with
      | nil => simp at hu
      | cons u0 us =>
        cases i with
        | zero =>
          simp only [List.getElem?_cons_zero, Option.some.injEq, tell] at hu hs
          subst hu; subst hs
          have r0 := hr 0 u0 v rfl rfl
          obtain ⟨ρ3, os', _, f, _, r1, _⟩ := rb1_ok (lkd := []) (n2 := 0) (ρ2 := fun _ => none) (os := []) (new := []) (by simpa using hm) r0 hx (fun _ _ => rfl) .nil
          have e2 : (fl1 E 0 k X.1).2.2 = 0 := by cases k <;> first | rfl | (cases hk.1)
          have e3 : ρ3 = fun _ => none := by funext i; exact f i (by omega)
          rw [e3] at r1; exact r1
        | succ i =>
          exact h3 (us := us) hm hk.2 ⟨by simpa using hl, fun i u s hu hs => hr (i + 1) u s hu hs⟩ i u s hu hs
    · cases h
theorem RepL.of_get {cs : List Value} {ss : List E.SV} (hl : cs.length = ss.length) (hp : cs.all plain1 = true) (h : ∀ (i : Nat) (u : Value) (s : E.SV), cs[i]? = some u → ss[i]? = some s → Rep E.N E.T ρ Z w u s) : RepL E.N E.T ρ Z w cs ss := by
  induction ss generalizing cs with
  | nil =>
    have : cs = [] := List.eq_nil_of_length_eq_zero (by simpa using hl)
    subst this; exact RepL.nil
  | cons s ss ih =>
    cases cs with
    | nil => simp at hl
    | cons c cs =>
      simp only [List.all_cons, Bool.and_eq_true] at hp
      exact RepL.cons (h 0 c s rfl rfl) hp.1 (ih (by simpa using hl) hp.2 fun i u s hu hs => h (i + 1) u s hu hs)
theorem RepT.of_get {cs : List Value} {ss : List E.SV} (hl : cs.length = ss.length) (h : ∀ (i : Nat) (u : Value) (s : E.SV), cs[i]? = some u → ss[i]? = some s → Rep E.N E.T ρ Z w u s) : Rep E.N E.T ρ Z w (.tuple cs.toArray) (.tup ss) := by
  induction ss generalizing cs with
  | nil =>
    have : cs = [] := List.eq_nil_of_length_eq_zero (by simpa using hl)
    subst this; exact .tup0
  | cons s ss ih =>
    cases cs with
    | nil => simp at hl
    | cons c cs => exact .tup1 (h 0 c s rfl rfl) (ih (by simpa using hl) fun i u s hu hs => h (i + 1) u s hu hs)
theorem RepT.get {cs : List Value} {ss : List E.SV} (h : Rep E.N E.T ρ Z w (.tuple cs.toArray) (.tup ss)) : cs.length = ss.length ∧ ∀ (i : Nat) (u : Value) (s : E.SV), cs[i]? = some u → ss[i]? = some s → Rep E.N E.T ρ Z w u s := by
  induction ss generalizing cs with
  | nil =>
    generalize e : Value.tuple cs.toArray = u at h
    cases h with | tup0 => have : cs = [] := by simpa using e
                           subst this; exact ⟨rfl, fun i u s _ hs => by simp at hs⟩
  | cons s ss ih =>
    obtain ⟨v, r, rfl, h1, h2⟩ := Rep.tup_cons h
    obtain ⟨i1, i2⟩ := ih h2
    refine ⟨by simp [i1], fun i u s' hu hs => ?_⟩
    cases i with
    | zero => simp at hu hs; subst hu; subst hs; exact h1
    | succ i => exact i2 i u s' hu hs
/-- The answers' values. -/
theorem ansV_get {n : Nat} {s : E.SV} {ars : List E.SV} {v : Value} (h : ansV n s = some ars) (r : Rep E.N E.T ρ Z w v s) : ∃ us : List Value, us.length = ars.length ∧ (∀ (i : Nat) (u : Value) (s : E.SV), us[i]? = some u → ars[i]? = some s → Rep E.N E.T ρ Z w u s) ∧
    ∀ {ρ' : Env1} {Z' : Nat → Prop} {w' : World} {ss : List E.SV}, ss.length = ars.length → (∀ (i : Nat) (u : Value) (s : E.SV), us[i]? = some u → ss[i]? = some s → Rep E.N E.T ρ' Z' w' u s) → Rep E.N E.T ρ' Z' w' v (tellA n ss) := by
  by_cases e : n = 1
  · subst e
    simp only [ansV, Option.some.injEq] at h
    subst h
    refine ⟨[v], rfl, fun i u s' hu hs => ?_, fun {ρ' Z' w' ss} hl hr => ?_⟩
    · cases i with
      | zero => simp at hu hs; subst hu; subst hs; exact r
      | succ i => simp at hu
    · match ss, hl with
      | [s'], _ => exact hr 0 v s' rfl rfl
  · have h' : ∃ vs, s = .tup vs ∧ ars = vs := by
      unfold ansV at h
      split at h
      · exact absurd rfl e
      · split at h
        · cases h; exact ⟨_, rfl, rfl⟩
        · cases h
    obtain ⟨vs, rfl, rfl⟩ := h'
    obtain ⟨cs, rfl⟩ := Rep.tup_inv r
    obtain ⟨g1, g2⟩ := RepT.get r
    refine ⟨cs, g1, g2, fun {ρ' Z' w' ss} hl hr => ?_⟩
    have : tellA n ss = .tup ss := by
      unfold tellA
      split
      · exact absurd rfl e
      · rfl
    rw [this]
    exact RepT.of_get (by rw [g1, hl]) hr
theorem mut_ok (hE : EnvOK E) (hI : InlOK E inl) {K S m n : Nat} {fn : Func} {an : Ann} (hf : E.P.funcs[K]? = some fn) {ks : List VK} {X : Vals E.N ks} {args cells : List E.SV} {ob : List Prop} (hk : ks.all noAcc = true)
    (hv : vcFun inl an fn (.ref 0 0 :: args) [(0, .own S cells)] [] 1 (resM E S m n ks (eqs E.N ks X []))) : MutOK E.P E.N E.T E.G K S args cells ⟨ob, [], tellA n ((tell E ks X).drop m), (tell E ks X).take m⟩ := by
  intro Z w vs b cs hzl hzb hg ha hown hcells
  let ρ0 : Env1 := rset (fun _ => none) 0 ⟨b, none, 0, 0, [b]⟩
  have hρ0 : ρ0 0 = some ⟨b, none, 0, 0, [b]⟩ := rset_self
  have hlt : b < w.heap.size := hown.lt
  have hm : Mem E ⟨ρ0, Z, w, [b], w⟩ ρ0 Z w ([(0, .own S cells)] ++ []) 1 := by
    refine ⟨⟨Ext.refl _ _, hzl, fun k t hk => ?_, fun j k s t hj hk hne => ?_⟩, fun i hi => by show rset _ _ _ _ = none; unfold rset; rw [if_neg (by omega)], fun _ _ h => h, fun _ h => h, fun _ h => .inl h⟩
    · cases k with
      | succ k => simp [toIts] at hk
      | zero =>
        simp [toIts] at hk
        subst hk
        have hF : foot E.N ρ0 0 (.own S cells) = [b] := foot_own hρ0
        refine ⟨⟨_, cs, hρ0, rfl, hown, none_subL hcells⟩, toIt_stab, fun x hx => ?_, fun x hx => ?_, fun x hx => ?_, fun x hx => hx⟩
        all_goals
          have hx : x ∈ foot E.N ρ0 0 (.own S cells) := hx
          rw [hF] at hx
        · rw [List.mem_singleton.1 hx]; exact hlt
        · rw [List.mem_singleton.1 hx]; exact hzb
        · exact .inl hx
    · simp [toIts] at hj hk
      rcases j with _ | j <;> rcases k with _ | k <;> simp at hj hk
      exact absurd rfl hne
  have ha' : Rep E.N E.T ρ0 Z w (.tuple (Value.pointer (some ⟨b, 0, none⟩) :: vs).toArray) (.tup (.ref 0 0 :: args)) := .tup1 (.ref hρ0) (none_sub ha)
  refine (vcFun_ok hE hI hf hv hm hg ha').mono fun v w' ⟨ρ', Z', s, its', nx', hm', ht, hr, hpost⟩ => ?_
  rw [List.append_nil] at hm'
  unfold resM at hpost
  split at hpost
  · rename_i S' cells' ars hl has
    cases hb : (Nat.beq S' S && Nat.beq cells'.length m) with
    | false => rw [hb, cond_false] at hpost; exact hpost.elim
    | true =>
      rw [hb, cond_true] at hpost
      simp only [Bool.and_eq_true] at hb
      obtain ⟨hS, hmm⟩ := hb
      have hS := Nat.eq_of_beq_eq_true hS
      have hmm := Nat.eq_of_beq_eq_true hmm
      subst hS hmm
      split at hpost
      · rename_i vs' its2 hfz
        split at hpost
        · rename_i p hrb
          obtain ⟨us, u1, u2, u3⟩ := ansV_get has hr
          obtain ⟨j, hj, _⟩ := lk_mem hl
          obtain ⟨L, cs', hL, hbs, hown', hrep'⟩ := hm'.holds hj
          have hL : ρ' 0 = some L := hL
          have hLb : L = ⟨b, none, 0, 0, [b]⟩ := by have := hm'.ge 0 _ hρ0; rw [hL] at this; cases this; rfl
          subst hLb
          obtain ⟨Z2, m2, t2, he⟩ := frz_ok (lkd := []) (by simpa using hm') hfz
          rw [List.append_nil] at m2
          have hcl := hrep'.len
          obtain ⟨_, hlen, hget⟩ := eqs_ok its2 ks vs' X [] p hrb hpost
          have hvl : vs'.length = (cells' ++ ars).length := he.1
          have all : (cs' ++ us).length = vs'.length ∧ ∀ (i : Nat) (u : Value) (s : E.SV), (cs' ++ us)[i]? = some u → vs'[i]? = some s → Rep E.N E.T ρ' Z2 w' u s := by
            refine ⟨by rw [hvl, List.length_append, List.length_append, hcl, u1], fun i u s' hu hs => ?_⟩
            have hil : i < (cells' ++ ars).length := by rw [← hvl]; exact lt_get hs
            obtain ⟨s0, hs0⟩ : ∃ s0, (cells' ++ ars)[i]? = some s0 := ⟨_, List.getElem?_eq_getElem hil⟩
            refine he.2 i s0 s' hs0 hs u ?_
            by_cases hi : i < cells'.length
            · rw [List.getElem?_append_left hi] at hs0
              rw [List.getElem?_append_left (by omega)] at hu
              obtain ⟨u', hu', hr', _⟩ := hrep'.get i s0 hs0
              rw [hu] at hu'; cases hu'; exact hr'
            · rw [List.getElem?_append_right (by omega)] at hs0 hu
              rw [hcl] at hu
              exact u2 _ u s0 hu hs0
          have fin := hget m2 hk all
          have htl := tell_len (E := E) ks X
          have hkl : ks.length = cells'.length + ars.length := by rw [← hlen, hvl, List.length_append]
          have hz3 : ∀ b', Z2 b' → Z b' ∨ (w.heap.size ≤ b' ∧ b' < w'.heap.size) := fun b' hb' => by
            have h1 := m2.sep.zlt b' hb'
            rcases m2.zle b' hb' with h | h | h
            · exact .inl h
            · simp at h; subst h
              exfalso
              have := (m2.sep.ok j _ (toIts_at (frz_own hfz hj))).notZ b' (by show b' ∈ foot E.N ρ' 0 (.own S' cells'); rw [foot_own hL]; simp)
              exact this hb'
            · exact .inr ⟨h, h1⟩
          refine ⟨Z2, cs', by simpa using m2.sep.ext, m2.zge, hz3, fun hb' => ?_, hown', ?_, ?_, trivial⟩
          · rcases hz3 b hb' with h | h
            · exact hzb h
            · omega
          · refine RepL.of_get (by rw [List.length_take, htl, hcl]; omega) hrep'.plain fun i u s' hu hs => ?_
            have hi : i < cells'.length := by rw [← hcl]; exact lt_get hu
            rw [List.getElem?_take_of_lt hi] at hs
            exact fin i u s' (by rw [List.getElem?_append_left (by omega)]; exact hu) hs
          · refine u3 (by rw [List.length_drop, htl]; omega) fun i u s' hu hs => ?_
            rw [List.getElem?_drop] at hs
            exact fin (cells'.length + i) u s' (by rw [List.getElem?_append_right (by omega), hcl]; simpa using hu) hs
        · exact hpost.elim
      · exact hpost.elim
  · exact hpost.elim
/-! ### Answers that are let go -/
def resZ (E : Env) (n : Nat) (ks : List VK) (Q : cellsDen E.N Prop ks) : E.SV → Items E.N → Nat → Prop := fun s its _ => match ansV n s with
  | some ars => (match frz its ars with
    | some (vs, its') => (match rbCells E its' ks vs Q with | some p => p | none => False)
    | none => False)
  | none => False
theorem conZ (hE : EnvOK E) (hI : InlOK E inl) {K n : Nat} {fn : Func} {an : Ann} (hf : E.P.funcs[K]? = some fn) {ks : List VK} {X : Vals E.N ks} {args : List E.SV} {ob : List Prop} (hk : ks.all noAcc = true) (hp : args.all pureS = true)
    (hv : vcFun inl an fn args [] [] 0 (resZ E n ks (eqs E.N ks X []))) : ConOK E.P E.N E.T E.G K args nx ⟨ob, [], tellA n (tell E ks X), []⟩ :=
  ⟨fun ρ Z w vs hfr hz hg ha => (vcFun_ok (C := ctx0 (fun _ => none) Z w) hE hI hf hv (mem0 (fun _ _ => rfl) hz) hg (pureT_rep hp ha _)).mono fun v w' h => by
    obtain ⟨ρ', Z', s, its', nx', hx, hm, ht, hr, hk'⟩ := h.pure
    unfold resZ at hk'
    split at hk'
    · rename_i ars has
      split at hk'
      · rename_i vs' its2 hfz
        split at hk'
        · rename_i p hrb
          obtain ⟨us, u1, u2, u3⟩ := ansV_get has hr
          obtain ⟨Z2, m2, t2, he⟩ := frz_ok (lkd := []) (by simpa using hm) hfz
          rw [List.append_nil] at m2
          obtain ⟨_, hlen, hget⟩ := eqs_ok its2 ks vs' X [] p hrb hk'
          have hvl : vs'.length = ars.length := he.1
          have all : us.length = vs'.length ∧ ∀ (i : Nat) (u : Value) (s : E.SV), us[i]? = some u → vs'[i]? = some s → Rep E.N E.T ρ' Z2 w' u s := by
            refine ⟨by rw [hvl, u1], fun i u s' hu hs => ?_⟩
            have hil : i < ars.length := by rw [← hvl]; exact lt_get hs
            exact he.2 i _ s' (List.getElem?_eq_getElem hil) hs u (u2 i u _ hu (List.getElem?_eq_getElem hil))
          have fin := hget m2 hk all
          refine ⟨ρ, Z2, fun _ _ h => h, fun i hi => hfr i (by simpa using hi), m2.zge, fun b hb => ?_, none_sub (u3 (by rw [tell_len, ← hlen, hvl]) fun i u s' hu hs => fin i u s' hu hs), ?_, trivial⟩
          · rcases m2.zle b hb with h | h | h
            · exact .inl h
            · cases h
            · exact .inr h
          · exact ⟨m2.sep.ext, m2.sep.zlt, fun k t h => by simp [toIts, number] at h, fun j k s t h => by simp [toIts, number] at h⟩
        · exact hk'.elim
      · exact hk'.elim
    · exact hk'.elim⟩
/-- Functions that are walked where they are called, and methods that are told. -/
def inlMN (E : Env) (M : Nat → Option (MC E.N)) (an : Nat → Ann) : Nat → Inl E
  | 0 => inlM E M (fun _ _ _ _ _ _ => False)
  | n + 1 => inlM E M (fun K args its lkd nx k => match E.inl K with | some fn => vcFun (inlMN E M an n) (an K) fn args its lkd nx k | none => False)
theorem inlMN_ok (hE : EnvOK E) {M : Nat → Option (MC E.N)} (hM : ∀ K o args cells r, M K = some o → o.C args cells = some r → allP r.ob → MutOK E.P E.N E.T E.G K o.S args cells r) (an : Nat → Ann) : ∀ m, InlOK E (inlMN E M an m)
  | 0 => inlM_ok hM fun _ _ _ _ _ _ h => h.elim
  | m + 1 => inlM_ok hM fun K args its lkd nx k h => by
    have h : (match E.inl K with | some fn => vcFun (inlMN E M an m) (an K) fn args its lkd nx k | none => False) := h
    split at h
    · rename_i fn hf
      exact ⟨by rw [hf]; rfl, fun C ρ Z w vs hm hg ha => vcFun_ok hE (inlMN_ok hE hM an m) (hE.inl K fn hf) h hm hg ha⟩
    · exact h.elim
def noM {N : Uni} : Nat → Option (MC N) := fun _ => none
theorem noM_ok {P : Program} {N : Uni} {T : ErrT} {G : Glob} : ∀ K o args cells r, (noM : Nat → Option (MC N)) K = some o → o.C args cells = some r → allP r.ob → MutOK P N T G K o.S args cells r := fun _ _ _ _ _ h => by cases h
theorem addM_ok {P : Program} {N : Uni} {T : ErrT} {G : Glob} {M : Nat → Option (MC N)} {K : Nat} {o : MC N} (h : ∀ args cells r, o.C args cells = some r → allP r.ob → MutOK P N T G K o.S args cells r) (hM : ∀ K o args cells r, M K = some o → o.C args cells = some r → allP r.ob → MutOK P N T G K o.S args cells r) : ∀ K' o' args cells r, addF K o M K' = some o' → o'.C args cells = some r → allP r.ob → MutOK P N T G K' o'.S args cells r := fun K' o' args cells r e hr ho => by
  rcases addF_inv e with ⟨e1, e2⟩ | e
  · subst e1; subst e2; exact h args cells r hr ho
  · exact hM K' o' args cells r e hr ho
/-- Arguments told in other words. -/
theorem LendOK.conv {K : Nat} {args args' : List E.SV} {c : CR E.N} (h : LendOK E K args' c) (ha : ∀ (D : Nat → Prop) (w : World) (vs : List Value), Rep E.N E.T (fun _ => none) D w (.tuple vs.toArray) (.tup args) → Rep E.N E.T (fun _ => none) D w (.tuple vs.toArray) (.tup args')) : LendOK E K args c :=
  fun D w vs hD hg hr => h D w vs hD hg (ha D w vs hr)
/-- A truth value, however it is told. -/
def boolOf {N : Uni} : SV N → Option Bool
  | .tt => some true
  | .ff => some false
  | .bl p d => some (@decide p d)
  | _ => none
theorem boolOf_rep {s : E.SV} {b : Bool} {v : Value} (h : boolOf s = some b) (r : Rep E.N E.T ρ Z w v s) : Rep E.N E.T ρ Z w v (blB b) := by
  have hb : ∀ y : Bool, Value.bool y = .bool (@decide (y = true) inferInstance) := fun y => by cases y <;> rfl
  cases r with
  | tt => cases h; rw [hb true]; exact .bl
  | ff => cases h; rw [hb false]; exact .bl
  | @bl p d => cases h; rw [hb (@decide p d)]; exact .bl
  | _ => cases h
end
end Go.Rx
end
section
namespace Go.Fo
open Go Go.Wk Go.Wl
/-- How many bytes a letter takes that a text begins with, as some law says; at least one, at most four, and no more than there are. -/
structure Dec where
  w : Str → Nat
  pos : ∀ s, s ≠ [] → 1 ≤ w s
  le : ∀ s, w s ≤ s.length
  four : ∀ s, w s ≤ 4
variable (D : Dec)
theorem Dec.drop_lt {s : Str} (h : s ≠ []) : (s.drop (D.w s)).length < s.length := by
  have := D.pos s h; have := D.le s
  rw [List.length_drop]; omega
theorem Dec.take_len (s : Str) : (s.take (D.w s)).length = D.w s := by
  rw [List.length_take]; exact Nat.min_eq_left (D.le s)
/-- The program's: what is put behind one another, so many bytes being left of the line. -/
def rowGo (left : Int) (row : Str) : Str :=
  if h : row = [] then [13, 10]
  else if left < D.w row then [13, 10, 32] ++ row.take (D.w row) ++ rowGo (74 - D.w row) (row.drop (D.w row))
  else row.take (D.w row) ++ rowGo (left - D.w row) (row.drop (D.w row))
termination_by row.length
decreasing_by all_goals exact D.drop_lt h
/-- The document's: a row's lines, the one that is begun ahead. -/
def linesG (cur : Str) (row : Str) : List Str :=
  if h : row = [] then [cur]
  else if 75 < (cur.length : Int) + D.w row then cur :: linesG (32 :: row.take (D.w row)) (row.drop (D.w row))
  else linesG (cur ++ row.take (D.w row)) (row.drop (D.w row))
termination_by row.length
decreasing_by all_goals exact D.drop_lt h
def cat (l : List Str) : Str := l.flatMap (· ++ [13, 10])
theorem cat_cons (a : Str) (l : List Str) : cat (a :: l) = a ++ [13, 10] ++ cat l := rfl
theorem cat_app (a b : List Str) : cat (a ++ b) = cat a ++ cat b := by simp [cat]
theorem rowGo_nil (left : Int) : rowGo D left [] = [13, 10] := by rw [rowGo]; simp
theorem rowGo_new {left : Int} {row : Str} (h : row ≠ []) (hl : left < D.w row) : rowGo D left row = [13, 10, 32] ++ row.take (D.w row) ++ rowGo D (74 - D.w row) (row.drop (D.w row)) := by rw [rowGo, dif_neg h, if_pos hl]
theorem rowGo_on {left : Int} {row : Str} (h : row ≠ []) (hl : ¬ left < D.w row) : rowGo D left row = row.take (D.w row) ++ rowGo D (left - D.w row) (row.drop (D.w row)) := by rw [rowGo, dif_neg h, if_neg hl]
theorem linesG_nil (cur : Str) : linesG D cur [] = [cur] := by rw [linesG]; simp
theorem linesG_new {cur row : Str} (h : row ≠ []) (hl : 75 < (cur.length : Int) + D.w row) : linesG D cur row = cur :: linesG D (32 :: row.take (D.w row)) (row.drop (D.w row)) := by rw [linesG, dif_neg h, if_pos hl]
theorem linesG_on {cur row : Str} (h : row ≠ []) (hl : ¬ 75 < (cur.length : Int) + D.w row) : linesG D cur row = linesG D (cur ++ row.take (D.w row)) (row.drop (D.w row)) := by rw [linesG, dif_neg h, if_neg hl]
theorem cat_lines : ∀ (n : Nat) (cur row : Str), row.length ≤ n → cat (linesG D cur row) = cur ++ rowGo D (75 - cur.length) row
  | n, cur, row, hn => by
    by_cases h : row = []
    · subst h; rw [linesG_nil, rowGo_nil]; simp [cat]
    · have hd := D.drop_lt h
      cases n with
      | zero => omega
      | succ n =>
        by_cases hl : 75 < (cur.length : Int) + D.w row
        · rw [linesG_new D h hl, rowGo_new D h (by omega), cat_cons, cat_lines n _ _ (by omega)]
          have e : (75 : Int) - ((32 :: row.take (D.w row)).length : Nat) = 74 - D.w row := by rw [List.length_cons, D.take_len]; omega
          rw [e]; simp
        · rw [linesG_on D h hl, rowGo_on D h (by omega), cat_lines n _ _ (by omega)]
          have e : (75 : Int) - ((cur ++ row.take (D.w row)).length : Nat) = 75 - cur.length - D.w row := by rw [List.length_append, D.take_len]; omega
          rw [e]; simp
theorem cat_row (row : Str) : cat (linesG D [] row) = rowGo D 75 row := by
  have := cat_lines D row.length [] row (Nat.le_refl _)
  simpa using this
/-- Why a row may not be. -/
def ends (c : UInt8) : Bool := c == 10 || c == 13
def rMay (s : Str) : Int := if 5000 < s.length then 4 else if s.any ends = true then 11 else if s = [] ∨ ix s 0 = 32 ∨ ix s 0 = 9 then 11 else 0
theorem rMay_cases (s : Str) : rMay s = 0 ∨ rMay s = 4 ∨ rMay s = 11 := by
  unfold rMay; split
  · simp
  · split
    · simp
    · split <;> simp
theorem rMay_ok {s : Str} (h : rMay s = 0) : s.length ≤ 5000 ∧ s ≠ [] ∧ ix s 0 ≠ 32 ∧ ix s 0 ≠ 9 ∧ ∀ c ∈ s, c ≠ 10 ∧ c ≠ 13 := by
  unfold rMay at h
  split at h
  · cases h
  · split at h
    · cases h
    · rename_i h1 h2
      split at h
      · cases h
      · rename_i h3
        refine ⟨by omega, fun e => h3 (.inl e), fun e => h3 (.inr (.inl e)), fun e => h3 (.inr (.inr e)), fun c hc => ⟨fun e => h2 (List.any_eq_true.2 ⟨c, hc, by subst e; rfl⟩), fun e => h2 (List.any_eq_true.2 ⟨c, hc, by subst e; rfl⟩)⟩⟩
/-- All rows, one behind the other: the text, the error, its place. -/
def foldG (b : Str) (i : Int) : List Str → Str × Int × Int
  | [] => (b, 0, 0)
  | r :: rs => if rMay r = 0 then foldG (b ++ rowGo D 75 r) (i + 1) rs else ([], rMay r, i + 1)
def foldS (l : List Str) : Str × Int × Int := foldG D [] 0 l
theorem foldG_ok {b : Str} {i : Int} {l : List Str} (h : ∀ r ∈ l, rMay r = 0) : foldG D b i l = (b ++ l.flatMap (rowGo D 75), 0, 0) := by
  induction l generalizing b i with
  | nil => simp [foldG]
  | cons r rs ih =>
    rw [foldG, if_pos (h r (by simp)), ih (fun x hx => h x (by simp [hx]))]
    simp
theorem foldG_bad {b : Str} {i : Int} {l : List Str} (h : ¬ ∀ r ∈ l, rMay r = 0) : ∃ e at_ : Int, foldG D b i l = ([], e, at_) ∧ (e = 4 ∨ e = 11) ∧ i + 1 ≤ at_ ∧ at_ ≤ i + l.length := by
  induction l generalizing b i with
  | nil => exact absurd (fun _ h => by cases h) h
  | cons r rs ih =>
    by_cases hr : rMay r = 0
    · have h' : ¬ ∀ r ∈ rs, rMay r = 0 := fun hh => h (fun x hx => by rcases List.mem_cons.1 hx with e | e; (rw [e]; exact hr); exact hh x e)
      obtain ⟨e, a, h1, h2, h3, h4⟩ := ih (b := b ++ rowGo D 75 r) (i := i + 1) h'
      refine ⟨e, a, by rw [foldG, if_pos hr, h1], h2, by omega, by rw [List.length_cons]; omega⟩
    · refine ⟨rMay r, i + 1, by rw [foldG, if_neg hr], ?_, by omega, by rw [List.length_cons]; omega⟩
      rcases rMay_cases r with h | h | h
      · exact absurd h hr
      · exact .inl h
      · exact .inr h
theorem foldG_shift {b : Str} {i : Int} (l : List Str) (h : ¬ ∀ r ∈ l, rMay r = 0) (b' : Str) (i' : Int) : foldG D b' i' l = ([], (foldG D b i l).2.1, (foldG D b i l).2.2 - i + i') := by
  induction l generalizing b i b' i' with
  | nil => exact absurd (fun _ h => by cases h) h
  | cons r rs ih =>
    by_cases hr : rMay r = 0
    · have h' : ¬ ∀ r ∈ rs, rMay r = 0 := fun hh => h (fun x hx => by rcases List.mem_cons.1 hx with e | e; (rw [e]; exact hr); exact hh x e)
      rw [foldG, if_pos hr, foldG, if_pos hr, ih (b := b ++ rowGo D 75 r) (i := i + 1) h' (b' ++ rowGo D 75 r) (i' + 1)]
      simp only [Prod.mk.injEq, true_and]; omega
    · rw [foldG, if_neg hr, foldG, if_neg hr]
      simp only [Prod.mk.injEq, true_and]; omega
theorem foldG_app {b : Str} {i : Int} (l1 l2 : List Str) (h : ∀ r ∈ l1, rMay r = 0) : foldG D b i (l1 ++ l2) = foldG D (b ++ l1.flatMap (rowGo D 75)) (i + l1.length) l2 := by
  induction l1 generalizing b i with
  | nil => simp
  | cons r rs ih =>
    rw [List.cons_append, foldG, if_pos (h r (by simp)), ih (fun x hx => h x (by simp [hx]))]
    simp only [List.flatMap_cons, List.append_assoc, List.length_cons]
    congr 1; omega
theorem foldG_app_bad {b : Str} {i : Int} (l1 l2 : List Str) (h : ¬ ∀ r ∈ l1, rMay r = 0) : foldG D b i (l1 ++ l2) = foldG D b i l1 := by
  induction l1 generalizing b i with
  | nil => exact absurd (fun _ h => by cases h) h
  | cons r rs ih =>
    by_cases hr : rMay r = 0
    · have h' : ¬ ∀ r ∈ rs, rMay r = 0 := fun hh => h (fun x hx => by rcases List.mem_cons.1 hx with e | e; (rw [e]; exact hr); exact hh x e)
      rw [List.cons_append, foldG, if_pos hr, foldG, if_pos hr, ih h']
    · rw [List.cons_append, foldG, if_neg hr, foldG, if_neg hr]
end Go.Fo
end
section
namespace Go.Fo
open Go Go.Wk Go.Wl
structure Row where
  At : Int
  Text : Str
  deriving Inhabited, DecidableEq
def trimR (l : Str) : Str := if l.getLast? = some 13 then l.dropLast else l
def nl (c : UInt8) : Bool := c != 10
def hd (s : Str) : Str := s.takeWhile nl
def tl (s : Str) : Str := (s.dropWhile nl).drop 1
theorem tl_lt {s : Str} (h : s ≠ []) : (tl s).length < s.length := by
  unfold tl
  have h1 : (s.dropWhile nl).length ≤ s.length := (List.dropWhile_sublist nl).length_le
  rw [List.length_drop]
  have : 0 < s.length := List.length_pos_iff.2 h
  omega
/-- A text's lines, without ends. -/
def linesOf (s : Str) : List Str :=
  if h : s = [] then [] else (if (10 : UInt8) ∈ s then trimR (hd s) else s) :: linesOf (tl s)
termination_by s.length
decreasing_by exact tl_lt h
theorem linesOf_nil : linesOf [] = [] := by rw [linesOf]; simp
theorem linesOf_cons {s : Str} (h : s ≠ []) : linesOf s = (if (10 : UInt8) ∈ s then trimR (hd s) else s) :: linesOf (tl s) := by rw [linesOf, dif_neg h]
theorem hd_line {l r : Str} (h : ∀ c ∈ l, c ≠ 10) : hd (l ++ 10 :: r) = l ∧ tl (l ++ 10 :: r) = r := by
  have h1 : ∀ c ∈ l, nl c = true := fun c hc => by simp [nl, h c hc]
  unfold hd tl
  rw [List.takeWhile_append_of_pos h1, List.dropWhile_append_of_pos h1]
  simp [List.takeWhile, List.dropWhile, nl]
theorem linesOf_line {l r : Str} (h : ∀ c ∈ l, c ≠ 10) : linesOf (l ++ 10 :: r) = trimR l :: linesOf r := by
  rw [linesOf_cons (by simp), if_pos (by simp), (hd_line h).1, (hd_line h).2]
theorem hd_none {s : Str} (h : ∀ c ∈ s, c ≠ 10) : tl s = [] := by
  have h1 : ∀ c ∈ s, nl c = true := fun c hc => by simp [nl, h c hc]
  have : s.dropWhile nl = [] := by
    rw [← List.append_nil s, List.dropWhile_append_of_pos h1]; rfl
  unfold tl; rw [this]; rfl
theorem linesOf_rest {s : Str} (h : ∀ c ∈ s, c ≠ 10) (h0 : s ≠ []) : linesOf s = [s] := by
  rw [linesOf_cons h0, if_neg (fun hm => h 10 hm rfl), hd_none h, linesOf_nil]
theorem trimR_cr {l : Str} : trimR (l ++ [13]) = l := by simp [trimR]
theorem trimR_no {l : Str} (h : ∀ c ∈ l, c ≠ 13) : trimR l = l := by
  unfold trimR
  rw [if_neg]
  intro e
  exact h 13 (List.mem_of_getLast? e) rfl
def spTab (s : Str) : Prop := ix s 0 = 32 ∨ ix s 0 = 9
instance (s : Str) : Decidable (spTab s) := by unfold spTab; infer_instance
def lastAdd (out : List Row) (t : Str) : List Row := out.dropLast ++ [⟨(out.getLastD default).At, (out.getLastD default).Text ++ t⟩]
def uTop (at_ : Int) (out : List Row) : Except (Int × Int) (List Row × Bool) :=
  if 5000 < (out.getLastD default).Text.length then .error (4, at_) else if 1000 < out.length then .error (5, at_) else .ok (out, true)
/-- One line more. -/
def uStep (at_ : Int) (l : Str) (out : List Row) (o : Bool) : Except (Int × Int) (List Row × Bool) :=
  if l = [] then .ok (out, false)
  else if spTab l then (if o = true then uTop at_ (lastAdd out (l.drop 1)) else .error (11, at_))
  else uTop at_ (out ++ [⟨at_, l⟩])
def uGo : List Str → Int → List Row → Bool → Except (Int × Int) (List Row)
  | [], _, out, _ => .ok out
  | l :: ls, at_, out, o => match uStep at_ l out o with
    | .error e => .error e
    | .ok p => uGo ls (at_ + 1) p.1 p.2
def unfoldS (s : Str) : Except (Int × Int) (List Row) := uGo (linesOf s) 1 [] false
theorem uGo_ok {l : Str} {ls : List Str} {at_ : Int} {out out' : List Row} {o o' : Bool} (h : uStep at_ l out o = .ok (out', o')) : uGo (l :: ls) at_ out o = uGo ls (at_ + 1) out' o' := by rw [uGo, h]
theorem uGo_err {l : Str} {ls : List Str} {at_ : Int} {out : List Row} {o : Bool} {e : Int × Int} (h : uStep at_ l out o = .error e) : uGo (l :: ls) at_ out o = .error e := by rw [uGo, h]
/-- What stands at the end of what is read: rows whose lines rise, no row too long, not too many. -/
theorem uTop_in {at_ : Int} {out out' : List Row} {o : Bool} (h : uTop at_ out = .ok (out', o)) : out' = out ∧ o = true ∧ (out.getLastD default).Text.length ≤ 5000 ∧ out.length ≤ 1000 := by
  unfold uTop at h
  split at h
  · cases h
  · split at h
    · cases h
    · cases h; exact ⟨rfl, rfl, by omega, by omega⟩
/-! ### Rows made of pieces are read as they were -/
/-- A row's lines: the first piece, and each other one behind a sign that folds. -/
def lay (e : Str) (c : UInt8) : List Str → Str
  | [] => []
  | p :: ps => p ++ e ++ ps.flatMap (fun q => c :: q ++ e)
def good (ps : List Str) : Prop := ∃ p qs, ps = p :: qs ∧ p ≠ [] ∧ ¬ spTab p ∧ (∀ q ∈ ps, ∀ c ∈ q, c ≠ 10 ∧ c ≠ 13) ∧ ps.flatten.length ≤ 5000
def isEnd (e : Str) : Prop := e = [10] ∨ e = [13, 10]
theorem linesOf_piece {e p r : Str} (he : isEnd e) (h : ∀ c ∈ p, c ≠ 10 ∧ c ≠ 13) : linesOf (p ++ e ++ r) = p :: linesOf r := by
  rcases he with rfl | rfl
  · rw [show p ++ [10] ++ r = p ++ 10 :: r by simp, linesOf_line (fun c hc => (h c hc).1), trimR_no (fun c hc => (h c hc).2)]
  · rw [show p ++ [13, 10] ++ r = (p ++ [13]) ++ 10 :: r by simp, linesOf_line (fun c hc => by
      rcases List.mem_append.1 hc with hc | hc
      · exact (h c hc).1
      · simp at hc; subst hc; decide), trimR_cr]
theorem getLastD_snoc {α : Type} {l : List α} {x d : α} : (l ++ [x]).getLastD d = x := by simp
theorem uGo_more {e : Str} {c : UInt8} (he : isEnd e) (hc : c = 32 ∨ c = 9) (qs : List Str) : ∀ (r : Str) (at_ : Int) (out : List Row) (a : Int) (t : Str), (∀ q ∈ qs, ∀ x ∈ q, x ≠ 10 ∧ x ≠ 13) → (t ++ qs.flatten).length ≤ 5000 → out.length < 1000 →
    uGo (linesOf (qs.flatMap (fun q => c :: q ++ e) ++ r)) at_ (out ++ [⟨a, t⟩]) true = uGo (linesOf r) (at_ + qs.length) (out ++ [⟨a, t ++ qs.flatten⟩]) true := by
  induction qs with
  | nil => intro r at_ out a t _ _ _; simp
  | cons q qs ih =>
    intro r at_ out a t h1 h2 h3
    have hq : ∀ x ∈ c :: q, x ≠ 10 ∧ x ≠ 13 := fun x hx => by
      rcases List.mem_cons.1 hx with rfl | hx
      · rcases hc with rfl | rfl <;> decide
      · exact h1 q (by simp) x hx
    have e1 : (q :: qs).flatMap (fun q => c :: q ++ e) ++ r = (c :: q) ++ e ++ (qs.flatMap (fun q => c :: q ++ e) ++ r) := by simp
    rw [e1, linesOf_piece he hq]
    have hsp : spTab (c :: q) := by rcases hc with rfl | rfl; (exact .inl rfl); (exact .inr rfl)
    have hl : ((t ++ q).length : Int) ≤ 5000 := by
      have : (t ++ (q :: qs).flatten).length = (t ++ q).length + qs.flatten.length := by simp; omega
      omega
    have hs : uStep at_ (c :: q) (out ++ [⟨a, t⟩]) true = .ok (out ++ [⟨a, t ++ q⟩], true) := by
      unfold uStep
      rw [if_neg (by simp), if_pos hsp, if_pos rfl]
      have : lastAdd (out ++ [⟨a, t⟩]) ((c :: q).drop 1) = out ++ [⟨a, t ++ q⟩] := by simp [lastAdd]
      rw [this]; unfold uTop
      rw [getLastD_snoc, if_neg (by simp only; omega), if_neg (by simp only [List.length_append, List.length_singleton]; omega)]
    rw [uGo_ok hs, ih _ _ _ _ _ (fun q' hq' => h1 q' (by simp [hq'])) (by simpa using h2) h3]
    simp only [List.length_cons, List.flatten_cons, List.append_assoc]
    congr 1
    omega
theorem uGo_row {e : Str} {c : UInt8} (he : isEnd e) (hc : c = 32 ∨ c = 9) {ps : List Str} (hg : good ps) (r : Str) (at_ : Int) (out : List Row) (o : Bool) (h3 : out.length < 1000) :
    uGo (linesOf (lay e c ps ++ r)) at_ out o = uGo (linesOf r) (at_ + ps.length) (out ++ [⟨at_, ps.flatten⟩]) true := by
  obtain ⟨p, qs, rfl, h0, hsp, hch, hl⟩ := hg
  have e1 : lay e c (p :: qs) ++ r = p ++ e ++ (qs.flatMap (fun q => c :: q ++ e) ++ r) := by simp [lay]
  rw [e1, linesOf_piece he (hch p (by simp))]
  have hl1 : (p.length : Int) ≤ 5000 := by
    have : (p :: qs).flatten.length = p.length + qs.flatten.length := by simp
    omega
  have hs : uStep at_ p out o = .ok (out ++ [⟨at_, p⟩], true) := by
    unfold uStep
    rw [if_neg h0, if_neg hsp]; unfold uTop
    rw [getLastD_snoc, if_neg (by simp only; omega), if_neg (by simp only [List.length_append, List.length_singleton]; omega)]
  rw [uGo_ok hs, uGo_more he hc qs r (at_ + 1) out at_ p (fun q hq => hch q (by simp [hq])) (by simpa using hl) h3]
  simp only [List.length_cons, List.flatten_cons]
  congr 1
  omega
/-- The rows that are read. -/
def rowsAt : Int → List (List Str) → List Row
  | _, [] => []
  | at_, ps :: r => ⟨at_, ps.flatten⟩ :: rowsAt (at_ + ps.length) r
theorem uGo_rows {e : Str} {c : UInt8} (he : isEnd e) (hc : c = 32 ∨ c = 9) (rs : List (List Str)) : ∀ (at_ : Int) (out : List Row) (o : Bool), (∀ ps ∈ rs, good ps) → out.length + rs.length ≤ 1000 →
    uGo (linesOf (rs.flatMap (lay e c))) at_ out o = .ok (out ++ rowsAt at_ rs) := by
  induction rs with
  | nil => intro at_ out o _ _; simp [linesOf_nil, uGo, rowsAt]
  | cons ps rs ih =>
    intro at_ out o h1 h2
    rw [List.length_cons] at h2
    rw [List.flatMap_cons, uGo_row he hc (h1 ps (by simp)) _ _ _ _ (by omega), ih _ _ _ (fun q hq => h1 q (by simp [hq])) (by simp only [List.length_append, List.length_singleton]; omega)]
    simp [rowsAt]
theorem unfold_rows {e : Str} {c : UInt8} (he : isEnd e) (hc : c = 32 ∨ c = 9) (rs : List (List Str)) (h1 : ∀ ps ∈ rs, good ps) (h2 : rs.length ≤ 1000) : unfoldS (rs.flatMap (lay e c)) = .ok (rowsAt 1 rs) := by
  unfold unfoldS
  rw [uGo_rows he hc rs 1 [] false h1 (by simpa using h2)]; rfl
theorem rowsAt_len : ∀ (rs : List (List Str)) (at_ : Int), (rowsAt at_ rs).length = rs.length
  | [], _ => rfl
  | _ :: r, at_ => by simp [rowsAt, rowsAt_len r]
theorem rowsAt_text : ∀ (rs : List (List Str)) (at_ : Int), (rowsAt at_ rs).map Row.Text = rs.map List.flatten
  | [], _ => rfl
  | _ :: r, at_ => by simp [rowsAt, rowsAt_text r]
/-- The lines' numbers rise. -/
theorem rowsAt_rise : ∀ (rs : List (List Str)) (at_ : Int), (∀ ps ∈ rs, ps ≠ []) → (∀ x ∈ rowsAt at_ rs, at_ ≤ x.At) ∧ (rowsAt at_ rs).Pairwise (fun x y => x.At < y.At)
  | [], _, _ => ⟨fun _ h => (by cases h), .nil⟩
  | ps :: r, at_, h => by
    have h0 : 0 < ps.length := List.length_pos_iff.2 (h ps (by simp))
    obtain ⟨h1, h2⟩ := rowsAt_rise r (at_ + ps.length) (fun q hq => h q (by simp [hq]))
    refine ⟨fun x hx => ?_, ?_⟩
    · rcases List.mem_cons.1 hx with rfl | hx
      · exact Int.le_refl _
      · have := h1 x hx; omega
    · exact List.Pairwise.cons (fun y hy => by have := h1 y hy; show at_ < _; omega) h2
/-! ### A row folded by the program is made of pieces -/
variable (D : Dec)
theorem lines_pieces : ∀ (n : Nat) (cur row : Str), row.length ≤ n → ∃ (a : Str) (ps : List Str), linesG D cur row = (cur ++ a) :: ps.map (32 :: ·) ∧ a ++ ps.flatten = row ∧ (row ≠ [] → cur.length + 4 ≤ 75 → a ≠ [])
  | n, cur, row, hn => by
    by_cases h : row = []
    · subst h; exact ⟨[], [], by rw [linesG_nil]; simp, by simp, fun h => absurd rfl h⟩
    · have hd := D.drop_lt h
      cases n with
      | zero => omega
      | succ n =>
        by_cases hl : 75 < (cur.length : Int) + D.w row
        · obtain ⟨a, ps, h1, h2, _⟩ := lines_pieces n (32 :: row.take (D.w row)) (row.drop (D.w row)) (by omega)
          refine ⟨[], (row.take (D.w row) ++ a) :: ps, ?_, ?_, fun _ hc => ?_⟩
          · rw [linesG_new D h hl, h1]; simp
          · rw [List.nil_append, List.flatten_cons, List.append_assoc, h2, List.take_append_drop]
          · have := D.four row; omega
        · obtain ⟨a, ps, h1, h2, _⟩ := lines_pieces n (cur ++ row.take (D.w row)) (row.drop (D.w row)) (by omega)
          refine ⟨row.take (D.w row) ++ a, ps, ?_, ?_, fun _ _ => ?_⟩
          · rw [linesG_on D h hl, h1]; simp
          · rw [List.append_assoc, h2, List.take_append_drop]
          · have h1 := D.take_len row; have h2 := D.pos row h
            intro e
            have := congrArg List.length e
            rw [List.length_append] at this
            simp only [List.length_nil] at this
            omega
theorem ix_head {a b : Str} (h : a ≠ []) : ix (a ++ b) 0 = ix a 0 := by
  cases a with
  | nil => exact absurd rfl h
  | cons x r => rfl
theorem row_pieces {row : Str} (h : rMay row = 0) : ∃ ps, good ps ∧ rowGo D 75 row = lay [13, 10] 32 ps ∧ ps.flatten = row := by
  obtain ⟨hl, h0, h1, h2, hch⟩ := rMay_ok h
  obtain ⟨a, ps, e1, e2, e3⟩ := lines_pieces D row.length [] row (Nat.le_refl _)
  have ha := e3 h0 (by simp)
  refine ⟨a :: ps, ⟨a, ps, rfl, ha, ?_, ?_, by rw [List.flatten_cons, e2]; omega⟩, ?_, by rw [List.flatten_cons, e2]⟩
  · unfold spTab
    rw [← e2, ix_head ha] at h1 h2
    rintro (h | h)
    · exact h1 h
    · exact h2 h
  · intro q hq c hc
    refine hch c ?_
    rw [← e2]
    rcases List.mem_cons.1 hq with rfl | hq
    · exact List.mem_append_left _ hc
    · exact List.mem_append_right _ (List.mem_flatten.2 ⟨q, hq, hc⟩)
  · rw [← cat_row, e1]; simp [cat, lay, List.flatMap_map]
theorem rows_pieces : ∀ {l : List Str}, (∀ r ∈ l, rMay r = 0) → ∃ rs : List (List Str), (∀ ps ∈ rs, good ps) ∧ l.flatMap (rowGo D 75) = rs.flatMap (lay [13, 10] 32) ∧ rs.map List.flatten = l
  | [], _ => ⟨[], fun _ h => (by cases h), rfl, rfl⟩
  | r :: l, h => by
    obtain ⟨ps, h1, h2, h3⟩ := row_pieces D (h r (by simp))
    obtain ⟨rs, g1, g2, g3⟩ := rows_pieces (l := l) (fun x hx => h x (by simp [hx]))
    refine ⟨ps :: rs, fun q hq => ?_, by simp [h2, g2], by simp [h3, g3]⟩
    rcases List.mem_cons.1 hq with rfl | hq
    · exact h1
    · exact g1 q hq
/-- P4.3: rows are read from their lines as they were. -/
theorem unfold_fold {l : List Str} (h : ∀ r ∈ l, rMay r = 0) (hl : l.length ≤ 1000) : ∃ out, unfoldS (l.flatMap (rowGo D 75)) = .ok out ∧ out.map Row.Text = l ∧ (∀ x ∈ out, 1 ≤ x.At) ∧ out.Pairwise (fun x y => x.At < y.At) := by
  obtain ⟨rs, h1, h2, h3⟩ := rows_pieces D h
  have hn : rs.length = l.length := by rw [← h3]; simp
  have hr := rowsAt_rise rs 1 (fun ps hps => by obtain ⟨p, qs, rfl, _⟩ := h1 ps hps; simp)
  exact ⟨rowsAt 1 rs, by rw [h2]; exact unfold_rows (.inr rfl) (.inl rfl) rs h1 (by omega), by rw [rowsAt_text, h3], hr.1, hr.2⟩
end Go.Fo
end
section
namespace Go.Fo
open Go Go.Wk Go.Wl
theorem ix_drop {α : Type} [Inhabited α] {l : List α} {i : Int} (h0 : 0 ≤ i) (h1 : i < l.length) : l.drop i.toNat = ix l i :: l.drop (i + 1).toNat := by
  have h : i.toNat < l.length := by omega
  rw [ix_get h, List.drop_eq_getElem_cons h]
  congr 2; omega
theorem drop_all {α : Type} {l : List α} {i : Int} (h : (l.length : Int) ≤ i) : l.drop i.toNat = [] := List.drop_eq_nil_of_le (by omega)
theorem take_drop_mem {s : Str} {a b : Int} {c : UInt8} (h0 : 0 ≤ a) (hc : c ∈ (s.take b.toNat).drop a.toNat) : ∃ k : Int, a ≤ k ∧ k < b ∧ k < s.length ∧ ix s k = c := by
  obtain ⟨j, hj, rfl⟩ := List.getElem_of_mem hc
  rw [List.length_drop, List.length_take] at hj
  refine ⟨(a.toNat + j : Nat), by omega, by omega, by omega, ?_⟩
  rw [ix_get (by simp only [Int.toNat_natCast]; omega), List.getElem_drop, List.getElem_take]
  simp only [Int.toNat_natCast]
/-- A line that ends here. -/
theorem split_at {s : Str} {fr i : Int} (h0 : 0 ≤ fr) (h1 : fr ≤ i) (h2 : i < s.length) (hc : ix s i = 10) (hno : ∀ k : Int, fr ≤ k → k < i → ix s k ≠ 10) :
    linesOf (s.drop fr.toNat) = trimR ((s.take i.toNat).drop fr.toNat) :: linesOf (s.drop (i + 1).toNat) := by
  have e : s.drop fr.toNat = (s.take i.toNat).drop fr.toNat ++ 10 :: s.drop (i + 1).toNat := by
    have h3 := ix_drop (by omega) h2
    rw [hc] at h3
    rw [← h3]
    have : s = s.take i.toNat ++ s.drop i.toNat := (List.take_append_drop _ _).symm
    conv => lhs; rw [this]
    rw [List.drop_append_of_le_length (by rw [List.length_take]; omega)]
  rw [e, linesOf_line]
  intro c hc hcc
  obtain ⟨k, k1, k2, _, k4⟩ := take_drop_mem h0 hc
  exact hno k k1 k2 (by rw [k4, hcc])
theorem getLast_take {s : Str} {fr i : Int} (h0 : 0 ≤ fr) (h1 : fr < i) (h2 : i ≤ s.length) : ((s.take i.toNat).drop fr.toNat).getLast? = some (ix s (i - 1)) := by
  rw [List.getLast?_eq_getElem?, List.length_drop, List.length_take, List.getElem?_drop, List.getElem?_take]
  rw [if_pos (by omega), ix_get (by omega), List.getElem?_eq_getElem (by omega)]
  congr 2; omega
theorem trim_at {s : Str} {fr i : Int} (h0 : 0 ≤ fr) (h1 : fr ≤ i) (h2 : i ≤ s.length) : trimR ((s.take i.toNat).drop fr.toNat) = (s.take (if fr < i ∧ ix s (i - 1) = 13 then i - 1 else i).toNat).drop fr.toNat := by
  unfold trimR
  by_cases h : fr < i
  · rw [getLast_take h0 h h2]
    by_cases hc : ix s (i - 1) = 13
    · rw [if_pos (by rw [hc]), if_pos ⟨h, hc⟩, List.dropLast_eq_take, List.length_drop, List.length_take, List.drop_take, List.drop_take]
      rw [List.take_take]
      congr 1; omega
    · rw [if_neg (fun e => hc (Option.some.inj e)), if_neg (fun e => hc e.2)]
  · have e : fr = i := by omega
    subst e
    have : (s.take fr.toNat).drop fr.toNat = [] := List.drop_eq_nil_of_le (by rw [List.length_take]; omega)
    rw [this, if_neg (by simp), if_neg (fun e => h e.1), this]
theorem split_rest {s : Str} {fr : Int} (h0 : 0 ≤ fr) (hno : ∀ k : Int, fr ≤ k → k < s.length → ix s k ≠ 10) : linesOf (s.drop fr.toNat) = if fr < s.length then [s.drop fr.toNat] else [] := by
  split
  · rename_i h
    refine linesOf_rest (fun c hc => ?_) (fun e => ?_)
    · have : s.drop fr.toNat = (s.take (s.length : Int).toNat).drop fr.toNat := by rw [Int.toNat_natCast, List.take_length]
      rw [this] at hc
      obtain ⟨k, k1, k2, _, k4⟩ := take_drop_mem h0 hc
      rw [← k4]; exact hno k k1 k2
    · have := congrArg List.length e
      simp only [List.length_drop, List.length_nil] at this
      omega
  · rw [drop_all (by omega), linesOf_nil]
theorem linesOf_len : ∀ (n : Nat) (s : Str), s.length ≤ n → (linesOf s).length ≤ s.length
  | n, s, hn => by
    by_cases h : s = []
    · subst h; rw [linesOf_nil]; exact Nat.le_refl _
    · have := tl_lt h
      cases n with
      | zero => omega
      | succ n =>
        rw [linesOf_cons h, List.length_cons]
        have := linesOf_len n (tl s) (by omega)
        omega
theorem mem_linesOf : ∀ (n : Nat) (s : Str), s.length ≤ n → ∀ l ∈ linesOf s, l.length ≤ s.length
  | n, s, hn => by
    intro l hl
    by_cases h : s = []
    · subst h; rw [linesOf_nil] at hl; cases hl
    · have h1 := tl_lt h
      cases n with
      | zero => omega
      | succ n =>
        rw [linesOf_cons h] at hl
        rcases List.mem_cons.1 hl with rfl | hl
        · split
          · have h2 : (hd s).length ≤ s.length := (List.takeWhile_sublist nl).length_le
            unfold trimR
            split
            · rw [List.length_dropLast]; omega
            · exact h2
          · exact Nat.le_refl _
        · have := mem_linesOf n (tl s) (by omega) l hl
          omega
/-! ### The last row -/
def lastSet (out : List Row) (t : Str) : List Row := out.set (out.length - 1) ⟨(ix out ((out.length : Int) - 1)).At, t⟩
theorem snoc {α : Type} {out : List α} (h : out ≠ []) : ∃ a x, out = a ++ [x] := ⟨out.dropLast, out.getLast h, (List.dropLast_concat_getLast h).symm⟩
theorem ix_last {α : Type} [Inhabited α] {a : List α} {x : α} : ix (a ++ [x]) (((a ++ [x]).length : Int) - 1) = x := by
  have e : (((a ++ [x]).length : Int) - 1).toNat = a.length := by rw [List.length_append, List.length_singleton]; omega
  rw [ix_get (by rw [e]; simp)]
  simp [e]
theorem lastSet_snoc {a : List Row} {x : Row} {t : Str} : lastSet (a ++ [x]) t = a ++ [⟨x.At, t⟩] := by
  unfold lastSet
  rw [ix_last]
  simp [List.length_append]
theorem lastAdd_snoc {a : List Row} {x : Row} {t : Str} : lastAdd (a ++ [x]) t = a ++ [⟨x.At, x.Text ++ t⟩] := by simp [lastAdd]
theorem lastAdd_set {out : List Row} {t : Str} (h : out ≠ []) : lastAdd out t = out.set (out.length - 1) ⟨(ix out ((out.length : Int) - 1)).At, (ix out ((out.length : Int) - 1)).Text ++ t⟩ := by
  obtain ⟨a, x, rfl⟩ := snoc h
  rw [lastAdd_snoc, ix_last]
  simp [List.length_append]
theorem lastSet_len (out : List Row) (t : Str) : (lastSet out t).length = out.length := by simp [lastSet]
theorem lastD_ix {out : List Row} (h : out ≠ []) : out.getLastD default = ix out ((out.length : Int) - 1) := by
  obtain ⟨a, x, rfl⟩ := snoc h
  rw [ix_last, getLastD_snoc]
/-- What the program has read, the row that is not finished included. -/
def cur (out : List Row) (long : Str) (o : Bool) : List Row := if o = true then lastSet out long else out
theorem cur_len (out : List Row) (long : Str) (o : Bool) : (cur out long o).length = out.length := by unfold cur; split; (exact lastSet_len out long); rfl
end Go.Fo
end
section
namespace Go.Li
open Go Go.Wk Go.Wl
structure Param where
  Name : Str
  Values : List Str
  deriving Inhabited, DecidableEq
structure Prp where
  Group : Str
  Name : Str
  Params : List Param
  Value : Str
  deriving Inhabited, DecidableEq
end Go.Li
end
section
namespace Go.Proofs.YtadgfmmmdhlljaaDoor
open Go Go.Wk Go.Wl Go.Rx Go.Fo Go.Li
def dRow : Rd Row where
  sz := 2
  rd := fun D w cs x => ∃ c0 c1, cs = c0 ++ (c1) ∧ dInt.rd D w c0 x.At ∧ dStr.rd D w c1 x.Text
  len := fun ⟨c0, c1, e, h0, h1⟩ => by rw [e]; simp only [List.length_append, Rd.len _ h0, Rd.len _ h1]; rfl
  mono := fun ⟨c0, c1, e, h0, h1⟩ a b c => ⟨c0, c1, e, Rd.mono _ h0 a b c, Rd.mono _ h1 a b c⟩
  plain := fun ⟨c0, c1, e, h0, h1⟩ => by rw [e]; simp only [List.all_append, Rd.plain _ h0, Rd.plain _ h1]; rfl
def dParam : Rd Param where
  sz := 2
  rd := fun D w cs x => ∃ c0 c1, cs = c0 ++ (c1) ∧ dStr.rd D w c0 x.Name ∧ (dSlice dStr).rd D w c1 x.Values
  len := fun ⟨c0, c1, e, h0, h1⟩ => by rw [e]; simp only [List.length_append, Rd.len _ h0, Rd.len _ h1]; rfl
  mono := fun ⟨c0, c1, e, h0, h1⟩ a b c => ⟨c0, c1, e, Rd.mono _ h0 a b c, Rd.mono _ h1 a b c⟩
  plain := fun ⟨c0, c1, e, h0, h1⟩ => by rw [e]; simp only [List.all_append, Rd.plain _ h0, Rd.plain _ h1]; rfl
def dPrp : Rd Prp where
  sz := 4
  rd := fun D w cs x => ∃ c0 c1 c2 c3, cs = c0 ++ (c1 ++ (c2 ++ (c3))) ∧ dStr.rd D w c0 x.Group ∧ dStr.rd D w c1 x.Name ∧ (dSlice dParam).rd D w c2 x.Params ∧ dStr.rd D w c3 x.Value
  len := fun ⟨c0, c1, c2, c3, e, h0, h1, h2, h3⟩ => by rw [e]; simp only [List.length_append, Rd.len _ h0, Rd.len _ h1, Rd.len _ h2, Rd.len _ h3]; rfl
  mono := fun ⟨c0, c1, c2, c3, e, h0, h1, h2, h3⟩ a b c => ⟨c0, c1, c2, c3, e, Rd.mono _ h0 a b c, Rd.mono _ h1 a b c, Rd.mono _ h2 a b c, Rd.mono _ h3 a b c⟩
  plain := fun ⟨c0, c1, c2, c3, e, h0, h1, h2, h3⟩ => by rw [e]; simp only [List.all_append, Rd.plain _ h0, Rd.plain _ h1, Rd.plain _ h2, Rd.plain _ h3]; rfl
def dNone : Rd Unit where
  sz := 0
  rd := fun _ _ _ _ => False
  len := fun h => h.elim
  mono := fun h _ _ _ => h
  plain := fun h => h.elim
def obNone (_ : Nat) : Ob Unit where
  is := fun _ _ _ _ => False
  stab := fun Z Z' B w w' h _ _ _ => h
  lt := fun h => h.elim

def U : Uni where
  tb := fun | 3 => ⟨Int, dInt, inferInstance⟩ | 5 => ⟨UInt8, dByte, inferInstance⟩ | 9 => ⟨Str, dStr, inferInstance⟩ | 22 => ⟨List Str, (dSlice dStr), inferInstance⟩ | 40 => ⟨Row, dRow, inferInstance⟩ | 43 => ⟨List Param, (dSlice dParam), inferInstance⟩ | 45 => ⟨Prp, dPrp, inferInstance⟩ | 59 => ⟨Param, dParam, inferInstance⟩ | _ => ⟨Unit, dNone, ⟨()⟩⟩
  oj := fun | 0 => ⟨Str, bld 78 5⟩ | 1 => ⟨Option Str, bldO 78 5⟩ | _ => ⟨Unit, obNone⟩
def eT : ErrT := ⟨81, 82, 84, fun t => bif Nat.beq t 153 then some 0 else none⟩
theorem wr_inv {t k : Nat} (h : eT.wr t = some k) : (t = 153 ∧ k = 0) := by
  have h : (bif Nat.beq t 153 then some 0 else none) = some k := h
  cases hb0 : Nat.beq t 153 with
  | true => rw [hb0, cond_true] at h; cases h; exact ⟨Nat.eq_of_beq_eq_true hb0, rfl⟩
  | false =>
    rw [hb0, cond_false] at h
    cases h
def y3 : TyI U eT 3 where
  sv := fun (x : Int) => .int .i64 x
  bk := asI64
  sv_ok := sv_int
  bk_ok := bk_int
  hy := fun (x : Int) => [in64 x]
  hy_ok := fun {_ _ _ x} h p hp => by
    have h : dInt.rd _ _ _ x := h
    simp only [List.mem_singleton] at hp; subst hp; exact h.2
def y5 : TyI U eT 5 where
  sv := fun (x : UInt8) => .byte x
  bk := asY
  sv_ok := sv_byte
  bk_ok := bk_byte
  by8 := some ⟨rfl⟩
def y9 : TyI U eT 9 where
  sv := fun (x : Str) => .str x
  bk := asS
  sv_ok := sv_str
  bk_ok := bk_str
def y22 : TyI U eT 22 where
  sv := fun (x : List Str) => .sl 9 x
  bk := fun s => pb (asLN U 9) (leaves s)
  sv_ok := sv_sl (N := U) (t := 9)
  bk_ok := pb_sl (N := U) (t := 9)
def y40k (ls : List (SV U)) : Option Row :=
  (pb asI64 (ls.take 1)).bind fun x0 =>
  (pb asS ((ls.drop 1))).bind fun x1 =>
  some ⟨x0, x1⟩
theorem y40r {ρ : Env1} {Z : Nat → Prop} {w : World} {cs : List Value} {ls : List (SV U)} {x : Row} (h : RepL U eT ρ Z w cs ls) (e : y40k ls = some x) : dRow.rd Z w cs x := by
  unfold y40k at e
  obtain ⟨x0, e0, e⟩ := Option.bind_eq_some_iff.1 e
  obtain ⟨x1, e1, e⟩ := Option.bind_eq_some_iff.1 e
  cases e
  have g1 := RepL.split 1 h
  exact ⟨(cs.take 1), (cs.drop 1), by simp only [List.take_append_drop], pb_int g1.1 e0, pb_str g1.2 e1⟩
def y40 : TyI U eT 40 where
  sv := fun (x : Row) => .agg ([.int .i64 x.At] ++ ([.str x.Text]))
  bk := fun s => y40k (leaves s)
  sv_ok := fun {ρ Z w cs x} h => by
    obtain ⟨c0, c1, e, h0, h1⟩ := (show dRow.rd Z w cs x from h)
    subst e
    exact RepL.app (sv_int h0) (sv_str h1)
  bk_ok := y40r
  hy := fun (x : Row) => [in64 x.At]
  hy_ok := fun {Z w cs x} h p hp => by
    obtain ⟨c0, c1, e, h0, h1⟩ := (show dRow.rd Z w cs x from h)
    simp only [List.mem_singleton] at hp; subst hp; exact h0.2
def y43 : TyI U eT 43 where
  sv := fun (x : List Param) => .sl 59 x
  bk := fun s => pb (asLN U 59) (leaves s)
  sv_ok := sv_sl (N := U) (t := 59)
  bk_ok := pb_sl (N := U) (t := 59)
def y45k (ls : List (SV U)) : Option Prp :=
  (pb asS (ls.take 1)).bind fun x0 =>
  (pb asS ((ls.drop 1).take 1)).bind fun x1 =>
  (pb (asLN U 59) (((ls.drop 1).drop 1).take 1)).bind fun x2 =>
  (pb asS ((((ls.drop 1).drop 1).drop 1))).bind fun x3 =>
  some ⟨x0, x1, x2, x3⟩
theorem y45r {ρ : Env1} {Z : Nat → Prop} {w : World} {cs : List Value} {ls : List (SV U)} {x : Prp} (h : RepL U eT ρ Z w cs ls) (e : y45k ls = some x) : dPrp.rd Z w cs x := by
  unfold y45k at e
  obtain ⟨x0, e0, e⟩ := Option.bind_eq_some_iff.1 e
  obtain ⟨x1, e1, e⟩ := Option.bind_eq_some_iff.1 e
  obtain ⟨x2, e2, e⟩ := Option.bind_eq_some_iff.1 e
  obtain ⟨x3, e3, e⟩ := Option.bind_eq_some_iff.1 e
  cases e
  have g1 := RepL.split 1 h
  have g2 := RepL.split 1 g1.2
  have g3 := RepL.split 1 g2.2
  exact ⟨(cs.take 1), ((cs.drop 1).take 1), (((cs.drop 1).drop 1).take 1), (((cs.drop 1).drop 1).drop 1), by simp only [List.take_append_drop], pb_str g1.1 e0, pb_str g2.1 e1, pb_sl (N := U) (t := 59) g3.1 e2, pb_str g3.2 e3⟩
def y45 : TyI U eT 45 where
  sv := fun (x : Prp) => .agg ([.str x.Group] ++ ([.str x.Name] ++ ([.sl 59 x.Params] ++ ([.str x.Value]))))
  bk := fun s => y45k (leaves s)
  sv_ok := fun {ρ Z w cs x} h => by
    obtain ⟨c0, c1, c2, c3, e, h0, h1, h2, h3⟩ := (show dPrp.rd Z w cs x from h)
    subst e
    exact RepL.app (sv_str h0) (RepL.app (sv_str h1) (RepL.app (sv_sl (N := U) (t := 59) h2) (sv_str h3)))
  bk_ok := y45r
def y59k (ls : List (SV U)) : Option Param :=
  (pb asS (ls.take 1)).bind fun x0 =>
  (pb (asLN U 9) ((ls.drop 1))).bind fun x1 =>
  some ⟨x0, x1⟩
theorem y59r {ρ : Env1} {Z : Nat → Prop} {w : World} {cs : List Value} {ls : List (SV U)} {x : Param} (h : RepL U eT ρ Z w cs ls) (e : y59k ls = some x) : dParam.rd Z w cs x := by
  unfold y59k at e
  obtain ⟨x0, e0, e⟩ := Option.bind_eq_some_iff.1 e
  obtain ⟨x1, e1, e⟩ := Option.bind_eq_some_iff.1 e
  cases e
  have g1 := RepL.split 1 h
  exact ⟨(cs.take 1), (cs.drop 1), by simp only [List.take_append_drop], pb_str g1.1 e0, pb_sl (N := U) (t := 9) g1.2 e1⟩
def y59 : TyI U eT 59 where
  sv := fun (x : Param) => .agg ([.str x.Name] ++ ([.sl 9 x.Values]))
  bk := fun s => y59k (leaves s)
  sv_ok := fun {ρ Z w cs x} h => by
    obtain ⟨c0, c1, e, h0, h1⟩ := (show dParam.rd Z w cs x from h)
    subst e
    exact RepL.app (sv_str h0) (sv_sl (N := U) (t := 9) h1)
  bk_ok := y59r
def tyU : ∀ t, Option (TyI U eT t)
  | 3 => some y3
  | 5 => some y5
  | 9 => some y9
  | 22 => some y22
  | 40 => some y40
  | 43 => some y43
  | 45 => some y45
  | 59 => some y59
  | _ => none
end Go.Proofs.YtadgfmmmdhlljaaDoor
end
section
namespace Go.Proofs.YtadgfmmmdhlljaaDoor
open Go Go.Wk Go.Wl Go.Rx Go.Fo Go.Li 
def errTypeV : Value := .iface 161 (.agg #[.pointer (some ⟨4, 26, none⟩)])
/-- What the package's variables hold. -/
def Gl : Glob where
  is := fun Z w => (Z 0 ∧ Z 1 ∧ Z 2) ∧ 2 < w.heap.size ∧ Lib.Utf8Tabs 0 1 w ∧ w.cell? ⟨2, 0, none⟩ = some errTypeV
  stab := fun {Z Z' B w w'} ⟨⟨z0, z1, z2⟩, hs, ht, he⟩ x hB hZ => by
    have k : ∀ b, b ≤ 2 → Z b → w'.heap[b]? = w.heap[b]? := fun b hb hz => x.block b (by omega) (fun hm => by have := hB b hm hz; omega)
    have c : ∀ b o, b ≤ 2 → Z b → w'.cell? ⟨b, o, none⟩ = w.cell? ⟨b, o, none⟩ := fun b o hb hz => by unfold World.cell?; rw [k b hb hz]
    exact ⟨⟨hZ 0 z0 (by omega), hZ 1 z1 (by omega), hZ 2 z2 (by omega)⟩, Nat.lt_of_lt_of_le hs x.size, ⟨fun i hi => by rw [c 0 i (by omega) z0]; exact ht.1 i hi, fun i hi => by rw [c 1 _ (by omega) z1, c 1 _ (by omega) z1]; exact ht.2 i hi⟩, by rw [c 2 0 (by omega) z2]; exact he⟩
def zobU (t : Nat) : Option ((k : Nat) × U.O k) := bif Nat.beq t 78 then some ⟨0, ([] : Str)⟩ else none
noncomputable def E0 : Env := ⟨Tryd.prog, U, eT, tyU, zobU, fun _ => none, fun _ => false, fun _ => none, fun _ => none, Gl, fun _ => none⟩
theorem E0_ok : EnvOK E0 := by
  refine ⟨by kernel_rfl, fun t k x h => ?_, fun K h => ?_, fun K fn h => ?_, fun K f args nx c h => ?_, fun K f args nx c h => ?_, fun K o x args r h => ?_, fun K o a x r h => ?_⟩
  · have h : zobU t = some ⟨k, x⟩ := h
    unfold zobU at h
    cases hb : Nat.beq t 78 with
    | false => rw [hb] at h; cases h
    | true =>
      rw [hb] at h
      cases h
      have e := Nat.eq_of_beq_eq_true hb
      subst e
      exact ⟨.agg #[.pointer none, .slice none 0 0], by kernel_rfl, fun Z w b ho => bld_zero ho⟩
  · cases h
  · cases h
  · cases h
  · cases h
  · cases h
  · cases h
end Go.Proofs.YtadgfmmmdhlljaaDoor
end
