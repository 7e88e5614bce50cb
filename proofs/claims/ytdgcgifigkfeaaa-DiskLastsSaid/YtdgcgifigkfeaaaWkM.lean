/- Maps that the call makes; ranging over them. -/
import Derived.Test.YtdgcgifigkfeaaaWkH
namespace Go.Wk
open Go

structure Key (κ : Type) where
  enc : κ → Value
  kind : TypeDesc
  same : ∀ a, Instr.sameNow kind (enc a) (enc a) = some true
  diff : ∀ a b, a ≠ b → Instr.sameNow kind (enc a) (enc b) = some false
  check : ∀ (P : Program) (T : TypeId) (emp : Bool) (a : κ) (w : World), (∀ w, (underlying T).run P w = .ok kind w) → (Instr.checkKey emp 10000 T (enc a)).run P w = .ok () w
  bits : ∀ a, Instr.sameBits 10000 (enc a) (enc a) = true

section

theorem check_succ (P : Program) (T : TypeId) (emp : Bool) (v : Value) (w : World) {d : TypeDesc} (h : ∀ w, (underlying T).run P w = .ok d w) (hd : match d with | .array _ _ | .struct _ | .interface _ => False | _ => True) (n : Nat) :
    (Instr.checkKey emp (n + 1) T v).run P w = .ok () w := by
  simp only [Instr.checkKey, Sem.run_bind, h, Result.andThen_ok]
  cases d <;> first | rfl | exact hd.elim
theorem check_step (P : Program) (T : TypeId) (emp : Bool) (v : Value) (w : World) {d : TypeDesc} (h : ∀ w, (underlying T).run P w = .ok d w) (hd : match d with | .array _ _ | .struct _ | .interface _ => False | _ => True) :
    (Instr.checkKey emp 10000 T v).run P w = .ok () w := check_succ P T emp v w h hd 9999
theorem bits_succ_int (n : Nat) (k : IntKind) (a : Int) : Instr.sameBits (n + 1) (.int k a) (.int k a) = true := by simp [Instr.sameBits]
theorem baq (a b : List UInt8) : ((⟨a.toArray⟩ : ByteArray) == ⟨b.toArray⟩) = decide (a = b) := by
  have : ((⟨a.toArray⟩ : ByteArray) == ⟨b.toArray⟩) = (a.toArray == b.toArray) := rfl
  rw [this]
  by_cases h : a = b <;> simp [h]
theorem bits_succ_str (n : Nat) (a : Str) : Instr.sameBits (n + 1) (sv a) (sv a) = true := by unfold sv; simp [Instr.sameBits, baq]
def kInt : Key Int where
  enc := fun a => .int .i64 a
  kind := .int .i64
  same := fun a => by simp [Instr.sameNow]
  diff := fun a b h => by simp [Instr.sameNow, h]
  check := fun P T emp a w h => check_step P T emp _ w h trivial
  bits := fun a => bits_succ_int 9999 _ a
theorem sv_inj {a b : Str} (h : sv a = sv b) : a = b := by
  unfold sv at h
  have := Value.string.inj h
  have := ByteArray.mk.inj this
  simpa using this
def kStr : Key Str where
  enc := sv
  kind := .string
  same := fun a => by simp [Instr.sameNow, sv, baq]
  diff := fun a b h => by simp [Instr.sameNow, sv, baq, h]
  check := fun P T emp a w h => check_step P T emp _ w h trivial
  bits := fun a => bits_succ_str 9999 a

section
variable {κ : Type}
def findL [DecidableEq κ] (L : List (κ × Value)) (k : κ) (i : Nat) : Option (Nat × Value) :=
  match L with
  | [] => none
  | p :: r => if k = p.1 then some (i, p.2) else findL r k (i + 1)
def getL [DecidableEq κ] (L : List (κ × Value)) (k : κ) : Option Value :=
  match L with
  | [] => none
  | p :: r => if k = p.1 then some p.2 else getL r k
def putL [DecidableEq κ] (L : List (κ × Value)) (k : κ) (v : Value) : List (κ × Value) :=
  match L with
  | [] => [(k, v)]
  | p :: r => if k = p.1 then (k, v) :: r else p :: putL r k v
def delL [DecidableEq κ] (L : List (κ × Value)) (k : κ) : List (κ × Value) := L.filter fun p => ¬ k = p.1

theorem findL_get [DecidableEq κ] (L : List (κ × Value)) (k : κ) : ∀ i, (findL L k i).map (·.2) = getL L k := by
  induction L with
  | nil => intro i; rfl
  | cons p r ih => intro i; simp only [findL, getL]; split <;> simp [ih]

def pairs (es : List MapEntry) : List (Value × Value) := es.map fun e => (e.key, e.val)
structure Good (ky : Key κ) (es : List MapEntry) (clk : Nat) (L : List (κ × Value)) : Prop where
  same : pairs es = L.map fun p => (ky.enc p.1, p.2)
  keys : (L.map (·.1)).Nodup
  borns : (es.map (·.born)).Nodup
  young : ∀ e ∈ es, e.born < clk
def MapAt (ky : Key κ) (w : World) (b : Nat) (L : List (κ × Value)) : Prop := ∃ es clk, w.heap[b]? = some (.map es clk) ∧ Good ky es.toList clk L

theorem MapAt.lt {ky : Key κ} {w : World} {b : Nat} {L : List (κ × Value)} (h : MapAt ky w b L) : b < w.heap.size := let ⟨_, _, h, _⟩ := h; lt_of_get h
theorem MapAt.ext {ky : Key κ} {w w' : World} {b : Nat} {L : List (κ × Value)} {B : List Nat} (h : MapAt ky w b L) (e : Ext B w w') (hb : b ∉ B) : MapAt ky w' b L :=
  let ⟨es, clk, h, g⟩ := h; ⟨es, clk, e.get hb h, g⟩
theorem MapAt.nodup {ky : Key κ} {w : World} {b : Nat} {L : List (κ × Value)} (h : MapAt ky w b L) : (L.map (·.1)).Nodup := let ⟨_, _, _, g⟩ := h; g.keys

theorem pairs_cons {e : MapEntry} {es : List MapEntry} {ky : Key κ} {L : List (κ × Value)} (h : pairs (e :: es) = L.map fun p => (ky.enc p.1, p.2)) : ∃ k v r, L = (k, v) :: r ∧ e.key = ky.enc k ∧ e.val = v ∧ pairs es = r.map fun p => (ky.enc p.1, p.2) := by
  cases L with
  | nil => simp [pairs] at h
  | cons p r => obtain ⟨k, v⟩ := p; simp [pairs] at h; exact ⟨k, v, r, rfl, h.1.1, h.1.2, h.2⟩

theorem findNow_eq [DecidableEq κ] (ky : Key κ) (k : κ) : ∀ (es : List MapEntry) (L : List (κ × Value)) (i : Nat), pairs es = (L.map fun p => (ky.enc p.1, p.2)) → Instr.findNow ky.kind (ky.enc k) es i = some (findL L k i) := by
  intro es
  induction es with
  | nil => intro L i h; cases L with
    | nil => rfl
    | cons p r => simp [pairs] at h
  | cons e es ih =>
    intro L i h
    obtain ⟨k', v, r, rfl, h1, h2, h3⟩ := pairs_cons h
    simp only [Instr.findNow, findL, h1]
    by_cases hk : k = k'
    · subst hk; simp [h2, ky.same]
    · simp only [ky.diff _ _ hk, if_neg hk]
      exact ih r (i + 1) h3

theorem findL_shift [DecidableEq κ] (L : List (κ × Value)) (k : κ) : ∀ i, findL L k i = (findL L k 0).map fun p => (i + p.1, p.2) := by
  induction L with
  | nil => intro i; rfl
  | cons p r ih =>
    intro i
    simp only [findL]
    split
    · simp
    · rw [ih (i + 1), ih (0 + 1)]; cases findL r k 0 <;> simp; omega

theorem Good.put_old [DecidableEq κ] {ky : Key κ} {es : List MapEntry} {clk : Nat} {L : List (κ × Value)} {k : κ} {v v0 : Value} : ∀ {j : Nat}, Good ky es clk L → findL L k 0 = some (j, v0) → Good ky (es.modify j fun e => { e with key := ky.enc k, val := v }) clk (putL L k v) := by
  induction L generalizing es with
  | nil => intro j _ h; simp [findL] at h
  | cons p r ih =>
    intro j g h
    obtain ⟨e, es, rfl⟩ : ∃ e es', es = e :: es' := by
      cases es with
      | nil => have := g.same; simp [pairs] at this
      | cons e es' => exact ⟨e, es', rfl⟩
    obtain ⟨k', v', r', hL, h1, h2, h3⟩ := pairs_cons g.same
    cases hL
    have hnd := g.keys
    simp at hnd
    have hb := g.borns
    simp only [List.map_cons, List.nodup_cons] at hb
    by_cases hk : k = k'
    · subst hk
      simp [findL] at h
      obtain ⟨rfl, rfl⟩ := h
      refine ⟨?_, ?_, by simpa using g.borns, fun e' he' => ?_⟩
      · simp [pairs, putL]; exact h3
      · simpa [putL] using g.keys
      · simp at he'
        rcases he' with rfl | he'
        · exact g.young e (by simp)
        · exact g.young e' (by simp [he'])
    · simp only [findL, if_neg hk] at h
      rw [findL_shift] at h
      cases hf : findL r k 0 with
      | none => rw [hf] at h; simp at h
      | some q =>
        obtain ⟨j', v1⟩ := q
        rw [hf] at h
        simp at h
        obtain ⟨rfl, rfl⟩ := h
        have g' : Good ky es clk r := ⟨h3, hnd.2, hb.2, fun e' he' => g.young e' (by simp [he'])⟩
        have g2 := ih g' hf
        have hmod : (e :: es).modify (0 + 1 + j') (fun e => { e with key := ky.enc k, val := v }) = e :: es.modify j' (fun e => { e with key := ky.enc k, val := v }) := by
          rw [show 0 + 1 + j' = j' + 1 by omega]; simp
        have hbm : ∀ (l : List MapEntry) (j : Nat), (l.modify j (fun e => { e with key := ky.enc k, val := v })).map (·.born) = l.map (·.born) := by
          intro l; induction l with
          | nil => intro j; simp
          | cons x l ih => intro j; cases j <;> simp [ih]
        rw [hmod]
        refine ⟨?_, ?_, ?_, fun e' he' => ?_⟩
        · simp only [putL, if_neg hk]
          have := g2.same
          simp only [pairs, List.map_cons] at this ⊢
          rw [this, h1, h2]
        · simp only [putL, if_neg hk, List.map_cons, List.nodup_cons]
          refine ⟨?_, g2.keys⟩
          have hkeys : ∀ (l : List (κ × Value)) x, x ∈ (putL l k v).map (·.1) → x = k ∨ x ∈ l.map (·.1) := by
            intro l; induction l with
            | nil => intro x h; simp [putL] at h; exact .inl h
            | cons q l ih =>
              intro x h
              simp only [putL] at h
              split at h
              · simp at h; rcases h with h | h
                · exact .inl h
                · exact .inr (by simp [h])
              · simp only [List.map_cons, List.mem_cons] at h
                rcases h with h | h
                · exact .inr (by simp [h])
                · rcases ih x h with h | h
                  · exact .inl h
                  · exact .inr (by simp only [List.map_cons, List.mem_cons]; exact .inr h)
          intro hm
          rcases hkeys r k' hm with h | h
          · exact hk h.symm
          · have := hnd.1; simp at h; obtain ⟨u, hu⟩ := h; exact this u hu
        · simp only [List.map_cons, hbm]; simpa using g.borns
        · simp at he'
          rcases he' with rfl | he'
          · exact g.young e' (by simp)
          · exact g2.young e' he'
theorem keys_put [DecidableEq κ] {L : List (κ × Value)} {k : κ} {v : Value} {x : κ} : x ∈ (putL L k v).map (·.1) ↔ x = k ∨ x ∈ L.map (·.1) := by
  induction L with
  | nil => simp [putL]
  | cons q l ih =>
    simp only [putL]
    split
    · rename_i h; simp [h]
    · simp only [List.map_cons, List.mem_cons, ih]
      constructor <;> (intro h; rcases h with h | h | h <;> simp [h])
theorem findL_none [DecidableEq κ] {L : List (κ × Value)} {k : κ} : ∀ i, findL L k i = none → k ∉ L.map (·.1) := by
  induction L with
  | nil => intro i _; simp
  | cons p r ih =>
    intro i h
    simp only [findL] at h
    split at h
    · cases h
    · rename_i hk; simp only [List.map_cons, List.mem_cons, not_or]; exact ⟨hk, ih _ h⟩
theorem putL_new [DecidableEq κ] {L : List (κ × Value)} {k : κ} {v : Value} (h : k ∉ L.map (·.1)) : putL L k v = L ++ [(k, v)] := by
  induction L with
  | nil => rfl
  | cons p r ih =>
    simp only [List.map_cons, List.mem_cons, not_or] at h
    simp only [putL, if_neg h.1, ih h.2, List.cons_append]
theorem Good.put_new [DecidableEq κ] {ky : Key κ} {es : List MapEntry} {clk : Nat} {L : List (κ × Value)} {k : κ} {v : Value} (g : Good ky es clk L) (h : findL L k 0 = none) :
    Good ky (es ++ [{ key := ky.enc k, val := v, born := clk }]) (clk + 1) (putL L k v) := by
  have hk := findL_none 0 h
  rw [putL_new hk]
  refine ⟨?_, ?_, ?_, fun e he => ?_⟩
  · have := g.same; simp only [pairs, List.map_append, List.map_cons, List.map_nil] at this ⊢; rw [this]
  · rw [List.map_append, List.nodup_append]
    refine ⟨g.keys, by simp, fun a ha b hb => ?_⟩
    simp at hb; subst hb; intro e; subst e; exact hk ha
  · rw [List.map_append, List.nodup_append]
    refine ⟨g.borns, by simp, fun a ha b hb => ?_⟩
    simp at hb; subst hb
    obtain ⟨e, he, rfl⟩ := List.mem_map.1 ha
    have := g.young e he; omega
  · simp at he
    rcases he with he | rfl
    · have := g.young e he; omega
    · simp
theorem Good.del [DecidableEq κ] {ky : Key κ} {es : List MapEntry} {clk : Nat} {L : List (κ × Value)} {k : κ} {v0 : Value} : ∀ {j : Nat}, Good ky es clk L → findL L k 0 = some (j, v0) → Good ky (es.eraseIdx j) clk (delL L k) := by
  induction L generalizing es with
  | nil => intro j _ h; simp [findL] at h
  | cons p r ih =>
    intro j g h
    obtain ⟨e, es, rfl⟩ : ∃ e es', es = e :: es' := by
      cases es with
      | nil => have := g.same; simp [pairs] at this
      | cons e es' => exact ⟨e, es', rfl⟩
    obtain ⟨k', v', r', hL, h1, h2, h3⟩ := pairs_cons g.same
    cases hL
    have hnd := g.keys
    simp only [List.map_cons, List.nodup_cons] at hnd
    have hb := g.borns
    simp only [List.map_cons, List.nodup_cons] at hb
    have g' : Good ky es clk r := ⟨h3, hnd.2, hb.2, fun e' he' => g.young e' (by simp [he'])⟩
    by_cases hk : k = k'
    · subst hk
      simp [findL] at h
      obtain ⟨rfl, rfl⟩ := h
      have hdel : delL ((k, v') :: r) k = r := by
        simp only [delL, List.filter_cons]
        simp only [not_true_eq_false, decide_false, Bool.false_eq_true, if_false]
        refine List.filter_eq_self.2 fun p hp => ?_
        simp only [decide_eq_true_eq]
        intro e; exact hnd.1 (List.mem_map.2 ⟨p, hp, e.symm⟩)
      rw [hdel]; simpa using g'
    · simp only [findL, if_neg hk] at h
      rw [findL_shift] at h
      cases hf : findL r k 0 with
      | none => rw [hf] at h; simp at h
      | some q =>
        obtain ⟨j', v1⟩ := q
        rw [hf] at h
        simp at h
        obtain ⟨rfl, rfl⟩ := h
        have g2 := ih g' hf
        have hmod : (e :: es).eraseIdx (0 + 1 + j') = e :: es.eraseIdx j' := by
          rw [show 0 + 1 + j' = j' + 1 by omega]; simp
        have hdel : delL ((k', v') :: r) k = (k', v') :: delL r k := by
          simp only [delL, List.filter_cons, hk, not_false_eq_true, decide_true, if_true]
        rw [hmod, hdel]
        refine ⟨?_, ?_, ?_, fun e' he' => ?_⟩
        · have := g2.same
          simp only [pairs, List.map_cons] at this ⊢
          rw [this, h1, h2]
        · simp only [List.map_cons, List.nodup_cons]
          refine ⟨fun hm => hnd.1 ?_, g2.keys⟩
          obtain ⟨p, hp, e⟩ := List.mem_map.1 hm
          exact List.mem_map.2 ⟨p, (List.mem_filter.1 hp).1, e⟩
        · simp only [List.map_cons, List.nodup_cons]
          refine ⟨fun hm => hb.1 ?_, g2.borns⟩
          obtain ⟨p, hp, e⟩ := List.mem_map.1 hm
          exact List.mem_map.2 ⟨p, List.mem_of_mem_eraseIdx hp, e⟩
        · simp at he'
          rcases he' with rfl | he'
          · exact g.young e' (by simp)
          · exact g2.young e' he'
theorem delL_none [DecidableEq κ] {L : List (κ × Value)} {k : κ} (h : k ∉ L.map (·.1)) : delL L k = L := by
  refine List.filter_eq_self.2 fun p hp => ?_
  simp only [decide_eq_true_eq]
  intro e; exact h (List.mem_map.2 ⟨p, hp, e.symm⟩)
end
end
end Go.Wk
