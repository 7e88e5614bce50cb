/- A statement and its own function. -/
import Derived.Test.YtadgfmmmdhlljaaDoorZF6
import Derived.Test.YtadgfmmmdhlljaaDoorKL0
import Derived.Test.YtadgfmmmdhlljaaDoorTie
import Derived.Test.YtadgfmmmdhlljaaDoorCards
import Derived.SevenTiedAt
set_option linter.unusedVariables false
set_option linter.unusedSimpArgs false
namespace Go.Proofs.YtadgfmmmdhlljaaDoor
open Go Go.Wk Go.Wl Go.Rx Go.ChangeShapes Go.WideShapes Go.RowKit
set_option maxRecDepth 100000 in
theorem foldAnywhere_lifted (os : Os) (started : os.Started) (H : Type) (enc : TypeId × Value → H) :
    ReturnsInHanded {} Tryd.checked os 6 .any (fun w args => (Rows.foldAnywhereSpec.pre enc Tryd.prog Tryd.f6 [] false w args ∧ laidMetH Tryd.prog laidF w) ∧ sizedMet enc Tryd.prog Tryd.f6 (OpenSpec.ofChange Rows.foldAnywhereSpec) false w args)
      (Rows.foldAnywhereSpec.post enc Tryd.prog Tryd.f6 Rows.foldAnywhereRow.apart Rows.foldAnywhereRow.fresh Rows.foldAnywhereRow.handsOn Rows.foldAnywhereRow.again) := by
  refine returnsInHanded_of_change_and (C := Tryd.checked) (X := fun w _ => laidMetH Tryd.prog laidF w) (fun _ _ _ hh h => h.of_heap hh) own0 started (by kernel_rfl) Tryd.func6
    (ChangeSpec.witness_shaped (enc := enc) (C := Tryd.checked) (os := os) (X := fun w _ => laidMetH Tryd.prog laidF w) false (laidW os) #[.slice none 0 0, .int .i64 0] 8 rfl (laidW_shaped os _) (by kernel_rfl) (by kernel_rfl) (by kernel_rfl) (laidW_met os _)) ?_
  intro W base args ds gs before hval0 hW _ _ hL _
  have hval : ∀ (j : Nat) t v, Tryd.f6.params[j]? = some t → args[j]? = some v → Value.okWide Tryd.prog W .any base t v := hval0
  have hW' := hW
  obtain ⟨p, q, hA0, hV, rfl, _, _⟩ := hW
  have hA : DataW.TrodAll enc Tryd.prog W 0 (fun _ => true) true Tryd.f6.params.toList args.toList ds p := hA0
  rw [Tryd.params6] at hA hval
  obtain ⟨v0, v1, d0, d1, p0, p1, rfl, rfl, rfl, h0, h1⟩ := trodAll_two hA
  obtain ⟨rfl, rfl⟩ := trodVars_none hV
  have ⟨y0, k0⟩ := opensD_arg (opensD_slice Tryd.underlying22 (by kernel_rfl) (by decide) (opensD_str Tryd.underlying9)) (okc_slice Tryd.underlying22 (hval 0 22 v0 rfl rfl)) h0
  have ln0 := k0.1
  have ⟨y1, k1⟩ := opensD_arg (opensD_int Tryd.underlying3) (okc_int Tryd.underlying3 (hval 1 3 v1 rfl rfl)) h1
  obtain ⟨e1, b1⟩ := k1
  obtain rfl : v1 = .int .i64 y1 := by simpa using e1
  have hc := c6_ok [.sl 9 y0, .int .i64 y1] _ rfl ⟨ln0, trivial⟩ (fun b => b < W.heap.size) W [v0, .int .i64 y1] (fun _ h => h) (gl_of_laid hL) (.tup1 (cs := [.int .i64 y1]) (rep_sl k0) (.tup1 (cs := []) (.int fun _ => b1) .tup0))
  exact law_calls (tb := 4) laid0 (read0 (by kernel_rfl)) rfl Tryd.underlying4 rfl rfl hW' (hc.mono fun v w' h => ⟨bool_true h.2.1, h.1⟩)
theorem foldAnywhere_holds : Rows.FoldAnywhereSaid :=
  OpenClaim.holds_of_wide 6 Tryd.f6 rfl rfl rfl rfl rfl rfl rfl ⟨rfl, rfl, rfl, rfl, rfl⟩ rfl rfl rfl rfl rfl (by kernel_rfl) Tryd.func6 (by kernel_rfl)
    (of_decide_eq_true (by kernel_rfl)) (by unfold Func.isWrapper; first | (rw [if_pos (by decide +kernel)]; kernel_rfl) | (rw [if_neg (by decide +kernel)]; exact ⟨rfl, rfl⟩))
    (fun os started H enc _ => foldAnywhere_lifted os started H enc)
theorem foldAnywhere_card_holds : Rows.FoldAnywhereCardSaid :=
  Claim7.holds_tied_plain_at .later [] [.data, .handle, .pinned] true (true, "799389b69fd171fe0d14a8b21f02e56a78ba728ed78de18b2ed450f5901c0715") true
    foldAnywhere_holds (fun _ h => by cases h) (by kernel_rfl) (fun _ h => by cases h) foldAnywhere_row_tie rfl ⟨rfl, rfl⟩ (by kernel_rfl) rfl
    (fun f fn hf hfn => by
      obtain rfl : f = 6 := Option.some.inj ((show Tryd.prog.funcNamed "calends/calendslaw04.FoldAnywhere" = some 6 by kernel_rfl).symm.trans hf) |>.symm
      obtain rfl : fn = Tryd.f6 := (Option.some.inj (Tryd.func6.symm.trans hfn)).symm
      exact ⟨by kernel_rfl, fun j t ht => by
        rw [Tryd.params6] at ht
        have hm : t ∈ [3, 22] := by have := Array.mem_of_getElem? ht; simp at this; rcases this with h | h <;> rw [h] <;> simp
        have hall : ([3, 22].all fun u => !Tryd.prog.wantsStandIn u) = true := by kernel_rfl
        exact (show Tryd.prog.wantsStandIn t = false by simpa using List.all_eq_true.1 hall t hm)⟩)
    (by kernel_rfl)
#print axioms foldAnywhere_card_holds
end Go.Proofs.YtadgfmmmdhlljaaDoor
