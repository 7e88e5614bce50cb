/- A statement and its own function. -/
import Derived.Test.YtadgfmmmdhlljaaDoorZF12
import Derived.Test.YtadgfmmmdhlljaaDoorHLP0
import Derived.Test.YtadgfmmmdhlljaaDoorTie
import Derived.Test.YtadgfmmmdhlljaaDoorCards
import Derived.SevenTiedAt
set_option linter.unusedVariables false
set_option linter.unusedSimpArgs false
namespace Go.Proofs.YtadgfmmmdhlljaaDoor
open Go Go.Wk Go.Wl Go.Rx Go.ChangeShapes Go.WideShapes Go.RowKit Go.Li
set_option maxRecDepth 100000 in
theorem lineAgain_lifted (os : Os) (started : os.Started) (H : Type) (enc : TypeId × Value → H) :
    ReturnsInHanded {} Tryd.checked os 12 .any (fun w args => (Rows.lineAgainSpec.pre enc Tryd.prog Tryd.f12 [] false w args ∧ laidMetH Tryd.prog laidP w) ∧ sizedMet enc Tryd.prog Tryd.f12 (OpenSpec.ofChange Rows.lineAgainSpec) false w args)
      (Rows.lineAgainSpec.post enc Tryd.prog Tryd.f12 Rows.lineAgainRow.apart Rows.lineAgainRow.fresh Rows.lineAgainRow.handsOn Rows.lineAgainRow.again) := by
  refine returnsInHanded_of_change_and (C := Tryd.checked) (X := fun w _ => laidMetH Tryd.prog laidP w) (fun _ _ _ hh h => h.of_heap hh) own0 started (by kernel_rfl) Tryd.func12
    (ChangeSpec.witness_shaped (enc := enc) (C := Tryd.checked) (os := os) (X := fun w _ => laidMetH Tryd.prog laidP w) false (laidWP os) #[.string ⟨#[]⟩] 8 rfl (laidWP_shaped os _) (by kernel_rfl) (by kernel_rfl) (by kernel_rfl) (laidWP_met os _)) ?_
  intro W base args ds gs before hval0 hW _ _ hL _
  have hval : ∀ (j : Nat) t v, Tryd.f12.params[j]? = some t → args[j]? = some v → Value.okWide Tryd.prog W .any base t v := hval0
  have hW' := hW
  obtain ⟨p, q, hA0, hV, rfl, _, _⟩ := hW
  have hA : DataW.TrodAll enc Tryd.prog W 0 (fun _ => true) true Tryd.f12.params.toList args.toList ds p := hA0
  rw [Tryd.params12] at hA hval
  obtain ⟨v0, d0, rfl, rfl, h0⟩ := trodAll_one hA
  obtain ⟨rfl, rfl⟩ := trodVars_none hV
  have ⟨y0, k0⟩ := opensD_arg (opensD_str Tryd.underlying9) (okc_str Tryd.underlying9 (hval 0 9 v0 rfl rfl)) h0
  obtain ⟨e0, b0⟩ := k0
  obtain rfl : v0 = Wk.sv y0 := by simpa using e0
  have hc := c12_ok [.str y0] _ rfl trivial (fun b => b < W.heap.size) W [Wk.sv y0] (fun _ h => h) trivial (.tup1 (cs := []) (.str b0) .tup0)
  exact law_calls (tb := 4) laid0 (read0 (by kernel_rfl)) rfl Tryd.underlying4 rfl rfl hW' (hc.mono fun v w' h => ⟨bool_true h.2.1, h.1⟩)
theorem lineAgain_holds : Rows.LineAgainSaid :=
  OpenClaim.holds_of_wide 12 Tryd.f12 rfl rfl rfl rfl rfl rfl rfl ⟨rfl, rfl, rfl, rfl, rfl⟩ rfl rfl rfl rfl rfl (by kernel_rfl) Tryd.func12 (by kernel_rfl)
    (of_decide_eq_true (by kernel_rfl)) (by unfold Func.isWrapper; first | (rw [if_pos (by decide +kernel)]; kernel_rfl) | (rw [if_neg (by decide +kernel)]; exact ⟨rfl, rfl⟩))
    (fun os started H enc _ => lineAgain_lifted os started H enc)
theorem lineAgain_card_holds : Rows.LineAgainCardSaid :=
  Claim7.holds_tied_plain_at .later [] [.data, .pinned] true (true, "799389b69fd171fe0d14a8b21f02e56a78ba728ed78de18b2ed450f5901c0715") true
    lineAgain_holds (fun _ h => by cases h) (by kernel_rfl) (fun _ h => by cases h) lineAgain_row_tie rfl ⟨rfl, rfl⟩ (by kernel_rfl) rfl
    (fun f fn hf hfn => by
      obtain rfl : f = 12 := Option.some.inj ((show Tryd.prog.funcNamed "calends/calendslaw05.LineAgain" = some 12 by kernel_rfl).symm.trans hf) |>.symm
      obtain rfl : fn = Tryd.f12 := (Option.some.inj (Tryd.func12.symm.trans hfn)).symm
      exact ⟨by kernel_rfl, fun j t ht => by
        rw [Tryd.params12] at ht
        have hm : t ∈ [9] := by have := Array.mem_of_getElem? ht; simp at this; simp [this]
        have hall : ([9].all fun u => !Tryd.prog.wantsStandIn u) = true := by kernel_rfl
        exact (show Tryd.prog.wantsStandIn t = false by simpa using List.all_eq_true.1 hall t hm)⟩)
    (by kernel_rfl)
#print axioms lineAgain_card_holds
end Go.Proofs.YtadgfmmmdhlljaaDoor
