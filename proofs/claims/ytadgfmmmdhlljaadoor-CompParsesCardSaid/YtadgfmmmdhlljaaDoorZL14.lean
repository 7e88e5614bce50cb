/- A statement and its own function. -/
import Derived.Test.YtadgfmmmdhlljaaDoorZF14
import Derived.Test.YtadgfmmmdhlljaaDoorMLC0
import Derived.Test.YtadgfmmmdhlljaaDoorTie
import Derived.Test.YtadgfmmmdhlljaaDoorCards
import Derived.SevenTiedAt
set_option linter.unusedVariables false
set_option linter.unusedSimpArgs false
namespace Go.Proofs.YtadgfmmmdhlljaaDoor
open Go Go.Wk Go.Wl Go.Rx Go.ChangeShapes Go.WideShapes Go.RowKit Go.Li Go.Co
set_option maxRecDepth 100000 in
theorem compParses_lifted (os : Os) (started : os.Started) (H : Type) (enc : TypeId × Value → H) :
    ReturnsInHanded {} Tryd.checked os 14 .any (fun w args => (Rows.compParsesSpec.pre enc Tryd.prog Tryd.f14 [] false w args ∧ laidMetH Tryd.prog laidC w) ∧ sizedMet enc Tryd.prog Tryd.f14 (OpenSpec.ofChange Rows.compParsesSpec) false w args)
      (Rows.compParsesSpec.post enc Tryd.prog Tryd.f14 Rows.compParsesRow.apart Rows.compParsesRow.fresh Rows.compParsesRow.handsOn Rows.compParsesRow.again) := by
  refine returnsInHanded_of_change_and (C := Tryd.checked) (X := fun w _ => laidMetH Tryd.prog laidC w) (fun _ _ _ hh h => h.of_heap hh) own0 started (by kernel_rfl) Tryd.func14
    (ChangeSpec.witness_shaped (enc := enc) (C := Tryd.checked) (os := os) (X := fun w _ => laidMetH Tryd.prog laidC w) false (laidW os) #[.string ⟨#[]⟩] 8 rfl (laidW_shaped os _) (by kernel_rfl) (by kernel_rfl) (by kernel_rfl) (laidW_met os _)) ?_
  intro W base args ds gs before hval0 hW _ _ hL _
  have hval : ∀ (j : Nat) t v, Tryd.f14.params[j]? = some t → args[j]? = some v → Value.okWide Tryd.prog W .any base t v := hval0
  have hW' := hW
  obtain ⟨p, q, hA0, hV, rfl, _, _⟩ := hW
  have hA : DataW.TrodAll enc Tryd.prog W 0 (fun _ => true) true Tryd.f14.params.toList args.toList ds p := hA0
  rw [Tryd.params14] at hA hval
  obtain ⟨v0, d0, rfl, rfl, h0⟩ := trodAll_one hA
  obtain ⟨rfl, rfl⟩ := trodVars_none hV
  have ⟨y0, k0⟩ := opensD_arg (opensD_str Tryd.underlying9) (okc_str Tryd.underlying9 (hval 0 9 v0 rfl rfl)) h0
  obtain ⟨e0, b0⟩ := k0
  obtain rfl : v0 = Wk.sv y0 := by simpa using e0
  have hc := c14_ok [.str y0] _ rfl trivial (fun b => b < W.heap.size) W [Wk.sv y0] (fun _ h => h) (gl_of_laid hL) (.tup1 (cs := []) (.str b0) .tup0)
  exact law_calls (tb := 4) laid0 (read0 (by kernel_rfl)) rfl Tryd.underlying4 rfl rfl hW' (hc.mono fun v w' h => ⟨bool_true h.2.1, h.1⟩)
theorem compParses_holds : Rows.CompParsesSaid :=
  OpenClaim.holds_of_wide 14 Tryd.f14 rfl rfl rfl rfl rfl rfl rfl ⟨rfl, rfl, rfl, rfl, rfl⟩ rfl rfl rfl rfl rfl (by kernel_rfl) Tryd.func14 (by kernel_rfl)
    (of_decide_eq_true (by kernel_rfl)) (by unfold Func.isWrapper; first | (rw [if_pos (by decide +kernel)]; kernel_rfl) | (rw [if_neg (by decide +kernel)]; exact ⟨rfl, rfl⟩))
    (fun os started H enc _ => compParses_lifted os started H enc)
theorem compParses_card_holds : Rows.CompParsesCardSaid :=
  Claim7.holds_tied_plain_at .later [] [.handle] true (true, "799389b69fd171fe0d14a8b21f02e56a78ba728ed78de18b2ed450f5901c0715") true
    compParses_holds (fun _ h => by cases h) (by kernel_rfl) (fun _ h => by cases h) compParses_row_tie rfl ⟨rfl, rfl⟩ (by kernel_rfl) rfl
    (fun f fn hf hfn => by
      obtain rfl : f = 14 := Option.some.inj ((show Tryd.prog.funcNamed "calends/calendslaw07.CompParses" = some 14 by kernel_rfl).symm.trans hf) |>.symm
      obtain rfl : fn = Tryd.f14 := (Option.some.inj (Tryd.func14.symm.trans hfn)).symm
      exact ⟨by kernel_rfl, fun j t ht => by
        rw [Tryd.params14] at ht
        have hm : t ∈ [9] := by have := Array.mem_of_getElem? ht; simp at this; simp [this]
        have hall : ([9].all fun u => !Tryd.prog.wantsStandIn u) = true := by kernel_rfl
        exact (show Tryd.prog.wantsStandIn t = false by simpa using List.all_eq_true.1 hall t hm)⟩)
    (by kernel_rfl)
#print axioms compParses_card_holds
end Go.Proofs.YtadgfmmmdhlljaaDoor
