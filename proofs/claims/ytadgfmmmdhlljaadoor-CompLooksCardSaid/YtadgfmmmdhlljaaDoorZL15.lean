/- A statement and its own function. -/
import Derived.Test.YtadgfmmmdhlljaaDoorZF15
import Derived.Test.YtadgfmmmdhlljaaDoorPLC0
import Derived.Test.YtadgfmmmdhlljaaDoorTie
import Derived.Test.YtadgfmmmdhlljaaDoorCards
import Derived.SevenTiedAt
set_option linter.unusedVariables false
set_option linter.unusedSimpArgs false
namespace Go.Proofs.YtadgfmmmdhlljaaDoor
open Go Go.Wk Go.Wl Go.Rx Go.ChangeShapes Go.WideShapes Go.RowKit Go.Li Go.Co
set_option maxRecDepth 100000 in
theorem compLooks_lifted (os : Os) (started : os.Started) (H : Type) (enc : TypeId × Value → H) :
    ReturnsInHanded {} Tryd.checked os 15 .any (fun w args => (Rows.compLooksSpec.pre enc Tryd.prog Tryd.f15 [] false w args ∧ laidMetH Tryd.prog laidC w) ∧ sizedMet enc Tryd.prog Tryd.f15 (OpenSpec.ofChange Rows.compLooksSpec) false w args)
      (Rows.compLooksSpec.post enc Tryd.prog Tryd.f15 Rows.compLooksRow.apart Rows.compLooksRow.fresh Rows.compLooksRow.handsOn Rows.compLooksRow.again) := by
  refine returnsInHanded_of_change_and (C := Tryd.checked) (X := fun w _ => laidMetH Tryd.prog laidC w) (fun _ _ _ hh h => h.of_heap hh) own0 started (by kernel_rfl) Tryd.func15
    (ChangeSpec.witness_shaped (enc := enc) (C := Tryd.checked) (os := os) (X := fun w _ => laidMetH Tryd.prog laidC w) false (laidW os) #[.agg #[.string ⟨#[]⟩, .slice none 0 0, .slice none 0 0], .string ⟨#[]⟩] 8 rfl (laidW_shaped os _) (by kernel_rfl) (by kernel_rfl) (by kernel_rfl) (laidW_met os _)) ?_
  intro W base args ds gs before hval0 hW _ _ hL _
  have hval : ∀ (j : Nat) t v, Tryd.f15.params[j]? = some t → args[j]? = some v → Value.okWide Tryd.prog W .any base t v := hval0
  have hW' := hW
  obtain ⟨p, q, hA0, hV, rfl, _, _⟩ := hW
  have hA : DataW.TrodAll enc Tryd.prog W 0 (fun _ => true) true Tryd.f15.params.toList args.toList ds p := hA0
  rw [Tryd.params15] at hA hval
  obtain ⟨v0, v1, d0, d1, p0, p1, rfl, rfl, rfl, h0, h1⟩ := trodAll_two hA
  obtain ⟨rfl, rfl⟩ := trodVars_none hV
  obtain ⟨y0, k0⟩ := rep_comp h0
  have ⟨y1, k1⟩ := opensD_arg (opensD_str Tryd.underlying9) (okc_str Tryd.underlying9 (hval 1 9 v1 rfl rfl)) h1
  obtain ⟨e1, b1⟩ := k1
  obtain rfl : v1 = Wk.sv y1 := by simpa using e1
  have hc := c15_ok [.agg [.str y0.Name, .sl 45 y0.Props, .sl 68 y0.Comps], .str y1] _ rfl trivial (fun b => b < W.heap.size) W [v0, Wk.sv y1] (fun _ h => h) (gl_of_laid hL) (.tup1 (cs := [Wk.sv y1]) k0 (.tup1 (cs := []) (.str b1) .tup0))
  exact law_calls (tb := 4) laid0 (read0 (by kernel_rfl)) rfl Tryd.underlying4 rfl rfl hW' (hc.mono fun v w' h => ⟨bool_true h.2.1, h.1⟩)
theorem compLooks_holds : Rows.CompLooksSaid :=
  OpenClaim.holds_of_wide 15 Tryd.f15 rfl rfl rfl rfl rfl rfl rfl ⟨rfl, rfl, rfl, rfl, rfl⟩ rfl rfl rfl rfl rfl (by kernel_rfl) Tryd.func15 (by kernel_rfl)
    (of_decide_eq_true (by kernel_rfl)) (by unfold Func.isWrapper; first | (rw [if_pos (by decide +kernel)]; kernel_rfl) | (rw [if_neg (by decide +kernel)]; exact ⟨rfl, rfl⟩))
    (fun os started H enc _ => compLooks_lifted os started H enc)
theorem compLooks_card_holds : Rows.CompLooksCardSaid :=
  Claim7.holds_tied_plain_at .later [] [.handle] true (true, "799389b69fd171fe0d14a8b21f02e56a78ba728ed78de18b2ed450f5901c0715") true
    compLooks_holds (fun _ h => by cases h) (by kernel_rfl) (fun _ h => by cases h) compLooks_row_tie rfl ⟨rfl, rfl⟩ (by kernel_rfl) rfl
    (fun f fn hf hfn => by
      obtain rfl : f = 15 := Option.some.inj ((show Tryd.prog.funcNamed "calends/calendslaw07.CompLooks" = some 15 by kernel_rfl).symm.trans hf) |>.symm
      obtain rfl : fn = Tryd.f15 := (Option.some.inj (Tryd.func15.symm.trans hfn)).symm
      exact ⟨by kernel_rfl, fun j t ht => by
        rw [Tryd.params15] at ht
        have hm : t ∈ [9, 68] := by have := Array.mem_of_getElem? ht; simp at this; rcases this with h | h <;> rw [h] <;> simp
        have hall : ([9, 68].all fun u => !Tryd.prog.wantsStandIn u) = true := by kernel_rfl
        exact (show Tryd.prog.wantsStandIn t = false by simpa using List.all_eq_true.1 hall t hm)⟩)
    (by kernel_rfl)
#print axioms compLooks_card_holds
end Go.Proofs.YtadgfmmmdhlljaaDoor
