/- A statement and its own function. -/
import Derived.Test.YtadgfmmmdhlljaaGreatDoorZFZLn
import Derived.Test.YtadgfmmmdhlljaaGreatDoorKLZ0
import Derived.Test.YtadgfmmmdhlljaaGreatDoorTie
import Derived.Test.YtadgfmmmdhlljaaGreatDoorCards
import Derived.SevenTiedAt
set_option linter.unusedVariables false
set_option linter.unusedSimpArgs false
set_option maxRecDepth 100000
namespace Go.Proofs.YtadgfmmmdhlljaaGreatDoor
open Go Go.Wk Go.Wl Go.Rx Go.ChangeShapes Go.WideShapes Go.RowKit Go.Li Go.Co
theorem compNests_lifted (os : Os) (started : os.Started) (H : Type) (enc : TypeId × Value -> H) :
  ReturnsInHanded {} Tryz.checked os 6 .any (fun w args=>(Rows.compNestsSpec.pre enc Tryz.prog Tryz.f6 [] false w args /\ laidMetH Tryz.prog laidF w) /\ sizedMet enc Tryz.prog Tryz.f6 (OpenSpec.ofChange Rows.compNestsSpec) false w args)
   (Rows.compNestsSpec.post enc Tryz.prog Tryz.f6 Rows.compNestsRow.apart Rows.compNestsRow.fresh Rows.compNestsRow.handsOn Rows.compNestsRow.again):=by
 refine returnsInHanded_of_change_and (C:=Tryz.checked) (X:=fun w _=>laidMetH Tryz.prog laidF w) (fun _ _ _ hh h=>h.of_heap hh) own0 started (by kernel_rfl) Tryz.func6
  (ChangeSpec.witness_shaped (enc:=enc) (C:=Tryz.checked) (os:=os) (X:=fun w _=>laidMetH Tryz.prog laidF w) false (laidW os) #[.agg #[.string ⟨#[]⟩,.slice none 0 0,.slice none 0 0],.agg #[.string ⟨#[]⟩,.slice none 0 0,.slice none 0 0]] 8 rfl (laidW_shaped os _) (by kernel_rfl) (by kernel_rfl) (by kernel_rfl) (laidW_met os _)) ?_
 intro W base args ds gs before hval0 hW _ _ hL _
 have hval : ∀ (j : Nat) t v,Tryz.f6.params[j]? = some t -> args[j]? = some v -> Value.okWide Tryz.prog W .any base t v:=hval0
 have hW':=hW
 obtain ⟨p,q,hA0,hV,rfl,_,_⟩:=hW
 have hA : DataW.TrodAll enc Tryz.prog W 0 (fun _=>true) true Tryz.f6.params.toList args.toList ds p:=hA0
 rw [Tryz.params6] at hA hval
 obtain ⟨v0,v1,d0,d1,p0,p1,rfl,rfl,rfl,h0,h1⟩:=trodAll_two hA
 obtain ⟨rfl,rfl⟩:=trodVars_none hV
 obtain ⟨y0,k0⟩:=rep_comp h0
 obtain ⟨y1,k1⟩:=rep_comp h1
 have hc:=cZLn_ok [.agg [.str y0.Name,.sl 58 y0.Props,.sl 40 y0.Comps],.agg [.str y1.Name,.sl 58 y1.Props,.sl 40 y1.Comps]] _ rfl trivial (fun b=>b < W.heap.size) W [v0,v1] (fun _ h=>h) (gl_of_laid hL) (.tup1 (cs:=[v1]) k0 (.tup1 (cs:=[]) k1 .tup0))
 exact law_calls (tb:=4) laid0 (read0 (by kernel_rfl)) rfl Tryz.underlying4 rfl rfl hW' (hc.mono fun v w' h=>⟨bool_true h.2.1,h.1⟩)
theorem compNests_holds : Rows.CompNestsSaid :=
 OpenClaim.holds_of_wide 6 Tryz.f6 rfl rfl rfl rfl rfl rfl rfl ⟨rfl,rfl,rfl,rfl,rfl⟩ rfl rfl rfl rfl rfl (by kernel_rfl) Tryz.func6 (by kernel_rfl)
  (of_decide_eq_true (by kernel_rfl)) (by unfold Func.isWrapper; first | (rw [if_pos (by decide +kernel)]; kernel_rfl) | (rw [if_neg (by decide +kernel)]; exact ⟨rfl,rfl⟩))
  (fun os started H enc _=>compNests_lifted os started H enc)
theorem compNests_card_holds : Rows.CompNestsCardSaid :=
 Claim7.holds_tied_plain_at .later [] [.data,.handle,.pinned] true (true, "da90245a76d94a5827f7feede9331e340d6a107e1920c6d2e678ed8faabfe52d") true
  compNests_holds (fun _ h=>by cases h) (by kernel_rfl) (fun _ h=>by cases h) compNests_row_tie rfl ⟨rfl,rfl⟩ (by kernel_rfl) rfl
  (fun f fn hf hfn=>by
   obtain rfl : f = 6:=Option.some.inj ((show Tryz.prog.funcNamed "calends/calendslaw07.CompNests" = some 6 by kernel_rfl).symm.trans hf) |>.symm
   obtain rfl : fn = Tryz.f6:=(Option.some.inj (Tryz.func6.symm.trans hfn)).symm
   exact ⟨by kernel_rfl,fun j t ht=>by
    rw [Tryz.params6] at ht
    have hm : t ∈ [40]:=by have:=Array.mem_of_getElem? ht; simp at this; simp [this]
    have hall : ([40].all fun u=>!Tryz.prog.wantsStandIn u) = true:=by kernel_rfl
    exact (show Tryz.prog.wantsStandIn t = false by simpa using List.all_eq_true.1 hall t hm)⟩)
  (by kernel_rfl)
#print axioms compNests_card_holds
end Go.Proofs.YtadgfmmmdhlljaaGreatDoor
