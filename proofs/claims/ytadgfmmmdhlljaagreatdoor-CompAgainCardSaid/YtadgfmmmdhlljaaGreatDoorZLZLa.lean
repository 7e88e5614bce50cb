/- A statement and its own function. -/
import Derived.Test.YtadgfmmmdhlljaaGreatDoorZFZLa
import Derived.Test.YtadgfmmmdhlljaaGreatDoorJLZ0
import Derived.Test.YtadgfmmmdhlljaaGreatDoorTie
import Derived.Test.YtadgfmmmdhlljaaGreatDoorCards
import Derived.SevenTiedAt
set_option linter.unusedVariables false
set_option linter.unusedSimpArgs false
set_option maxRecDepth 100000
namespace Go.Proofs.YtadgfmmmdhlljaaGreatDoor
open Go Go.Wk Go.Wl Go.Rx Go.ChangeShapes Go.WideShapes Go.RowKit Go.Li Go.Co
theorem compAgain_lifted (os : Os) (started : os.Started) (H : Type) (enc : TypeId × Value -> H) :
  ReturnsInHanded {} Tryz.checked os 5 .any (fun w args=>(Rows.compAgainSpec.pre enc Tryz.prog Tryz.f5 [] false w args /\ laidMetH Tryz.prog laidF w) /\ sizedMet enc Tryz.prog Tryz.f5 (OpenSpec.ofChange Rows.compAgainSpec) false w args)
   (Rows.compAgainSpec.post enc Tryz.prog Tryz.f5 Rows.compAgainRow.apart Rows.compAgainRow.fresh Rows.compAgainRow.handsOn Rows.compAgainRow.again):=by
 refine returnsInHanded_of_change_and (C:=Tryz.checked) (X:=fun w _=>laidMetH Tryz.prog laidF w) (fun _ _ _ hh h=>h.of_heap hh) own0 started (by kernel_rfl) Tryz.func5
  (ChangeSpec.witness_shaped (enc:=enc) (C:=Tryz.checked) (os:=os) (X:=fun w _=>laidMetH Tryz.prog laidF w) false (laidW os) #[.string ⟨#[]⟩] 8 rfl (laidW_shaped os _) (by kernel_rfl) (by kernel_rfl) (by kernel_rfl) (laidW_met os _)) ?_
 intro W base args ds gs before hval0 hW _ _ hL _
 have hval : ∀ (j : Nat) t v,Tryz.f5.params[j]? = some t -> args[j]? = some v -> Value.okWide Tryz.prog W .any base t v:=hval0
 have hW':=hW
 obtain ⟨p,q,hA0,hV,rfl,_,_⟩:=hW
 have hA : DataW.TrodAll enc Tryz.prog W 0 (fun _=>true) true Tryz.f5.params.toList args.toList ds p:=hA0
 rw [Tryz.params5] at hA hval
 obtain ⟨v0,d0,rfl,rfl,h0⟩:=trodAll_one hA
 obtain ⟨rfl,rfl⟩:=trodVars_none hV
 have ⟨y0,k0⟩:=opensD_arg (opensD_str Tryz.underlying9) (okc_str Tryz.underlying9 (hval 0 9 v0 rfl rfl)) h0
 obtain ⟨e0,b0⟩:=k0
 obtain rfl : v0 = Wk.sv y0:=by simpa using e0
 have hc:=cZLa_ok [.str y0] _ rfl trivial (fun b=>b < W.heap.size) W [Wk.sv y0] (fun _ h=>h) (gl_of_laid hL) (.tup1 (cs:=[]) (.str b0) .tup0)
 exact law_calls (tb:=4) laid0 (read0 (by kernel_rfl)) rfl Tryz.underlying4 rfl rfl hW' (hc.mono fun v w' h=>⟨bool_true h.2.1,h.1⟩)
theorem compAgain_holds : Rows.CompAgainSaid :=
 OpenClaim.holds_of_wide 5 Tryz.f5 rfl rfl rfl rfl rfl rfl rfl ⟨rfl,rfl,rfl,rfl,rfl⟩ rfl rfl rfl rfl rfl (by kernel_rfl) Tryz.func5 (by kernel_rfl)
  (of_decide_eq_true (by kernel_rfl)) (by unfold Func.isWrapper; first | (rw [if_pos (by decide +kernel)]; kernel_rfl) | (rw [if_neg (by decide +kernel)]; exact ⟨rfl,rfl⟩))
  (fun os started H enc _=>compAgain_lifted os started H enc)
theorem compAgain_card_holds : Rows.CompAgainCardSaid :=
 Claim7.holds_tied_plain_at .later [] [.data,.handle,.pinned] true (true, "da90245a76d94a5827f7feede9331e340d6a107e1920c6d2e678ed8faabfe52d") true
  compAgain_holds (fun _ h=>by cases h) (by kernel_rfl) (fun _ h=>by cases h) compAgain_row_tie rfl ⟨rfl,rfl⟩ (by kernel_rfl) rfl
  (fun f fn hf hfn=>by
   obtain rfl : f = 5:=Option.some.inj ((show Tryz.prog.funcNamed "calends/calendslaw07.CompAgain" = some 5 by kernel_rfl).symm.trans hf) |>.symm
   obtain rfl : fn = Tryz.f5:=(Option.some.inj (Tryz.func5.symm.trans hfn)).symm
   exact ⟨by kernel_rfl,fun j t ht=>by
    rw [Tryz.params5] at ht
    have hm : t ∈ [9]:=by have:=Array.mem_of_getElem? ht; simp at this; simp [this]
    have hall : ([9].all fun u=>!Tryz.prog.wantsStandIn u) = true:=by kernel_rfl
    exact (show Tryz.prog.wantsStandIn t = false by simpa using List.all_eq_true.1 hall t hm)⟩)
  (by kernel_rfl)
#print axioms compAgain_card_holds
end Go.Proofs.YtadgfmmmdhlljaaGreatDoor
