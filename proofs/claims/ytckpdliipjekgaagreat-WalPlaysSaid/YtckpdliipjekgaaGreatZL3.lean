/- A statement and its own function. -/
import Derived.Test.YtckpdliipjekgaaGreatWp8
set_option linter.defProp false
set_option linter.unusedVariables false
set_option linter.unusedSimpArgs false
set_option maxRecDepth 100000
noncomputable section
namespace Go.Proofs.YtckpdliipjekgaaGreat
open Go Go.Wk Go.Wl Go.Rx Go.ChangeShapes Go.WideShapes Go.RowKit Go.Wa
theorem c5f {W:World} (y:Bool):Rep U eT (fun _=>none) (fun b=>b<W.heap.size) W (.bool y) (blB y):=by
 have h:Rep U eT (fun _=>none) (fun b=>b<W.heap.size) W (.bool (decide (y=true))) (blB y):=.bl
 rwa [b4J] at h
theorem d1y {D:Nat->Prop} {w:World} {v:Value} {y:List Act} (h:(q9 b9t).rd D w [v] y):∀ i:Int,0<=i->i<y.length->(ix y i).Kept.length<=9223372036854775807:=by
 intro i i0 i1
 obtain ⟨A,cap,rfl⟩:=J7 h
 obtain ⟨b,o,c,_,_,_,c0,c1,c2,c3,c4,c5,e,h0,h1,h2,h3,h4,h5⟩:=M3 h (i:=i.toNat) (by omega)
 rw [C5 (by omega)]
 exact h5.1
theorem walPlays_lifted (os:Os) (started:os.Started) (H:Type) (enc:TypeId×Value->H) :
  ReturnsInHanded {} Tryz.checked os 3 .any (Rows.walPlaysSpec.pre6 enc Tryz.prog Tryz.f3 Rows.walPlaysRow.domain false) (Rows.walPlaysSpec.post enc Tryz.prog Tryz.f3 Rows.walPlaysRow.apart Rows.walPlaysRow.fresh Rows.walPlaysRow.handsOn Rows.walPlaysRow.again):=by
 refine returnsInHanded_of_change (C:=Tryz.checked) e7s started (by kernel_rfl) Tryz.func3
  (ChangeSpec.witness6 (enc:=enc) (C:=Tryz.checked) false ⟨#[],#[.int .i64 0,.bool false,.slice none 0 0],[]⟩ 8 (by kernel_rfl) (by kernel_rfl) (by kernel_rfl) (by kernel_rfl)) ?_
 intro W base args ds gs before hval0 hW _ _
 have hval:∀ (j:Nat) t v,Tryz.f3.params[j]?=some t->args[j]?=some v->Value.okWide Tryz.prog W .any base t v:=hval0
 have hW':=hW
 obtain ⟨p,q,hA0,hV,rfl,_,_⟩:=hW
 have hA:DataW.TrodAll enc Tryz.prog W 0 (fun _=>true) true Tryz.f3.params.toList args.toList ds p:=hA0
 rw [Tryz.params3] at hA hval
 obtain ⟨v0,v1,v2,d0,d1,d2,p0,p1,p2,rfl,rfl,rfl,h0,h1,h2⟩:=trodAll_three hA
 obtain ⟨rfl,rfl⟩:=trodVars_none hV
 have ⟨y0,k0⟩:=a3p (V8 Tryz.underlying3) (d2d Tryz.underlying3 (hval 0 3 v0 rfl rfl)) h0
 obtain ⟨e0,b0⟩:=k0
 obtain rfl:v0=.int .i64 y0:=by simpa using e0
 have ⟨y1,k1⟩:=a3p (b5u Tryz.underlying4) (c72 Tryz.underlying4 (hval 1 4 v1 rfl rfl)) h1
 obtain rfl:v1=.bool y1:=by simpa [d5q] using k1
 have ⟨y2,k2⟩:=a3p (a16 Tryz.underlying22 (by kernel_rfl) (by decide) b9n) (c2a Tryz.underlying22 (hval 2 22 v2 rfl rfl)) h2
 have hc:=e7e y0 y1 y2 (d1y k2) (fun b=>b<W.heap.size) W [.int .i64 y0,.bool y1,v2] (fun _ h=>h) trivial (.a1F (cs:=[.bool y1,v2]) (.int fun _=>b0) (.a1F (cs:=[v2]) (c5f y1) (.a1F (cs:=[]) (e5g k2) .a1O)))
 exact c2c (tb:=4) e2m (e5l (by kernel_rfl)) rfl Tryz.underlying4 rfl rfl hW' (hc.mono fun v w' h=>⟨c2s h.2.1,h.1⟩)
theorem walPlays_holds:Rows.WalPlaysSaid :=
 OpenClaim.holds_of_wide 3 Tryz.f3 rfl rfl rfl rfl rfl rfl rfl ⟨rfl,rfl,rfl,rfl,rfl⟩ rfl rfl rfl rfl rfl (by kernel_rfl) Tryz.func3 (by kernel_rfl)
  (b3V (by kernel_rfl)) (by unfold Func.isWrapper; first | (rw [if_pos (by decide +kernel)]; kernel_rfl) | (rw [if_neg (by decide +kernel)]; exact ⟨rfl,rfl⟩))
  (fun os started H enc _=>walPlays_lifted os started H enc)
#print axioms walPlays_holds
end Go.Proofs.YtckpdliipjekgaaGreat
