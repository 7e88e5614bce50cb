/- A statement and its own function. -/
import Derived.Test.YtdjfeninmbpflaaGreatU8
set_option linter.unusedVariables false
set_option linter.unusedSimpArgs false
set_option maxRecDepth 100000
namespace Go.Proofs.YtdjfeninmbpflaaGreat
open Go Go.Wk Go.Wl Go.Rx Go.ChangeShapes Go.WideShapes Go.RowKit Go.Re
theorem e46 (y0:Tm) (y1:Int) (y2:Int):∀ (D:Nat->Prop) (w:World) (vs:List Value),(∀ b,D b->b<w.heap.size)->Gl.is D w->Rep U eT (fun _=>none) D w (.tuple vs.toArray) (.tup [.agg [.int .i64 y0.Day.Year,.int .i64 y0.Day.Month,.int .i64 y0.Day.Date,.int .i64 y0.Hour,.int .i64 y0.Min,.int .i64 y0.Sec,blB y0.Bare,blB y0.UTC],.int .i64 y1,.int .i64 y2])->A3 Tryz.prog 6 vs w (fun v w'=>Ext [] w w'/\Rep U eT (fun _=>none) (fun _=>False) w' v (blB true)/\True) :=
 fun D w vs h1 h2 h3=>q8 c35 (j8 c35 p8 c41 2) Tryz.func6 (k:=.bool) (x:=true) (ob:=[]) trivial (d5j (plS y0 y1 y2)) 0 D w vs h1 h2 h3
theorem recurSteps_lifted (os:Os) (started:os.Started) (H:Type) (enc:TypeId×Value->H) :
  ReturnsInHanded {} Tryz.checked os 6 .any (Rows.recurStepsSpec.pre6 enc Tryz.prog Tryz.f6 Rows.recurStepsRow.domain false) (Rows.recurStepsSpec.post enc Tryz.prog Tryz.f6 Rows.recurStepsRow.apart Rows.recurStepsRow.fresh Rows.recurStepsRow.handsOn Rows.recurStepsRow.again):=by
 refine returnsInHanded_of_change (C:=Tryz.checked) e40 started (by kernel_rfl) Tryz.func6
  (ChangeSpec.witness6 (enc:=enc) (C:=Tryz.checked) false ⟨#[],#[.agg #[.int .i64 0,.int .i64 0,.int .i64 0,.int .i64 0,.int .i64 0,.int .i64 0,.bool false,.bool false],.int .i64 0,.int .i64 0],[]⟩ 8 (by kernel_rfl) (by kernel_rfl) (by kernel_rfl) (by kernel_rfl)) ?_
 intro W base args ds gs before hval0 hW _ _
 have hval:∀ (j:Nat) t v,Tryz.f6.params[j]?=some t->args[j]?=some v->Value.okWide Tryz.prog W .any base t v:=hval0
 have hW':=hW
 obtain ⟨p,q,hA0,hV,rfl,_,_⟩:=hW
 have hA:DataW.TrodAll enc Tryz.prog W 0 (fun _=>true) true Tryz.f6.params.toList args.toList ds p:=hA0
 rw [Tryz.params6] at hA hval
 obtain ⟨v0,v1,v2,d0,d1,d2,p0,p1,p2,rfl,rfl,rfl,h0,h1,h2⟩:=trodAll_three hA
 obtain ⟨rfl,rfl⟩:=trodVars_none hV
 obtain ⟨y0,k0⟩:=e2l h0
 have ⟨y1,k1⟩:=a4k (D8 Tryz.underlying3) (b8b Tryz.underlying3 (hval 1 3 v1 rfl rfl)) h1
 obtain ⟨e1,b1⟩:=k1
 obtain rfl:v1=.int .i64 y1:=by simpa using e1
 have ⟨y2,k2⟩:=a4k (D8 Tryz.underlying3) (b8b Tryz.underlying3 (hval 2 3 v2 rfl rfl)) h2
 obtain ⟨e2,b2⟩:=k2
 obtain rfl:v2=.int .i64 y2:=by simpa using e2
 have hc:=e46 y0 y1 y2 (fun b=>b<W.heap.size) W [v0,.int .i64 y1,.int .i64 y2] (fun _ h=>h) trivial (.tup1 (cs:=[.int .i64 y1,.int .i64 y2]) k0 (.tup1 (cs:=[.int .i64 y2]) (.int fun _=>b1) (.tup1 (cs:=[]) (.int fun _=>b2) .tup0)))
 exact b96 (tb:=4) e26 (e3e (by kernel_rfl)) rfl Tryz.underlying4 rfl rfl hW' (hc.mono fun v w' h=>⟨c06 h.2.1,h.1⟩)
theorem recurSteps_holds:Rows.RecurStepsSaid :=
 OpenClaim.holds_of_wide 6 Tryz.f6 rfl rfl rfl rfl rfl rfl rfl ⟨rfl,rfl,rfl,rfl,rfl⟩ rfl rfl rfl rfl rfl (by kernel_rfl) Tryz.func6 (by kernel_rfl)
  (of_decide_eq_true (by kernel_rfl)) (by unfold Func.isWrapper; first | (rw [if_pos (by decide +kernel)]; kernel_rfl) | (rw [if_neg (by decide +kernel)]; exact ⟨rfl,rfl⟩))
  (fun os started H enc _=>recurSteps_lifted os started H enc)
#print axioms recurSteps_holds
end Go.Proofs.YtdjfeninmbpflaaGreat
