/- A statement and its own function. -/
import Derived.Test.YtdjfeninmbpflaaGreatQ8
set_option linter.unusedVariables false
set_option linter.unusedSimpArgs false
set_option maxRecDepth 100000
namespace Go.Proofs.YtdjfeninmbpflaaGreat
open Go Go.Wk Go.Wl Go.Rx Go.ChangeShapes Go.WideShapes Go.RowKit Go.Re
theorem hclR (y0:Tm) (y1:Rl) (y2:Tm) (y3:Tm):∀ (D:Nat->Prop) (w:World) (vs:List Value),(∀ b,D b->b<w.heap.size)->Gl.is D w->Rep U eT (fun _=>none) D w (.tuple vs.toArray) (.tup [.agg [.int .i64 y0.Day.Year,.int .i64 y0.Day.Month,.int .i64 y0.Day.Date,.int .i64 y0.Hour,.int .i64 y0.Min,.int .i64 y0.Sec,blB y0.Bare,blB y0.UTC],.agg [.int .i64 y1.Freq,.int .i64 y1.Interval,.int .i64 y1.Count,.sl (N:=U) 25 y1.Until,.sl (N:=U) 3 y1.Month,.sl (N:=U) 3 y1.WeekNo,.sl (N:=U) 3 y1.YearDay,.sl (N:=U) 3 y1.MonthDay,.sl (N:=U) 60 y1.Days,.sl (N:=U) 3 y1.Hour,.sl (N:=U) 3 y1.Minute,.sl (N:=U) 3 y1.Second,.sl (N:=U) 3 y1.SetPos,.int .i64 y1.Wkst],.agg [.int .i64 y2.Day.Year,.int .i64 y2.Day.Month,.int .i64 y2.Day.Date,.int .i64 y2.Hour,.int .i64 y2.Min,.int .i64 y2.Sec,blB y2.Bare,blB y2.UTC],.agg [.int .i64 y3.Day.Year,.int .i64 y3.Day.Month,.int .i64 y3.Day.Date,.int .i64 y3.Hour,.int .i64 y3.Min,.int .i64 y3.Sec,blB y3.Bare,blB y3.UTC]])->CallR Tryz.prog 9 vs w (fun v w'=>Ext [] w w'/\Rep U eT (fun _=>none) (fun _=>False) w' v (blB true)/\True) :=
 fun D w vs h1 h2 h3=>lend1 Nli_ok (inlHN_ok Nli_ok H0_ok anlR 2) Tryz.func9 (k:=.bool) (x:=true) (ob:=[]) trivial (VlR_ok (plR y0 y1 y2 y3)) 0 D w vs h1 h2 h3
theorem recurRises_lifted (os:Os) (started:os.Started) (H:Type) (enc:TypeId×Value->H) :
  ReturnsInHanded {} Tryz.checked os 9 .any (Rows.recurRisesSpec.pre6 enc Tryz.prog Tryz.f9 Rows.recurRisesRow.domain false) (Rows.recurRisesSpec.post enc Tryz.prog Tryz.f9 Rows.recurRisesRow.apart Rows.recurRisesRow.fresh Rows.recurRisesRow.handsOn Rows.recurRisesRow.again):=by
 refine returnsInHanded_of_change (C:=Tryz.checked) own0 started (by kernel_rfl) Tryz.func9
  (ChangeSpec.witness6 (enc:=enc) (C:=Tryz.checked) false ⟨#[],#[.agg #[.int .i64 0,.int .i64 0,.int .i64 0,.int .i64 0,.int .i64 0,.int .i64 0,.bool false,.bool false],.agg #[.int .i64 0,.int .i64 0,.int .i64 0,.slice none 0 0,.slice none 0 0,.slice none 0 0,.slice none 0 0,.slice none 0 0,.slice none 0 0,.slice none 0 0,.slice none 0 0,.slice none 0 0,.slice none 0 0,.int .i64 0],.agg #[.int .i64 0,.int .i64 0,.int .i64 0,.int .i64 0,.int .i64 0,.int .i64 0,.bool false,.bool false],.agg #[.int .i64 0,.int .i64 0,.int .i64 0,.int .i64 0,.int .i64 0,.int .i64 0,.bool false,.bool false]],[]⟩ 8 (by kernel_rfl) (by kernel_rfl) (by kernel_rfl) (by kernel_rfl)) ?_
 intro W base args ds gs before hval0 hW _ _
 have hval:∀ (j:Nat) t v,Tryz.f9.params[j]?=some t->args[j]?=some v->Value.okWide Tryz.prog W .any base t v:=hval0
 have hW':=hW
 obtain ⟨p,q,hA0,hV,rfl,_,_⟩:=hW
 have hA:DataW.TrodAll enc Tryz.prog W 0 (fun _=>true) true Tryz.f9.params.toList args.toList ds p:=hA0
 rw [Tryz.params9] at hA hval
 obtain ⟨v0,v1,v2,v3,d0,d1,d2,d3,p0,p1,p2,p3,rfl,rfl,rfl,h0,h1,h2,h3⟩:=trodAll_four hA
 obtain ⟨rfl,rfl⟩:=trodVars_none hV
 obtain ⟨y0,k0⟩:=rep_T h0
 obtain ⟨y1,k1⟩:=rep_R h1
 obtain ⟨y2,k2⟩:=rep_T h2
 obtain ⟨y3,k3⟩:=rep_T h3
 have hc:=hclR y0 y1 y2 y3 (fun b=>b<W.heap.size) W [v0,v1,v2,v3] (fun _ h=>h) trivial (.tup1 (cs:=[v1,v2,v3]) k0 (.tup1 (cs:=[v2,v3]) k1 (.tup1 (cs:=[v3]) k2 (.tup1 (cs:=[]) k3 .tup0))))
 exact law_calls (tb:=4) laid0 (read0 (by kernel_rfl)) rfl Tryz.underlying4 rfl rfl hW' (hc.mono fun v w' h=>⟨bool_true h.2.1,h.1⟩)
theorem recurRises_holds:Rows.RecurRisesSaid :=
 OpenClaim.holds_of_wide 9 Tryz.f9 rfl rfl rfl rfl rfl rfl rfl ⟨rfl,rfl,rfl,rfl,rfl⟩ rfl rfl rfl rfl rfl (by kernel_rfl) Tryz.func9 (by kernel_rfl)
  (of_decide_eq_true (by kernel_rfl)) (by unfold Func.isWrapper; first | (rw [if_pos (by decide +kernel)]; kernel_rfl) | (rw [if_neg (by decide +kernel)]; exact ⟨rfl,rfl⟩))
  (fun os started H enc _=>recurRises_lifted os started H enc)
#print axioms recurRises_holds
end Go.Proofs.YtdjfeninmbpflaaGreat
