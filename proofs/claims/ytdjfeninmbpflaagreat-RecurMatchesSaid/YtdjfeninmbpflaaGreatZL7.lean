/- A statement and its own function. -/
import Derived.Test.YtdjfeninmbpflaaGreatJ8
set_option linter.unusedVariables false
set_option linter.unusedSimpArgs false
set_option maxRecDepth 100000
namespace Go.Proofs.YtdjfeninmbpflaaGreat
open Go Go.Wk Go.Wl Go.Rx Go.ChangeShapes Go.WideShapes Go.RowKit Go.Re
theorem hclM (y0:Tm) (y1:Rl) (y2:Tm):∀ (D:Nat->Prop) (w:World) (vs:List Value),(∀ b,D b->b<w.heap.size)->Gl.is D w->Rep U eT (fun _=>none) D w (.tuple vs.toArray) (.tup [.agg [.int .i64 y0.Day.Year,.int .i64 y0.Day.Month,.int .i64 y0.Day.Date,.int .i64 y0.Hour,.int .i64 y0.Min,.int .i64 y0.Sec,blB y0.Bare,blB y0.UTC],.agg [.int .i64 y1.Freq,.int .i64 y1.Interval,.int .i64 y1.Count,.sl (N:=U) 25 y1.Until,.sl (N:=U) 3 y1.Month,.sl (N:=U) 3 y1.WeekNo,.sl (N:=U) 3 y1.YearDay,.sl (N:=U) 3 y1.MonthDay,.sl (N:=U) 60 y1.Days,.sl (N:=U) 3 y1.Hour,.sl (N:=U) 3 y1.Minute,.sl (N:=U) 3 y1.Second,.sl (N:=U) 3 y1.SetPos,.int .i64 y1.Wkst],.agg [.int .i64 y2.Day.Year,.int .i64 y2.Day.Month,.int .i64 y2.Day.Date,.int .i64 y2.Hour,.int .i64 y2.Min,.int .i64 y2.Sec,blB y2.Bare,blB y2.UTC]])->CallR Tryz.prog 7 vs w (fun v w'=>Ext [] w w'/\Rep U eT (fun _=>none) (fun _=>False) w' v (blB true)/\True) :=
 fun D w vs h1 h2 h3=>lend1 NxM_ok (inlHN_ok NxM_ok H0_ok anlM 2) Tryz.func7 (k:=.bool) (x:=true) (ob:=[]) trivial (VlM_ok (plM y0 y1 y2)) 0 D w vs h1 h2 h3
theorem recurMatches_lifted (os:Os) (started:os.Started) (H:Type) (enc:TypeId×Value->H) :
  ReturnsInHanded {} Tryz.checked os 7 .any (Rows.recurMatchesSpec.pre6 enc Tryz.prog Tryz.f7 Rows.recurMatchesRow.domain false) (Rows.recurMatchesSpec.post enc Tryz.prog Tryz.f7 Rows.recurMatchesRow.apart Rows.recurMatchesRow.fresh Rows.recurMatchesRow.handsOn Rows.recurMatchesRow.again):=by
 refine returnsInHanded_of_change (C:=Tryz.checked) own0 started (by kernel_rfl) Tryz.func7
  (ChangeSpec.witness6 (enc:=enc) (C:=Tryz.checked) false ⟨#[],#[.agg #[.int .i64 0,.int .i64 0,.int .i64 0,.int .i64 0,.int .i64 0,.int .i64 0,.bool false,.bool false],.agg #[.int .i64 0,.int .i64 0,.int .i64 0,.slice none 0 0,.slice none 0 0,.slice none 0 0,.slice none 0 0,.slice none 0 0,.slice none 0 0,.slice none 0 0,.slice none 0 0,.slice none 0 0,.slice none 0 0,.int .i64 0],.agg #[.int .i64 0,.int .i64 0,.int .i64 0,.int .i64 0,.int .i64 0,.int .i64 0,.bool false,.bool false]],[]⟩ 8 (by kernel_rfl) (by kernel_rfl) (by kernel_rfl) (by kernel_rfl)) ?_
 intro W base args ds gs before hval0 hW _ _
 have hval:∀ (j:Nat) t v,Tryz.f7.params[j]?=some t->args[j]?=some v->Value.okWide Tryz.prog W .any base t v:=hval0
 have hW':=hW
 obtain ⟨p,q,hA0,hV,rfl,_,_⟩:=hW
 have hA:DataW.TrodAll enc Tryz.prog W 0 (fun _=>true) true Tryz.f7.params.toList args.toList ds p:=hA0
 rw [Tryz.params7] at hA hval
 obtain ⟨v0,v1,v2,d0,d1,d2,p0,p1,p2,rfl,rfl,rfl,h0,h1,h2⟩:=trodAll_three hA
 obtain ⟨rfl,rfl⟩:=trodVars_none hV
 obtain ⟨y0,k0⟩:=rep_T h0
 obtain ⟨y1,k1⟩:=rep_R h1
 obtain ⟨y2,k2⟩:=rep_T h2
 have hc:=hclM y0 y1 y2 (fun b=>b<W.heap.size) W [v0,v1,v2] (fun _ h=>h) trivial (.tup1 (cs:=[v1,v2]) k0 (.tup1 (cs:=[v2]) k1 (.tup1 (cs:=[]) k2 .tup0)))
 exact law_calls (tb:=4) laid0 (read0 (by kernel_rfl)) rfl Tryz.underlying4 rfl rfl hW' (hc.mono fun v w' h=>⟨bool_true h.2.1,h.1⟩)
theorem recurMatches_holds:Rows.RecurMatchesSaid :=
 OpenClaim.holds_of_wide 7 Tryz.f7 rfl rfl rfl rfl rfl rfl rfl ⟨rfl,rfl,rfl,rfl,rfl⟩ rfl rfl rfl rfl rfl (by kernel_rfl) Tryz.func7 (by kernel_rfl)
  (of_decide_eq_true (by kernel_rfl)) (by unfold Func.isWrapper; first | (rw [if_pos (by decide +kernel)]; kernel_rfl) | (rw [if_neg (by decide +kernel)]; exact ⟨rfl,rfl⟩))
  (fun os started H enc _=>recurMatches_lifted os started H enc)
#print axioms recurMatches_holds
end Go.Proofs.YtdjfeninmbpflaaGreat
