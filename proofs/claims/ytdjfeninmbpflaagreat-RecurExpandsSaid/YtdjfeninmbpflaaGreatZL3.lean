/- A statement and its own function. -/
import Derived.Test.YtdjfeninmbpflaaGreatM8
set_option linter.unusedVariables false
set_option linter.unusedSimpArgs false
set_option maxRecDepth 100000
namespace Go.Proofs.YtdjfeninmbpflaaGreat
open Go Go.Wk Go.Wl Go.Rx Go.ChangeShapes Go.WideShapes Go.RowKit Go.Re
theorem e7w (y0:Tm) (y1:Rl) (y2:Tm) (y3:Tm):∀ (D:Nat->Prop) (w:World) (vs:List Value),(∀ b,D b->b<w.heap.size)->Gl.is D w->Rep U eT (fun _=>none) D w (.tuple vs.toArray) (.tup [.agg [.int .i64 y0.Day.Year,.int .i64 y0.Day.Month,.int .i64 y0.Day.Date,.int .i64 y0.Hour,.int .i64 y0.Min,.int .i64 y0.Sec,blB y0.Bare,blB y0.UTC],.agg [.int .i64 y1.Freq,.int .i64 y1.Interval,.int .i64 y1.Count,.sl (N:=U) 25 y1.Until,.sl (N:=U) 3 y1.Month,.sl (N:=U) 3 y1.WeekNo,.sl (N:=U) 3 y1.YearDay,.sl (N:=U) 3 y1.MonthDay,.sl (N:=U) 60 y1.Days,.sl (N:=U) 3 y1.Hour,.sl (N:=U) 3 y1.Minute,.sl (N:=U) 3 y1.Second,.sl (N:=U) 3 y1.SetPos,.int .i64 y1.Wkst],.agg [.int .i64 y2.Day.Year,.int .i64 y2.Day.Month,.int .i64 y2.Day.Date,.int .i64 y2.Hour,.int .i64 y2.Min,.int .i64 y2.Sec,blB y2.Bare,blB y2.UTC],.agg [.int .i64 y3.Day.Year,.int .i64 y3.Day.Month,.int .i64 y3.Day.Date,.int .i64 y3.Hour,.int .i64 y3.Min,.int .i64 y3.Sec,blB y3.Bare,blB y3.UTC]])->D0 Tryz.prog 3 vs w (fun v w'=>Ext [] w w'/\Rep U eT (fun _=>none) (fun _=>False) w' v (blB true)/\True) :=
 fun D w vs h1 h2 h3=>s8 c3r (j8 c3r p9 c7h 2) Tryz.func3 (k:=.bool) (x:=true) (ob:=[]) trivial (d8e (plE y0 y1 y2 y3)) 0 D w vs h1 h2 h3
theorem recurExpands_lifted (os:Os) (started:os.Started) (H:Type) (enc:TypeId×Value->H) :
  ReturnsInHanded {} Tryz.checked os 3 .any (Rows.recurExpandsSpec.pre6 enc Tryz.prog Tryz.f3 Rows.recurExpandsRow.domain false) (Rows.recurExpandsSpec.post enc Tryz.prog Tryz.f3 Rows.recurExpandsRow.apart Rows.recurExpandsRow.fresh Rows.recurExpandsRow.handsOn Rows.recurExpandsRow.again):=by
 refine returnsInHanded_of_change (C:=Tryz.checked) e7p started (by kernel_rfl) Tryz.func3
  (ChangeSpec.witness6 (enc:=enc) (C:=Tryz.checked) false ⟨#[],#[.agg #[.int .i64 0,.int .i64 0,.int .i64 0,.int .i64 0,.int .i64 0,.int .i64 0,.bool false,.bool false],.agg #[.int .i64 0,.int .i64 0,.int .i64 0,.slice none 0 0,.slice none 0 0,.slice none 0 0,.slice none 0 0,.slice none 0 0,.slice none 0 0,.slice none 0 0,.slice none 0 0,.slice none 0 0,.slice none 0 0,.int .i64 0],.agg #[.int .i64 0,.int .i64 0,.int .i64 0,.int .i64 0,.int .i64 0,.int .i64 0,.bool false,.bool false],.agg #[.int .i64 0,.int .i64 0,.int .i64 0,.int .i64 0,.int .i64 0,.int .i64 0,.bool false,.bool false]],[]⟩ 8 (by kernel_rfl) (by kernel_rfl) (by kernel_rfl) (by kernel_rfl)) ?_
 intro W base args ds gs before hval0 hW _ _
 have hval:∀ (j:Nat) t v,Tryz.f3.params[j]?=some t->args[j]?=some v->Value.okWide Tryz.prog W .any base t v:=hval0
 have hW':=hW
 obtain ⟨p,q,hA0,hV,rfl,_,_⟩:=hW
 have hA:DataW.TrodAll enc Tryz.prog W 0 (fun _=>true) true Tryz.f3.params.toList args.toList ds p:=hA0
 rw [Tryz.params3] at hA hval
 obtain ⟨v0,v1,v2,v3,d0,d1,d2,d3,p0,p1,p2,p3,rfl,rfl,rfl,h0,h1,h2,h3⟩:=trodAll_four hA
 obtain ⟨rfl,rfl⟩:=trodVars_none hV
 obtain ⟨y0,k0⟩:=c3u h0
 obtain ⟨y1,k1⟩:=e67 h1
 obtain ⟨y2,k2⟩:=c3u h2
 obtain ⟨y3,k3⟩:=c3u h3
 have hc:=e7w y0 y1 y2 y3 (fun b=>b<W.heap.size) W [v0,v1,v2,v3] (fun _ h=>h) trivial (.tup1 (cs:=[v1,v2,v3]) k0 (.tup1 (cs:=[v2,v3]) k1 (.tup1 (cs:=[v3]) k2 (.tup1 (cs:=[]) k3 .tup0))))
 exact c14 (tb:=4) e6f (e6s (by kernel_rfl)) rfl Tryz.underlying4 rfl rfl hW' (hc.mono fun v w' h=>⟨c17 h.2.1,h.1⟩)
theorem recurExpands_holds:Rows.RecurExpandsSaid :=
 OpenClaim.holds_of_wide 3 Tryz.f3 rfl rfl rfl rfl rfl rfl rfl ⟨rfl,rfl,rfl,rfl,rfl⟩ rfl rfl rfl rfl rfl (by kernel_rfl) Tryz.func3 (by kernel_rfl)
  (of_decide_eq_true (by kernel_rfl)) (by unfold Func.isWrapper; first | (rw [if_pos (by decide +kernel)]; kernel_rfl) | (rw [if_neg (by decide +kernel)]; exact ⟨rfl,rfl⟩))
  (fun os started H enc _=>recurExpands_lifted os started H enc)
#print axioms recurExpands_holds
end Go.Proofs.YtdjfeninmbpflaaGreat
