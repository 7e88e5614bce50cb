/- A statement and its own function. -/
import Derived.Test.YtdjfeninmbpflaaGreatV8
set_option linter.unusedVariables false
set_option linter.unusedSimpArgs false
set_option maxRecDepth 100000
namespace Go.Proofs.YtdjfeninmbpflaaGreat
open Go Go.Wk Go.Wl Go.Rx Go.ChangeShapes Go.WideShapes Go.RowKit Go.Re
theorem e23 (y0:Tm) (y1:Rl) (y2:Tm):∀ (D:Nat->Prop) (w:World) (vs:List Value),(∀ b,D b->b<w.heap.size)->Gl.is D w->Rep U eT (fun _=>none) D w (.tuple vs.toArray) (.tup [.agg [.int .i64 y0.Day.Year,.int .i64 y0.Day.Month,.int .i64 y0.Day.Date,.int .i64 y0.Hour,.int .i64 y0.Min,.int .i64 y0.Sec,blB y0.Bare,blB y0.UTC],.agg [.int .i64 y1.Freq,.int .i64 y1.Interval,.int .i64 y1.Count,.sl (N:=U) 25 y1.Until,.sl (N:=U) 3 y1.Month,.sl (N:=U) 3 y1.WeekNo,.sl (N:=U) 3 y1.YearDay,.sl (N:=U) 3 y1.MonthDay,.sl (N:=U) 60 y1.Days,.sl (N:=U) 3 y1.Hour,.sl (N:=U) 3 y1.Minute,.sl (N:=U) 3 y1.Second,.sl (N:=U) 3 y1.SetPos,.int .i64 y1.Wkst],.agg [.int .i64 y2.Day.Year,.int .i64 y2.Day.Month,.int .i64 y2.Day.Date,.int .i64 y2.Hour,.int .i64 y2.Min,.int .i64 y2.Sec,blB y2.Bare,blB y2.UTC]])->D4 Tryz.prog 8 vs w (fun v w'=>Ext [] w w'/\Rep U eT (fun _=>none) (fun _=>False) w' v (blB true)/\True) :=
 fun D w vs h1 h2 h3=>q8 (an:=d9c 8) c7k (j6 c7k o9 d9c 2) Tryz.func8 (k:=.bool) (x:=true) (ob:=[]) trivial (kc (plL y0 y1 y2) (by kernel_rfl)) 0 D w vs h1 h2 h3
theorem recurLast_lifted (os:Os) (started:os.Started) (H:Type) (enc:TypeId×Value->H) :
  ReturnsInHanded {} Tryz.checked os 8 .any (Rows.recurLastSpec.pre6 enc Tryz.prog Tryz.f8 Rows.recurLastRow.domain false) (Rows.recurLastSpec.post enc Tryz.prog Tryz.f8 Rows.recurLastRow.apart Rows.recurLastRow.fresh Rows.recurLastRow.handsOn Rows.recurLastRow.again):=by
 refine returnsInHanded_of_change (C:=Tryz.checked) e2k started (by kernel_rfl) Tryz.func8
  (ChangeSpec.witness6 (enc:=enc) (C:=Tryz.checked) false ⟨#[],#[.agg #[.int .i64 0,.int .i64 0,.int .i64 0,.int .i64 0,.int .i64 0,.int .i64 0,.bool false,.bool false],.agg #[.int .i64 0,.int .i64 0,.int .i64 0,.slice none 0 0,.slice none 0 0,.slice none 0 0,.slice none 0 0,.slice none 0 0,.slice none 0 0,.slice none 0 0,.slice none 0 0,.slice none 0 0,.slice none 0 0,.int .i64 0],.agg #[.int .i64 0,.int .i64 0,.int .i64 0,.int .i64 0,.int .i64 0,.int .i64 0,.bool false,.bool false]],[]⟩ 8 (by kernel_rfl) (by kernel_rfl) (by kernel_rfl) (by kernel_rfl)) ?_
 intro W base args ds gs before hval0 hW _ _
 have hval:∀ (j:Nat) t v,Tryz.f8.params[j]?=some t->args[j]?=some v->Value.okWide Tryz.prog W .any base t v:=hval0
 have hW':=hW
 obtain ⟨p,q,hA0,hV,rfl,_,_⟩:=hW
 have hA:DataW.TrodAll enc Tryz.prog W 0 (fun _=>true) true Tryz.f8.params.toList args.toList ds p:=hA0
 rw [Tryz.params8] at hA hval
 obtain ⟨v0,v1,v2,d0,d1,d2,p0,p1,p2,rfl,rfl,rfl,h0,h1,h2⟩:=trodAll_three hA
 obtain ⟨rfl,rfl⟩:=trodVars_none hV
 obtain ⟨y0,k0⟩:=d1s h0
 obtain ⟨y1,k1⟩:=e17 h1
 obtain ⟨y2,k2⟩:=d1s h2
 have hc:=e23 y0 y1 y2 (fun b=>b<W.heap.size) W [v0,v1,v2] (fun _ h=>h) trivial (.tup1 (cs:=[v1,v2]) k0 (.tup1 (cs:=[v2]) k1 (.tup1 (cs:=[]) k2 .tup0)))
 exact c1s (tb:=4) e05 (d9o (by kernel_rfl)) rfl Tryz.underlying4 rfl rfl hW' (hc.mono fun v w' h=>⟨c1z h.2.1,h.1⟩)
theorem recurLast_holds:Rows.RecurLastSaid :=
 OpenClaim.holds_of_wide 8 Tryz.f8 rfl rfl rfl rfl rfl rfl rfl ⟨rfl,rfl,rfl,rfl,rfl⟩ rfl rfl rfl rfl rfl (by kernel_rfl) Tryz.func8 (by kernel_rfl)
  (of_decide_eq_true (by kernel_rfl)) (by unfold Func.isWrapper; first | (rw [if_pos (by decide +kernel)]; kernel_rfl) | (rw [if_neg (by decide +kernel)]; exact ⟨rfl,rfl⟩))
  (fun os started H enc _=>recurLast_lifted os started H enc)
#print axioms recurLast_holds
end Go.Proofs.YtdjfeninmbpflaaGreat
