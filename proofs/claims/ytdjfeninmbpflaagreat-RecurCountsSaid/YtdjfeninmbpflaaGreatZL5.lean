/- A statement and its own function. -/
import Derived.Test.YtdjfeninmbpflaaGreatW8
set_option linter.unusedVariables false
set_option linter.unusedSimpArgs false
set_option maxRecDepth 100000
namespace Go.Proofs.YtdjfeninmbpflaaGreat
open Go Go.Wk Go.Wl Go.Rx Go.ChangeShapes Go.WideShapes Go.RowKit Go.Re
theorem b9s {P:Program} {H:Type} {enc:TypeId×Value->H} {w:World} {base:Nat} {spare:Nat->Bool} {held:Bool} {t0 t1 t2 t3 t4:TypeId} {args:Array Value} {ds:List (DataW H)} {ps:List MemPlace} (h:DataW.TrodAll enc P w base spare held [t0,t1,t2,t3,t4] args.toList ds ps) :
  ∃ v0 v1 v2 v3 v4 d0 d1 d2 d3 d4 p0 p1 p2 p3 p4,args=#[v0,v1,v2,v3,v4]/\ds=[d0,d1,d2,d3,d4]/\ps=p0++(p1++(p2++(p3++(p4))))/\DataW.Trod enc P w base spare held t0 v0 d0 p0/\DataW.Trod enc P w base spare held t1 v1 d1 p1/\DataW.Trod enc P w base spare held t2 v2 d2 p2/\DataW.Trod enc P w base spare held t3 v3 d3 p3/\DataW.Trod enc P w base spare held t4 v4 d4 p4:=by
 obtain ⟨v0,vs0,d0,e0,p0,q0,hargs,rfl,rfl,h0,r0⟩:=trodAll_cons h
 obtain ⟨v1,vs1,d1,e1,p1,q1,rfl,rfl,rfl,h1,r1⟩:=trodAll_cons r0
 obtain ⟨v2,vs2,d2,e2,p2,q2,rfl,rfl,rfl,h2,r2⟩:=trodAll_cons r1
 obtain ⟨v3,vs3,d3,e3,p3,q3,rfl,rfl,rfl,h3,r3⟩:=trodAll_cons r2
 obtain ⟨v4,vs4,d4,e4,p4,q4,rfl,rfl,rfl,h4,r4⟩:=trodAll_cons r3
 obtain ⟨rfl,rfl,rfl⟩:=trodAll_nil r4
 exact ⟨v0,v1,v2,v3,v4,d0,d1,d2,d3,d4,p0,p1,p2,p3,p4,by cases args; simp_all,rfl,by simp,h0,h1,h2,h3,h4⟩
theorem e4i (y0:Tm) (y1:Rl) (y2:Tm) (y3:Int) (y4:Tm):∀ (D:Nat->Prop) (w:World) (vs:List Value),(∀ b,D b->b<w.heap.size)->Gl.is D w->Rep U eT (fun _=>none) D w (.tuple vs.toArray) (.tup [.agg [.int .i64 y0.Day.Year,.int .i64 y0.Day.Month,.int .i64 y0.Day.Date,.int .i64 y0.Hour,.int .i64 y0.Min,.int .i64 y0.Sec,blB y0.Bare,blB y0.UTC],.agg [.int .i64 y1.Freq,.int .i64 y1.Interval,.int .i64 y1.Count,.sl (N:=U) 25 y1.Until,.sl (N:=U) 3 y1.Month,.sl (N:=U) 3 y1.WeekNo,.sl (N:=U) 3 y1.YearDay,.sl (N:=U) 3 y1.MonthDay,.sl (N:=U) 60 y1.Days,.sl (N:=U) 3 y1.Hour,.sl (N:=U) 3 y1.Minute,.sl (N:=U) 3 y1.Second,.sl (N:=U) 3 y1.SetPos,.int .i64 y1.Wkst],.agg [.int .i64 y2.Day.Year,.int .i64 y2.Day.Month,.int .i64 y2.Day.Date,.int .i64 y2.Hour,.int .i64 y2.Min,.int .i64 y2.Sec,blB y2.Bare,blB y2.UTC],.int .i64 y3,.agg [.int .i64 y4.Day.Year,.int .i64 y4.Day.Month,.int .i64 y4.Day.Date,.int .i64 y4.Hour,.int .i64 y4.Min,.int .i64 y4.Sec,blB y4.Bare,blB y4.UTC]])->B7 Tryz.prog 5 vs w (fun v w'=>Ext [] w w'/\Rep U eT (fun _=>none) (fun _=>False) w' v (blB true)/\True) :=
 fun D w vs h1 h2 h3=>s8 c4a (j8 c4a q8 c6z 2) Tryz.func5 (k:=.bool) (x:=true) (ob:=[]) trivial (d5p (plC y0 y1 y2 y3 y4)) 0 D w vs h1 h2 h3
theorem recurCounts_lifted (os:Os) (started:os.Started) (H:Type) (enc:TypeId×Value->H) :
  ReturnsInHanded {} Tryz.checked os 5 .any (Rows.recurCountsSpec.pre6 enc Tryz.prog Tryz.f5 Rows.recurCountsRow.domain false) (Rows.recurCountsSpec.post enc Tryz.prog Tryz.f5 Rows.recurCountsRow.apart Rows.recurCountsRow.fresh Rows.recurCountsRow.handsOn Rows.recurCountsRow.again):=by
 refine returnsInHanded_of_change (C:=Tryz.checked) e3v started (by kernel_rfl) Tryz.func5
  (ChangeSpec.witness6 (enc:=enc) (C:=Tryz.checked) false ⟨#[],#[.agg #[.int .i64 0,.int .i64 0,.int .i64 0,.int .i64 0,.int .i64 0,.int .i64 0,.bool false,.bool false],.agg #[.int .i64 0,.int .i64 0,.int .i64 0,.slice none 0 0,.slice none 0 0,.slice none 0 0,.slice none 0 0,.slice none 0 0,.slice none 0 0,.slice none 0 0,.slice none 0 0,.slice none 0 0,.slice none 0 0,.int .i64 0],.agg #[.int .i64 0,.int .i64 0,.int .i64 0,.int .i64 0,.int .i64 0,.int .i64 0,.bool false,.bool false],.int .i64 0,.agg #[.int .i64 0,.int .i64 0,.int .i64 0,.int .i64 0,.int .i64 0,.int .i64 0,.bool false,.bool false]],[]⟩ 8 (by kernel_rfl) (by kernel_rfl) (by kernel_rfl) (by kernel_rfl)) ?_
 intro W base args ds gs before hval0 hW _ _
 have hval:∀ (j:Nat) t v,Tryz.f5.params[j]?=some t->args[j]?=some v->Value.okWide Tryz.prog W .any base t v:=hval0
 have hW':=hW
 obtain ⟨p,q,hA0,hV,rfl,_,_⟩:=hW
 have hA:DataW.TrodAll enc Tryz.prog W 0 (fun _=>true) true Tryz.f5.params.toList args.toList ds p:=hA0
 rw [Tryz.params5] at hA hval
 obtain ⟨v0,v1,v2,v3,v4,d0,d1,d2,d3,d4,p0,p1,p2,p3,p4,rfl,rfl,rfl,h0,h1,h2,h3,h4⟩:=b9s hA
 obtain ⟨rfl,rfl⟩:=trodVars_none hV
 obtain ⟨y0,k0⟩:=c1n h0
 obtain ⟨y1,k1⟩:=e2q h1
 obtain ⟨y2,k2⟩:=c1n h2
 have ⟨y3,k3⟩:=b3r (s7 Tryz.underlying3) (c8a Tryz.underlying3 (hval 3 3 v3 rfl rfl)) h3
 obtain ⟨e3,b3⟩:=k3
 obtain rfl:v3=.int .i64 y3:=by simpa using e3
 obtain ⟨y4,k4⟩:=c1n h4
 have hc:=e4i y0 y1 y2 y3 y4 (fun b=>b<W.heap.size) W [v0,v1,v2,.int .i64 y3,v4] (fun _ h=>h) trivial (.tup1 (cs:=[v1,v2,.int .i64 y3,v4]) k0 (.tup1 (cs:=[v2,.int .i64 y3,v4]) k1 (.tup1 (cs:=[.int .i64 y3,v4]) k2 (.tup1 (cs:=[v4]) (.int fun _=>b3) (.tup1 (cs:=[]) k4 .tup0)))))
 exact b99 (tb:=4) e3h (e2t (by kernel_rfl)) rfl Tryz.underlying4 rfl rfl hW' (hc.mono fun v w' h=>⟨c0b h.2.1,h.1⟩)
theorem recurCounts_holds:Rows.RecurCountsSaid :=
 OpenClaim.holds_of_wide 5 Tryz.f5 rfl rfl rfl rfl rfl rfl rfl ⟨rfl,rfl,rfl,rfl,rfl⟩ rfl rfl rfl rfl rfl (by kernel_rfl) Tryz.func5 (by kernel_rfl)
  (of_decide_eq_true (by kernel_rfl)) (by unfold Func.isWrapper; first | (rw [if_pos (by decide +kernel)]; kernel_rfl) | (rw [if_neg (by decide +kernel)]; exact ⟨rfl,rfl⟩))
  (fun os started H enc _=>recurCounts_lifted os started H enc)
#print axioms recurCounts_holds
end Go.Proofs.YtdjfeninmbpflaaGreat
