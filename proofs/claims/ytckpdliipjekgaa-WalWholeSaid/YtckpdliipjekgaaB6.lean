/- 11 texts, one behind the other. -/
import Derived.Test.YtckpdliipjekgaaB4
import Derived.Test.YtckpdliipjekgaaBEr
set_option linter.unusedVariables false
set_option linter.unusedSimpArgs false
set_option maxRecDepth 100000
section
namespace Go.Proofs.Ytckpdliipjekgaa
open Go Go.Wk Go.Wl Go.Rx Go.Wa 
def Gl:Glob:=⟨fun _ _=>True,fun _ _ _ _=>trivial⟩
noncomputable def E0:Env:=⟨Try.prog,U,eT,tyU,fun _=>none,fun _=>none,fun _=>false,fun _=>none,fun _=>none,Gl,fun _=>none,fun t=>Nat.beq t 29,fun _=>none,fun _=>none⟩
theorem E0_ok:EnvOK E0:=by
 refine ⟨by kernel_rfl,fun t k x h=>?_,fun K h=>?_,fun K fn h=>?_,fun K f args nx c h=>?_,fun K f args nx c h=>?_,fun K o x args r h=>?_,fun K o a x r h=>?_,fun K h=>?_,fun K o args its r h=>?_,fun K h=>?_,fun K C args its q h=>?_⟩ <;> cases h
theorem tup0_inv {ρ:Env1} {Z:Nat->Prop} {w:World} {cs:List Value} (h:Rep U eT ρ Z w (.tuple cs.toArray) (.tup [])):cs=[]:=by
 generalize e:Value.tuple cs.toArray=u at h
 cases h with | tup0=>simpa using e
theorem Sim.cell {w w1:World} (h:Sim w w1) (a:Addr):w1.cell? a=w.cell? a:=by obtain ⟨k,rfl⟩:=h; rfl
theorem Own.cellv {w:World} {b:Nat} {T:TypeId} {cs:List Value} (h:Own w b T cs) (o:Nat):w.cell? ⟨b,o,none⟩=cs[o]? := by unfold Own at h; simp [World.cell?,h]
theorem sim_ext {w w1 w2:World} {B:List Nat} (hs:Sim w w1) (h:Ext B w1 w2):Ext B w w2:=by
 obtain ⟨k,rfl⟩:=hs
 exact ⟨h.os,h.tape,h.output,h.size,h.block⟩
theorem lend_ext {K:Nat} {args:List (SV U)} {q:Q1 U} (h:∀ (D:Nat->Prop) (w:World) (vs:List Value),Rep U eT (fun _=>none) D w (.tuple vs.toArray) (.tup args)->∃ v,(∀ w',Rep U eT (fun _=>none) (fun _=>False) w' v q.v)/\allP q.hy/\∀ w1,Sim w w1->Calls Try.prog K vs.toArray w1 fun e w'=>e=.returned v/\Ext [] w1 w'):LendOK E0 K args ⟨q.ob,q.hy,q.v,[]⟩ :=
 fun D w vs _ _ ha w1 hs=>by
  obtain ⟨v,hr,hy,hc⟩:=h D w vs ha
  exact (hc w1 hs).mono fun e w2 ⟨h1,h2⟩=>⟨v,w2,h1,Sim.refl _,sim_ext hs h2,hr w2,hy⟩
theorem alloc_old' (w:World) (o:Obj) (k:Nat) (hk:k<w.heap.size):(w.alloc o).heap[k]?=w.heap[k]? := by
 show (w.heap.push o)[k]?=_
 rw [Array.getElem?_push,if_neg (by omega)]
theorem ext_alloc {w:World} {B:List Nat} (o:Obj):Ext B w (w.alloc o):=⟨rfl,rfl,rfl,(by show w.heap.size<=(w.heap.push o).size; rw [Array.size_push]; omega),fun k hk _=>alloc_old' w o k hk⟩
def cIs (a:List (SV U)):Option (Q1 U):=match a with | [.err e,.err (.no n)]=>some ⟨[],[],.bl (e.is n) inferInstance⟩ | _=>none
theorem cIs_ok (args:List (SV U)) (q:Q1 U) (h:cIs args=some q) (_:allP q.ob):LendOK E0 30 args ⟨q.ob,q.hy,q.v,[]⟩:=by
 unfold cIs at h
 split at h
 . rename_i e n
   cases h
   refine lend_ext fun D w vs ha=>⟨.bool (decide (e.is n)),fun _=>.bl,trivial,fun w1 hs=>?_⟩
   have same:∀ {b:Bool},(Calls Try.prog 30 vs.toArray w1 fun e w'=>e=.returned (.bool b)/\w'=w1)->Calls Try.prog 30 vs.toArray w1 fun e w'=>e=.returned (.bool b)/\Ext [] w1 w':=fun h=>h.mono fun _ _ ⟨a,b⟩=>⟨a,by subst b; exact Ext.refl _ _⟩
   obtain ⟨v1,r1,rfl,h1,ha⟩:=Rep.tup_cons ha
   obtain ⟨v2,r2,rfl,h2,ha⟩:=Rep.tup_cons ha
   obtain rfl:=tup0_inv ha
   cases h1 with | err h1 =>
   cases h2 with | err h2 =>
   cases h2 with | no hn =>
   cases h1 with
   | nil =>
    have e:decide (Err.is .nil n)=false:=decide_eq_false (by simp [Err.is,Err.num])
    rw [e]; exact same (is_nil n w1)
   | @no a ha' =>
    have e:decide (Err.is (.no a) n)=decide (a=n):=decide_eq_decide.2 (by simp [Err.is,Err.num])
    rw [e]; exact same (is_errno a n w1)
   | @fault b a m hz ho ha' hm h0=>exact absurd rfl h0
   | @w t k s m ht hm hk =>
    obtain ⟨rfl,rfl⟩:=wr_inv ht
    have e:decide (Err.is (.w 115 s (.no m)) n)=decide (m=n):=decide_eq_decide.2 (by simp [Err.is,Err.num])
    rw [e]; exact (is_w115 (sv s) m n w1).mono fun _ _ ⟨a,o,b⟩=>⟨a,by subst b; exact ext_alloc _⟩
   | @p t S b s m ht hz ho hm =>
    obtain ⟨rfl,rfl⟩:=wp_inv ht
    have e:decide (Err.is (.p 94 s m) n)=decide (m=n):=decide_eq_decide.2 (by simp [Err.is,Err.num])
    rw [e]; exact same (is_p94 b m n w1 (by rw [Sim.cell hs,Own.cellv ho]; rfl))
 . cases h
noncomputable def N0:Env:=E0.addL 30 cIs
theorem N0_ok:EnvOK N0:=E0_ok.addL Try.call30 cIs_ok
def erN (n:Int):Err:=if n=0 then .nil else .no n
theorem erN_rep {ρ:Env1} {Z:Nat->Prop} {w:World} {n:Int} (h:InI n):Rep U eT ρ Z w (errv 58 n) (.err (erN n)):=by
 unfold erN
 by_cases e:n=0
 . subst e; rw [if_pos rfl,<- errv_0]; exact .err .nil
 . rw [if_neg e,<- errv_ne e]; exact .err (.no h)
theorem small {n:Int} (h:0<=n/\n<=16):InI n:=⟨by omega,by omega⟩
end Go.Proofs.Ytckpdliipjekgaa
end
section
namespace Go.Proofs.Ytckpdliipjekgaa
open Go Go.Wk Go.Wl Classical
theorem size_ok {w0:World} {d:Nat} {x:Dk} {F:List Nat} (h:DkIs d w0 x F) (ok:x.Ok) :
  CallR Try.prog 42 [.pointer (some ⟨d,0,none⟩)] w0 (fun v w'=>v=.int .i64 (x.lasts.length:Int)/\w'=w0):=by
 obtain ⟨A,cap,bm,hs0⟩:=h.fix
 have ⟨hp,hm,hl,hfl,⟨hi1,hi2⟩,hky⟩:=ok
 refine Call1 Try.func42 rfl rfl rfl rfl ?_
 refine W_seq ?_
 refine W_region ?_
 refine S_assign rfl ?_
 refine WL_nil ?_
 refine W_seq ?_
 refine W_seq ?_
 refine W_region ?_
 refine S_move rfl ?_
 refine S_eqlP Try.runUnderlying23 rfl rfl ?_
 refine WL_nil ?_
 refine W_cond_false rfl ?_
 refine W_skip ?_
 refine W_seq ?_
 refine W_region ?_
 refine S_move rfl ?_
 refine S_nilCheck rfl rfl ?_
 refine S_fieldAddr Try.runUnderlying78 rfl Try.sizeOf72 rfl rfl ?_
 refine S_load1 Try.isAgg72 rfl (Own.at ((hs0.at 0 rfl)).2 rfl) rfl ?_
 refine S_len Try.runUnderlying72 rfl rfl ?_
 refine S_assign rfl ?_
 refine WL_nil ?_
 refine W_ret ?_
 show (Value.int .i64 (x.lasts.length:Int))=.int .i64 (x.lasts.length:Int)/\w0=w0
 exact ⟨rfl,rfl⟩
theorem size_nil {w0:World} :
  CallR Try.prog 42 [.pointer none] w0 (fun v w'=>v=.int .i64 0/\w'=w0):=by
 refine Call1 Try.func42 rfl rfl rfl rfl ?_
 refine W_seq ?_
 refine W_region ?_
 refine S_assign rfl ?_
 refine WL_nil ?_
 refine W_seq ?_
 refine W_seq ?_
 refine W_region ?_
 refine S_move rfl ?_
 refine S_eqlP0 Try.runUnderlying23 rfl rfl ?_
 refine WL_nil ?_
 refine W_cond_true rfl ?_
 refine W_seq ?_
 refine W_region ?_
 refine S_assign rfl ?_
 refine WL_nil ?_
 refine W_ret ?_
 show (Value.int .i64 0)=.int .i64 0/\w0=w0
 exact ⟨rfl,rfl⟩
theorem wrong_ok {w0:World} {d:Nat} {x:Dk} {F:List Nat} (h:DkIs d w0 x F) (ok:x.Ok) (at_:Int) :
  CallR Try.prog 54 [.pointer (some ⟨d,0,none⟩),.int .i64 at_] w0 (fun v w'=>v=.int .i64 (x.wrong at_)/\w'=w0):=by
 obtain ⟨A,cap,bm,hs0⟩:=h.fix
 have ⟨hp,hm,hl,hfl,⟨hi1,hi2⟩,hky⟩:=ok
 refine Call1 Try.func54 rfl rfl rfl rfl ?_
 refine W_seq ?_
 refine W_region ?_
 refine S_assign rfl ?_
 refine WL_nil ?_
 refine W_seq ?_
 refine W_block ?_
 refine W_seq ?_
 refine W_region ?_
 refine S_move rfl ?_
 refine S_callQ Try.call42 rfl (size_ok h ok) rfl ?_
 refine S_eql rfl rfl rfl ?_
 refine S_assign rfl ?_
 refine WL_nil ?_
 refine W_cond rfl (fun h1=>?_) (fun h1=>?_)
 .
  have p2:=of_decide_eq_true h1
  exfalso; omega
 .
  have p3:=of_decide_eq_false h1
  refine W_seq ?_
  refine W_region ?_
  refine S_move rfl ?_
  refine S_lss rfl rfl rfl ?_
  refine S_move rfl ?_
  refine WL_split (dj:=12) rfl (fun h4=>?_) (fun h4=>?_)
  .
   have p5:=of_decide_eq_true h4
   refine WL_off rfl rfl rfl (bT h4) ?_
   refine WL_off rfl rfl rfl (bT h4) ?_
   refine WL_off rfl rfl rfl (bT h4) ?_
   refine WL_off rfl rfl rfl (bT h4) ?_
   refine WL_off rfl rfl rfl (bT h4) ?_
   refine WL_off rfl rfl rfl (bT h4) ?_
   refine WL_off rfl rfl rfl (bT h4) ?_
   refine S_pick_t (bT h4) rfl ?_
   refine S_assign rfl ?_
   refine WL_nil ?_
   refine W_cond_true rfl ?_
   refine W_seq ?_
   refine W_live (L:=[]) trivial ?_
   intro g6
   refine W_region ?_
   refine S_assign rfl ?_
   refine WL_nil ?_
   refine W_ret ?_
   show (Value.int .i64 3)=.int .i64 (x.wrong at_)/\w0=w0
   exact ⟨by rw [Dk.wrong,if_pos (by omega)],rfl⟩
  .
   have p7:=of_decide_eq_false h4
   refine WL_on rfl rfl (bF h4) ?_
   refine S_move rfl ?_
   refine WL_on rfl rfl (bF h4) ?_
   refine S_move rfl ?_
   refine WL_on rfl rfl (bF h4) ?_
   refine S_nilCheck rfl rfl ?_
   refine WL_on rfl rfl (bF h4) ?_
   refine S_fieldAddr Try.runUnderlying78 rfl Try.sizeOf72 rfl rfl ?_
   refine WL_on rfl rfl (bF h4) ?_
   refine S_load1 Try.isAgg72 rfl (Own.at ((hs0.at 0 rfl)).2 rfl) rfl ?_
   refine WL_on rfl rfl (bF h4) ?_
   refine S_len Try.runUnderlying72 rfl rfl ?_
   refine WL_on rfl rfl (bF h4) ?_
   refine S_geq rfl rfl rfl ?_
   refine S_pick_f (bF h4) rfl ?_
   refine S_assign rfl ?_
   refine WL_nil ?_
   refine W_cond rfl (fun h8=>?_) (fun h8=>?_)
   .
    have p9:=of_decide_eq_true h8
    refine W_seq ?_
    refine W_live (L:=[]) trivial ?_
    intro g10
    refine W_region ?_
    refine S_assign rfl ?_
    refine WL_nil ?_
    refine W_ret ?_
    show (Value.int .i64 3)=.int .i64 (x.wrong at_)/\w0=w0
    exact ⟨by rw [Dk.wrong,if_pos (by omega)],rfl⟩
   .
    have p11:=of_decide_eq_false h8
    refine W_skip ?_
    refine W_seq ?_
    refine W_live (L:=[]) trivial ?_
    intro g12
    refine W_region ?_
    refine S_assign rfl ?_
    refine WL_nil ?_
    refine W_ret ?_
    show (Value.int .i64 0)=.int .i64 (x.wrong at_)/\w0=w0
    exact ⟨by rw [Dk.wrong,if_neg (by omega)],rfl⟩
theorem act_ok {w0:World} {d:Nat} {x:Dk} {F:List Nat} (h:DkIs d w0 x F) (ok:x.Ok) (wr:Int) :
  CallR Try.prog 58 [.pointer (some ⟨d,0,none⟩),.int .i64 wr] w0 (fun v w'=>v=errv 58 (x.act wr).1/\∃ F',DkIs d w' (x.act wr).2 F'/\Turn w0 w' F F'):=by
 obtain ⟨A,cap,bm,bs,eF,hs0⟩:=h.sep (Z:=fun _=>False) (fun _ h=>h.elim) (fun _ _ h=>h)
 have ⟨hp,hm,hl,hfl,⟨hi1,hi2⟩,hky⟩:=ok
 refine Call1 Try.func58 rfl rfl rfl rfl ?_
 refine W_seq ?_
 refine W_region ?_
 refine S_assign rfl ?_
 refine WL_nil ?_
 refine W_seq ?_
 refine W_seq ?_
 refine W_region ?_
 refine S_move rfl ?_
 refine WL_nil ?_
 refine W_block ?_
 refine W_seq ?_
 refine W_region ?_
 refine S_eql rfl rfl rfl ?_
 refine S_assign rfl ?_
 refine WL_nil ?_
 refine W_cond rfl (fun h1=>?_) (fun h1=>?_)
 .
  have p2:=of_decide_eq_true h1
  refine W_seq ?_
  refine W_region ?_
  refine S_makeI Try.runUnderlying58 rfl rfl rfl ?_
  refine S_assign rfl ?_
  refine WL_nil ?_
  refine W_ret ?_
  show (Value.iface 58 (.int .i64 1))=errv 58 (x.act wr).1/\∃ F',DkIs d w0 (x.act wr).2 F'/\Turn w0 w0 F F'
  have hc:=DkIs.close hs0 (Ac.bs1 (hs0.at 2 rfl))
  simp only [Dk.act]
  first | (rw [if_pos (by omega)]; exact ⟨(by first | rfl | exact errv_ne (by decide) | exact errv_0),_,hc⟩) | (rw [if_neg (by omega),if_pos (by omega)]; exact ⟨(by first | rfl | exact errv_ne (by decide) | exact errv_0),_,hc⟩) | (rw [if_neg (by omega),if_neg (by omega),if_pos (by omega)]; exact ⟨(by first | rfl | exact errv_ne (by decide) | exact errv_0),_,hc⟩) | (rw [if_neg (by omega),if_neg (by omega),if_neg (by omega),if_pos (by omega)]; exact ⟨(by first | rfl | exact errv_ne (by decide) | exact errv_0),_,hc⟩) | (rw [if_neg (by omega),if_neg (by omega),if_neg (by omega),if_neg (by omega),if_pos (by assumption)]; exact ⟨(by first | rfl | exact errv_ne (by decide) | exact errv_0),_,hc⟩) | (rw [if_neg (by omega),if_neg (by omega),if_neg (by omega),if_neg (by omega),if_neg (by simp_all),if_pos (by omega)]; exact ⟨(by first | rfl | exact errv_ne (by decide) | exact errv_0),_,hc⟩) | (rw [if_neg (by omega),if_neg (by omega),if_neg (by omega),if_neg (by omega),if_neg (by simp_all),if_neg (by omega)]; exact ⟨(by first | rfl | exact errv_ne (by decide) | exact errv_0),_,hc⟩)
 .
  have p3:=of_decide_eq_false h1
  refine W_seq ?_
  refine W_region ?_
  refine S_eql rfl rfl rfl ?_
  refine S_assign rfl ?_
  refine WL_nil ?_
  refine W_cond rfl (fun h4=>?_) (fun h4=>?_)
  .
   have p5:=of_decide_eq_true h4
   refine W_seq ?_
   refine W_region ?_
   refine S_makeI Try.runUnderlying58 rfl rfl rfl ?_
   refine S_assign rfl ?_
   refine WL_nil ?_
   refine W_ret ?_
   show (Value.iface 58 (.int .i64 2))=errv 58 (x.act wr).1/\∃ F',DkIs d w0 (x.act wr).2 F'/\Turn w0 w0 F F'
   have hc:=DkIs.close hs0 (Ac.bs1 (hs0.at 2 rfl))
   simp only [Dk.act]
   first | (rw [if_pos (by omega)]; exact ⟨(by first | rfl | exact errv_ne (by decide) | exact errv_0),_,hc⟩) | (rw [if_neg (by omega),if_pos (by omega)]; exact ⟨(by first | rfl | exact errv_ne (by decide) | exact errv_0),_,hc⟩) | (rw [if_neg (by omega),if_neg (by omega),if_pos (by omega)]; exact ⟨(by first | rfl | exact errv_ne (by decide) | exact errv_0),_,hc⟩) | (rw [if_neg (by omega),if_neg (by omega),if_neg (by omega),if_pos (by omega)]; exact ⟨(by first | rfl | exact errv_ne (by decide) | exact errv_0),_,hc⟩) | (rw [if_neg (by omega),if_neg (by omega),if_neg (by omega),if_neg (by omega),if_pos (by assumption)]; exact ⟨(by first | rfl | exact errv_ne (by decide) | exact errv_0),_,hc⟩) | (rw [if_neg (by omega),if_neg (by omega),if_neg (by omega),if_neg (by omega),if_neg (by simp_all),if_pos (by omega)]; exact ⟨(by first | rfl | exact errv_ne (by decide) | exact errv_0),_,hc⟩) | (rw [if_neg (by omega),if_neg (by omega),if_neg (by omega),if_neg (by omega),if_neg (by simp_all),if_neg (by omega)]; exact ⟨(by first | rfl | exact errv_ne (by decide) | exact errv_0),_,hc⟩)
  .
   have p6:=of_decide_eq_false h4
   refine W_seq ?_
   refine W_region ?_
   refine S_eql rfl rfl rfl ?_
   refine S_assign rfl ?_
   refine WL_nil ?_
   refine W_cond rfl (fun h7=>?_) (fun h7=>?_)
   .
    have p8:=of_decide_eq_true h7
    refine W_seq ?_
    refine W_region ?_
    refine S_makeI Try.runUnderlying58 rfl rfl rfl ?_
    refine S_assign rfl ?_
    refine WL_nil ?_
    refine W_ret ?_
    show (Value.iface 58 (.int .i64 3))=errv 58 (x.act wr).1/\∃ F',DkIs d w0 (x.act wr).2 F'/\Turn w0 w0 F F'
    have hc:=DkIs.close hs0 (Ac.bs1 (hs0.at 2 rfl))
    simp only [Dk.act]
    first | (rw [if_pos (by omega)]; exact ⟨(by first | rfl | exact errv_ne (by decide) | exact errv_0),_,hc⟩) | (rw [if_neg (by omega),if_pos (by omega)]; exact ⟨(by first | rfl | exact errv_ne (by decide) | exact errv_0),_,hc⟩) | (rw [if_neg (by omega),if_neg (by omega),if_pos (by omega)]; exact ⟨(by first | rfl | exact errv_ne (by decide) | exact errv_0),_,hc⟩) | (rw [if_neg (by omega),if_neg (by omega),if_neg (by omega),if_pos (by omega)]; exact ⟨(by first | rfl | exact errv_ne (by decide) | exact errv_0),_,hc⟩) | (rw [if_neg (by omega),if_neg (by omega),if_neg (by omega),if_neg (by omega),if_pos (by assumption)]; exact ⟨(by first | rfl | exact errv_ne (by decide) | exact errv_0),_,hc⟩) | (rw [if_neg (by omega),if_neg (by omega),if_neg (by omega),if_neg (by omega),if_neg (by simp_all),if_pos (by omega)]; exact ⟨(by first | rfl | exact errv_ne (by decide) | exact errv_0),_,hc⟩) | (rw [if_neg (by omega),if_neg (by omega),if_neg (by omega),if_neg (by omega),if_neg (by simp_all),if_neg (by omega)]; exact ⟨(by first | rfl | exact errv_ne (by decide) | exact errv_0),_,hc⟩)
   .
    have p9:=of_decide_eq_false h7
    refine W_skip ?_
    refine W_seq ?_
    refine W_block ?_
    refine W_seq ?_
    refine W_block ?_
    refine W_seq ?_
    refine W_block ?_
    refine W_seq ?_
    refine W_block ?_
    refine W_seq ?_
    refine W_seq ?_
    refine W_seq ?_
    refine W_region ?_
    refine S_move rfl ?_
    refine S_nilCheck rfl rfl ?_
    refine S_fieldAddr Try.runUnderlying78 rfl Try.sizeOf3 rfl rfl ?_
    refine S_load1 Try.isAgg3 rfl (Own.at (hs0.at 0 rfl) rfl) rfl ?_
    refine S_eql rfl rfl rfl ?_
    refine S_assign rfl ?_
    refine WL_nil ?_
    refine W_cond rfl (fun h10=>?_) (fun h10=>?_)
    .
     have p11:=of_decide_eq_true h10
     refine W_exit ?_
     refine W_live (L:=[(0,.pointer (some ⟨d,0,none⟩))]) ⟨rfl,trivial⟩ ?_
     intro g12
     refine W_region ?_
     refine S_move rfl ?_
     refine S_nilCheck rfl rfl ?_
     refine S_fieldAddr Try.runUnderlying78 rfl Try.sizeOf4 rfl rfl ?_
     refine Z_store hs0 0 rfl Try.sizeOf4 rfl rfl rfl (Nat.le_of_ble_eq_true rfl) rfl ?_
     intro w13 hs14
     have hs14:Sep F w0 (fun _=>False) w13 [iOwn d 78 [.slice A x.lasts.length cap,.map (some bm),.int .i64 x.left,.bool true] [d],iMap kInt bm (emap (fun s=>av s) x.fresh) [bm],iAc (dArr 256) (.slice A x.lasts.length cap) x.lasts bs bs]:=hs14
     refine WL_nil ?_
     refine W_seq ?_
     refine W_seq ?_
     refine W_region ?_
     refine S_makeI Try.runUnderlying58 rfl rfl rfl ?_
     refine S_assign rfl ?_
     refine WL_nil ?_
     refine W_ret ?_
     show (Value.iface 58 (.int .i64 9))=errv 58 (x.act wr).1/\∃ F',DkIs d w13 (x.act wr).2 F'/\Turn w0 w13 F F'
     have hc:=DkIs.close hs14 (Ac.bs1 (hs14.at 2 rfl))
     simp only [Dk.act]
     first | (rw [if_pos (by omega)]; exact ⟨(by first | rfl | exact errv_ne (by decide) | exact errv_0),_,hc⟩) | (rw [if_neg (by omega),if_pos (by omega)]; exact ⟨(by first | rfl | exact errv_ne (by decide) | exact errv_0),_,hc⟩) | (rw [if_neg (by omega),if_neg (by omega),if_pos (by omega)]; exact ⟨(by first | rfl | exact errv_ne (by decide) | exact errv_0),_,hc⟩) | (rw [if_neg (by omega),if_neg (by omega),if_neg (by omega),if_pos (by omega)]; exact ⟨(by first | rfl | exact errv_ne (by decide) | exact errv_0),_,hc⟩) | (rw [if_neg (by omega),if_neg (by omega),if_neg (by omega),if_neg (by omega),if_pos (by assumption)]; exact ⟨(by first | rfl | exact errv_ne (by decide) | exact errv_0),_,hc⟩) | (rw [if_neg (by omega),if_neg (by omega),if_neg (by omega),if_neg (by omega),if_neg (by simp_all),if_pos (by omega)]; exact ⟨(by first | rfl | exact errv_ne (by decide) | exact errv_0),_,hc⟩) | (rw [if_neg (by omega),if_neg (by omega),if_neg (by omega),if_neg (by omega),if_neg (by simp_all),if_neg (by omega)]; exact ⟨(by first | rfl | exact errv_ne (by decide) | exact errv_0),_,hc⟩)
    .
     have p15:=of_decide_eq_false h10
     refine W_skip ?_
     refine W_seq ?_
     refine W_seq ?_
     refine W_live (L:=[(0,.pointer (some ⟨d,0,none⟩))]) ⟨rfl,trivial⟩ ?_
     intro g16
     refine W_region ?_
     refine S_move rfl ?_
     refine S_nilCheck rfl rfl ?_
     refine S_fieldAddr Try.runUnderlying78 rfl Try.sizeOf4 rfl rfl ?_
     refine S_load1 Try.isAgg4 rfl (Own.at (hs0.at 0 rfl) rfl) rfl ?_
     refine S_assign rfl ?_
     refine WL_nil ?_
     refine W_cond rfl (fun h17=>?_) (fun h17=>?_)
     .
      have p18:=h17
      try simp only [lrn] at p18
      refine W_exit ?_
      refine W_seq ?_
      refine W_seq ?_
      refine W_region ?_
      refine S_makeI Try.runUnderlying58 rfl rfl rfl ?_
      refine S_assign rfl ?_
      refine WL_nil ?_
      refine W_ret ?_
      show (Value.iface 58 (.int .i64 9))=errv 58 (x.act wr).1/\∃ F',DkIs d w0 (x.act wr).2 F'/\Turn w0 w0 F F'
      have hc:=DkIs.close hs0 (Ac.bs1 (hs0.at 2 rfl))
      simp only [Dk.act]
      first | (rw [if_pos (by omega)]; exact ⟨(by first | rfl | exact errv_ne (by decide) | exact errv_0),_,hc⟩) | (rw [if_neg (by omega),if_pos (by omega)]; exact ⟨(by first | rfl | exact errv_ne (by decide) | exact errv_0),_,hc⟩) | (rw [if_neg (by omega),if_neg (by omega),if_pos (by omega)]; exact ⟨(by first | rfl | exact errv_ne (by decide) | exact errv_0),_,hc⟩) | (rw [if_neg (by omega),if_neg (by omega),if_neg (by omega),if_pos (by omega)]; exact ⟨(by first | rfl | exact errv_ne (by decide) | exact errv_0),_,hc⟩) | (rw [if_neg (by omega),if_neg (by omega),if_neg (by omega),if_neg (by omega),if_pos (by assumption)]; exact ⟨(by first | rfl | exact errv_ne (by decide) | exact errv_0),_,hc⟩) | (rw [if_neg (by omega),if_neg (by omega),if_neg (by omega),if_neg (by omega),if_neg (by simp_all),if_pos (by omega)]; exact ⟨(by first | rfl | exact errv_ne (by decide) | exact errv_0),_,hc⟩) | (rw [if_neg (by omega),if_neg (by omega),if_neg (by omega),if_neg (by omega),if_neg (by simp_all),if_neg (by omega)]; exact ⟨(by first | rfl | exact errv_ne (by decide) | exact errv_0),_,hc⟩)
     .
      have p19:=h17
      try simp only [lrn] at p19
      refine W_skip ?_
      refine W_seq ?_
      refine W_region ?_
      refine S_move rfl ?_
      refine S_nilCheck rfl rfl ?_
      refine S_fieldAddr Try.runUnderlying78 rfl Try.sizeOf3 rfl rfl ?_
      refine S_load1 Try.isAgg3 rfl (Own.at (hs0.at 0 rfl) rfl) rfl ?_
      refine S_gtr rfl rfl rfl ?_
      refine S_assign rfl ?_
      refine WL_nil ?_
      refine W_cond rfl (fun h20=>?_) (fun h20=>?_)
      .
       have p21:=of_decide_eq_true h20
       refine W_exit ?_
       refine W_seq ?_
       refine W_live (L:=[(0,.pointer (some ⟨d,0,none⟩))]) ⟨rfl,trivial⟩ ?_
       intro g22
       refine W_region ?_
       refine S_move rfl ?_
       refine S_nilCheck rfl rfl ?_
       refine S_fieldAddr Try.runUnderlying78 rfl Try.sizeOf3 rfl rfl ?_
       refine S_load1 Try.isAgg3 rfl (Own.at (hs0.at 0 rfl) rfl) rfl ?_
       refine S_sub rfl rfl (by omega) rfl ?_
       refine S_nilCheck rfl rfl ?_
       refine S_fieldAddr Try.runUnderlying78 rfl Try.sizeOf3 rfl rfl ?_
       refine Z_store hs0 0 rfl Try.sizeOf3 rfl rfl rfl (Nat.le_of_ble_eq_true rfl) rfl ?_
       intro w23 hs24
       have hs24:Sep F w0 (fun _=>False) w23 [iOwn d 78 [.slice A x.lasts.length cap,.map (some bm),.int .i64 (x.left-1),.bool x.off] [d],iMap kInt bm (emap (fun s=>av s) x.fresh) [bm],iAc (dArr 256) (.slice A x.lasts.length cap) x.lasts bs bs]:=hs24
       refine WL_nil ?_
       refine W_exit ?_
       refine W_seq ?_
       refine W_region ?_
       refine S_assign rfl ?_
       refine WL_nil ?_
       refine W_ret ?_
       show (Value.nilIface)=errv 58 (x.act wr).1/\∃ F',DkIs d w23 (x.act wr).2 F'/\Turn w0 w23 F F'
       have hc:=DkIs.close hs24 (Ac.bs1 (hs24.at 2 rfl))
       simp only [Dk.act]
       first | (rw [if_pos (by omega)]; exact ⟨(by first | rfl | exact errv_ne (by decide) | exact errv_0),_,hc⟩) | (rw [if_neg (by omega),if_pos (by omega)]; exact ⟨(by first | rfl | exact errv_ne (by decide) | exact errv_0),_,hc⟩) | (rw [if_neg (by omega),if_neg (by omega),if_pos (by omega)]; exact ⟨(by first | rfl | exact errv_ne (by decide) | exact errv_0),_,hc⟩) | (rw [if_neg (by omega),if_neg (by omega),if_neg (by omega),if_pos (by omega)]; exact ⟨(by first | rfl | exact errv_ne (by decide) | exact errv_0),_,hc⟩) | (rw [if_neg (by omega),if_neg (by omega),if_neg (by omega),if_neg (by omega),if_pos (by assumption)]; exact ⟨(by first | rfl | exact errv_ne (by decide) | exact errv_0),_,hc⟩) | (rw [if_neg (by omega),if_neg (by omega),if_neg (by omega),if_neg (by omega),if_neg (by simp_all),if_pos (by omega)]; exact ⟨(by first | rfl | exact errv_ne (by decide) | exact errv_0),_,hc⟩) | (rw [if_neg (by omega),if_neg (by omega),if_neg (by omega),if_neg (by omega),if_neg (by simp_all),if_neg (by omega)]; exact ⟨(by first | rfl | exact errv_ne (by decide) | exact errv_0),_,hc⟩)
      .
       have p25:=of_decide_eq_false h20
       refine W_skip ?_
       refine W_exit ?_
       refine W_seq ?_
       refine W_live (L:=[]) trivial ?_
       intro g26
       refine W_region ?_
       refine S_assign rfl ?_
       refine WL_nil ?_
       refine W_ret ?_
       show (Value.nilIface)=errv 58 (x.act wr).1/\∃ F',DkIs d w0 (x.act wr).2 F'/\Turn w0 w0 F F'
       have hc:=DkIs.close hs0 (Ac.bs1 (hs0.at 2 rfl))
       simp only [Dk.act]
       first | (rw [if_pos (by omega)]; exact ⟨(by first | rfl | exact errv_ne (by decide) | exact errv_0),_,hc⟩) | (rw [if_neg (by omega),if_pos (by omega)]; exact ⟨(by first | rfl | exact errv_ne (by decide) | exact errv_0),_,hc⟩) | (rw [if_neg (by omega),if_neg (by omega),if_pos (by omega)]; exact ⟨(by first | rfl | exact errv_ne (by decide) | exact errv_0),_,hc⟩) | (rw [if_neg (by omega),if_neg (by omega),if_neg (by omega),if_pos (by omega)]; exact ⟨(by first | rfl | exact errv_ne (by decide) | exact errv_0),_,hc⟩) | (rw [if_neg (by omega),if_neg (by omega),if_neg (by omega),if_neg (by omega),if_pos (by assumption)]; exact ⟨(by first | rfl | exact errv_ne (by decide) | exact errv_0),_,hc⟩) | (rw [if_neg (by omega),if_neg (by omega),if_neg (by omega),if_neg (by omega),if_neg (by simp_all),if_pos (by omega)]; exact ⟨(by first | rfl | exact errv_ne (by decide) | exact errv_0),_,hc⟩) | (rw [if_neg (by omega),if_neg (by omega),if_neg (by omega),if_neg (by omega),if_neg (by simp_all),if_neg (by omega)]; exact ⟨(by first | rfl | exact errv_ne (by decide) | exact errv_0),_,hc⟩)
theorem limit_ok {w0:World} {d:Nat} {x:Dk} {F:List Nat} (h:DkIs d w0 x F) (ok:x.Ok) (n:Int) :
  CallR Try.prog 24 [.pointer (some ⟨d,0,none⟩),.int .i64 n] w0 (fun _ w'=>∃ F',DkIs d w' (x.limit n) F'/\Turn w0 w' F F'):=by
 obtain ⟨A,cap,bm,bs,eF,hs0⟩:=h.sep (Z:=fun _=>False) (fun _ h=>h.elim) (fun _ _ h=>h)
 have ⟨hp,hm,hl,hfl,⟨hi1,hi2⟩,hky⟩:=ok
 refine Call0 Try.func24 rfl rfl rfl rfl ?_
 refine W_seq ?_
 refine W_region ?_
 refine S_move rfl ?_
 refine S_neqP Try.runUnderlying23 rfl rfl ?_
 refine WL_nil ?_
 refine W_cond_true rfl ?_
 refine W_region ?_
 refine S_move rfl ?_
 refine S_move rfl ?_
 refine S_max rfl rfl rfl ?_
 refine S_nilCheck rfl rfl ?_
 refine S_fieldAddr Try.runUnderlying78 rfl Try.sizeOf3 rfl rfl ?_
 refine Z_store hs0 0 rfl Try.sizeOf3 rfl rfl rfl (Nat.le_of_ble_eq_true rfl) rfl ?_
 intro w1 hs2
 have hs2:Sep F w0 (fun _=>False) w1 [iOwn d 78 [.slice A x.lasts.length cap,.map (some bm),.int .i64 (max n (-1)),.bool x.off] [d],iMap kInt bm (emap (fun s=>av s) x.fresh) [bm],iAc (dArr 256) (.slice A x.lasts.length cap) x.lasts bs bs]:=hs2
 refine WL_nil ?_
 show ∃ F',DkIs d w1 (x.limit n) F'/\Turn w0 w1 F F'
 exact ⟨_,DkIs.close hs2 (Ac.bs1 (hs2.at 2 rfl))⟩
theorem read_ok {w0:World} {d:Nat} {x:Dk} {F:List Nat} (h:DkIs d w0 x F) (ok:x.Ok) (at_:Int) :
  CallR Try.prog 37 [.pointer (some ⟨d,0,none⟩),.int .i64 at_] w0 (fun v w'=>∃ A cap bs,v=.tuple #[.slice A (x.read at_).1.length cap,errv 58 (x.read at_).2]/\Ac dByte (fun b=>b∈F) w' (.slice A (x.read at_).1.length cap) (x.read at_).1 bs/\Ext [] w0 w'/\∀ b∈bs,w0.heap.size<=b):=by
 obtain ⟨A,cap,bm,hs0⟩:=h.fix
 have ⟨hp,hm,hl,hfl,⟨hi1,hi2⟩,hky⟩:=ok
 refine Call2 Try.func37 rfl rfl rfl rfl ?_
 refine W_seq ?_
 refine W_region ?_
 refine S_assign rfl ?_
 refine S_assign rfl ?_
 refine WL_nil ?_
 refine W_seq ?_
 refine W_seq ?_
 refine W_region ?_
 refine S_move rfl ?_
 refine S_move rfl ?_
 refine S_callQ Try.call54 rfl (wrong_ok h ok at_) rfl ?_
 refine WL_nil ?_
 refine W_block ?_
 refine W_seq ?_
 refine W_region ?_
 refine S_eql rfl rfl rfl ?_
 refine S_assign rfl ?_
 refine WL_nil ?_
 refine W_cond rfl (fun h1=>?_) (fun h1=>?_)
 .
  have p2:=of_decide_eq_true h1
  exfalso; simp only [Dk.wrong] at *; split at * <;> omega
 .
  have p3:=of_decide_eq_false h1
  refine W_seq ?_
  refine W_region ?_
  refine S_eql rfl rfl rfl ?_
  refine S_assign rfl ?_
  refine WL_nil ?_
  refine W_cond rfl (fun h4=>?_) (fun h4=>?_)
  .
   have p5:=of_decide_eq_true h4
   refine W_seq ?_
   refine W_region ?_
   refine S_makeI Try.runUnderlying58 rfl rfl rfl ?_
   refine S_assign rfl ?_
   refine S_assign rfl ?_
   refine WL_nil ?_
   refine W_ret ?_
   show ∃ A cap bs,(Value.tuple #[.slice none 0 0,.iface 58 (.int .i64 3)])=.tuple #[.slice A (x.read at_).1.length cap,errv 58 (x.read at_).2]/\Ac dByte (fun b=>b∈F) w0 (.slice A (x.read at_).1.length cap) (x.read at_).1 bs/\Ext [] w0 w0/\∀ b∈bs,w0.heap.size<=b
   exact ⟨none,0,[],by rw [Dk.read,if_pos (by assumption)]; show Value.tuple #[_,_]=Value.tuple #[_,errv _ 3]; rw [<- errv_ne (by decide)]; rfl,by rw [Dk.read,if_pos (by assumption)]; exact Ac.nil,Ext.refl _ _,fun _ h=>by cases h⟩
  .
   have p6:=of_decide_eq_false h4
   refine W_skip ?_
   refine W_seq ?_
   refine W_seq ?_
   refine W_region ?_
   refine S_move rfl ?_
   refine S_nilCheck rfl rfl ?_
   refine S_fieldAddr Try.runUnderlying78 rfl Try.sizeOf4 rfl rfl ?_
   refine S_load1 Try.isAgg4 rfl (Own.at ((hs0.at 0 rfl)).2 rfl) rfl ?_
   refine WL_nil ?_
   refine W_cond rfl (fun h7=>?_) (fun h7=>?_)
   .
    have p8:=h7
    try simp only [lrn] at p8
    refine W_seq ?_
    refine W_live (L:=[]) trivial ?_
    intro g9
    refine W_region ?_
    refine S_makeI Try.runUnderlying58 rfl rfl rfl ?_
    refine S_assign rfl ?_
    refine S_assign rfl ?_
    refine WL_nil ?_
    refine W_ret ?_
    show ∃ A cap bs,(Value.tuple #[.slice none 0 0,.iface 58 (.int .i64 9)])=.tuple #[.slice A (x.read at_).1.length cap,errv 58 (x.read at_).2]/\Ac dByte (fun b=>b∈F) w0 (.slice A (x.read at_).1.length cap) (x.read at_).1 bs/\Ext [] w0 w0/\∀ b∈bs,w0.heap.size<=b
    exact ⟨none,0,[],by rw [Dk.read,if_neg (by assumption),if_pos (by assumption)]; show Value.tuple #[_,_]=Value.tuple #[_,errv _ 9]; rw [<- errv_ne (by decide)]; rfl,by rw [Dk.read,if_neg (by assumption),if_pos (by assumption)]; exact Ac.nil,Ext.refl _ _,fun _ h=>by cases h⟩
   .
    have p10:=h7
    try simp only [lrn] at p10
    refine W_skip ?_
    refine W_seq ?_
    refine W_live (L:=[(0,.pointer (some ⟨d,0,none⟩)),(1,.int .i64 at_)]) ⟨rfl,rfl,trivial⟩ ?_
    intro g11
    refine W_region ?_
    refine S_move rfl ?_
    refine S_nilCheck rfl rfl ?_
    refine S_fieldAddr Try.runUnderlying78 rfl Try.sizeOf76 rfl rfl ?_
    refine S_load1 Try.isAgg76 rfl (Own.at ((hs0.at 0 rfl)).2 rfl) rfl ?_
    refine S_move rfl ?_
    refine Z_lookupOk (z0:=(List.replicate 256 (0:UInt8))) ((hs0.at 1 rfl)).2 Try.runUnderlying76 Try.runUnderlying3 Try.zeroValue75 zero78 rfl rfl rfl ?_
    refine S_move rfl ?_
    refine S_extract rfl rfl rfl ?_
    refine S_extract rfl rfl rfl ?_
    refine Z_allocAr hs0 Try.zeroValue75 zero78 rfl ?_
    intro b12 w13 hs14
    have hs14:Sep [] w0 (fun b=>b∈F) w13 [iAr b12 75 (List.replicate 256 0) [],iOwnF d 78 [.slice A x.lasts.length cap,.map (some bm),.int .i64 x.left,.bool x.off],iMapF kInt bm (emap (fun s=>av s) x.fresh),iAcF (dArr 256) (.slice A x.lasts.length cap) x.lasts]:=hs14
    refine Z_storeAr hs14 0 rfl Try.sizeOf75 rfl rfl List.length_replicate (getD_len ok at_) ?_
    intro w15 hs16
    have hs16:Sep [] w0 (fun b=>b∈F) w15 [iAr b12 75 ((aget x.fresh at_).getD (List.replicate 256 (0:UInt8))) [],iOwnF d 78 [.slice A x.lasts.length cap,.map (some bm),.int .i64 x.left,.bool x.off],iMapF kInt bm (emap (fun s=>av s) x.fresh),iAcF (dArr 256) (.slice A x.lasts.length cap) x.lasts]:=hs16
    refine S_assign rfl ?_
    refine WL_nil ?_
    refine W_seq ?_
    refine W_seq ?_
    refine W_live (L:=[(0,.pointer (some ⟨d,0,none⟩)),(1,.int .i64 at_),(6,.pointer (some ⟨b12,0,none⟩)),(7,.bool (Option.isSome (aget x.fresh at_)))]) ⟨rfl,rfl,rfl,rfl,trivial⟩ ?_
    intro g17
    refine W_region ?_
    refine S_move rfl ?_
    refine S_not rfl rfl ?_
    refine WL_nil ?_
    refine W_cond rfl (fun h18=>?_) (fun h18=>?_)
    .
     have h19:=h18
     simp only [lrnN] at h19
     have p20:=h19
     try simp only [lrn] at p20
     refine W_region ?_
     refine S_move rfl ?_
     refine S_nilCheck rfl rfl ?_
     refine S_fieldAddr Try.runUnderlying78 rfl Try.sizeOf72 rfl rfl ?_
     refine S_load1 Try.isAgg72 rfl (Own.at ((hs16.at 1 rfl)).2 rfl) rfl ?_
     refine S_move rfl ?_
     refine Z_indexAc ((hs16.at 3 rfl)).choose_spec.2 Try.runUnderlying72 Try.sizeOf75 rfl rfl (show (0:Int)<=at_ from by simp only [Dk.wrong] at *; omega) (show at_<((x.lasts.length:Nat):Int) from by simp only [Dk.wrong] at *; omega) rfl ?_
     have o24:=cell_ac (q:=(Int.toNat at_) * 256) (sz:=256) (o:=0) ((hs16.at 3 rfl)).choose_spec.2 (Sub.self _) rfl (Nat.add_zero _).symm (show (0:Int)<=at_ from by simp only [Dk.wrong] at *; omega) (show at_<((x.lasts.length:Nat):Int) from by simp only [Dk.wrong] at *; omega)
     obtain ⟨c21,hc22,hr23⟩:=o24
     obtain ⟨rfl,r25⟩:=hr23
     refine Z_loadAgg Try.isAgg75 Try.sizeOf75 (by simp [r25]) rfl hc22 rfl ?_
     refine Z_storeAr hs16 0 rfl Try.sizeOf75 rfl rfl (getD_len ok at_) r25 ?_
     intro w26 hs27
     have hs27:Sep [] w0 (fun b=>b∈F) w26 [iAr b12 75 (ix x.lasts at_) [],iOwnF d 78 [.slice A x.lasts.length cap,.map (some bm),.int .i64 x.left,.bool x.off],iMapF kInt bm (emap (fun s=>av s) x.fresh),iAcF (dArr 256) (.slice A x.lasts.length cap) x.lasts]:=hs27
     refine WL_nil ?_
     refine W_seq ?_
     refine W_region ?_
     refine S_sliceAr0 (e:=(256:Nat)) Try.runUnderlying75 Try.sizeOf5 rfl rfl ⟨by omega,by omega⟩ rfl ?_
     have hs28:Sep [] w0 (fun b=>b∈F) w26 [iAc dByte (.slice (some ⟨b12,0,none⟩) 256 256) (ix x.lasts at_) [b12] [],iOwnF d 78 [.slice A x.lasts.length cap,.map (some bm),.int .i64 x.left,.bool x.off],iMapF kInt bm (emap (fun s=>av s) x.fresh),iAcF (dArr 256) (.slice A x.lasts.length cap) x.lasts]:=hs27.arAc 0 rfl r25
     refine S_assign rfl ?_
     refine S_assign rfl ?_
     refine WL_nil ?_
     refine W_ret ?_
     show ∃ A cap bs,(Value.tuple #[.slice (some ⟨b12,0,none⟩) 256 256,.nilIface])=.tuple #[.slice A (x.read at_).1.length cap,errv 58 (x.read at_).2]/\Ac dByte (fun b=>b∈F) w26 (.slice A (x.read at_).1.length cap) (x.read at_).1 bs/\Ext [] w0 w26/\∀ b∈bs,w0.heap.size<=b
     have ha:=hs28.at 0 rfl
     have hl:=Ac.len ha
     have e:x.read at_=((ix x.lasts at_),0):=read_fine ‹_› ‹_› (by assumption)
     rw [e]
     exact ⟨_,_,_,by rw [hl,<- errv_0],by rw [hl]; exact ha,hs28.ext,fun b hb=>(hs28.org 0 rfl b hb).elim (fun h=>by cases h) id⟩
    .
     have h29:=h18
     simp only [lrnN] at h29
     have p30:=h29
     try simp only [lrn] at p30
     refine W_skip ?_
     refine W_seq ?_
     refine W_region ?_
     refine S_sliceAr0 (e:=(256:Nat)) Try.runUnderlying75 Try.sizeOf5 rfl rfl ⟨by omega,by omega⟩ rfl ?_
     have hs31:Sep [] w0 (fun b=>b∈F) w15 [iAc dByte (.slice (some ⟨b12,0,none⟩) 256 256) ((aget x.fresh at_).getD (List.replicate 256 (0:UInt8))) [b12] [],iOwnF d 78 [.slice A x.lasts.length cap,.map (some bm),.int .i64 x.left,.bool x.off],iMapF kInt bm (emap (fun s=>av s) x.fresh),iAcF (dArr 256) (.slice A x.lasts.length cap) x.lasts]:=hs16.arAc 0 rfl (getD_len ok at_)
     refine S_assign rfl ?_
     refine S_assign rfl ?_
     refine WL_nil ?_
     refine W_ret ?_
     show ∃ A cap bs,(Value.tuple #[.slice (some ⟨b12,0,none⟩) 256 256,.nilIface])=.tuple #[.slice A (x.read at_).1.length cap,errv 58 (x.read at_).2]/\Ac dByte (fun b=>b∈F) w15 (.slice A (x.read at_).1.length cap) (x.read at_).1 bs/\Ext [] w0 w15/\∀ b∈bs,w0.heap.size<=b
     have ha:=hs31.at 0 rfl
     have hl:=Ac.len ha
     have e:x.read at_=(((aget x.fresh at_).getD (List.replicate 256 (0:UInt8))),0):=read_fine ‹_› ‹_› (by assumption)
     rw [e]
     exact ⟨_,_,_,by rw [hl,<- errv_0],by rw [hl]; exact ha,hs31.ext,fun b hb=>(hs31.org 0 rfl b hb).elim (fun h=>by cases h) id⟩
theorem write_ok {w0:World} {d:Nat} {x:Dk} {F:List Nat} (h:DkIs d w0 x F) (ok:x.Ok) {D:Nat->Prop} (hD:∀ b∈F,¬ D b) {A:Option Addr} {cap:Nat} {s:Str} (hb:(dSlice dByte).rd D w0 [.slice A s.length cap] s) (at_:Int) :
  CallR Try.prog 56 [.pointer (some ⟨d,0,none⟩),.int .i64 at_,.slice A s.length cap] w0 (fun v w'=>v=errv 58 (x.write at_ s).1/\∃ F',DkIs d w' (x.write at_ s).2 F'/\Turn w0 w' F F'):=by
 have hs1:=Sep.one (o:=obDk d) (Z:=fun b=>D b/\b<w0.heap.size) h (fun _ h=>h.2) (fun b hb h=>hD b hb h.1)
 have hs0:=hs1.fact (t:=iData (dSlice dByte) [.slice A s.length cap] s) ((dSlice dByte).weak hb (fun b h1 h2=>⟨h1,h2⟩)) sData rfl rfl
 have hsl:=dSlice_len hb
 have hw1:x.wrong at_≠1:=by simp only [Dk.wrong]; split <;> omega
 refine Call1 Try.func56 rfl rfl rfl rfl ?_
 refine W_seq ?_
 refine W_region ?_
 refine S_assign rfl ?_
 refine WL_nil ?_
 refine W_seq ?_
 refine W_region ?_
 refine S_move rfl ?_
 refine S_move rfl ?_
 refine S_callQ Try.call54 rfl (wrong_ok (hs0.at 1 rfl) ok at_) rfl ?_
 refine S_assign rfl ?_
 refine WL_nil ?_
 refine W_seq ?_
 refine W_seq ?_
 refine W_region ?_
 refine S_move rfl ?_
 refine S_neq rfl rfl rfl ?_
 refine S_move rfl ?_
 refine WL_split (dj:=14) rfl (fun h1=>?_) (fun h1=>?_)
 .
  have p2:=of_decide_eq_true h1
  refine WL_on rfl rfl (bT h1) ?_
  refine S_move rfl ?_
  refine WL_on rfl rfl (bT h1) ?_
  refine S_len Try.runUnderlying30 rfl rfl ?_
  refine WL_on rfl rfl (bT h1) ?_
  refine S_neq rfl rfl rfl ?_
  refine S_pick_t (bT h1) rfl ?_
  refine WL_nil ?_
  refine W_cond rfl (fun h3=>?_) (fun h3=>?_)
  .
   have p4:=of_decide_eq_true h3
   refine W_live (L:=[(0,.pointer (some ⟨d,0,none⟩)),(1,.int .i64 at_),(2,.slice A s.length cap)]) ⟨rfl,rfl,rfl,trivial⟩ ?_
   intro g5
   refine W_region ?_
   refine S_assign rfl ?_
   refine WL_nil ?_
   refine W_seq ?_
   refine W_seq ?_
   refine W_region ?_
   refine S_move rfl ?_
   refine S_move rfl ?_
   have hz10:=act_ok (hs0.at 1 rfl) ok 2
   refine S_callE Try.call58 rfl hz10 rfl ?_
   rintro w6 ⟨F7,h8,t9⟩
   have hs11:Sep F w0 (fun b=>D b/\b<w0.heap.size) w6 [iData (dSlice dByte) [.slice A s.length cap] s,iOb (obDk d) ((x.act 2).2) F7 F]:=hs0.turn 1 rfl h8 t9
   refine S_assign rfl ?_
   refine WL_nil ?_
   refine W_seq ?_
   refine W_region ?_
   refine S_move rfl ?_
   refine S_neqE (Te:=58) (e:=(x.act 2).1) Try.runUnderlying32 rfl rfl ?_
   refine WL_nil ?_
   refine W_cond rfl (fun h13=>?_) (fun h13=>?_)
   .
    have p14:=of_decide_eq_true h13
    refine W_seq ?_
    refine W_region ?_
    refine S_move rfl ?_
    refine S_assign rfl ?_
    refine WL_nil ?_
    refine W_ret ?_
    show (errv 58 ((x.act 2).1))=errv 58 (x.write at_ s).1/\∃ F',DkIs d w6 (x.write at_ s).2 F'/\Turn w0 w6 F F'
    rw [write_err (wr:=2) (by split <;> omega) (by assumption)]
    exact ⟨rfl,_,hs11.at 1 rfl,hs11.ext,fun b hb=>(hs11.org 1 rfl b hb)⟩
   .
    have p15:=of_decide_eq_false h13
    have hz:=act_zero (Classical.not_not.1 p15)
    refine W_skip ?_
    refine W_seq ?_
    have ⟨A16,cap17,bm18,bs19,hs20⟩:=Sep.openDk (hs11.pick [1,0] rfl (by decide) rfl)
    refine W_live (L:=[(0,.pointer (some ⟨d,0,none⟩)),(1,.int .i64 at_),(2,.slice A s.length cap)]) ⟨rfl,rfl,rfl,trivial⟩ ?_
    intro g21
    refine W_region_J (fun dN vL w=>Sep F w0 (fun b=>D b/\b<w0.heap.size) w [iOwn d 78 [.slice A16 (((x.act 2).2).lasts.length) cap17,.map (some bm18),.int .i64 (((x.act 2).2).left),.bool (((x.act 2).2).off)] F,(bif dN 8 then (iMap kInt bm18 (emap (fun s=>av s) (aput (((x.act 2).2).fresh) at_ (List.take 256 s))) F) else (iMap kInt bm18 (emap (fun s=>av s) (((x.act 2).2).fresh)) F)),iAc (dArr 256) (.slice A16 (((x.act 2).2).lasts.length) cap17) (((x.act 2).2).lasts) bs19 F,iData (dSlice dByte) [.slice A s.length cap] s]/\(dN 0=true->vL 0=.pointer (some ⟨d,0,none⟩))/\(dN 1=true->vL 1=.pointer (some ⟨d,0,none⟩))/\(dN 2=true->vL 2=.pointer (some ⟨d,1,none⟩))/\(dN 3=true->vL 3=.map (some bm18))/\(dN 4=true->vL 4=.int .i64 at_)/\(dN 5=true->vL 5=.slice A s.length cap)/\(dN 6=true->vL 6=.pointer A)/\(dN 7=true->vL 7=av (List.take 256 s))/\True) [25,26,27,28,29,30,31,32] rfl (by decide +kernel) _ rfl ?_ ?_ ?_
    . exact fun V=>⟨hs20,(fun h=>by cases h),(fun h=>by cases h),(fun h=>by cases h),(fun h=>by cases h),(fun h=>by cases h),(fun h=>by cases h),(fun h=>by cases h),(fun h=>by cases h),trivial⟩
    . refine (.cons ?_ (.cons ?_ (.cons ?_ (.cons ?_ (.cons ?_ (.cons ?_ (.cons ?_ (.cons ?_ (.cons ?_ .nil)))))))))
      .
       rintro dN vL g25 w26 ⟨hs27,v33,v34,v35,v36,v37,v38,v39,v40,_⟩ hD28 hd29 hu30 hg31 hk32
       have e41:dN 8=false:=hu30 8 (by decide +kernel)
       rw [e41] at hs27
       have hs42:Sep F w0 (fun b=>D b/\b<w0.heap.size) w26 [iOwn d 78 [.slice A16 (((x.act 2).2).lasts.length) cap17,.map (some bm18),.int .i64 (((x.act 2).2).left),.bool (((x.act 2).2).off)] F,iMap kInt bm18 (emap (fun s=>av s) (((x.act 2).2).fresh)) F,iAc (dArr 256) (.slice A16 (((x.act 2).2).lasts.length) cap17) (((x.act 2).2).lasts) bs19 F,iData (dSlice dByte) [.slice A s.length cap] s]:=hs27
       refine WL_at (L:=[(0,.pointer (some ⟨d,0,none⟩))]) ⟨(hk32 0 (by decide +kernel)),trivial⟩ ?_
       refine S_move rfl ?_
       have hs43:Sep F w0 (fun b=>D b/\b<w0.heap.size) w26 [iOwn d 78 [.slice A16 (((x.act 2).2).lasts.length) cap17,.map (some bm18),.int .i64 (((x.act 2).2).left),.bool (((x.act 2).2).off)] F,(bif dN 8 then (iMap kInt bm18 (emap (fun s=>av s) (aput (((x.act 2).2).fresh) at_ (List.take 256 s))) F) else (iMap kInt bm18 (emap (fun s=>av s) (((x.act 2).2).fresh)) F)),iAc (dArr 256) (.slice A16 (((x.act 2).2).lasts.length) cap17) (((x.act 2).2).lasts) bs19 F,iData (dSlice dByte) [.slice A s.length cap] s]:=by rw [e41]; exact hs42
       exact WL_nil ⟨rfl,_,rfl,hs43,(fun _=>rfl),v34,v35,v36,v37,v38,v39,v40,trivial⟩
      .
       rintro dN vL g44 w45 ⟨hs46,v52,v53,v54,v55,v56,v57,v58,v59,_⟩ hD47 hd48 hu49 hg50 hk51
       have e60:dN 0=true:=hd48 0 (by decide +kernel)
       have e61:dN 8=false:=hu49 8 (by decide +kernel)
       rw [e61] at hs46
       have hs62:Sep F w0 (fun b=>D b/\b<w0.heap.size) w45 [iOwn d 78 [.slice A16 (((x.act 2).2).lasts.length) cap17,.map (some bm18),.int .i64 (((x.act 2).2).left),.bool (((x.act 2).2).off)] F,iMap kInt bm18 (emap (fun s=>av s) (((x.act 2).2).fresh)) F,iAc (dArr 256) (.slice A16 (((x.act 2).2).lasts.length) cap17) (((x.act 2).2).lasts) bs19 F,iData (dSlice dByte) [.slice A s.length cap] s]:=hs46
       refine WL_at (L:=[(25,.pointer (some ⟨d,0,none⟩))]) ⟨((hg50 0 25 e60 rfl).trans (v52 e60)),trivial⟩ ?_
       refine S_nilCheck rfl rfl ?_
       have hs63:Sep F w0 (fun b=>D b/\b<w0.heap.size) w45 [iOwn d 78 [.slice A16 (((x.act 2).2).lasts.length) cap17,.map (some bm18),.int .i64 (((x.act 2).2).left),.bool (((x.act 2).2).off)] F,(bif dN 8 then (iMap kInt bm18 (emap (fun s=>av s) (aput (((x.act 2).2).fresh) at_ (List.take 256 s))) F) else (iMap kInt bm18 (emap (fun s=>av s) (((x.act 2).2).fresh)) F)),iAc (dArr 256) (.slice A16 (((x.act 2).2).lasts.length) cap17) (((x.act 2).2).lasts) bs19 F,iData (dSlice dByte) [.slice A s.length cap] s]:=by rw [e61]; exact hs62
       exact WL_nil ⟨rfl,_,rfl,hs63,v52,(fun _=>rfl),v54,v55,v56,v57,v58,v59,trivial⟩
      .
       rintro dN vL g64 w65 ⟨hs66,v72,v73,v74,v75,v76,v77,v78,v79,_⟩ hD67 hd68 hu69 hg70 hk71
       have e80:dN 1=true:=hd68 1 (by decide +kernel)
       have e81:dN 8=false:=hu69 8 (by decide +kernel)
       rw [e81] at hs66
       have hs82:Sep F w0 (fun b=>D b/\b<w0.heap.size) w65 [iOwn d 78 [.slice A16 (((x.act 2).2).lasts.length) cap17,.map (some bm18),.int .i64 (((x.act 2).2).left),.bool (((x.act 2).2).off)] F,iMap kInt bm18 (emap (fun s=>av s) (((x.act 2).2).fresh)) F,iAc (dArr 256) (.slice A16 (((x.act 2).2).lasts.length) cap17) (((x.act 2).2).lasts) bs19 F,iData (dSlice dByte) [.slice A s.length cap] s]:=hs66
       refine WL_at (L:=[(26,.pointer (some ⟨d,0,none⟩))]) ⟨((hg70 1 26 e80 rfl).trans (v73 e80)),trivial⟩ ?_
       refine S_fieldAddr Try.runUnderlying78 rfl Try.sizeOf76 rfl rfl ?_
       have hs83:Sep F w0 (fun b=>D b/\b<w0.heap.size) w65 [iOwn d 78 [.slice A16 (((x.act 2).2).lasts.length) cap17,.map (some bm18),.int .i64 (((x.act 2).2).left),.bool (((x.act 2).2).off)] F,(bif dN 8 then (iMap kInt bm18 (emap (fun s=>av s) (aput (((x.act 2).2).fresh) at_ (List.take 256 s))) F) else (iMap kInt bm18 (emap (fun s=>av s) (((x.act 2).2).fresh)) F)),iAc (dArr 256) (.slice A16 (((x.act 2).2).lasts.length) cap17) (((x.act 2).2).lasts) bs19 F,iData (dSlice dByte) [.slice A s.length cap] s]:=by rw [e81]; exact hs82
       exact WL_nil ⟨rfl,_,rfl,hs83,v72,v73,(fun _=>rfl),v75,v76,v77,v78,v79,trivial⟩
      .
       rintro dN vL g84 w85 ⟨hs86,v92,v93,v94,v95,v96,v97,v98,v99,_⟩ hD87 hd88 hu89 hg90 hk91
       have e100:dN 2=true:=hd88 2 (by decide +kernel)
       have e101:dN 8=false:=hu89 8 (by decide +kernel)
       rw [e101] at hs86
       have hs102:Sep F w0 (fun b=>D b/\b<w0.heap.size) w85 [iOwn d 78 [.slice A16 (((x.act 2).2).lasts.length) cap17,.map (some bm18),.int .i64 (((x.act 2).2).left),.bool (((x.act 2).2).off)] F,iMap kInt bm18 (emap (fun s=>av s) (((x.act 2).2).fresh)) F,iAc (dArr 256) (.slice A16 (((x.act 2).2).lasts.length) cap17) (((x.act 2).2).lasts) bs19 F,iData (dSlice dByte) [.slice A s.length cap] s]:=hs86
       refine WL_at (L:=[(27,.pointer (some ⟨d,1,none⟩))]) ⟨((hg90 2 27 e100 rfl).trans (v94 e100)),trivial⟩ ?_
       refine S_load1 Try.isAgg76 rfl (Own.at (hs102.at 0 rfl) rfl) rfl ?_
       have hs103:Sep F w0 (fun b=>D b/\b<w0.heap.size) w85 [iOwn d 78 [.slice A16 (((x.act 2).2).lasts.length) cap17,.map (some bm18),.int .i64 (((x.act 2).2).left),.bool (((x.act 2).2).off)] F,(bif dN 8 then (iMap kInt bm18 (emap (fun s=>av s) (aput (((x.act 2).2).fresh) at_ (List.take 256 s))) F) else (iMap kInt bm18 (emap (fun s=>av s) (((x.act 2).2).fresh)) F)),iAc (dArr 256) (.slice A16 (((x.act 2).2).lasts.length) cap17) (((x.act 2).2).lasts) bs19 F,iData (dSlice dByte) [.slice A s.length cap] s]:=by rw [e101]; exact hs102
       exact WL_nil ⟨rfl,_,rfl,hs103,v92,v93,v94,(fun _=>rfl),v96,v97,v98,v99,trivial⟩
      .
       rintro dN vL g104 w105 ⟨hs106,v112,v113,v114,v115,v116,v117,v118,v119,_⟩ hD107 hd108 hu109 hg110 hk111
       have e120:dN 8=false:=hu109 8 (by decide +kernel)
       rw [e120] at hs106
       have hs121:Sep F w0 (fun b=>D b/\b<w0.heap.size) w105 [iOwn d 78 [.slice A16 (((x.act 2).2).lasts.length) cap17,.map (some bm18),.int .i64 (((x.act 2).2).left),.bool (((x.act 2).2).off)] F,iMap kInt bm18 (emap (fun s=>av s) (((x.act 2).2).fresh)) F,iAc (dArr 256) (.slice A16 (((x.act 2).2).lasts.length) cap17) (((x.act 2).2).lasts) bs19 F,iData (dSlice dByte) [.slice A s.length cap] s]:=hs106
       refine WL_at (L:=[(1,.int .i64 at_)]) ⟨(hk111 1 (by decide +kernel)),trivial⟩ ?_
       refine S_move rfl ?_
       have hs122:Sep F w0 (fun b=>D b/\b<w0.heap.size) w105 [iOwn d 78 [.slice A16 (((x.act 2).2).lasts.length) cap17,.map (some bm18),.int .i64 (((x.act 2).2).left),.bool (((x.act 2).2).off)] F,(bif dN 8 then (iMap kInt bm18 (emap (fun s=>av s) (aput (((x.act 2).2).fresh) at_ (List.take 256 s))) F) else (iMap kInt bm18 (emap (fun s=>av s) (((x.act 2).2).fresh)) F)),iAc (dArr 256) (.slice A16 (((x.act 2).2).lasts.length) cap17) (((x.act 2).2).lasts) bs19 F,iData (dSlice dByte) [.slice A s.length cap] s]:=by rw [e120]; exact hs121
       exact WL_nil ⟨rfl,_,rfl,hs122,v112,v113,v114,v115,(fun _=>rfl),v117,v118,v119,trivial⟩
      .
       rintro dN vL g123 w124 ⟨hs125,v131,v132,v133,v134,v135,v136,v137,v138,_⟩ hD126 hd127 hu128 hg129 hk130
       have e139:dN 8=false:=hu128 8 (by decide +kernel)
       rw [e139] at hs125
       have hs140:Sep F w0 (fun b=>D b/\b<w0.heap.size) w124 [iOwn d 78 [.slice A16 (((x.act 2).2).lasts.length) cap17,.map (some bm18),.int .i64 (((x.act 2).2).left),.bool (((x.act 2).2).off)] F,iMap kInt bm18 (emap (fun s=>av s) (((x.act 2).2).fresh)) F,iAc (dArr 256) (.slice A16 (((x.act 2).2).lasts.length) cap17) (((x.act 2).2).lasts) bs19 F,iData (dSlice dByte) [.slice A s.length cap] s]:=hs125
       refine WL_at (L:=[(2,.slice A s.length cap)]) ⟨(hk130 2 (by decide +kernel)),trivial⟩ ?_
       refine S_move rfl ?_
       have hs141:Sep F w0 (fun b=>D b/\b<w0.heap.size) w124 [iOwn d 78 [.slice A16 (((x.act 2).2).lasts.length) cap17,.map (some bm18),.int .i64 (((x.act 2).2).left),.bool (((x.act 2).2).off)] F,(bif dN 8 then (iMap kInt bm18 (emap (fun s=>av s) (aput (((x.act 2).2).fresh) at_ (List.take 256 s))) F) else (iMap kInt bm18 (emap (fun s=>av s) (((x.act 2).2).fresh)) F)),iAc (dArr 256) (.slice A16 (((x.act 2).2).lasts.length) cap17) (((x.act 2).2).lasts) bs19 F,iData (dSlice dByte) [.slice A s.length cap] s]:=by rw [e139]; exact hs140
       exact WL_nil ⟨rfl,_,rfl,hs141,v131,v132,v133,v134,v135,(fun _=>rfl),v137,v138,trivial⟩
      .
       rintro dN vL g142 w143 ⟨hs144,v150,v151,v152,v153,v154,v155,v156,v157,_⟩ hD145 hd146 hu147 hg148 hk149
       have e158:dN 5=true:=hd146 5 (by decide +kernel)
       have e159:dN 8=false:=hu147 8 (by decide +kernel)
       rw [e159] at hs144
       have hs160:Sep F w0 (fun b=>D b/\b<w0.heap.size) w143 [iOwn d 78 [.slice A16 (((x.act 2).2).lasts.length) cap17,.map (some bm18),.int .i64 (((x.act 2).2).left),.bool (((x.act 2).2).off)] F,iMap kInt bm18 (emap (fun s=>av s) (((x.act 2).2).fresh)) F,iAc (dArr 256) (.slice A16 (((x.act 2).2).lasts.length) cap17) (((x.act 2).2).lasts) bs19 F,iData (dSlice dByte) [.slice A s.length cap] s]:=hs144
       refine WL_at (L:=[(30,.slice A s.length cap)]) ⟨((hg148 5 30 e158 rfl).trans (v155 e158)),trivial⟩ ?_
       refine S_arrPtr Try.runUnderlying75 rfl (show 256<=s.length from by omega) rfl ?_
       have hs161:Sep F w0 (fun b=>D b/\b<w0.heap.size) w143 [iOwn d 78 [.slice A16 (((x.act 2).2).lasts.length) cap17,.map (some bm18),.int .i64 (((x.act 2).2).left),.bool (((x.act 2).2).off)] F,(bif dN 8 then (iMap kInt bm18 (emap (fun s=>av s) (aput (((x.act 2).2).fresh) at_ (List.take 256 s))) F) else (iMap kInt bm18 (emap (fun s=>av s) (((x.act 2).2).fresh)) F)),iAc (dArr 256) (.slice A16 (((x.act 2).2).lasts.length) cap17) (((x.act 2).2).lasts) bs19 F,iData (dSlice dByte) [.slice A s.length cap] s]:=by rw [e159]; exact hs160
       exact WL_nil ⟨rfl,_,rfl,hs161,v150,v151,v152,v153,v154,v155,(fun _=>rfl),v157,trivial⟩
      .
       rintro dN vL g162 w163 ⟨hs164,v170,v171,v172,v173,v174,v175,v176,v177,_⟩ hD165 hd166 hu167 hg168 hk169
       have e178:dN 6=true:=hd166 6 (by decide +kernel)
       have e179:dN 8=false:=hu167 8 (by decide +kernel)
       rw [e179] at hs164
       have hs180:Sep F w0 (fun b=>D b/\b<w0.heap.size) w163 [iOwn d 78 [.slice A16 (((x.act 2).2).lasts.length) cap17,.map (some bm18),.int .i64 (((x.act 2).2).left),.bool (((x.act 2).2).off)] F,iMap kInt bm18 (emap (fun s=>av s) (((x.act 2).2).fresh)) F,iAc (dArr 256) (.slice A16 (((x.act 2).2).lasts.length) cap17) (((x.act 2).2).lasts) bs19 F,iData (dSlice dByte) [.slice A s.length cap] s]:=hs164
       refine WL_at (L:=[(31,.pointer A)]) ⟨((hg168 6 31 e178 rfl).trans (v176 e178)),trivial⟩ ?_
       refine S_loadArr Try.isAgg75 Try.sizeOf75 (hs180.at 3 rfl) (show 256<=s.length from by omega) (by decide) rfl rfl ?_
       have hs181:Sep F w0 (fun b=>D b/\b<w0.heap.size) w163 [iOwn d 78 [.slice A16 (((x.act 2).2).lasts.length) cap17,.map (some bm18),.int .i64 (((x.act 2).2).left),.bool (((x.act 2).2).off)] F,(bif dN 8 then (iMap kInt bm18 (emap (fun s=>av s) (aput (((x.act 2).2).fresh) at_ (List.take 256 s))) F) else (iMap kInt bm18 (emap (fun s=>av s) (((x.act 2).2).fresh)) F)),iAc (dArr 256) (.slice A16 (((x.act 2).2).lasts.length) cap17) (((x.act 2).2).lasts) bs19 F,iData (dSlice dByte) [.slice A s.length cap] s]:=by rw [e179]; exact hs180
       exact WL_nil ⟨rfl,_,rfl,hs181,v170,v171,v172,v173,v174,v175,v176,(fun _=>rfl),trivial⟩
      .
       rintro dN vL g182 w183 ⟨hs184,v190,v191,v192,v193,v194,v195,v196,v197,_⟩ hD185 hd186 hu187 hg188 hk189
       have e198:dN 3=true:=hd186 3 (by decide +kernel)
       have e199:dN 4=true:=hd186 4 (by decide +kernel)
       have e200:dN 7=true:=hd186 7 (by decide +kernel)
       have e201:dN 8=false:=hD185
       rw [e201] at hs184
       have hs202:Sep F w0 (fun b=>D b/\b<w0.heap.size) w183 [iOwn d 78 [.slice A16 (((x.act 2).2).lasts.length) cap17,.map (some bm18),.int .i64 (((x.act 2).2).left),.bool (((x.act 2).2).off)] F,iMap kInt bm18 (emap (fun s=>av s) (((x.act 2).2).fresh)) F,iAc (dArr 256) (.slice A16 (((x.act 2).2).lasts.length) cap17) (((x.act 2).2).lasts) bs19 F,iData (dSlice dByte) [.slice A s.length cap] s]:=hs184
       refine WL_at (L:=[(28,.map (some bm18)),(29,.int .i64 at_),(32,av (List.take 256 s))]) ⟨((hg188 3 28 e198 rfl).trans (v193 e198)),((hg188 4 29 e199 rfl).trans (v194 e199)),((hg188 7 32 e200 rfl).trans (v197 e200)),trivial⟩ ?_
       refine Z_mapUpdate (vv:=List.take 256 s) hs202 1 rfl Try.runUnderlying76 Try.runUnderlying3 rfl rfl rfl ?_
       intro w203 hs204
       have hs204:Sep F w0 (fun b=>D b/\b<w0.heap.size) w203 [iOwn d 78 [.slice A16 (((x.act 2).2).lasts.length) cap17,.map (some bm18),.int .i64 (((x.act 2).2).left),.bool (((x.act 2).2).off)] F,iMap kInt bm18 (emap (fun s=>av s) (aput (((x.act 2).2).fresh) at_ (List.take 256 s))) F,iAc (dArr 256) (.slice A16 (((x.act 2).2).lasts.length) cap17) (((x.act 2).2).lasts) bs19 F,iData (dSlice dByte) [.slice A s.length cap] s]:=hs204
       have hs205:Sep F w0 (fun b=>D b/\b<w0.heap.size) w203 [iOwn d 78 [.slice A16 (((x.act 2).2).lasts.length) cap17,.map (some bm18),.int .i64 (((x.act 2).2).left),.bool (((x.act 2).2).off)] F,iMap kInt bm18 (emap (fun s=>av s) (aput (((x.act 2).2).fresh) at_ (List.take 256 s))) F,iAc (dArr 256) (.slice A16 (((x.act 2).2).lasts.length) cap17) (((x.act 2).2).lasts) bs19 F,iData (dSlice dByte) [.slice A s.length cap] s]:=by exact hs204
       exact WL_nil ⟨rfl,undef,rfl,hs205,v190,v191,v192,v193,v194,v195,v196,v197,trivial⟩
    .
     rintro dN vL g206 w207 ha209 ⟨hs208,v212,v213,v214,v215,v216,v217,v218,v219,_⟩ hg210 hk211
     rw [ha209 8 rfl] at hs208
     have hs220:Sep F w0 (fun b=>D b/\b<w0.heap.size) w207 [iOwn d 78 [.slice A16 (((x.act 2).2).lasts.length) cap17,.map (some bm18),.int .i64 (((x.act 2).2).left),.bool (((x.act 2).2).off)] F,iMap kInt bm18 (emap (fun s=>av s) (aput (((x.act 2).2).fresh) at_ (List.take 256 s))) F,iAc (dArr 256) (.slice A16 (((x.act 2).2).lasts.length) cap17) (((x.act 2).2).lasts) bs19 F,iData (dSlice dByte) [.slice A s.length cap] s]:=hs208
     refine ⟨[],trivial,fun g221=>?_⟩
     refine W_seq ?_
     refine W_region ?_
     refine S_assign rfl ?_
     refine WL_nil ?_
     refine W_ret ?_
     show (Value.nilIface)=errv 58 (x.write at_ s).1/\∃ F',DkIs d w207 (x.write at_ s).2 F'/\Turn w0 w207 F F'
     first | (exfalso; omega) | (have hz':=Classical.not_not.1 ‹¬ _≠(0:Int)›; have hc:=(DkIs.close hs220 (Ac.bs1 (hs220.at 2 rfl))); rw [List.take_of_length_le (by omega)] at hc; rw [write_fine rfl (by rw [if_neg (by omega)]; exact hz'),if_neg (by omega)]; exact ⟨(by first | rfl | exact errv_ne (by decide) | exact errv_0),_,hc⟩)
  .
   have p222:=of_decide_eq_false h3
   refine W_skip ?_
   refine W_seq ?_
   refine W_seq ?_
   refine W_live (L:=[(0,.pointer (some ⟨d,0,none⟩)),(1,.int .i64 at_),(2,.slice A s.length cap),(7,.int .i64 (x.wrong at_))]) ⟨rfl,rfl,rfl,rfl,trivial⟩ ?_
   intro g223
   refine W_region ?_
   refine S_move rfl ?_
   refine S_move rfl ?_
   have hz228:=act_ok (hs0.at 1 rfl) ok (x.wrong at_)
   refine S_callE Try.call58 rfl hz228 rfl ?_
   rintro w224 ⟨F225,h226,t227⟩
   have hs229:Sep F w0 (fun b=>D b/\b<w0.heap.size) w224 [iData (dSlice dByte) [.slice A s.length cap] s,iOb (obDk d) ((x.act (x.wrong at_)).2) F225 F]:=hs0.turn 1 rfl h226 t227
   refine S_assign rfl ?_
   refine WL_nil ?_
   refine W_seq ?_
   refine W_region ?_
   refine S_move rfl ?_
   refine S_neqE (Te:=58) (e:=(x.act (x.wrong at_)).1) Try.runUnderlying32 rfl rfl ?_
   refine WL_nil ?_
   refine W_cond rfl (fun h231=>?_) (fun h231=>?_)
   .
    have p232:=of_decide_eq_true h231
    refine W_seq ?_
    refine W_region ?_
    refine S_move rfl ?_
    refine S_assign rfl ?_
    refine WL_nil ?_
    refine W_ret ?_
    show (errv 58 ((x.act (x.wrong at_)).1))=errv 58 (x.write at_ s).1/\∃ F',DkIs d w224 (x.write at_ s).2 F'/\Turn w0 w224 F F'
    rw [write_err (wr:=(x.wrong at_)) (by split <;> omega) (by assumption)]
    exact ⟨rfl,_,hs229.at 1 rfl,hs229.ext,fun b hb=>(hs229.org 1 rfl b hb)⟩
   .
    have p233:=of_decide_eq_false h231
    have hz:=act_zero (Classical.not_not.1 p233)
    refine W_skip ?_
    refine W_seq ?_
    have ⟨A234,cap235,bm236,bs237,hs238⟩:=Sep.openDk (hs229.pick [1,0] rfl (by decide) rfl)
    refine W_live (L:=[(0,.pointer (some ⟨d,0,none⟩)),(1,.int .i64 at_),(2,.slice A s.length cap)]) ⟨rfl,rfl,rfl,trivial⟩ ?_
    intro g239
    refine W_region_J (fun dN vL w=>Sep F w0 (fun b=>D b/\b<w0.heap.size) w [iOwn d 78 [.slice A234 (((x.act (x.wrong at_)).2).lasts.length) cap235,.map (some bm236),.int .i64 (((x.act (x.wrong at_)).2).left),.bool (((x.act (x.wrong at_)).2).off)] F,(bif dN 8 then (iMap kInt bm236 (emap (fun s=>av s) (aput (((x.act (x.wrong at_)).2).fresh) at_ (List.take 256 s))) F) else (iMap kInt bm236 (emap (fun s=>av s) (((x.act (x.wrong at_)).2).fresh)) F)),iAc (dArr 256) (.slice A234 (((x.act (x.wrong at_)).2).lasts.length) cap235) (((x.act (x.wrong at_)).2).lasts) bs237 F,iData (dSlice dByte) [.slice A s.length cap] s]/\(dN 0=true->vL 0=.pointer (some ⟨d,0,none⟩))/\(dN 1=true->vL 1=.pointer (some ⟨d,0,none⟩))/\(dN 2=true->vL 2=.pointer (some ⟨d,1,none⟩))/\(dN 3=true->vL 3=.map (some bm236))/\(dN 4=true->vL 4=.int .i64 at_)/\(dN 5=true->vL 5=.slice A s.length cap)/\(dN 6=true->vL 6=.pointer A)/\(dN 7=true->vL 7=av (List.take 256 s))/\True) [25,26,27,28,29,30,31,32] rfl (by decide +kernel) _ rfl ?_ ?_ ?_
    . exact fun V=>⟨hs238,(fun h=>by cases h),(fun h=>by cases h),(fun h=>by cases h),(fun h=>by cases h),(fun h=>by cases h),(fun h=>by cases h),(fun h=>by cases h),(fun h=>by cases h),trivial⟩
    . refine (.cons ?_ (.cons ?_ (.cons ?_ (.cons ?_ (.cons ?_ (.cons ?_ (.cons ?_ (.cons ?_ (.cons ?_ .nil)))))))))
      .
       rintro dN vL g243 w244 ⟨hs245,v251,v252,v253,v254,v255,v256,v257,v258,_⟩ hD246 hd247 hu248 hg249 hk250
       have e259:dN 8=false:=hu248 8 (by decide +kernel)
       rw [e259] at hs245
       have hs260:Sep F w0 (fun b=>D b/\b<w0.heap.size) w244 [iOwn d 78 [.slice A234 (((x.act (x.wrong at_)).2).lasts.length) cap235,.map (some bm236),.int .i64 (((x.act (x.wrong at_)).2).left),.bool (((x.act (x.wrong at_)).2).off)] F,iMap kInt bm236 (emap (fun s=>av s) (((x.act (x.wrong at_)).2).fresh)) F,iAc (dArr 256) (.slice A234 (((x.act (x.wrong at_)).2).lasts.length) cap235) (((x.act (x.wrong at_)).2).lasts) bs237 F,iData (dSlice dByte) [.slice A s.length cap] s]:=hs245
       refine WL_at (L:=[(0,.pointer (some ⟨d,0,none⟩))]) ⟨(hk250 0 (by decide +kernel)),trivial⟩ ?_
       refine S_move rfl ?_
       have hs261:Sep F w0 (fun b=>D b/\b<w0.heap.size) w244 [iOwn d 78 [.slice A234 (((x.act (x.wrong at_)).2).lasts.length) cap235,.map (some bm236),.int .i64 (((x.act (x.wrong at_)).2).left),.bool (((x.act (x.wrong at_)).2).off)] F,(bif dN 8 then (iMap kInt bm236 (emap (fun s=>av s) (aput (((x.act (x.wrong at_)).2).fresh) at_ (List.take 256 s))) F) else (iMap kInt bm236 (emap (fun s=>av s) (((x.act (x.wrong at_)).2).fresh)) F)),iAc (dArr 256) (.slice A234 (((x.act (x.wrong at_)).2).lasts.length) cap235) (((x.act (x.wrong at_)).2).lasts) bs237 F,iData (dSlice dByte) [.slice A s.length cap] s]:=by rw [e259]; exact hs260
       exact WL_nil ⟨rfl,_,rfl,hs261,(fun _=>rfl),v252,v253,v254,v255,v256,v257,v258,trivial⟩
      .
       rintro dN vL g262 w263 ⟨hs264,v270,v271,v272,v273,v274,v275,v276,v277,_⟩ hD265 hd266 hu267 hg268 hk269
       have e278:dN 0=true:=hd266 0 (by decide +kernel)
       have e279:dN 8=false:=hu267 8 (by decide +kernel)
       rw [e279] at hs264
       have hs280:Sep F w0 (fun b=>D b/\b<w0.heap.size) w263 [iOwn d 78 [.slice A234 (((x.act (x.wrong at_)).2).lasts.length) cap235,.map (some bm236),.int .i64 (((x.act (x.wrong at_)).2).left),.bool (((x.act (x.wrong at_)).2).off)] F,iMap kInt bm236 (emap (fun s=>av s) (((x.act (x.wrong at_)).2).fresh)) F,iAc (dArr 256) (.slice A234 (((x.act (x.wrong at_)).2).lasts.length) cap235) (((x.act (x.wrong at_)).2).lasts) bs237 F,iData (dSlice dByte) [.slice A s.length cap] s]:=hs264
       refine WL_at (L:=[(25,.pointer (some ⟨d,0,none⟩))]) ⟨((hg268 0 25 e278 rfl).trans (v270 e278)),trivial⟩ ?_
       refine S_nilCheck rfl rfl ?_
       have hs281:Sep F w0 (fun b=>D b/\b<w0.heap.size) w263 [iOwn d 78 [.slice A234 (((x.act (x.wrong at_)).2).lasts.length) cap235,.map (some bm236),.int .i64 (((x.act (x.wrong at_)).2).left),.bool (((x.act (x.wrong at_)).2).off)] F,(bif dN 8 then (iMap kInt bm236 (emap (fun s=>av s) (aput (((x.act (x.wrong at_)).2).fresh) at_ (List.take 256 s))) F) else (iMap kInt bm236 (emap (fun s=>av s) (((x.act (x.wrong at_)).2).fresh)) F)),iAc (dArr 256) (.slice A234 (((x.act (x.wrong at_)).2).lasts.length) cap235) (((x.act (x.wrong at_)).2).lasts) bs237 F,iData (dSlice dByte) [.slice A s.length cap] s]:=by rw [e279]; exact hs280
       exact WL_nil ⟨rfl,_,rfl,hs281,v270,(fun _=>rfl),v272,v273,v274,v275,v276,v277,trivial⟩
      .
       rintro dN vL g282 w283 ⟨hs284,v290,v291,v292,v293,v294,v295,v296,v297,_⟩ hD285 hd286 hu287 hg288 hk289
       have e298:dN 1=true:=hd286 1 (by decide +kernel)
       have e299:dN 8=false:=hu287 8 (by decide +kernel)
       rw [e299] at hs284
       have hs300:Sep F w0 (fun b=>D b/\b<w0.heap.size) w283 [iOwn d 78 [.slice A234 (((x.act (x.wrong at_)).2).lasts.length) cap235,.map (some bm236),.int .i64 (((x.act (x.wrong at_)).2).left),.bool (((x.act (x.wrong at_)).2).off)] F,iMap kInt bm236 (emap (fun s=>av s) (((x.act (x.wrong at_)).2).fresh)) F,iAc (dArr 256) (.slice A234 (((x.act (x.wrong at_)).2).lasts.length) cap235) (((x.act (x.wrong at_)).2).lasts) bs237 F,iData (dSlice dByte) [.slice A s.length cap] s]:=hs284
       refine WL_at (L:=[(26,.pointer (some ⟨d,0,none⟩))]) ⟨((hg288 1 26 e298 rfl).trans (v291 e298)),trivial⟩ ?_
       refine S_fieldAddr Try.runUnderlying78 rfl Try.sizeOf76 rfl rfl ?_
       have hs301:Sep F w0 (fun b=>D b/\b<w0.heap.size) w283 [iOwn d 78 [.slice A234 (((x.act (x.wrong at_)).2).lasts.length) cap235,.map (some bm236),.int .i64 (((x.act (x.wrong at_)).2).left),.bool (((x.act (x.wrong at_)).2).off)] F,(bif dN 8 then (iMap kInt bm236 (emap (fun s=>av s) (aput (((x.act (x.wrong at_)).2).fresh) at_ (List.take 256 s))) F) else (iMap kInt bm236 (emap (fun s=>av s) (((x.act (x.wrong at_)).2).fresh)) F)),iAc (dArr 256) (.slice A234 (((x.act (x.wrong at_)).2).lasts.length) cap235) (((x.act (x.wrong at_)).2).lasts) bs237 F,iData (dSlice dByte) [.slice A s.length cap] s]:=by rw [e299]; exact hs300
       exact WL_nil ⟨rfl,_,rfl,hs301,v290,v291,(fun _=>rfl),v293,v294,v295,v296,v297,trivial⟩
      .
       rintro dN vL g302 w303 ⟨hs304,v310,v311,v312,v313,v314,v315,v316,v317,_⟩ hD305 hd306 hu307 hg308 hk309
       have e318:dN 2=true:=hd306 2 (by decide +kernel)
       have e319:dN 8=false:=hu307 8 (by decide +kernel)
       rw [e319] at hs304
       have hs320:Sep F w0 (fun b=>D b/\b<w0.heap.size) w303 [iOwn d 78 [.slice A234 (((x.act (x.wrong at_)).2).lasts.length) cap235,.map (some bm236),.int .i64 (((x.act (x.wrong at_)).2).left),.bool (((x.act (x.wrong at_)).2).off)] F,iMap kInt bm236 (emap (fun s=>av s) (((x.act (x.wrong at_)).2).fresh)) F,iAc (dArr 256) (.slice A234 (((x.act (x.wrong at_)).2).lasts.length) cap235) (((x.act (x.wrong at_)).2).lasts) bs237 F,iData (dSlice dByte) [.slice A s.length cap] s]:=hs304
       refine WL_at (L:=[(27,.pointer (some ⟨d,1,none⟩))]) ⟨((hg308 2 27 e318 rfl).trans (v312 e318)),trivial⟩ ?_
       refine S_load1 Try.isAgg76 rfl (Own.at (hs320.at 0 rfl) rfl) rfl ?_
       have hs321:Sep F w0 (fun b=>D b/\b<w0.heap.size) w303 [iOwn d 78 [.slice A234 (((x.act (x.wrong at_)).2).lasts.length) cap235,.map (some bm236),.int .i64 (((x.act (x.wrong at_)).2).left),.bool (((x.act (x.wrong at_)).2).off)] F,(bif dN 8 then (iMap kInt bm236 (emap (fun s=>av s) (aput (((x.act (x.wrong at_)).2).fresh) at_ (List.take 256 s))) F) else (iMap kInt bm236 (emap (fun s=>av s) (((x.act (x.wrong at_)).2).fresh)) F)),iAc (dArr 256) (.slice A234 (((x.act (x.wrong at_)).2).lasts.length) cap235) (((x.act (x.wrong at_)).2).lasts) bs237 F,iData (dSlice dByte) [.slice A s.length cap] s]:=by rw [e319]; exact hs320
       exact WL_nil ⟨rfl,_,rfl,hs321,v310,v311,v312,(fun _=>rfl),v314,v315,v316,v317,trivial⟩
      .
       rintro dN vL g322 w323 ⟨hs324,v330,v331,v332,v333,v334,v335,v336,v337,_⟩ hD325 hd326 hu327 hg328 hk329
       have e338:dN 8=false:=hu327 8 (by decide +kernel)
       rw [e338] at hs324
       have hs339:Sep F w0 (fun b=>D b/\b<w0.heap.size) w323 [iOwn d 78 [.slice A234 (((x.act (x.wrong at_)).2).lasts.length) cap235,.map (some bm236),.int .i64 (((x.act (x.wrong at_)).2).left),.bool (((x.act (x.wrong at_)).2).off)] F,iMap kInt bm236 (emap (fun s=>av s) (((x.act (x.wrong at_)).2).fresh)) F,iAc (dArr 256) (.slice A234 (((x.act (x.wrong at_)).2).lasts.length) cap235) (((x.act (x.wrong at_)).2).lasts) bs237 F,iData (dSlice dByte) [.slice A s.length cap] s]:=hs324
       refine WL_at (L:=[(1,.int .i64 at_)]) ⟨(hk329 1 (by decide +kernel)),trivial⟩ ?_
       refine S_move rfl ?_
       have hs340:Sep F w0 (fun b=>D b/\b<w0.heap.size) w323 [iOwn d 78 [.slice A234 (((x.act (x.wrong at_)).2).lasts.length) cap235,.map (some bm236),.int .i64 (((x.act (x.wrong at_)).2).left),.bool (((x.act (x.wrong at_)).2).off)] F,(bif dN 8 then (iMap kInt bm236 (emap (fun s=>av s) (aput (((x.act (x.wrong at_)).2).fresh) at_ (List.take 256 s))) F) else (iMap kInt bm236 (emap (fun s=>av s) (((x.act (x.wrong at_)).2).fresh)) F)),iAc (dArr 256) (.slice A234 (((x.act (x.wrong at_)).2).lasts.length) cap235) (((x.act (x.wrong at_)).2).lasts) bs237 F,iData (dSlice dByte) [.slice A s.length cap] s]:=by rw [e338]; exact hs339
       exact WL_nil ⟨rfl,_,rfl,hs340,v330,v331,v332,v333,(fun _=>rfl),v335,v336,v337,trivial⟩
      .
       rintro dN vL g341 w342 ⟨hs343,v349,v350,v351,v352,v353,v354,v355,v356,_⟩ hD344 hd345 hu346 hg347 hk348
       have e357:dN 8=false:=hu346 8 (by decide +kernel)
       rw [e357] at hs343
       have hs358:Sep F w0 (fun b=>D b/\b<w0.heap.size) w342 [iOwn d 78 [.slice A234 (((x.act (x.wrong at_)).2).lasts.length) cap235,.map (some bm236),.int .i64 (((x.act (x.wrong at_)).2).left),.bool (((x.act (x.wrong at_)).2).off)] F,iMap kInt bm236 (emap (fun s=>av s) (((x.act (x.wrong at_)).2).fresh)) F,iAc (dArr 256) (.slice A234 (((x.act (x.wrong at_)).2).lasts.length) cap235) (((x.act (x.wrong at_)).2).lasts) bs237 F,iData (dSlice dByte) [.slice A s.length cap] s]:=hs343
       refine WL_at (L:=[(2,.slice A s.length cap)]) ⟨(hk348 2 (by decide +kernel)),trivial⟩ ?_
       refine S_move rfl ?_
       have hs359:Sep F w0 (fun b=>D b/\b<w0.heap.size) w342 [iOwn d 78 [.slice A234 (((x.act (x.wrong at_)).2).lasts.length) cap235,.map (some bm236),.int .i64 (((x.act (x.wrong at_)).2).left),.bool (((x.act (x.wrong at_)).2).off)] F,(bif dN 8 then (iMap kInt bm236 (emap (fun s=>av s) (aput (((x.act (x.wrong at_)).2).fresh) at_ (List.take 256 s))) F) else (iMap kInt bm236 (emap (fun s=>av s) (((x.act (x.wrong at_)).2).fresh)) F)),iAc (dArr 256) (.slice A234 (((x.act (x.wrong at_)).2).lasts.length) cap235) (((x.act (x.wrong at_)).2).lasts) bs237 F,iData (dSlice dByte) [.slice A s.length cap] s]:=by rw [e357]; exact hs358
       exact WL_nil ⟨rfl,_,rfl,hs359,v349,v350,v351,v352,v353,(fun _=>rfl),v355,v356,trivial⟩
      .
       rintro dN vL g360 w361 ⟨hs362,v368,v369,v370,v371,v372,v373,v374,v375,_⟩ hD363 hd364 hu365 hg366 hk367
       have e376:dN 5=true:=hd364 5 (by decide +kernel)
       have e377:dN 8=false:=hu365 8 (by decide +kernel)
       rw [e377] at hs362
       have hs378:Sep F w0 (fun b=>D b/\b<w0.heap.size) w361 [iOwn d 78 [.slice A234 (((x.act (x.wrong at_)).2).lasts.length) cap235,.map (some bm236),.int .i64 (((x.act (x.wrong at_)).2).left),.bool (((x.act (x.wrong at_)).2).off)] F,iMap kInt bm236 (emap (fun s=>av s) (((x.act (x.wrong at_)).2).fresh)) F,iAc (dArr 256) (.slice A234 (((x.act (x.wrong at_)).2).lasts.length) cap235) (((x.act (x.wrong at_)).2).lasts) bs237 F,iData (dSlice dByte) [.slice A s.length cap] s]:=hs362
       refine WL_at (L:=[(30,.slice A s.length cap)]) ⟨((hg366 5 30 e376 rfl).trans (v373 e376)),trivial⟩ ?_
       refine S_arrPtr Try.runUnderlying75 rfl (show 256<=s.length from by omega) rfl ?_
       have hs379:Sep F w0 (fun b=>D b/\b<w0.heap.size) w361 [iOwn d 78 [.slice A234 (((x.act (x.wrong at_)).2).lasts.length) cap235,.map (some bm236),.int .i64 (((x.act (x.wrong at_)).2).left),.bool (((x.act (x.wrong at_)).2).off)] F,(bif dN 8 then (iMap kInt bm236 (emap (fun s=>av s) (aput (((x.act (x.wrong at_)).2).fresh) at_ (List.take 256 s))) F) else (iMap kInt bm236 (emap (fun s=>av s) (((x.act (x.wrong at_)).2).fresh)) F)),iAc (dArr 256) (.slice A234 (((x.act (x.wrong at_)).2).lasts.length) cap235) (((x.act (x.wrong at_)).2).lasts) bs237 F,iData (dSlice dByte) [.slice A s.length cap] s]:=by rw [e377]; exact hs378
       exact WL_nil ⟨rfl,_,rfl,hs379,v368,v369,v370,v371,v372,v373,(fun _=>rfl),v375,trivial⟩
      .
       rintro dN vL g380 w381 ⟨hs382,v388,v389,v390,v391,v392,v393,v394,v395,_⟩ hD383 hd384 hu385 hg386 hk387
       have e396:dN 6=true:=hd384 6 (by decide +kernel)
       have e397:dN 8=false:=hu385 8 (by decide +kernel)
       rw [e397] at hs382
       have hs398:Sep F w0 (fun b=>D b/\b<w0.heap.size) w381 [iOwn d 78 [.slice A234 (((x.act (x.wrong at_)).2).lasts.length) cap235,.map (some bm236),.int .i64 (((x.act (x.wrong at_)).2).left),.bool (((x.act (x.wrong at_)).2).off)] F,iMap kInt bm236 (emap (fun s=>av s) (((x.act (x.wrong at_)).2).fresh)) F,iAc (dArr 256) (.slice A234 (((x.act (x.wrong at_)).2).lasts.length) cap235) (((x.act (x.wrong at_)).2).lasts) bs237 F,iData (dSlice dByte) [.slice A s.length cap] s]:=hs382
       refine WL_at (L:=[(31,.pointer A)]) ⟨((hg386 6 31 e396 rfl).trans (v394 e396)),trivial⟩ ?_
       refine S_loadArr Try.isAgg75 Try.sizeOf75 (hs398.at 3 rfl) (show 256<=s.length from by omega) (by decide) rfl rfl ?_
       have hs399:Sep F w0 (fun b=>D b/\b<w0.heap.size) w381 [iOwn d 78 [.slice A234 (((x.act (x.wrong at_)).2).lasts.length) cap235,.map (some bm236),.int .i64 (((x.act (x.wrong at_)).2).left),.bool (((x.act (x.wrong at_)).2).off)] F,(bif dN 8 then (iMap kInt bm236 (emap (fun s=>av s) (aput (((x.act (x.wrong at_)).2).fresh) at_ (List.take 256 s))) F) else (iMap kInt bm236 (emap (fun s=>av s) (((x.act (x.wrong at_)).2).fresh)) F)),iAc (dArr 256) (.slice A234 (((x.act (x.wrong at_)).2).lasts.length) cap235) (((x.act (x.wrong at_)).2).lasts) bs237 F,iData (dSlice dByte) [.slice A s.length cap] s]:=by rw [e397]; exact hs398
       exact WL_nil ⟨rfl,_,rfl,hs399,v388,v389,v390,v391,v392,v393,v394,(fun _=>rfl),trivial⟩
      .
       rintro dN vL g400 w401 ⟨hs402,v408,v409,v410,v411,v412,v413,v414,v415,_⟩ hD403 hd404 hu405 hg406 hk407
       have e416:dN 3=true:=hd404 3 (by decide +kernel)
       have e417:dN 4=true:=hd404 4 (by decide +kernel)
       have e418:dN 7=true:=hd404 7 (by decide +kernel)
       have e419:dN 8=false:=hD403
       rw [e419] at hs402
       have hs420:Sep F w0 (fun b=>D b/\b<w0.heap.size) w401 [iOwn d 78 [.slice A234 (((x.act (x.wrong at_)).2).lasts.length) cap235,.map (some bm236),.int .i64 (((x.act (x.wrong at_)).2).left),.bool (((x.act (x.wrong at_)).2).off)] F,iMap kInt bm236 (emap (fun s=>av s) (((x.act (x.wrong at_)).2).fresh)) F,iAc (dArr 256) (.slice A234 (((x.act (x.wrong at_)).2).lasts.length) cap235) (((x.act (x.wrong at_)).2).lasts) bs237 F,iData (dSlice dByte) [.slice A s.length cap] s]:=hs402
       refine WL_at (L:=[(28,.map (some bm236)),(29,.int .i64 at_),(32,av (List.take 256 s))]) ⟨((hg406 3 28 e416 rfl).trans (v411 e416)),((hg406 4 29 e417 rfl).trans (v412 e417)),((hg406 7 32 e418 rfl).trans (v415 e418)),trivial⟩ ?_
       refine Z_mapUpdate (vv:=List.take 256 s) hs420 1 rfl Try.runUnderlying76 Try.runUnderlying3 rfl rfl rfl ?_
       intro w421 hs422
       have hs422:Sep F w0 (fun b=>D b/\b<w0.heap.size) w421 [iOwn d 78 [.slice A234 (((x.act (x.wrong at_)).2).lasts.length) cap235,.map (some bm236),.int .i64 (((x.act (x.wrong at_)).2).left),.bool (((x.act (x.wrong at_)).2).off)] F,iMap kInt bm236 (emap (fun s=>av s) (aput (((x.act (x.wrong at_)).2).fresh) at_ (List.take 256 s))) F,iAc (dArr 256) (.slice A234 (((x.act (x.wrong at_)).2).lasts.length) cap235) (((x.act (x.wrong at_)).2).lasts) bs237 F,iData (dSlice dByte) [.slice A s.length cap] s]:=hs422
       have hs423:Sep F w0 (fun b=>D b/\b<w0.heap.size) w421 [iOwn d 78 [.slice A234 (((x.act (x.wrong at_)).2).lasts.length) cap235,.map (some bm236),.int .i64 (((x.act (x.wrong at_)).2).left),.bool (((x.act (x.wrong at_)).2).off)] F,iMap kInt bm236 (emap (fun s=>av s) (aput (((x.act (x.wrong at_)).2).fresh) at_ (List.take 256 s))) F,iAc (dArr 256) (.slice A234 (((x.act (x.wrong at_)).2).lasts.length) cap235) (((x.act (x.wrong at_)).2).lasts) bs237 F,iData (dSlice dByte) [.slice A s.length cap] s]:=by exact hs422
       exact WL_nil ⟨rfl,undef,rfl,hs423,v408,v409,v410,v411,v412,v413,v414,v415,trivial⟩
    .
     rintro dN vL g424 w425 ha427 ⟨hs426,v430,v431,v432,v433,v434,v435,v436,v437,_⟩ hg428 hk429
     rw [ha427 8 rfl] at hs426
     have hs438:Sep F w0 (fun b=>D b/\b<w0.heap.size) w425 [iOwn d 78 [.slice A234 (((x.act (x.wrong at_)).2).lasts.length) cap235,.map (some bm236),.int .i64 (((x.act (x.wrong at_)).2).left),.bool (((x.act (x.wrong at_)).2).off)] F,iMap kInt bm236 (emap (fun s=>av s) (aput (((x.act (x.wrong at_)).2).fresh) at_ (List.take 256 s))) F,iAc (dArr 256) (.slice A234 (((x.act (x.wrong at_)).2).lasts.length) cap235) (((x.act (x.wrong at_)).2).lasts) bs237 F,iData (dSlice dByte) [.slice A s.length cap] s]:=hs426
     refine ⟨[],trivial,fun g439=>?_⟩
     refine W_seq ?_
     refine W_region ?_
     refine S_assign rfl ?_
     refine WL_nil ?_
     refine W_ret ?_
     show (Value.nilIface)=errv 58 (x.write at_ s).1/\∃ F',DkIs d w425 (x.write at_ s).2 F'/\Turn w0 w425 F F'
     first | (exfalso; omega) | (have hz':=Classical.not_not.1 ‹¬ _≠(0:Int)›; have hc:=(DkIs.close hs438 (Ac.bs1 (hs438.at 2 rfl))); rw [List.take_of_length_le (by omega)] at hc; rw [write_fine rfl (by rw [if_neg (by omega)]; exact hz'),if_neg (by omega)]; exact ⟨(by first | rfl | exact errv_ne (by decide) | exact errv_0),_,hc⟩)
 .
  have p440:=of_decide_eq_false h1
  refine WL_off rfl rfl rfl (bF h1) ?_
  refine WL_off rfl rfl rfl (bF h1) ?_
  refine WL_off rfl rfl rfl (bF h1) ?_
  refine S_pick_f (bF h1) rfl ?_
  refine WL_nil ?_
  refine W_cond_false rfl ?_
  refine W_skip ?_
  refine W_seq ?_
  refine W_seq ?_
  refine W_live (L:=[(0,.pointer (some ⟨d,0,none⟩)),(1,.int .i64 at_),(2,.slice A s.length cap),(7,.int .i64 (x.wrong at_))]) ⟨rfl,rfl,rfl,rfl,trivial⟩ ?_
  intro g441
  refine W_region ?_
  refine S_move rfl ?_
  refine S_move rfl ?_
  have hz446:=act_ok (hs0.at 1 rfl) ok (x.wrong at_)
  refine S_callE Try.call58 rfl hz446 rfl ?_
  rintro w442 ⟨F443,h444,t445⟩
  have hs447:Sep F w0 (fun b=>D b/\b<w0.heap.size) w442 [iData (dSlice dByte) [.slice A s.length cap] s,iOb (obDk d) ((x.act (x.wrong at_)).2) F443 F]:=hs0.turn 1 rfl h444 t445
  refine S_assign rfl ?_
  refine WL_nil ?_
  refine W_seq ?_
  refine W_region ?_
  refine S_move rfl ?_
  refine S_neqE (Te:=58) (e:=(x.act (x.wrong at_)).1) Try.runUnderlying32 rfl rfl ?_
  refine WL_nil ?_
  refine W_cond rfl (fun h449=>?_) (fun h449=>?_)
  .
   have p450:=of_decide_eq_true h449
   refine W_seq ?_
   refine W_region ?_
   refine S_move rfl ?_
   refine S_assign rfl ?_
   refine WL_nil ?_
   refine W_ret ?_
   show (errv 58 ((x.act (x.wrong at_)).1))=errv 58 (x.write at_ s).1/\∃ F',DkIs d w442 (x.write at_ s).2 F'/\Turn w0 w442 F F'
   rw [write_err (wr:=(x.wrong at_)) (by split <;> omega) (by assumption)]
   exact ⟨rfl,_,hs447.at 1 rfl,hs447.ext,fun b hb=>(hs447.org 1 rfl b hb)⟩
  .
   have p451:=of_decide_eq_false h449
   have hz:=act_zero (Classical.not_not.1 p451)
   refine W_skip ?_
   refine W_seq ?_
   have ⟨A452,cap453,bm454,bs455,hs456⟩:=Sep.openDk (hs447.pick [1,0] rfl (by decide) rfl)
   refine W_live (L:=[(0,.pointer (some ⟨d,0,none⟩)),(1,.int .i64 at_),(2,.slice A s.length cap)]) ⟨rfl,rfl,rfl,trivial⟩ ?_
   intro g457
   refine W_region_J (fun dN vL w=>Sep F w0 (fun b=>D b/\b<w0.heap.size) w [iOwn d 78 [.slice A452 (((x.act (x.wrong at_)).2).lasts.length) cap453,.map (some bm454),.int .i64 (((x.act (x.wrong at_)).2).left),.bool (((x.act (x.wrong at_)).2).off)] F,(bif dN 8 then (iMap kInt bm454 (emap (fun s=>av s) (aput (((x.act (x.wrong at_)).2).fresh) at_ (List.take 256 s))) F) else (iMap kInt bm454 (emap (fun s=>av s) (((x.act (x.wrong at_)).2).fresh)) F)),iAc (dArr 256) (.slice A452 (((x.act (x.wrong at_)).2).lasts.length) cap453) (((x.act (x.wrong at_)).2).lasts) bs455 F,iData (dSlice dByte) [.slice A s.length cap] s]/\(dN 0=true->vL 0=.pointer (some ⟨d,0,none⟩))/\(dN 1=true->vL 1=.pointer (some ⟨d,0,none⟩))/\(dN 2=true->vL 2=.pointer (some ⟨d,1,none⟩))/\(dN 3=true->vL 3=.map (some bm454))/\(dN 4=true->vL 4=.int .i64 at_)/\(dN 5=true->vL 5=.slice A s.length cap)/\(dN 6=true->vL 6=.pointer A)/\(dN 7=true->vL 7=av (List.take 256 s))/\True) [25,26,27,28,29,30,31,32] rfl (by decide +kernel) _ rfl ?_ ?_ ?_
   . exact fun V=>⟨hs456,(fun h=>by cases h),(fun h=>by cases h),(fun h=>by cases h),(fun h=>by cases h),(fun h=>by cases h),(fun h=>by cases h),(fun h=>by cases h),(fun h=>by cases h),trivial⟩
   . refine (.cons ?_ (.cons ?_ (.cons ?_ (.cons ?_ (.cons ?_ (.cons ?_ (.cons ?_ (.cons ?_ (.cons ?_ .nil)))))))))
     .
      rintro dN vL g461 w462 ⟨hs463,v469,v470,v471,v472,v473,v474,v475,v476,_⟩ hD464 hd465 hu466 hg467 hk468
      have e477:dN 8=false:=hu466 8 (by decide +kernel)
      rw [e477] at hs463
      have hs478:Sep F w0 (fun b=>D b/\b<w0.heap.size) w462 [iOwn d 78 [.slice A452 (((x.act (x.wrong at_)).2).lasts.length) cap453,.map (some bm454),.int .i64 (((x.act (x.wrong at_)).2).left),.bool (((x.act (x.wrong at_)).2).off)] F,iMap kInt bm454 (emap (fun s=>av s) (((x.act (x.wrong at_)).2).fresh)) F,iAc (dArr 256) (.slice A452 (((x.act (x.wrong at_)).2).lasts.length) cap453) (((x.act (x.wrong at_)).2).lasts) bs455 F,iData (dSlice dByte) [.slice A s.length cap] s]:=hs463
      refine WL_at (L:=[(0,.pointer (some ⟨d,0,none⟩))]) ⟨(hk468 0 (by decide +kernel)),trivial⟩ ?_
      refine S_move rfl ?_
      have hs479:Sep F w0 (fun b=>D b/\b<w0.heap.size) w462 [iOwn d 78 [.slice A452 (((x.act (x.wrong at_)).2).lasts.length) cap453,.map (some bm454),.int .i64 (((x.act (x.wrong at_)).2).left),.bool (((x.act (x.wrong at_)).2).off)] F,(bif dN 8 then (iMap kInt bm454 (emap (fun s=>av s) (aput (((x.act (x.wrong at_)).2).fresh) at_ (List.take 256 s))) F) else (iMap kInt bm454 (emap (fun s=>av s) (((x.act (x.wrong at_)).2).fresh)) F)),iAc (dArr 256) (.slice A452 (((x.act (x.wrong at_)).2).lasts.length) cap453) (((x.act (x.wrong at_)).2).lasts) bs455 F,iData (dSlice dByte) [.slice A s.length cap] s]:=by rw [e477]; exact hs478
      exact WL_nil ⟨rfl,_,rfl,hs479,(fun _=>rfl),v470,v471,v472,v473,v474,v475,v476,trivial⟩
     .
      rintro dN vL g480 w481 ⟨hs482,v488,v489,v490,v491,v492,v493,v494,v495,_⟩ hD483 hd484 hu485 hg486 hk487
      have e496:dN 0=true:=hd484 0 (by decide +kernel)
      have e497:dN 8=false:=hu485 8 (by decide +kernel)
      rw [e497] at hs482
      have hs498:Sep F w0 (fun b=>D b/\b<w0.heap.size) w481 [iOwn d 78 [.slice A452 (((x.act (x.wrong at_)).2).lasts.length) cap453,.map (some bm454),.int .i64 (((x.act (x.wrong at_)).2).left),.bool (((x.act (x.wrong at_)).2).off)] F,iMap kInt bm454 (emap (fun s=>av s) (((x.act (x.wrong at_)).2).fresh)) F,iAc (dArr 256) (.slice A452 (((x.act (x.wrong at_)).2).lasts.length) cap453) (((x.act (x.wrong at_)).2).lasts) bs455 F,iData (dSlice dByte) [.slice A s.length cap] s]:=hs482
      refine WL_at (L:=[(25,.pointer (some ⟨d,0,none⟩))]) ⟨((hg486 0 25 e496 rfl).trans (v488 e496)),trivial⟩ ?_
      refine S_nilCheck rfl rfl ?_
      have hs499:Sep F w0 (fun b=>D b/\b<w0.heap.size) w481 [iOwn d 78 [.slice A452 (((x.act (x.wrong at_)).2).lasts.length) cap453,.map (some bm454),.int .i64 (((x.act (x.wrong at_)).2).left),.bool (((x.act (x.wrong at_)).2).off)] F,(bif dN 8 then (iMap kInt bm454 (emap (fun s=>av s) (aput (((x.act (x.wrong at_)).2).fresh) at_ (List.take 256 s))) F) else (iMap kInt bm454 (emap (fun s=>av s) (((x.act (x.wrong at_)).2).fresh)) F)),iAc (dArr 256) (.slice A452 (((x.act (x.wrong at_)).2).lasts.length) cap453) (((x.act (x.wrong at_)).2).lasts) bs455 F,iData (dSlice dByte) [.slice A s.length cap] s]:=by rw [e497]; exact hs498
      exact WL_nil ⟨rfl,_,rfl,hs499,v488,(fun _=>rfl),v490,v491,v492,v493,v494,v495,trivial⟩
     .
      rintro dN vL g500 w501 ⟨hs502,v508,v509,v510,v511,v512,v513,v514,v515,_⟩ hD503 hd504 hu505 hg506 hk507
      have e516:dN 1=true:=hd504 1 (by decide +kernel)
      have e517:dN 8=false:=hu505 8 (by decide +kernel)
      rw [e517] at hs502
      have hs518:Sep F w0 (fun b=>D b/\b<w0.heap.size) w501 [iOwn d 78 [.slice A452 (((x.act (x.wrong at_)).2).lasts.length) cap453,.map (some bm454),.int .i64 (((x.act (x.wrong at_)).2).left),.bool (((x.act (x.wrong at_)).2).off)] F,iMap kInt bm454 (emap (fun s=>av s) (((x.act (x.wrong at_)).2).fresh)) F,iAc (dArr 256) (.slice A452 (((x.act (x.wrong at_)).2).lasts.length) cap453) (((x.act (x.wrong at_)).2).lasts) bs455 F,iData (dSlice dByte) [.slice A s.length cap] s]:=hs502
      refine WL_at (L:=[(26,.pointer (some ⟨d,0,none⟩))]) ⟨((hg506 1 26 e516 rfl).trans (v509 e516)),trivial⟩ ?_
      refine S_fieldAddr Try.runUnderlying78 rfl Try.sizeOf76 rfl rfl ?_
      have hs519:Sep F w0 (fun b=>D b/\b<w0.heap.size) w501 [iOwn d 78 [.slice A452 (((x.act (x.wrong at_)).2).lasts.length) cap453,.map (some bm454),.int .i64 (((x.act (x.wrong at_)).2).left),.bool (((x.act (x.wrong at_)).2).off)] F,(bif dN 8 then (iMap kInt bm454 (emap (fun s=>av s) (aput (((x.act (x.wrong at_)).2).fresh) at_ (List.take 256 s))) F) else (iMap kInt bm454 (emap (fun s=>av s) (((x.act (x.wrong at_)).2).fresh)) F)),iAc (dArr 256) (.slice A452 (((x.act (x.wrong at_)).2).lasts.length) cap453) (((x.act (x.wrong at_)).2).lasts) bs455 F,iData (dSlice dByte) [.slice A s.length cap] s]:=by rw [e517]; exact hs518
      exact WL_nil ⟨rfl,_,rfl,hs519,v508,v509,(fun _=>rfl),v511,v512,v513,v514,v515,trivial⟩
     .
      rintro dN vL g520 w521 ⟨hs522,v528,v529,v530,v531,v532,v533,v534,v535,_⟩ hD523 hd524 hu525 hg526 hk527
      have e536:dN 2=true:=hd524 2 (by decide +kernel)
      have e537:dN 8=false:=hu525 8 (by decide +kernel)
      rw [e537] at hs522
      have hs538:Sep F w0 (fun b=>D b/\b<w0.heap.size) w521 [iOwn d 78 [.slice A452 (((x.act (x.wrong at_)).2).lasts.length) cap453,.map (some bm454),.int .i64 (((x.act (x.wrong at_)).2).left),.bool (((x.act (x.wrong at_)).2).off)] F,iMap kInt bm454 (emap (fun s=>av s) (((x.act (x.wrong at_)).2).fresh)) F,iAc (dArr 256) (.slice A452 (((x.act (x.wrong at_)).2).lasts.length) cap453) (((x.act (x.wrong at_)).2).lasts) bs455 F,iData (dSlice dByte) [.slice A s.length cap] s]:=hs522
      refine WL_at (L:=[(27,.pointer (some ⟨d,1,none⟩))]) ⟨((hg526 2 27 e536 rfl).trans (v530 e536)),trivial⟩ ?_
      refine S_load1 Try.isAgg76 rfl (Own.at (hs538.at 0 rfl) rfl) rfl ?_
      have hs539:Sep F w0 (fun b=>D b/\b<w0.heap.size) w521 [iOwn d 78 [.slice A452 (((x.act (x.wrong at_)).2).lasts.length) cap453,.map (some bm454),.int .i64 (((x.act (x.wrong at_)).2).left),.bool (((x.act (x.wrong at_)).2).off)] F,(bif dN 8 then (iMap kInt bm454 (emap (fun s=>av s) (aput (((x.act (x.wrong at_)).2).fresh) at_ (List.take 256 s))) F) else (iMap kInt bm454 (emap (fun s=>av s) (((x.act (x.wrong at_)).2).fresh)) F)),iAc (dArr 256) (.slice A452 (((x.act (x.wrong at_)).2).lasts.length) cap453) (((x.act (x.wrong at_)).2).lasts) bs455 F,iData (dSlice dByte) [.slice A s.length cap] s]:=by rw [e537]; exact hs538
      exact WL_nil ⟨rfl,_,rfl,hs539,v528,v529,v530,(fun _=>rfl),v532,v533,v534,v535,trivial⟩
     .
      rintro dN vL g540 w541 ⟨hs542,v548,v549,v550,v551,v552,v553,v554,v555,_⟩ hD543 hd544 hu545 hg546 hk547
      have e556:dN 8=false:=hu545 8 (by decide +kernel)
      rw [e556] at hs542
      have hs557:Sep F w0 (fun b=>D b/\b<w0.heap.size) w541 [iOwn d 78 [.slice A452 (((x.act (x.wrong at_)).2).lasts.length) cap453,.map (some bm454),.int .i64 (((x.act (x.wrong at_)).2).left),.bool (((x.act (x.wrong at_)).2).off)] F,iMap kInt bm454 (emap (fun s=>av s) (((x.act (x.wrong at_)).2).fresh)) F,iAc (dArr 256) (.slice A452 (((x.act (x.wrong at_)).2).lasts.length) cap453) (((x.act (x.wrong at_)).2).lasts) bs455 F,iData (dSlice dByte) [.slice A s.length cap] s]:=hs542
      refine WL_at (L:=[(1,.int .i64 at_)]) ⟨(hk547 1 (by decide +kernel)),trivial⟩ ?_
      refine S_move rfl ?_
      have hs558:Sep F w0 (fun b=>D b/\b<w0.heap.size) w541 [iOwn d 78 [.slice A452 (((x.act (x.wrong at_)).2).lasts.length) cap453,.map (some bm454),.int .i64 (((x.act (x.wrong at_)).2).left),.bool (((x.act (x.wrong at_)).2).off)] F,(bif dN 8 then (iMap kInt bm454 (emap (fun s=>av s) (aput (((x.act (x.wrong at_)).2).fresh) at_ (List.take 256 s))) F) else (iMap kInt bm454 (emap (fun s=>av s) (((x.act (x.wrong at_)).2).fresh)) F)),iAc (dArr 256) (.slice A452 (((x.act (x.wrong at_)).2).lasts.length) cap453) (((x.act (x.wrong at_)).2).lasts) bs455 F,iData (dSlice dByte) [.slice A s.length cap] s]:=by rw [e556]; exact hs557
      exact WL_nil ⟨rfl,_,rfl,hs558,v548,v549,v550,v551,(fun _=>rfl),v553,v554,v555,trivial⟩
     .
      rintro dN vL g559 w560 ⟨hs561,v567,v568,v569,v570,v571,v572,v573,v574,_⟩ hD562 hd563 hu564 hg565 hk566
      have e575:dN 8=false:=hu564 8 (by decide +kernel)
      rw [e575] at hs561
      have hs576:Sep F w0 (fun b=>D b/\b<w0.heap.size) w560 [iOwn d 78 [.slice A452 (((x.act (x.wrong at_)).2).lasts.length) cap453,.map (some bm454),.int .i64 (((x.act (x.wrong at_)).2).left),.bool (((x.act (x.wrong at_)).2).off)] F,iMap kInt bm454 (emap (fun s=>av s) (((x.act (x.wrong at_)).2).fresh)) F,iAc (dArr 256) (.slice A452 (((x.act (x.wrong at_)).2).lasts.length) cap453) (((x.act (x.wrong at_)).2).lasts) bs455 F,iData (dSlice dByte) [.slice A s.length cap] s]:=hs561
      refine WL_at (L:=[(2,.slice A s.length cap)]) ⟨(hk566 2 (by decide +kernel)),trivial⟩ ?_
      refine S_move rfl ?_
      have hs577:Sep F w0 (fun b=>D b/\b<w0.heap.size) w560 [iOwn d 78 [.slice A452 (((x.act (x.wrong at_)).2).lasts.length) cap453,.map (some bm454),.int .i64 (((x.act (x.wrong at_)).2).left),.bool (((x.act (x.wrong at_)).2).off)] F,(bif dN 8 then (iMap kInt bm454 (emap (fun s=>av s) (aput (((x.act (x.wrong at_)).2).fresh) at_ (List.take 256 s))) F) else (iMap kInt bm454 (emap (fun s=>av s) (((x.act (x.wrong at_)).2).fresh)) F)),iAc (dArr 256) (.slice A452 (((x.act (x.wrong at_)).2).lasts.length) cap453) (((x.act (x.wrong at_)).2).lasts) bs455 F,iData (dSlice dByte) [.slice A s.length cap] s]:=by rw [e575]; exact hs576
      exact WL_nil ⟨rfl,_,rfl,hs577,v567,v568,v569,v570,v571,(fun _=>rfl),v573,v574,trivial⟩
     .
      rintro dN vL g578 w579 ⟨hs580,v586,v587,v588,v589,v590,v591,v592,v593,_⟩ hD581 hd582 hu583 hg584 hk585
      have e594:dN 5=true:=hd582 5 (by decide +kernel)
      have e595:dN 8=false:=hu583 8 (by decide +kernel)
      rw [e595] at hs580
      have hs596:Sep F w0 (fun b=>D b/\b<w0.heap.size) w579 [iOwn d 78 [.slice A452 (((x.act (x.wrong at_)).2).lasts.length) cap453,.map (some bm454),.int .i64 (((x.act (x.wrong at_)).2).left),.bool (((x.act (x.wrong at_)).2).off)] F,iMap kInt bm454 (emap (fun s=>av s) (((x.act (x.wrong at_)).2).fresh)) F,iAc (dArr 256) (.slice A452 (((x.act (x.wrong at_)).2).lasts.length) cap453) (((x.act (x.wrong at_)).2).lasts) bs455 F,iData (dSlice dByte) [.slice A s.length cap] s]:=hs580
      refine WL_at (L:=[(30,.slice A s.length cap)]) ⟨((hg584 5 30 e594 rfl).trans (v591 e594)),trivial⟩ ?_
      refine S_arrPtr Try.runUnderlying75 rfl (show 256<=s.length from by omega) rfl ?_
      have hs597:Sep F w0 (fun b=>D b/\b<w0.heap.size) w579 [iOwn d 78 [.slice A452 (((x.act (x.wrong at_)).2).lasts.length) cap453,.map (some bm454),.int .i64 (((x.act (x.wrong at_)).2).left),.bool (((x.act (x.wrong at_)).2).off)] F,(bif dN 8 then (iMap kInt bm454 (emap (fun s=>av s) (aput (((x.act (x.wrong at_)).2).fresh) at_ (List.take 256 s))) F) else (iMap kInt bm454 (emap (fun s=>av s) (((x.act (x.wrong at_)).2).fresh)) F)),iAc (dArr 256) (.slice A452 (((x.act (x.wrong at_)).2).lasts.length) cap453) (((x.act (x.wrong at_)).2).lasts) bs455 F,iData (dSlice dByte) [.slice A s.length cap] s]:=by rw [e595]; exact hs596
      exact WL_nil ⟨rfl,_,rfl,hs597,v586,v587,v588,v589,v590,v591,(fun _=>rfl),v593,trivial⟩
     .
      rintro dN vL g598 w599 ⟨hs600,v606,v607,v608,v609,v610,v611,v612,v613,_⟩ hD601 hd602 hu603 hg604 hk605
      have e614:dN 6=true:=hd602 6 (by decide +kernel)
      have e615:dN 8=false:=hu603 8 (by decide +kernel)
      rw [e615] at hs600
      have hs616:Sep F w0 (fun b=>D b/\b<w0.heap.size) w599 [iOwn d 78 [.slice A452 (((x.act (x.wrong at_)).2).lasts.length) cap453,.map (some bm454),.int .i64 (((x.act (x.wrong at_)).2).left),.bool (((x.act (x.wrong at_)).2).off)] F,iMap kInt bm454 (emap (fun s=>av s) (((x.act (x.wrong at_)).2).fresh)) F,iAc (dArr 256) (.slice A452 (((x.act (x.wrong at_)).2).lasts.length) cap453) (((x.act (x.wrong at_)).2).lasts) bs455 F,iData (dSlice dByte) [.slice A s.length cap] s]:=hs600
      refine WL_at (L:=[(31,.pointer A)]) ⟨((hg604 6 31 e614 rfl).trans (v612 e614)),trivial⟩ ?_
      refine S_loadArr Try.isAgg75 Try.sizeOf75 (hs616.at 3 rfl) (show 256<=s.length from by omega) (by decide) rfl rfl ?_
      have hs617:Sep F w0 (fun b=>D b/\b<w0.heap.size) w599 [iOwn d 78 [.slice A452 (((x.act (x.wrong at_)).2).lasts.length) cap453,.map (some bm454),.int .i64 (((x.act (x.wrong at_)).2).left),.bool (((x.act (x.wrong at_)).2).off)] F,(bif dN 8 then (iMap kInt bm454 (emap (fun s=>av s) (aput (((x.act (x.wrong at_)).2).fresh) at_ (List.take 256 s))) F) else (iMap kInt bm454 (emap (fun s=>av s) (((x.act (x.wrong at_)).2).fresh)) F)),iAc (dArr 256) (.slice A452 (((x.act (x.wrong at_)).2).lasts.length) cap453) (((x.act (x.wrong at_)).2).lasts) bs455 F,iData (dSlice dByte) [.slice A s.length cap] s]:=by rw [e615]; exact hs616
      exact WL_nil ⟨rfl,_,rfl,hs617,v606,v607,v608,v609,v610,v611,v612,(fun _=>rfl),trivial⟩
     .
      rintro dN vL g618 w619 ⟨hs620,v626,v627,v628,v629,v630,v631,v632,v633,_⟩ hD621 hd622 hu623 hg624 hk625
      have e634:dN 3=true:=hd622 3 (by decide +kernel)
      have e635:dN 4=true:=hd622 4 (by decide +kernel)
      have e636:dN 7=true:=hd622 7 (by decide +kernel)
      have e637:dN 8=false:=hD621
      rw [e637] at hs620
      have hs638:Sep F w0 (fun b=>D b/\b<w0.heap.size) w619 [iOwn d 78 [.slice A452 (((x.act (x.wrong at_)).2).lasts.length) cap453,.map (some bm454),.int .i64 (((x.act (x.wrong at_)).2).left),.bool (((x.act (x.wrong at_)).2).off)] F,iMap kInt bm454 (emap (fun s=>av s) (((x.act (x.wrong at_)).2).fresh)) F,iAc (dArr 256) (.slice A452 (((x.act (x.wrong at_)).2).lasts.length) cap453) (((x.act (x.wrong at_)).2).lasts) bs455 F,iData (dSlice dByte) [.slice A s.length cap] s]:=hs620
      refine WL_at (L:=[(28,.map (some bm454)),(29,.int .i64 at_),(32,av (List.take 256 s))]) ⟨((hg624 3 28 e634 rfl).trans (v629 e634)),((hg624 4 29 e635 rfl).trans (v630 e635)),((hg624 7 32 e636 rfl).trans (v633 e636)),trivial⟩ ?_
      refine Z_mapUpdate (vv:=List.take 256 s) hs638 1 rfl Try.runUnderlying76 Try.runUnderlying3 rfl rfl rfl ?_
      intro w639 hs640
      have hs640:Sep F w0 (fun b=>D b/\b<w0.heap.size) w639 [iOwn d 78 [.slice A452 (((x.act (x.wrong at_)).2).lasts.length) cap453,.map (some bm454),.int .i64 (((x.act (x.wrong at_)).2).left),.bool (((x.act (x.wrong at_)).2).off)] F,iMap kInt bm454 (emap (fun s=>av s) (aput (((x.act (x.wrong at_)).2).fresh) at_ (List.take 256 s))) F,iAc (dArr 256) (.slice A452 (((x.act (x.wrong at_)).2).lasts.length) cap453) (((x.act (x.wrong at_)).2).lasts) bs455 F,iData (dSlice dByte) [.slice A s.length cap] s]:=hs640
      have hs641:Sep F w0 (fun b=>D b/\b<w0.heap.size) w639 [iOwn d 78 [.slice A452 (((x.act (x.wrong at_)).2).lasts.length) cap453,.map (some bm454),.int .i64 (((x.act (x.wrong at_)).2).left),.bool (((x.act (x.wrong at_)).2).off)] F,iMap kInt bm454 (emap (fun s=>av s) (aput (((x.act (x.wrong at_)).2).fresh) at_ (List.take 256 s))) F,iAc (dArr 256) (.slice A452 (((x.act (x.wrong at_)).2).lasts.length) cap453) (((x.act (x.wrong at_)).2).lasts) bs455 F,iData (dSlice dByte) [.slice A s.length cap] s]:=by exact hs640
      exact WL_nil ⟨rfl,undef,rfl,hs641,v626,v627,v628,v629,v630,v631,v632,v633,trivial⟩
   .
    rintro dN vL g642 w643 ha645 ⟨hs644,v648,v649,v650,v651,v652,v653,v654,v655,_⟩ hg646 hk647
    rw [ha645 8 rfl] at hs644
    have hs656:Sep F w0 (fun b=>D b/\b<w0.heap.size) w643 [iOwn d 78 [.slice A452 (((x.act (x.wrong at_)).2).lasts.length) cap453,.map (some bm454),.int .i64 (((x.act (x.wrong at_)).2).left),.bool (((x.act (x.wrong at_)).2).off)] F,iMap kInt bm454 (emap (fun s=>av s) (aput (((x.act (x.wrong at_)).2).fresh) at_ (List.take 256 s))) F,iAc (dArr 256) (.slice A452 (((x.act (x.wrong at_)).2).lasts.length) cap453) (((x.act (x.wrong at_)).2).lasts) bs455 F,iData (dSlice dByte) [.slice A s.length cap] s]:=hs644
    refine ⟨[],trivial,fun g657=>?_⟩
    refine W_seq ?_
    refine W_region ?_
    refine S_assign rfl ?_
    refine WL_nil ?_
    refine W_ret ?_
    show (Value.nilIface)=errv 58 (x.write at_ s).1/\∃ F',DkIs d w643 (x.write at_ s).2 F'/\Turn w0 w643 F F'
    first | (exfalso; omega) | (have hz':=Classical.not_not.1 ‹¬ _≠(0:Int)›; have hc:=(DkIs.close hs656 (Ac.bs1 (hs656.at 2 rfl))); rw [List.take_of_length_le (by omega)] at hc; rw [write_fine rfl (by rw [if_neg (by omega)]; exact hz'),if_neg (by omega)]; exact ⟨(by first | rfl | exact errv_ne (by decide) | exact errv_0),_,hc⟩)
theorem dirty_ok {w0:World} {d:Nat} {x:Dk} {F:List Nat} (h:DkIs d w0 x F) (ok:x.Ok) :
  CallR Try.prog 59 [.pointer (some ⟨d,0,none⟩)] w0 (fun v w'=>∃ A cap bs,v=.slice A x.dirty.length cap/\Ac dInt (fun _=>False) w' (.slice A x.dirty.length cap) x.dirty bs/\Ext [] w0 w'/\∀ b∈bs,w0.heap.size<=b):=by
 obtain ⟨A,cap,bm,hs0⟩:=h.fix
 have ⟨hp,hm,hl,hfl,⟨hi1,hi2⟩,hky⟩:=ok
 refine Call1 Try.func59 rfl rfl rfl rfl ?_
 refine W_seq ?_
 refine W_region ?_
 refine S_assign rfl ?_
 refine WL_nil ?_
 refine W_seq ?_
 refine W_region ?_
 refine S_assign rfl ?_
 have hs1:Sep [] w0 (fun b=>b∈F) w0 [iAc dInt (.slice none 0 0) [] [] [],iOwnF d 78 [.slice A x.lasts.length cap,.map (some bm),.int .i64 x.left,.bool x.off],iMapF kInt bm (emap (fun s=>av s) x.fresh),iAcF (dArr 256) (.slice A x.lasts.length cap) x.lasts]:=hs0.fact (Ac.nil) sAc rfl rfl
 refine WL_nil ?_
 refine W_seq ?_
 refine W_seq ?_
 refine W_region ?_
 refine S_move rfl ?_
 refine S_neqP Try.runUnderlying23 rfl rfl ?_
 refine WL_nil ?_
 refine W_cond_true rfl ?_
 refine W_seq ?_
 refine W_region ?_
 refine S_move rfl ?_
 refine S_nilCheck rfl rfl ?_
 refine S_fieldAddr Try.runUnderlying78 rfl Try.sizeOf76 rfl rfl ?_
 refine S_load1 Try.isAgg76 rfl (Own.at ((hs1.at 1 rfl)).2 rfl) rfl ?_
 refine Z_rangeF hs1 2 rfl Try.runUnderlying76 rfl rfl ?_
 intro it2 w3 hs4
 have hs4:Sep [] w0 (fun b=>b∈F) w3 [iIterF kInt it2 bm (emap (fun s=>av s) x.fresh) (emap (fun s=>av s) []),iAc dInt (.slice none 0 0) [] [] [],iOwnF d 78 [.slice A x.lasts.length cap,.map (some bm),.int .i64 x.left,.bool x.off],iMapF kInt bm (emap (fun s=>av s) x.fresh),iAcF (dArr 256) (.slice A x.lasts.length cap) x.lasts]:=hs4
 refine WL_nil ?_
 refine W_block ?_
 refine W_loopE (fun m f w=>∃ (dm:List (Int×Str)) (ks:List Int) (A5:Option Addr) (cap6:Nat) (bs7:List Nat),m=((x.fresh.length:Int)-dm.length).toNat/\(ks=dm.map (·.1))/\((dm.map (·.1)).Nodup)/\(∀ p∈dm.map (·.1),p∈x.fresh.map (·.1))/\Sep [] w0 (fun b=>b∈F) w [iIterF kInt it2 bm (emap (fun s=>av s) x.fresh) (emap (fun s=>av s) dm),iAc dInt (.slice A5 ks.length cap6) ks bs7 [],iOwnF d 78 [.slice A x.lasts.length cap,.map (some bm),.int .i64 x.left,.bool x.off],iMapF kInt bm (emap (fun s=>av s) x.fresh),iAcF (dArr 256) (.slice A x.lasts.length cap) x.lasts]/\Live f [(3,.slice A5 ks.length cap6),(11,.pointer (some ⟨it2,0,none⟩))]) ?_ ?_
 . exact ⟨_,[],[],_,_,_,rfl,rfl,List.nodup_nil,(fun p hp=>by cases hp),hs4,⟨rfl,rfl,trivial⟩⟩
 .
  rintro _ f10 w8 ⟨dm,ks,A5,cap6,bs7,rfl,q13,q14,q15,hs11,hl12⟩
  refine W_live hl12 ?_
  intro g16
  have hfl0:=fresh_len ok
  have hdl:=keys_len q14 q15
  have hkl:ks.length=dm.length:=by rw [q13,List.length_map]
  refine W_seq ?_
  refine W_region ?_
  refine Z_nextF hs11 0 rfl rfl rfl ?_ ?_
  .
   intro k17 v18 w19 hm21 hn22 hs20
   have hs20:Sep [] w0 (fun b=>b∈F) w19 [iIterF kInt it2 bm (emap (fun s=>av s) x.fresh) (emap (fun s=>av s) (dm++[(k17,v18)])),iAc dInt (.slice A5 ks.length cap6) ks bs7 [],iOwnF d 78 [.slice A x.lasts.length cap,.map (some bm),.int .i64 x.left,.bool x.off],iMapF kInt bm (emap (fun s=>av s) x.fresh),iAcF (dArr 256) (.slice A x.lasts.length cap) x.lasts]:=hs20
   refine S_extract rfl rfl rfl ?_
   refine WL_nil ?_
   refine W_seq ?_
   refine W_cond_true rfl ?_
   refine W_skip ?_
   refine W_block ?_
   refine W_seq ?_
   refine W_region ?_
   refine Z_entry ((hs20.at 0 rfl)).2 rfl rfl ?_
   refine S_extract rfl rfl rfl ?_
   refine S_assign rfl ?_
   refine WL_nil ?_
   refine W_region ?_
   refine S_move rfl ?_
   refine S_move rfl ?_
   refine Z_buildSlice (r:=dInt) (css:=[[.int .i64 k17]]) (al:=[k17]) hs20 Try.runUnderlying22 Try.sizeOf3 Try.zeroValue3 rfl rfl rfl rfl rfl rfl rfl ⟨⟨rfl,(fr_InI ok hm21)⟩,trivial⟩ rfl ?_
   intro b24 w25 hs26
   have hs26:Sep [] w0 (fun b=>b∈F) w25 [iAc dInt (.slice (some ⟨b24,0,none⟩) 1 1) [k17] [b24] [],iIterF kInt it2 bm (emap (fun s=>av s) x.fresh) (emap (fun s=>av s) (dm++[(k17,v18)])),iAc dInt (.slice A5 ks.length cap6) ks bs7 [],iOwnF d 78 [.slice A x.lasts.length cap,.map (some bm),.int .i64 x.left,.bool x.off],iMapF kInt bm (emap (fun s=>av s) x.fresh),iAcF (dArr 256) (.slice A x.lasts.length cap) x.lasts]:=hs26
   refine Z_append (r:=dInt) (al:=ks) (xs:=[k17]) hs26 2 rfl (Src.ac (hs26.at 0 rfl)) Try.runUnderlying22 Try.typeInfo3 Try.sizeOf3 Try.zeroValue3 rfl (by show _ * 8<=_; simp only [List.length_cons,List.length_nil]; omega) (by decide) rfl ?_
   intro A29 cap30 bs31 w27 hs28
   have hs28:Sep [] w0 (fun b=>b∈F) w27 [iAc dInt (.slice (some ⟨b24,0,none⟩) 1 1) [k17] [b24] [],iIterF kInt it2 bm (emap (fun s=>av s) x.fresh) (emap (fun s=>av s) (dm++[(k17,v18)])),iAc dInt (.slice A29 ((ks++[k17]).length) cap30) (ks++[k17]) bs31 [],iOwnF d 78 [.slice A x.lasts.length cap,.map (some bm),.int .i64 x.left,.bool x.off],iMapF kInt bm (emap (fun s=>av s) x.fresh),iAcF (dArr 256) (.slice A x.lasts.length cap) x.lasts]:=hs28
   refine S_assign rfl ?_
   refine WL_nil ?_
   exact ⟨_,(by have:=keys_len (keys_step (L:=x.fresh) q14 hn22) (keys_sub q15 hm21); simp only [List.length_append,List.length_cons,List.length_nil] at *; omega),dm++[(k17,v18)],ks++[k17],_,_,_,rfl,(by rw [q13,List.map_append]; rfl),(keys_step (L:=x.fresh) q14 hn22),(keys_sub q15 hm21),(hs28.pick [1,2,3,4,5] rfl (by decide) rfl),⟨rfl,rfl,trivial⟩⟩
  .
   intro ho23
   refine S_extract rfl rfl rfl ?_
   refine WL_nil ?_
   refine W_seq ?_
   refine W_cond_false rfl ?_
   refine W_exit ?_
   refine W_seq ?_
   refine W_region ?_
   refine S_move rfl ?_
   refine S_call Try.call61 rfl (sort_ac Try.slices_Sort_int_none Try.slices_Sort_int (hs11.at 1 rfl) (by omega)) rfl ?_
   rintro _ w33 ⟨ha34,e35⟩
   have hs36:Sep [] w0 (fun b=>b∈F) w33 [iIterF kInt it2 bm (emap (fun s=>av s) x.fresh) (emap (fun s=>av s) dm),iAc dInt (.slice A5 ks.length cap6) (srt ks) bs7 [],iOwnF d 78 [.slice A x.lasts.length cap,.map (some bm),.int .i64 x.left,.bool x.off],iMapF kInt bm (emap (fun s=>av s) x.fresh),iAcF (dArr 256) (.slice A x.lasts.length cap) x.lasts]:=hs11.sorted 1 rfl ha34 e35
   refine WL_nil ?_
   refine W_seq ?_
   refine W_region ?_
   refine S_move rfl ?_
   refine S_assign rfl ?_
   refine WL_nil ?_
   refine W_ret ?_
   show ∃ A cap bs,(Value.slice A5 ks.length cap6)=.slice A x.dirty.length cap/\Ac dInt (fun _=>False) w33 (.slice A x.dirty.length cap) x.dirty bs/\Ext [] w0 w33/\∀ b∈bs,w0.heap.size<=b
   have ha:=hs36.at 1 rfl
   have hl:=Ac.len ha
   have e:srt ks=x.dirty:=by rw [q13]; exact dirty_eq ok q14 q15 ho23
   rw [e] at ha hl
   exact ⟨_,_,_,by rw [hl],by rw [hl]; exact ha,hs36.ext,fun b hb=>(hs36.org 1 rfl b hb).elim (fun h=>by cases h) id⟩
theorem clone_ok {w0:World} {D:Nat->Prop} {A:Option Addr} {n cap:Nat} {l:List Str} (h:(dSlice (dArr 256)).rd D w0 [.slice A n cap] l) (hl:l.length<=8192) :
  CallR Try.prog 43 [.slice A n cap] w0 (fun v w'=>∃ A' cap' bs,v=.slice A' n cap'/\Ac (dArr 256) (fun _=>False) w' (.slice A' n cap') l bs/\Ext [] w0 w'/\∀ b∈bs,w0.heap.size<=b):=by
 have hs0:=(Sep.nil (B0:=[]) (w0:=w0) (Z:=fun b=>D b/\b<w0.heap.size) (fun _ h=>h.2)).fact (t:=iData (dSlice (dArr 256)) [.slice A n cap] l) ((dSlice (dArr 256)).weak h (fun b h1 h2=>⟨h1,h2⟩)) sData rfl rfl
 have hn:=dSlice_n h
 refine Call1 Try.func43 rfl rfl rfl rfl ?_
 refine W_seq ?_
 refine W_region ?_
 refine S_assign rfl ?_
 refine WL_nil ?_
 refine W_seq ?_
 refine W_seq ?_
 refine W_region ?_
 refine S_move rfl ?_
 refine S_eqlL Try.runUnderlying72 rfl rfl ?_
 refine WL_nil ?_
 refine W_cond rfl (fun h1=>?_) (fun h1=>?_)
 .
  have p2:=h1
  try simp only [lrn] at p2
  refine W_seq ?_
  refine W_region ?_
  refine S_assign rfl ?_
  refine WL_nil ?_
  refine W_ret ?_
  show ∃ A' cap' bs,(Value.slice none 0 0)=.slice A' n cap'/\Ac (dArr 256) (fun _=>False) w0 (.slice A' n cap') l bs/\Ext [] w0 w0/\∀ b∈bs,w0.heap.size<=b
  have hA:A=none:=Option.isNone_iff_eq_none.1 ‹_›
  subst hA
  have e:l=[]:=by cases l with | nil=>rfl | cons a r=>obtain ⟨b,o,c,e,_⟩:=dSlice_at (by rw [<- hn] at h; exact h) (show 0<(a::r).length by simp); cases e
  subst e
  subst hn
  exact ⟨none,0,[],rfl,Ac.nil,Ext.refl _ _,fun _ h=>by cases h⟩
 .
  have p3:=h1
  try simp only [lrn] at p3
  refine W_skip ?_
  refine W_seq ?_
  refine W_region ?_
  refine Z_buildSlice (r:=(dArr 256)) (css:=[]) (al:=([]:List Str)) hs0 Try.runUnderlying72 Try.sizeOf75 Try.zeroValue75 rfl rfl rfl rfl rfl rfl rfl trivial rfl ?_
  intro b4 w5 hs6
  have hs6:Sep [] w0 (fun b=>D b/\b<w0.heap.size) w5 [iAc (dArr 256) (.slice (some ⟨b4,0,none⟩) 0 0) ([]:List Str) [b4] [],iData (dSlice (dArr 256)) [.slice A n cap] l]:=hs6
  refine S_move rfl ?_
  refine Z_append (r:=(dArr 256)) (al:=([]:List Str)) (xs:=l) hs6 0 rfl (Src.data (hs6.at 1 rfl)) Try.runUnderlying72 Try.typeInfo75 Try.sizeOf75 Try.zeroValue75 zs78 (by show _ * 256<=_; simp only [List.length_nil]; omega) (by decide) rfl ?_
  intro A9 cap10 bs11 w7 hs8
  have hs8:Sep [] w0 (fun b=>D b/\b<w0.heap.size) w7 [iAc (dArr 256) (.slice A9 ((([]:List Str)++l).length) cap10) (([]:List Str)++l) bs11 [],iData (dSlice (dArr 256)) [.slice A n cap] l]:=hs8
  refine S_assign rfl ?_
  refine WL_nil ?_
  refine W_ret ?_
  show ∃ A' cap' bs,(Value.slice A9 ((([]:List Str)++l).length) cap10)=.slice A' n cap'/\Ac (dArr 256) (fun _=>False) w7 (.slice A' n cap') l bs/\Ext [] w0 w7/\∀ b∈bs,w0.heap.size<=b
  have ha:=hs8.at 0 rfl
  simp only [List.nil_append] at ha
  rw [hn] at ha
  exact ⟨_,_,_,by simp only [List.nil_append]; rw [hn],ha,hs8.ext,fun b hb=>(hs8.org 0 rfl b hb).elim (fun h=>by cases h) id⟩
theorem new_ok {w0:World} {n:Int} (h0:1<=n) (h1:n<=8192) :
  CallR Try.prog 25 [.int .i64 n] w0 (fun v w'=>∃ d F,v=.tuple #[.pointer (some ⟨d,0,none⟩),.nilIface]/\DkIs d w' (Dk.new n) F/\Ext [] w0 w'/\∀ b∈F,w0.heap.size<=b):=by
 have hs0:=Sep.nil (B0:=[]) (w0:=w0) (Z:=fun _=>False) (fun _ h=>h.elim)
 refine Call2 Try.func25 rfl rfl rfl rfl ?_
 refine W_seq ?_
 refine W_region ?_
 refine S_assign rfl ?_
 refine S_assign rfl ?_
 refine WL_nil ?_
 refine W_seq ?_
 refine W_seq ?_
 refine W_region ?_
 refine S_move rfl ?_
 refine S_lss rfl rfl rfl ?_
 refine S_move rfl ?_
 refine WL_split (dj:=6) rfl (fun h1=>?_) (fun h1=>?_)
 .
  have p2:=of_decide_eq_true h1
  exfalso; omega
 .
  have p3:=of_decide_eq_false h1
  refine WL_on rfl rfl (bF h1) ?_
  refine S_move rfl ?_
  refine WL_on rfl rfl (bF h1) ?_
  refine S_gtr rfl rfl rfl ?_
  refine S_pick_f (bF h1) rfl ?_
  refine WL_nil ?_
  refine W_cond rfl (fun h4=>?_) (fun h4=>?_)
  .
   have p5:=of_decide_eq_true h4
   exfalso; omega
  .
   have p6:=of_decide_eq_false h4
   refine W_skip ?_
   refine W_seq ?_
   refine W_region ?_
   refine S_move rfl ?_
   refine Z_makeSlice (r:=(dArr 256)) (zc:=((List.replicate 256 (0:UInt8)).map bv)) (zx:=List.replicate 256 0) hs0 Try.runUnderlying72 Try.typeInfo75 Try.sizeOf75 Try.zeroValue75 zc78 rfl (by decide) (fun _ _=>⟨rfl,List.length_replicate⟩) rfl rfl (by omega) (by show (256:Int) * n<=_; omega) (by omega) rfl ?_
   intro b7 w8 hs9
   have hs9:Sep [] w0 (fun _=>False) w8 [iAc (dArr 256) (.slice (some ⟨b7,0,none⟩) (Int.toNat n) (Int.toNat n)) (List.replicate (Int.toNat n) (List.replicate 256 0)) [b7] []]:=hs9
   refine Z_makeMap kInt (fun s=>av s) hs9 rfl ?_
   intro b10 w11 hs12
   have hs12:Sep [] w0 (fun _=>False) w11 [iMap kInt b10 (emap (fun s=>av s) []) [],iAc (dArr 256) (.slice (some ⟨b7,0,none⟩) (Int.toNat n) (Int.toNat n)) (List.replicate (Int.toNat n) (List.replicate 256 0)) [b7] []]:=hs12
   refine S_build (pl:=#[(0,1),(1,1),(2,1),(3,1)]) (cs:=[.slice (some ⟨b7,0,none⟩) (Int.toNat n) (Int.toNat n),.map (some b10),.int .i64 (-1),.bool false]) Try.runUnderlying78 Try.zeroValue78 (by intro w; kernel_rfl) rfl rfl rfl ?_
   refine Z_box hs12 rfl ?_
   intro b13 w14 hs15
   have hs15:Sep [] w0 (fun _=>False) w14 [iOwn b13 78 [.slice (some ⟨b7,0,none⟩) (Int.toNat n) (Int.toNat n),.map (some b10),.int .i64 (-1),.bool false] [],iMap kInt b10 (emap (fun s=>av s) []) [],iAc (dArr 256) (.slice (some ⟨b7,0,none⟩) (Int.toNat n) (Int.toNat n)) (List.replicate (Int.toNat n) (List.replicate 256 0)) [b7] []]:=hs15
   refine S_assign rfl ?_
   refine S_assign rfl ?_
   refine WL_nil ?_
   refine W_ret ?_
   show ∃ d F,(Value.tuple #[.pointer (some ⟨b13,0,none⟩),.nilIface])=.tuple #[.pointer (some ⟨d,0,none⟩),.nilIface]/\DkIs d w14 (Dk.new n) F/\Ext [] w0 w14/\∀ b∈F,w0.heap.size<=b
   have ⟨hc,ht⟩:=(DkIs.close (hs15.pick [0,1,2] rfl (by decide) rfl) (Ac.bs1 ((hs15.pick [0,1,2] rfl (by decide) rfl).at 2 rfl)))
   exact ⟨_,_,rfl,hc,ht.1,fun b hb=>(ht.2 b hb).elim (fun h=>by cases h) id⟩
theorem new_bad {w0:World} {n:Int} (h:n<1 ∨ 8192<n) :
  CallR Try.prog 25 [.int .i64 n] w0 (fun v w'=>v=.tuple #[.pointer none,.iface 58 (.int .i64 2)]/\w'=w0):=by
 refine Call2 Try.func25 rfl rfl rfl rfl ?_
 refine W_seq ?_
 refine W_region ?_
 refine S_assign rfl ?_
 refine S_assign rfl ?_
 refine WL_nil ?_
 refine W_seq ?_
 refine W_seq ?_
 refine W_region ?_
 refine S_move rfl ?_
 refine S_lss rfl rfl rfl ?_
 refine S_move rfl ?_
 refine WL_split (dj:=6) rfl (fun h1=>?_) (fun h1=>?_)
 .
  have p2:=of_decide_eq_true h1
  refine WL_off rfl rfl rfl (bT h1) ?_
  refine WL_off rfl rfl rfl (bT h1) ?_
  refine S_pick_t (bT h1) rfl ?_
  refine WL_nil ?_
  refine W_cond_true rfl ?_
  refine W_seq ?_
  refine W_region ?_
  refine S_makeI Try.runUnderlying58 rfl rfl rfl ?_
  refine S_assign rfl ?_
  refine S_assign rfl ?_
  refine WL_nil ?_
  refine W_ret ?_
  show (Value.tuple #[.pointer none,.iface 58 (.int .i64 2)])=.tuple #[.pointer none,.iface 58 (.int .i64 2)]/\w0=w0
  exact ⟨rfl,rfl⟩
 .
  have p3:=of_decide_eq_false h1
  refine WL_on rfl rfl (bF h1) ?_
  refine S_move rfl ?_
  refine WL_on rfl rfl (bF h1) ?_
  refine S_gtr rfl rfl rfl ?_
  refine S_pick_f (bF h1) rfl ?_
  refine WL_nil ?_
  refine W_cond rfl (fun h4=>?_) (fun h4=>?_)
  .
   have p5:=of_decide_eq_true h4
   refine W_seq ?_
   refine W_region ?_
   refine S_makeI Try.runUnderlying58 rfl rfl rfl ?_
   refine S_assign rfl ?_
   refine S_assign rfl ?_
   refine WL_nil ?_
   refine W_ret ?_
   show (Value.tuple #[.pointer none,.iface 58 (.int .i64 2)])=.tuple #[.pointer none,.iface 58 (.int .i64 2)]/\w0=w0
   exact ⟨rfl,rfl⟩
  .
   have p6:=of_decide_eq_false h4
   exfalso; omega
theorem crash_ok {w0:World} {d:Nat} {x:Dk} {F:List Nat} (h:DkIs d w0 x F) (ok:x.Ok) {D:Nat->Prop} {A1:Option Addr} {cap1:Nat} {kept:List Int} (hk:(dSlice dInt).rd D w0 [.slice A1 kept.length cap1] kept) (torn cut:Int) :
  CallR Try.prog 23 [.pointer (some ⟨d,0,none⟩),.int .i64 torn,.int .i64 cut,.slice A1 kept.length cap1] w0 (fun v w'=>∃ d2 F2,v=.pointer (some ⟨d2,0,none⟩)/\DkIs d2 w' (x.crash torn cut kept) F2/\Ext [] w0 w'/\∀ b∈F2,w0.heap.size<=b):=by
 have ⟨hp,hm,hl,hfl,⟨hi1,hi2⟩,hky⟩:=ok
 obtain ⟨A,cap,bm,hs1⟩:=h.fixZ (Z:=fun b=>b∈F ∨ (D b/\b<w0.heap.size)) (fun b hb=>hb.elim (h.lt b) (·.2)) (fun b hb=>.inl hb)
 have hs0:=hs1.fact (t:=iData (dSlice dInt) [.slice A1 kept.length cap1] kept) ((dSlice dInt).weak hk (fun b h1 h2=>.inr ⟨h1,h2⟩)) sData rfl rfl
 have hkl:=dSlice_len hk
 refine Call1 Try.func23 rfl rfl rfl rfl ?_
 refine W_seq ?_
 refine W_region ?_
 refine S_assign rfl ?_
 refine WL_nil ?_
 refine W_seq ?_
 refine W_seq ?_
 refine W_region ?_
 refine S_move rfl ?_
 refine S_callQ Try.call42 rfl (size_ok h ok) rfl ?_
 refine S_eql rfl rfl rfl ?_
 refine WL_nil ?_
 refine W_cond rfl (fun h1=>?_) (fun h1=>?_)
 .
  have p2:=of_decide_eq_true h1
  exfalso; omega
 .
  have p3:=of_decide_eq_false h1
  refine W_skip ?_
  refine W_seq ?_
  refine W_region ?_
  refine S_move rfl ?_
  refine S_nilCheck rfl rfl ?_
  refine S_fieldAddr Try.runUnderlying78 rfl Try.sizeOf72 rfl rfl ?_
  refine S_load1 Try.isAgg72 rfl (Own.at ((hs0.at 1 rfl)).2 rfl) rfl ?_
  have hz11:=clone_ok (Ac.rd ((hs0.at 3 rfl)).choose_spec.2 (by omega)) hm
  refine S_call3 Try.call43 rfl hz11 rfl ?_
  rintro A4 cap5 bs6 w7 ⟨ha8,e9,hf10⟩
  have hs12:Sep [] w0 (fun b=>b∈F ∨ (D b/\b<w0.heap.size)) w7 [iAc (dArr 256) (.slice A4 x.lasts.length cap5) x.lasts bs6 [],iData (dSlice dInt) [.slice A1 kept.length cap1] kept,iOwnF d 78 [.slice A x.lasts.length cap,.map (some bm),.int .i64 x.left,.bool x.off],iMapF kInt bm (emap (fun s=>av s) x.fresh),iAcF (dArr 256) (.slice A x.lasts.length cap) x.lasts]:=hs0.madeAc e9 ha8 hf10
  refine Z_makeMap kInt (fun s=>av s) hs12 rfl ?_
  intro b13 w14 hs15
  have hs15:Sep [] w0 (fun b=>b∈F ∨ (D b/\b<w0.heap.size)) w14 [iMap kInt b13 (emap (fun s=>av s) []) [],iAc (dArr 256) (.slice A4 x.lasts.length cap5) x.lasts bs6 [],iData (dSlice dInt) [.slice A1 kept.length cap1] kept,iOwnF d 78 [.slice A x.lasts.length cap,.map (some bm),.int .i64 x.left,.bool x.off],iMapF kInt bm (emap (fun s=>av s) x.fresh),iAcF (dArr 256) (.slice A x.lasts.length cap) x.lasts]:=hs15
  refine S_build (pl:=#[(0,1),(1,1),(2,1),(3,1)]) (cs:=[.slice A4 x.lasts.length cap5,.map (some b13),.int .i64 (-1),.bool false]) Try.runUnderlying78 Try.zeroValue78 (by intro w; kernel_rfl) rfl rfl rfl ?_
  refine Z_box hs15 rfl ?_
  intro b16 w17 hs18
  have hs18:Sep [] w0 (fun b=>b∈F ∨ (D b/\b<w0.heap.size)) w17 [iOwn b16 78 [.slice A4 x.lasts.length cap5,.map (some b13),.int .i64 (-1),.bool false] [],iMap kInt b13 (emap (fun s=>av s) []) [],iAc (dArr 256) (.slice A4 x.lasts.length cap5) x.lasts bs6 [],iData (dSlice dInt) [.slice A1 kept.length cap1] kept,iOwnF d 78 [.slice A x.lasts.length cap,.map (some bm),.int .i64 x.left,.bool x.off],iMapF kInt bm (emap (fun s=>av s) x.fresh),iAcF (dArr 256) (.slice A x.lasts.length cap) x.lasts]:=hs18
  refine S_assign rfl ?_
  refine WL_nil ?_
  refine W_cut (fun f w=>∃ (l1:List Str),(l1=x.torn torn cut)/\Sep [] w0 (fun b=>b∈F ∨ (D b/\b<w0.heap.size)) w [iOwn b16 78 [.slice A4 x.lasts.length cap5,.map (some b13),.int .i64 (-1),.bool false] [],iMap kInt b13 (emap (fun s=>av s) []) [],iAc (dArr 256) (.slice A4 x.lasts.length cap5) l1 bs6 [],iData (dSlice dInt) [.slice A1 kept.length cap1] kept,iOwnF d 78 [.slice A x.lasts.length cap,.map (some bm),.int .i64 x.left,.bool x.off],iMapF kInt bm (emap (fun s=>av s) x.fresh),iAcF (dArr 256) (.slice A x.lasts.length cap) x.lasts]/\Live f [(0,.pointer (some ⟨d,0,none⟩)),(3,.slice A1 kept.length cap1),(9,.pointer (some ⟨b16,0,none⟩))]) ?_ ?_
  .
   refine W_seq ?_
   refine W_live (L:=[(0,.pointer (some ⟨d,0,none⟩)),(1,.int .i64 torn),(2,.int .i64 cut),(3,.slice A1 kept.length cap1),(9,.pointer (some ⟨b16,0,none⟩))]) ⟨rfl,rfl,rfl,rfl,rfl,trivial⟩ ?_
   intro g20
   refine W_region ?_
   refine S_move rfl ?_
   refine S_nilCheck rfl rfl ?_
   refine S_fieldAddr Try.runUnderlying78 rfl Try.sizeOf76 rfl rfl ?_
   refine S_load1 Try.isAgg76 rfl (Own.at ((hs18.at 4 rfl)).2 rfl) rfl ?_
   refine S_move rfl ?_
   refine Z_lookupOk (z0:=(List.replicate 256 (0:UInt8))) ((hs18.at 5 rfl)).2 Try.runUnderlying76 Try.runUnderlying3 Try.zeroValue75 zero78 rfl rfl rfl ?_
   refine S_move rfl ?_
   refine S_extract rfl rfl rfl ?_
   refine S_extract rfl rfl rfl ?_
   refine Z_allocAr hs18 Try.zeroValue75 zero78 rfl ?_
   intro b21 w22 hs23
   have hs23:Sep [] w0 (fun b=>b∈F ∨ (D b/\b<w0.heap.size)) w22 [iAr b21 75 (List.replicate 256 0) [],iOwn b16 78 [.slice A4 x.lasts.length cap5,.map (some b13),.int .i64 (-1),.bool false] [],iMap kInt b13 (emap (fun s=>av s) []) [],iAc (dArr 256) (.slice A4 x.lasts.length cap5) x.lasts bs6 [],iData (dSlice dInt) [.slice A1 kept.length cap1] kept,iOwnF d 78 [.slice A x.lasts.length cap,.map (some bm),.int .i64 x.left,.bool x.off],iMapF kInt bm (emap (fun s=>av s) x.fresh),iAcF (dArr 256) (.slice A x.lasts.length cap) x.lasts]:=hs23
   refine Z_storeAr hs23 0 rfl Try.sizeOf75 rfl rfl List.length_replicate (getD_len ok torn) ?_
   intro w24 hs25
   have hs25:Sep [] w0 (fun b=>b∈F ∨ (D b/\b<w0.heap.size)) w24 [iAr b21 75 ((aget x.fresh torn).getD (List.replicate 256 (0:UInt8))) [],iOwn b16 78 [.slice A4 x.lasts.length cap5,.map (some b13),.int .i64 (-1),.bool false] [],iMap kInt b13 (emap (fun s=>av s) []) [],iAc (dArr 256) (.slice A4 x.lasts.length cap5) x.lasts bs6 [],iData (dSlice dInt) [.slice A1 kept.length cap1] kept,iOwnF d 78 [.slice A x.lasts.length cap,.map (some bm),.int .i64 x.left,.bool x.off],iMapF kInt bm (emap (fun s=>av s) x.fresh),iAcF (dArr 256) (.slice A x.lasts.length cap) x.lasts]:=hs25
   refine S_assign rfl ?_
   refine WL_nil ?_
   refine W_seq ?_
   refine W_live (L:=[(0,.pointer (some ⟨d,0,none⟩)),(1,.int .i64 torn),(2,.int .i64 cut),(3,.slice A1 kept.length cap1),(9,.pointer (some ⟨b16,0,none⟩)),(10,.pointer (some ⟨b21,0,none⟩)),(11,.bool (Option.isSome (aget x.fresh torn)))]) ⟨rfl,rfl,rfl,rfl,rfl,rfl,rfl,trivial⟩ ?_
   intro g26
   refine W_region ?_
   refine S_move rfl ?_
   refine WL_nil ?_
   refine W_cond rfl (fun h27=>?_) (fun h27=>?_)
   .
    have p28:=h27
    try simp only [lrn] at p28
    have ⟨ht0,ht1⟩:=isSome_flen ok ‹(aget x.fresh torn).isSome=true›
    refine W_live (L:=[(0,.pointer (some ⟨d,0,none⟩)),(1,.int .i64 torn),(2,.int .i64 cut),(3,.slice A1 kept.length cap1),(9,.pointer (some ⟨b16,0,none⟩)),(10,.pointer (some ⟨b21,0,none⟩))]) ⟨rfl,rfl,rfl,rfl,rfl,rfl,trivial⟩ ?_
    intro g29
    refine W_region_J (fun dN vL w=>Sep [] w0 (fun b=>b∈F ∨ (D b/\b<w0.heap.size)) w [iAr b21 75 ((aget x.fresh torn).getD (List.replicate 256 (0:UInt8))) [],iOwn b16 78 [.slice A4 x.lasts.length cap5,.map (some b13),.int .i64 (-1),.bool false] [],iMap kInt b13 (emap (fun s=>av s) []) [],(bif dN 11 then (iAc (dArr 256) (.slice A4 x.lasts.length cap5) (List.set x.lasts (Int.toNat torn) (List.take (Int.toNat (max 0 (min cut 256))) ((aget x.fresh torn).getD (List.replicate 256 (0:UInt8)))++List.drop (Int.toNat (max 0 (min cut 256))) (ix x.lasts torn))) bs6 []) else (iAc (dArr 256) (.slice A4 x.lasts.length cap5) x.lasts bs6 [])),iData (dSlice dInt) [.slice A1 kept.length cap1] kept,iOwnF d 78 [.slice A x.lasts.length cap,.map (some bm),.int .i64 x.left,.bool x.off],iMapF kInt bm (emap (fun s=>av s) x.fresh),iAcF (dArr 256) (.slice A x.lasts.length cap) x.lasts]/\(dN 0=true->vL 0=.pointer (some ⟨b16,0,none⟩))/\(dN 1=true->vL 1=.pointer (some ⟨b16,0,none⟩))/\(dN 2=true->vL 2=.pointer (some ⟨b16,0,none⟩))/\(dN 3=true->vL 3=.slice A4 x.lasts.length cap5)/\(dN 4=true->vL 4=.int .i64 torn)/\(dN 5=true->vL 5=.pointer (some (eA A4 ((Int.toNat torn) * 256))))/\(dN 6=true->vL 6=.slice (some (eA A4 ((Int.toNat torn) * 256))) 256 256)/\(dN 7=true->vL 7=.int .i64 cut)/\(dN 8=true->vL 8=.int .i64 (min cut 256))/\(dN 9=true->vL 9=.int .i64 (max 0 (min cut 256)))/\(dN 10=true->vL 10=.slice (some ⟨b21,0,none⟩) (Int.toNat (max 0 (min cut 256))) 256)/\(dN 11=true->vL 11=.int .i64 (max 0 (min cut 256)))/\True) [37,38,39,40,41,42,43,44,45,46,47,48] rfl (by decide +kernel) _ rfl ?_ ?_ ?_
    . exact fun V=>⟨hs25,(fun h=>by cases h),(fun h=>by cases h),(fun h=>by cases h),(fun h=>by cases h),(fun h=>by cases h),(fun h=>by cases h),(fun h=>by cases h),(fun h=>by cases h),(fun h=>by cases h),(fun h=>by cases h),(fun h=>by cases h),(fun h=>by cases h),trivial⟩
    . refine (.cons ?_ (.cons ?_ (.cons ?_ (.cons ?_ (.cons ?_ (.cons ?_ (.cons ?_ (.cons ?_ (.cons ?_ (.cons ?_ (.cons ?_ (.cons ?_ .nil))))))))))))
      .
       rintro dN vL g33 w34 ⟨hs35,v41,v42,v43,v44,v45,v46,v47,v48,v49,v50,v51,v52,_⟩ hD36 hd37 hu38 hg39 hk40
       have e53:dN 11=false:=hu38 11 (by decide +kernel)
       rw [e53] at hs35
       have hs54:Sep [] w0 (fun b=>b∈F ∨ (D b/\b<w0.heap.size)) w34 [iAr b21 75 ((aget x.fresh torn).getD (List.replicate 256 (0:UInt8))) [],iOwn b16 78 [.slice A4 x.lasts.length cap5,.map (some b13),.int .i64 (-1),.bool false] [],iMap kInt b13 (emap (fun s=>av s) []) [],iAc (dArr 256) (.slice A4 x.lasts.length cap5) x.lasts bs6 [],iData (dSlice dInt) [.slice A1 kept.length cap1] kept,iOwnF d 78 [.slice A x.lasts.length cap,.map (some bm),.int .i64 x.left,.bool x.off],iMapF kInt bm (emap (fun s=>av s) x.fresh),iAcF (dArr 256) (.slice A x.lasts.length cap) x.lasts]:=hs35
       refine WL_at (L:=[(9,.pointer (some ⟨b16,0,none⟩))]) ⟨(hk40 9 (by decide +kernel)),trivial⟩ ?_
       refine S_move rfl ?_
       have hs55:Sep [] w0 (fun b=>b∈F ∨ (D b/\b<w0.heap.size)) w34 [iAr b21 75 ((aget x.fresh torn).getD (List.replicate 256 (0:UInt8))) [],iOwn b16 78 [.slice A4 x.lasts.length cap5,.map (some b13),.int .i64 (-1),.bool false] [],iMap kInt b13 (emap (fun s=>av s) []) [],(bif dN 11 then (iAc (dArr 256) (.slice A4 x.lasts.length cap5) (List.set x.lasts (Int.toNat torn) (List.take (Int.toNat (max 0 (min cut 256))) ((aget x.fresh torn).getD (List.replicate 256 (0:UInt8)))++List.drop (Int.toNat (max 0 (min cut 256))) (ix x.lasts torn))) bs6 []) else (iAc (dArr 256) (.slice A4 x.lasts.length cap5) x.lasts bs6 [])),iData (dSlice dInt) [.slice A1 kept.length cap1] kept,iOwnF d 78 [.slice A x.lasts.length cap,.map (some bm),.int .i64 x.left,.bool x.off],iMapF kInt bm (emap (fun s=>av s) x.fresh),iAcF (dArr 256) (.slice A x.lasts.length cap) x.lasts]:=by rw [e53]; exact hs54
       exact WL_nil ⟨rfl,_,rfl,hs55,(fun _=>rfl),v42,v43,v44,v45,v46,v47,v48,v49,v50,v51,v52,trivial⟩
      .
       rintro dN vL g56 w57 ⟨hs58,v64,v65,v66,v67,v68,v69,v70,v71,v72,v73,v74,v75,_⟩ hD59 hd60 hu61 hg62 hk63
       have e76:dN 0=true:=hd60 0 (by decide +kernel)
       have e77:dN 11=false:=hu61 11 (by decide +kernel)
       rw [e77] at hs58
       have hs78:Sep [] w0 (fun b=>b∈F ∨ (D b/\b<w0.heap.size)) w57 [iAr b21 75 ((aget x.fresh torn).getD (List.replicate 256 (0:UInt8))) [],iOwn b16 78 [.slice A4 x.lasts.length cap5,.map (some b13),.int .i64 (-1),.bool false] [],iMap kInt b13 (emap (fun s=>av s) []) [],iAc (dArr 256) (.slice A4 x.lasts.length cap5) x.lasts bs6 [],iData (dSlice dInt) [.slice A1 kept.length cap1] kept,iOwnF d 78 [.slice A x.lasts.length cap,.map (some bm),.int .i64 x.left,.bool x.off],iMapF kInt bm (emap (fun s=>av s) x.fresh),iAcF (dArr 256) (.slice A x.lasts.length cap) x.lasts]:=hs58
       refine WL_at (L:=[(37,.pointer (some ⟨b16,0,none⟩))]) ⟨((hg62 0 37 e76 rfl).trans (v64 e76)),trivial⟩ ?_
       refine S_nilCheck rfl rfl ?_
       have hs79:Sep [] w0 (fun b=>b∈F ∨ (D b/\b<w0.heap.size)) w57 [iAr b21 75 ((aget x.fresh torn).getD (List.replicate 256 (0:UInt8))) [],iOwn b16 78 [.slice A4 x.lasts.length cap5,.map (some b13),.int .i64 (-1),.bool false] [],iMap kInt b13 (emap (fun s=>av s) []) [],(bif dN 11 then (iAc (dArr 256) (.slice A4 x.lasts.length cap5) (List.set x.lasts (Int.toNat torn) (List.take (Int.toNat (max 0 (min cut 256))) ((aget x.fresh torn).getD (List.replicate 256 (0:UInt8)))++List.drop (Int.toNat (max 0 (min cut 256))) (ix x.lasts torn))) bs6 []) else (iAc (dArr 256) (.slice A4 x.lasts.length cap5) x.lasts bs6 [])),iData (dSlice dInt) [.slice A1 kept.length cap1] kept,iOwnF d 78 [.slice A x.lasts.length cap,.map (some bm),.int .i64 x.left,.bool x.off],iMapF kInt bm (emap (fun s=>av s) x.fresh),iAcF (dArr 256) (.slice A x.lasts.length cap) x.lasts]:=by rw [e77]; exact hs78
       exact WL_nil ⟨rfl,_,rfl,hs79,v64,(fun _=>rfl),v66,v67,v68,v69,v70,v71,v72,v73,v74,v75,trivial⟩
      .
       rintro dN vL g80 w81 ⟨hs82,v88,v89,v90,v91,v92,v93,v94,v95,v96,v97,v98,v99,_⟩ hD83 hd84 hu85 hg86 hk87
       have e100:dN 1=true:=hd84 1 (by decide +kernel)
       have e101:dN 11=false:=hu85 11 (by decide +kernel)
       rw [e101] at hs82
       have hs102:Sep [] w0 (fun b=>b∈F ∨ (D b/\b<w0.heap.size)) w81 [iAr b21 75 ((aget x.fresh torn).getD (List.replicate 256 (0:UInt8))) [],iOwn b16 78 [.slice A4 x.lasts.length cap5,.map (some b13),.int .i64 (-1),.bool false] [],iMap kInt b13 (emap (fun s=>av s) []) [],iAc (dArr 256) (.slice A4 x.lasts.length cap5) x.lasts bs6 [],iData (dSlice dInt) [.slice A1 kept.length cap1] kept,iOwnF d 78 [.slice A x.lasts.length cap,.map (some bm),.int .i64 x.left,.bool x.off],iMapF kInt bm (emap (fun s=>av s) x.fresh),iAcF (dArr 256) (.slice A x.lasts.length cap) x.lasts]:=hs82
       refine WL_at (L:=[(38,.pointer (some ⟨b16,0,none⟩))]) ⟨((hg86 1 38 e100 rfl).trans (v89 e100)),trivial⟩ ?_
       refine S_fieldAddr Try.runUnderlying78 rfl Try.sizeOf72 rfl rfl ?_
       have hs103:Sep [] w0 (fun b=>b∈F ∨ (D b/\b<w0.heap.size)) w81 [iAr b21 75 ((aget x.fresh torn).getD (List.replicate 256 (0:UInt8))) [],iOwn b16 78 [.slice A4 x.lasts.length cap5,.map (some b13),.int .i64 (-1),.bool false] [],iMap kInt b13 (emap (fun s=>av s) []) [],(bif dN 11 then (iAc (dArr 256) (.slice A4 x.lasts.length cap5) (List.set x.lasts (Int.toNat torn) (List.take (Int.toNat (max 0 (min cut 256))) ((aget x.fresh torn).getD (List.replicate 256 (0:UInt8)))++List.drop (Int.toNat (max 0 (min cut 256))) (ix x.lasts torn))) bs6 []) else (iAc (dArr 256) (.slice A4 x.lasts.length cap5) x.lasts bs6 [])),iData (dSlice dInt) [.slice A1 kept.length cap1] kept,iOwnF d 78 [.slice A x.lasts.length cap,.map (some bm),.int .i64 x.left,.bool x.off],iMapF kInt bm (emap (fun s=>av s) x.fresh),iAcF (dArr 256) (.slice A x.lasts.length cap) x.lasts]:=by rw [e101]; exact hs102
       exact WL_nil ⟨rfl,_,rfl,hs103,v88,v89,(fun _=>rfl),v91,v92,v93,v94,v95,v96,v97,v98,v99,trivial⟩
      .
       rintro dN vL g104 w105 ⟨hs106,v112,v113,v114,v115,v116,v117,v118,v119,v120,v121,v122,v123,_⟩ hD107 hd108 hu109 hg110 hk111
       have e124:dN 2=true:=hd108 2 (by decide +kernel)
       have e125:dN 11=false:=hu109 11 (by decide +kernel)
       rw [e125] at hs106
       have hs126:Sep [] w0 (fun b=>b∈F ∨ (D b/\b<w0.heap.size)) w105 [iAr b21 75 ((aget x.fresh torn).getD (List.replicate 256 (0:UInt8))) [],iOwn b16 78 [.slice A4 x.lasts.length cap5,.map (some b13),.int .i64 (-1),.bool false] [],iMap kInt b13 (emap (fun s=>av s) []) [],iAc (dArr 256) (.slice A4 x.lasts.length cap5) x.lasts bs6 [],iData (dSlice dInt) [.slice A1 kept.length cap1] kept,iOwnF d 78 [.slice A x.lasts.length cap,.map (some bm),.int .i64 x.left,.bool x.off],iMapF kInt bm (emap (fun s=>av s) x.fresh),iAcF (dArr 256) (.slice A x.lasts.length cap) x.lasts]:=hs106
       refine WL_at (L:=[(39,.pointer (some ⟨b16,0,none⟩))]) ⟨((hg110 2 39 e124 rfl).trans (v114 e124)),trivial⟩ ?_
       refine S_load1 Try.isAgg72 rfl (Own.at (hs126.at 1 rfl) rfl) rfl ?_
       have hs127:Sep [] w0 (fun b=>b∈F ∨ (D b/\b<w0.heap.size)) w105 [iAr b21 75 ((aget x.fresh torn).getD (List.replicate 256 (0:UInt8))) [],iOwn b16 78 [.slice A4 x.lasts.length cap5,.map (some b13),.int .i64 (-1),.bool false] [],iMap kInt b13 (emap (fun s=>av s) []) [],(bif dN 11 then (iAc (dArr 256) (.slice A4 x.lasts.length cap5) (List.set x.lasts (Int.toNat torn) (List.take (Int.toNat (max 0 (min cut 256))) ((aget x.fresh torn).getD (List.replicate 256 (0:UInt8)))++List.drop (Int.toNat (max 0 (min cut 256))) (ix x.lasts torn))) bs6 []) else (iAc (dArr 256) (.slice A4 x.lasts.length cap5) x.lasts bs6 [])),iData (dSlice dInt) [.slice A1 kept.length cap1] kept,iOwnF d 78 [.slice A x.lasts.length cap,.map (some bm),.int .i64 x.left,.bool x.off],iMapF kInt bm (emap (fun s=>av s) x.fresh),iAcF (dArr 256) (.slice A x.lasts.length cap) x.lasts]:=by rw [e125]; exact hs126
       exact WL_nil ⟨rfl,_,rfl,hs127,v112,v113,v114,(fun _=>rfl),v116,v117,v118,v119,v120,v121,v122,v123,trivial⟩
      .
       rintro dN vL g128 w129 ⟨hs130,v136,v137,v138,v139,v140,v141,v142,v143,v144,v145,v146,v147,_⟩ hD131 hd132 hu133 hg134 hk135
       have e148:dN 11=false:=hu133 11 (by decide +kernel)
       rw [e148] at hs130
       have hs149:Sep [] w0 (fun b=>b∈F ∨ (D b/\b<w0.heap.size)) w129 [iAr b21 75 ((aget x.fresh torn).getD (List.replicate 256 (0:UInt8))) [],iOwn b16 78 [.slice A4 x.lasts.length cap5,.map (some b13),.int .i64 (-1),.bool false] [],iMap kInt b13 (emap (fun s=>av s) []) [],iAc (dArr 256) (.slice A4 x.lasts.length cap5) x.lasts bs6 [],iData (dSlice dInt) [.slice A1 kept.length cap1] kept,iOwnF d 78 [.slice A x.lasts.length cap,.map (some bm),.int .i64 x.left,.bool x.off],iMapF kInt bm (emap (fun s=>av s) x.fresh),iAcF (dArr 256) (.slice A x.lasts.length cap) x.lasts]:=hs130
       refine WL_at (L:=[(1,.int .i64 torn)]) ⟨(hk135 1 (by decide +kernel)),trivial⟩ ?_
       refine S_move rfl ?_
       have hs150:Sep [] w0 (fun b=>b∈F ∨ (D b/\b<w0.heap.size)) w129 [iAr b21 75 ((aget x.fresh torn).getD (List.replicate 256 (0:UInt8))) [],iOwn b16 78 [.slice A4 x.lasts.length cap5,.map (some b13),.int .i64 (-1),.bool false] [],iMap kInt b13 (emap (fun s=>av s) []) [],(bif dN 11 then (iAc (dArr 256) (.slice A4 x.lasts.length cap5) (List.set x.lasts (Int.toNat torn) (List.take (Int.toNat (max 0 (min cut 256))) ((aget x.fresh torn).getD (List.replicate 256 (0:UInt8)))++List.drop (Int.toNat (max 0 (min cut 256))) (ix x.lasts torn))) bs6 []) else (iAc (dArr 256) (.slice A4 x.lasts.length cap5) x.lasts bs6 [])),iData (dSlice dInt) [.slice A1 kept.length cap1] kept,iOwnF d 78 [.slice A x.lasts.length cap,.map (some bm),.int .i64 x.left,.bool x.off],iMapF kInt bm (emap (fun s=>av s) x.fresh),iAcF (dArr 256) (.slice A x.lasts.length cap) x.lasts]:=by rw [e148]; exact hs149
       exact WL_nil ⟨rfl,_,rfl,hs150,v136,v137,v138,v139,(fun _=>rfl),v141,v142,v143,v144,v145,v146,v147,trivial⟩
      .
       rintro dN vL g151 w152 ⟨hs153,v159,v160,v161,v162,v163,v164,v165,v166,v167,v168,v169,v170,_⟩ hD154 hd155 hu156 hg157 hk158
       have e171:dN 3=true:=hd155 3 (by decide +kernel)
       have e172:dN 4=true:=hd155 4 (by decide +kernel)
       have e173:dN 11=false:=hu156 11 (by decide +kernel)
       rw [e173] at hs153
       have hs174:Sep [] w0 (fun b=>b∈F ∨ (D b/\b<w0.heap.size)) w152 [iAr b21 75 ((aget x.fresh torn).getD (List.replicate 256 (0:UInt8))) [],iOwn b16 78 [.slice A4 x.lasts.length cap5,.map (some b13),.int .i64 (-1),.bool false] [],iMap kInt b13 (emap (fun s=>av s) []) [],iAc (dArr 256) (.slice A4 x.lasts.length cap5) x.lasts bs6 [],iData (dSlice dInt) [.slice A1 kept.length cap1] kept,iOwnF d 78 [.slice A x.lasts.length cap,.map (some bm),.int .i64 x.left,.bool x.off],iMapF kInt bm (emap (fun s=>av s) x.fresh),iAcF (dArr 256) (.slice A x.lasts.length cap) x.lasts]:=hs153
       refine WL_at (L:=[(40,.slice A4 x.lasts.length cap5),(41,.int .i64 torn)]) ⟨((hg157 3 40 e171 rfl).trans (v162 e171)),((hg157 4 41 e172 rfl).trans (v163 e172)),trivial⟩ ?_
       refine Z_indexAc (hs174.at 3 rfl) Try.runUnderlying72 Try.sizeOf75 rfl rfl (show (0:Int)<=torn from by omega) (show torn<((x.lasts.length:Nat):Int) from by omega) rfl ?_
       have hs175:Sep [] w0 (fun b=>b∈F ∨ (D b/\b<w0.heap.size)) w152 [iAr b21 75 ((aget x.fresh torn).getD (List.replicate 256 (0:UInt8))) [],iOwn b16 78 [.slice A4 x.lasts.length cap5,.map (some b13),.int .i64 (-1),.bool false] [],iMap kInt b13 (emap (fun s=>av s) []) [],(bif dN 11 then (iAc (dArr 256) (.slice A4 x.lasts.length cap5) (List.set x.lasts (Int.toNat torn) (List.take (Int.toNat (max 0 (min cut 256))) ((aget x.fresh torn).getD (List.replicate 256 (0:UInt8)))++List.drop (Int.toNat (max 0 (min cut 256))) (ix x.lasts torn))) bs6 []) else (iAc (dArr 256) (.slice A4 x.lasts.length cap5) x.lasts bs6 [])),iData (dSlice dInt) [.slice A1 kept.length cap1] kept,iOwnF d 78 [.slice A x.lasts.length cap,.map (some bm),.int .i64 x.left,.bool x.off],iMapF kInt bm (emap (fun s=>av s) x.fresh),iAcF (dArr 256) (.slice A x.lasts.length cap) x.lasts]:=by rw [e173]; exact hs174
       exact WL_nil ⟨rfl,_,rfl,hs175,v159,v160,v161,v162,v163,(fun _=>rfl),v165,v166,v167,v168,v169,v170,trivial⟩
      .
       rintro dN vL g176 w177 ⟨hs178,v184,v185,v186,v187,v188,v189,v190,v191,v192,v193,v194,v195,_⟩ hD179 hd180 hu181 hg182 hk183
       have e196:dN 5=true:=hd180 5 (by decide +kernel)
       have e197:dN 11=false:=hu181 11 (by decide +kernel)
       rw [e197] at hs178
       have hs198:Sep [] w0 (fun b=>b∈F ∨ (D b/\b<w0.heap.size)) w177 [iAr b21 75 ((aget x.fresh torn).getD (List.replicate 256 (0:UInt8))) [],iOwn b16 78 [.slice A4 x.lasts.length cap5,.map (some b13),.int .i64 (-1),.bool false] [],iMap kInt b13 (emap (fun s=>av s) []) [],iAc (dArr 256) (.slice A4 x.lasts.length cap5) x.lasts bs6 [],iData (dSlice dInt) [.slice A1 kept.length cap1] kept,iOwnF d 78 [.slice A x.lasts.length cap,.map (some bm),.int .i64 x.left,.bool x.off],iMapF kInt bm (emap (fun s=>av s) x.fresh),iAcF (dArr 256) (.slice A x.lasts.length cap) x.lasts]:=hs178
       refine WL_at (L:=[(42,.pointer (some (eA A4 ((Int.toNat torn) * 256))))]) ⟨((hg182 5 42 e196 rfl).trans (v189 e196)),trivial⟩ ?_
       refine S_sliceAr (e:=(256:Nat)) Try.runUnderlying75 Try.sizeOf5 rfl rfl ⟨by omega,by omega⟩ rfl ?_
       have hs199:Sep [] w0 (fun b=>b∈F ∨ (D b/\b<w0.heap.size)) w177 [iAr b21 75 ((aget x.fresh torn).getD (List.replicate 256 (0:UInt8))) [],iOwn b16 78 [.slice A4 x.lasts.length cap5,.map (some b13),.int .i64 (-1),.bool false] [],iMap kInt b13 (emap (fun s=>av s) []) [],(bif dN 11 then (iAc (dArr 256) (.slice A4 x.lasts.length cap5) (List.set x.lasts (Int.toNat torn) (List.take (Int.toNat (max 0 (min cut 256))) ((aget x.fresh torn).getD (List.replicate 256 (0:UInt8)))++List.drop (Int.toNat (max 0 (min cut 256))) (ix x.lasts torn))) bs6 []) else (iAc (dArr 256) (.slice A4 x.lasts.length cap5) x.lasts bs6 [])),iData (dSlice dInt) [.slice A1 kept.length cap1] kept,iOwnF d 78 [.slice A x.lasts.length cap,.map (some bm),.int .i64 x.left,.bool x.off],iMapF kInt bm (emap (fun s=>av s) x.fresh),iAcF (dArr 256) (.slice A x.lasts.length cap) x.lasts]:=by rw [e197]; exact hs198
       exact WL_nil ⟨rfl,_,rfl,hs199,v184,v185,v186,v187,v188,v189,(fun _=>rfl),v191,v192,v193,v194,v195,trivial⟩
      .
       rintro dN vL g200 w201 ⟨hs202,v208,v209,v210,v211,v212,v213,v214,v215,v216,v217,v218,v219,_⟩ hD203 hd204 hu205 hg206 hk207
       have e220:dN 11=false:=hu205 11 (by decide +kernel)
       rw [e220] at hs202
       have hs221:Sep [] w0 (fun b=>b∈F ∨ (D b/\b<w0.heap.size)) w201 [iAr b21 75 ((aget x.fresh torn).getD (List.replicate 256 (0:UInt8))) [],iOwn b16 78 [.slice A4 x.lasts.length cap5,.map (some b13),.int .i64 (-1),.bool false] [],iMap kInt b13 (emap (fun s=>av s) []) [],iAc (dArr 256) (.slice A4 x.lasts.length cap5) x.lasts bs6 [],iData (dSlice dInt) [.slice A1 kept.length cap1] kept,iOwnF d 78 [.slice A x.lasts.length cap,.map (some bm),.int .i64 x.left,.bool x.off],iMapF kInt bm (emap (fun s=>av s) x.fresh),iAcF (dArr 256) (.slice A x.lasts.length cap) x.lasts]:=hs202
       refine WL_at (L:=[(2,.int .i64 cut)]) ⟨(hk207 2 (by decide +kernel)),trivial⟩ ?_
       refine S_move rfl ?_
       have hs222:Sep [] w0 (fun b=>b∈F ∨ (D b/\b<w0.heap.size)) w201 [iAr b21 75 ((aget x.fresh torn).getD (List.replicate 256 (0:UInt8))) [],iOwn b16 78 [.slice A4 x.lasts.length cap5,.map (some b13),.int .i64 (-1),.bool false] [],iMap kInt b13 (emap (fun s=>av s) []) [],(bif dN 11 then (iAc (dArr 256) (.slice A4 x.lasts.length cap5) (List.set x.lasts (Int.toNat torn) (List.take (Int.toNat (max 0 (min cut 256))) ((aget x.fresh torn).getD (List.replicate 256 (0:UInt8)))++List.drop (Int.toNat (max 0 (min cut 256))) (ix x.lasts torn))) bs6 []) else (iAc (dArr 256) (.slice A4 x.lasts.length cap5) x.lasts bs6 [])),iData (dSlice dInt) [.slice A1 kept.length cap1] kept,iOwnF d 78 [.slice A x.lasts.length cap,.map (some bm),.int .i64 x.left,.bool x.off],iMapF kInt bm (emap (fun s=>av s) x.fresh),iAcF (dArr 256) (.slice A x.lasts.length cap) x.lasts]:=by rw [e220]; exact hs221
       exact WL_nil ⟨rfl,_,rfl,hs222,v208,v209,v210,v211,v212,v213,v214,(fun _=>rfl),v216,v217,v218,v219,trivial⟩
      .
       rintro dN vL g223 w224 ⟨hs225,v231,v232,v233,v234,v235,v236,v237,v238,v239,v240,v241,v242,_⟩ hD226 hd227 hu228 hg229 hk230
       have e243:dN 7=true:=hd227 7 (by decide +kernel)
       have e244:dN 11=false:=hu228 11 (by decide +kernel)
       rw [e244] at hs225
       have hs245:Sep [] w0 (fun b=>b∈F ∨ (D b/\b<w0.heap.size)) w224 [iAr b21 75 ((aget x.fresh torn).getD (List.replicate 256 (0:UInt8))) [],iOwn b16 78 [.slice A4 x.lasts.length cap5,.map (some b13),.int .i64 (-1),.bool false] [],iMap kInt b13 (emap (fun s=>av s) []) [],iAc (dArr 256) (.slice A4 x.lasts.length cap5) x.lasts bs6 [],iData (dSlice dInt) [.slice A1 kept.length cap1] kept,iOwnF d 78 [.slice A x.lasts.length cap,.map (some bm),.int .i64 x.left,.bool x.off],iMapF kInt bm (emap (fun s=>av s) x.fresh),iAcF (dArr 256) (.slice A x.lasts.length cap) x.lasts]:=hs225
       refine WL_at (L:=[(44,.int .i64 cut)]) ⟨((hg229 7 44 e243 rfl).trans (v238 e243)),trivial⟩ ?_
       refine S_min rfl rfl rfl ?_
       have hs246:Sep [] w0 (fun b=>b∈F ∨ (D b/\b<w0.heap.size)) w224 [iAr b21 75 ((aget x.fresh torn).getD (List.replicate 256 (0:UInt8))) [],iOwn b16 78 [.slice A4 x.lasts.length cap5,.map (some b13),.int .i64 (-1),.bool false] [],iMap kInt b13 (emap (fun s=>av s) []) [],(bif dN 11 then (iAc (dArr 256) (.slice A4 x.lasts.length cap5) (List.set x.lasts (Int.toNat torn) (List.take (Int.toNat (max 0 (min cut 256))) ((aget x.fresh torn).getD (List.replicate 256 (0:UInt8)))++List.drop (Int.toNat (max 0 (min cut 256))) (ix x.lasts torn))) bs6 []) else (iAc (dArr 256) (.slice A4 x.lasts.length cap5) x.lasts bs6 [])),iData (dSlice dInt) [.slice A1 kept.length cap1] kept,iOwnF d 78 [.slice A x.lasts.length cap,.map (some bm),.int .i64 x.left,.bool x.off],iMapF kInt bm (emap (fun s=>av s) x.fresh),iAcF (dArr 256) (.slice A x.lasts.length cap) x.lasts]:=by rw [e244]; exact hs245
       exact WL_nil ⟨rfl,_,rfl,hs246,v231,v232,v233,v234,v235,v236,v237,v238,(fun _=>rfl),v240,v241,v242,trivial⟩
      .
       rintro dN vL g247 w248 ⟨hs249,v255,v256,v257,v258,v259,v260,v261,v262,v263,v264,v265,v266,_⟩ hD250 hd251 hu252 hg253 hk254
       have e267:dN 8=true:=hd251 8 (by decide +kernel)
       have e268:dN 11=false:=hu252 11 (by decide +kernel)
       rw [e268] at hs249
       have hs269:Sep [] w0 (fun b=>b∈F ∨ (D b/\b<w0.heap.size)) w248 [iAr b21 75 ((aget x.fresh torn).getD (List.replicate 256 (0:UInt8))) [],iOwn b16 78 [.slice A4 x.lasts.length cap5,.map (some b13),.int .i64 (-1),.bool false] [],iMap kInt b13 (emap (fun s=>av s) []) [],iAc (dArr 256) (.slice A4 x.lasts.length cap5) x.lasts bs6 [],iData (dSlice dInt) [.slice A1 kept.length cap1] kept,iOwnF d 78 [.slice A x.lasts.length cap,.map (some bm),.int .i64 x.left,.bool x.off],iMapF kInt bm (emap (fun s=>av s) x.fresh),iAcF (dArr 256) (.slice A x.lasts.length cap) x.lasts]:=hs249
       refine WL_at (L:=[(45,.int .i64 (min cut 256))]) ⟨((hg253 8 45 e267 rfl).trans (v263 e267)),trivial⟩ ?_
       refine S_max rfl rfl rfl ?_
       have hs270:Sep [] w0 (fun b=>b∈F ∨ (D b/\b<w0.heap.size)) w248 [iAr b21 75 ((aget x.fresh torn).getD (List.replicate 256 (0:UInt8))) [],iOwn b16 78 [.slice A4 x.lasts.length cap5,.map (some b13),.int .i64 (-1),.bool false] [],iMap kInt b13 (emap (fun s=>av s) []) [],(bif dN 11 then (iAc (dArr 256) (.slice A4 x.lasts.length cap5) (List.set x.lasts (Int.toNat torn) (List.take (Int.toNat (max 0 (min cut 256))) ((aget x.fresh torn).getD (List.replicate 256 (0:UInt8)))++List.drop (Int.toNat (max 0 (min cut 256))) (ix x.lasts torn))) bs6 []) else (iAc (dArr 256) (.slice A4 x.lasts.length cap5) x.lasts bs6 [])),iData (dSlice dInt) [.slice A1 kept.length cap1] kept,iOwnF d 78 [.slice A x.lasts.length cap,.map (some bm),.int .i64 x.left,.bool x.off],iMapF kInt bm (emap (fun s=>av s) x.fresh),iAcF (dArr 256) (.slice A x.lasts.length cap) x.lasts]:=by rw [e268]; exact hs269
       exact WL_nil ⟨rfl,_,rfl,hs270,v255,v256,v257,v258,v259,v260,v261,v262,v263,(fun _=>rfl),v265,v266,trivial⟩
      .
       rintro dN vL g271 w272 ⟨hs273,v279,v280,v281,v282,v283,v284,v285,v286,v287,v288,v289,v290,_⟩ hD274 hd275 hu276 hg277 hk278
       have e291:dN 9=true:=hd275 9 (by decide +kernel)
       have e292:dN 11=false:=hu276 11 (by decide +kernel)
       rw [e292] at hs273
       have hs293:Sep [] w0 (fun b=>b∈F ∨ (D b/\b<w0.heap.size)) w272 [iAr b21 75 ((aget x.fresh torn).getD (List.replicate 256 (0:UInt8))) [],iOwn b16 78 [.slice A4 x.lasts.length cap5,.map (some b13),.int .i64 (-1),.bool false] [],iMap kInt b13 (emap (fun s=>av s) []) [],iAc (dArr 256) (.slice A4 x.lasts.length cap5) x.lasts bs6 [],iData (dSlice dInt) [.slice A1 kept.length cap1] kept,iOwnF d 78 [.slice A x.lasts.length cap,.map (some bm),.int .i64 x.left,.bool x.off],iMapF kInt bm (emap (fun s=>av s) x.fresh),iAcF (dArr 256) (.slice A x.lasts.length cap) x.lasts]:=hs273
       refine WL_at (L:=[(10,.pointer (some ⟨b21,0,none⟩)),(46,.int .i64 (max 0 (min cut 256)))]) ⟨(hk278 10 (by decide +kernel)),((hg277 9 46 e291 rfl).trans (v288 e291)),trivial⟩ ?_
       refine S_sliceAr0 (e:=max 0 (min cut 256)) Try.runUnderlying75 Try.sizeOf5 rfl rfl ⟨by omega,by omega⟩ rfl ?_
       have hs294:Sep [] w0 (fun b=>b∈F ∨ (D b/\b<w0.heap.size)) w272 [iAr b21 75 ((aget x.fresh torn).getD (List.replicate 256 (0:UInt8))) [],iOwn b16 78 [.slice A4 x.lasts.length cap5,.map (some b13),.int .i64 (-1),.bool false] [],iMap kInt b13 (emap (fun s=>av s) []) [],(bif dN 11 then (iAc (dArr 256) (.slice A4 x.lasts.length cap5) (List.set x.lasts (Int.toNat torn) (List.take (Int.toNat (max 0 (min cut 256))) ((aget x.fresh torn).getD (List.replicate 256 (0:UInt8)))++List.drop (Int.toNat (max 0 (min cut 256))) (ix x.lasts torn))) bs6 []) else (iAc (dArr 256) (.slice A4 x.lasts.length cap5) x.lasts bs6 [])),iData (dSlice dInt) [.slice A1 kept.length cap1] kept,iOwnF d 78 [.slice A x.lasts.length cap,.map (some bm),.int .i64 x.left,.bool x.off],iMapF kInt bm (emap (fun s=>av s) x.fresh),iAcF (dArr 256) (.slice A x.lasts.length cap) x.lasts]:=by rw [e292]; exact hs293
       exact WL_nil ⟨rfl,_,rfl,hs294,v279,v280,v281,v282,v283,v284,v285,v286,v287,v288,(fun _=>rfl),v290,trivial⟩
      .
       rintro dN vL g295 w296 ⟨hs297,v303,v304,v305,v306,v307,v308,v309,v310,v311,v312,v313,v314,_⟩ hD298 hd299 hu300 hg301 hk302
       have e315:dN 6=true:=hd299 6 (by decide +kernel)
       have e316:dN 10=true:=hd299 10 (by decide +kernel)
       have e317:dN 11=false:=hD298
       rw [e317] at hs297
       have hs318:Sep [] w0 (fun b=>b∈F ∨ (D b/\b<w0.heap.size)) w296 [iAr b21 75 ((aget x.fresh torn).getD (List.replicate 256 (0:UInt8))) [],iOwn b16 78 [.slice A4 x.lasts.length cap5,.map (some b13),.int .i64 (-1),.bool false] [],iMap kInt b13 (emap (fun s=>av s) []) [],iAc (dArr 256) (.slice A4 x.lasts.length cap5) x.lasts bs6 [],iData (dSlice dInt) [.slice A1 kept.length cap1] kept,iOwnF d 78 [.slice A x.lasts.length cap,.map (some bm),.int .i64 x.left,.bool x.off],iMapF kInt bm (emap (fun s=>av s) x.fresh),iAcF (dArr 256) (.slice A x.lasts.length cap) x.lasts]:=hs297
       refine WL_at (L:=[(43,.slice (some (eA A4 ((Int.toNat torn) * 256))) 256 256),(47,.slice (some ⟨b21,0,none⟩) (Int.toNat (max 0 (min cut 256))) 256)]) ⟨((hg301 6 43 e315 rfl).trans (v309 e315)),((hg301 10 47 e316 rfl).trans (v313 e316)),trivial⟩ ?_
       refine Z_copyRow (e:=max 0 (min cut 256)) hs318 3 rfl (hs318.at 0 rfl) Try.runUnderlying30 Try.sizeOf5 rfl rfl rfl (show (0:Int)<=torn from by omega) (show torn<((x.lasts.length:Nat):Int) from by omega) (getD_len ok torn) ⟨by omega,by omega⟩ rfl ?_
       intro w319 hs320
       have hs320:Sep [] w0 (fun b=>b∈F ∨ (D b/\b<w0.heap.size)) w319 [iAr b21 75 ((aget x.fresh torn).getD (List.replicate 256 (0:UInt8))) [],iOwn b16 78 [.slice A4 x.lasts.length cap5,.map (some b13),.int .i64 (-1),.bool false] [],iMap kInt b13 (emap (fun s=>av s) []) [],iAc (dArr 256) (.slice A4 x.lasts.length cap5) (List.set x.lasts (Int.toNat torn) (List.take (Int.toNat (max 0 (min cut 256))) ((aget x.fresh torn).getD (List.replicate 256 (0:UInt8)))++List.drop (Int.toNat (max 0 (min cut 256))) (ix x.lasts torn))) bs6 [],iData (dSlice dInt) [.slice A1 kept.length cap1] kept,iOwnF d 78 [.slice A x.lasts.length cap,.map (some bm),.int .i64 x.left,.bool x.off],iMapF kInt bm (emap (fun s=>av s) x.fresh),iAcF (dArr 256) (.slice A x.lasts.length cap) x.lasts]:=hs320
       have hs321:Sep [] w0 (fun b=>b∈F ∨ (D b/\b<w0.heap.size)) w319 [iAr b21 75 ((aget x.fresh torn).getD (List.replicate 256 (0:UInt8))) [],iOwn b16 78 [.slice A4 x.lasts.length cap5,.map (some b13),.int .i64 (-1),.bool false] [],iMap kInt b13 (emap (fun s=>av s) []) [],iAc (dArr 256) (.slice A4 x.lasts.length cap5) (List.set x.lasts (Int.toNat torn) (List.take (Int.toNat (max 0 (min cut 256))) ((aget x.fresh torn).getD (List.replicate 256 (0:UInt8)))++List.drop (Int.toNat (max 0 (min cut 256))) (ix x.lasts torn))) bs6 [],iData (dSlice dInt) [.slice A1 kept.length cap1] kept,iOwnF d 78 [.slice A x.lasts.length cap,.map (some bm),.int .i64 x.left,.bool x.off],iMapF kInt bm (emap (fun s=>av s) x.fresh),iAcF (dArr 256) (.slice A x.lasts.length cap) x.lasts]:=by exact hs320
       exact WL_nil ⟨rfl,_,rfl,hs321,v303,v304,v305,v306,v307,v308,v309,v310,v311,v312,v313,(fun _=>rfl),trivial⟩
    .
     rintro dN vL g322 w323 ha325 ⟨hs324,v328,v329,v330,v331,v332,v333,v334,v335,v336,v337,v338,v339,_⟩ hg326 hk327
     rw [ha325 11 rfl] at hs324
     have hs340:Sep [] w0 (fun b=>b∈F ∨ (D b/\b<w0.heap.size)) w323 [iAr b21 75 ((aget x.fresh torn).getD (List.replicate 256 (0:UInt8))) [],iOwn b16 78 [.slice A4 x.lasts.length cap5,.map (some b13),.int .i64 (-1),.bool false] [],iMap kInt b13 (emap (fun s=>av s) []) [],iAc (dArr 256) (.slice A4 x.lasts.length cap5) (List.set x.lasts (Int.toNat torn) (List.take (Int.toNat (max 0 (min cut 256))) ((aget x.fresh torn).getD (List.replicate 256 (0:UInt8)))++List.drop (Int.toNat (max 0 (min cut 256))) (ix x.lasts torn))) bs6 [],iData (dSlice dInt) [.slice A1 kept.length cap1] kept,iOwnF d 78 [.slice A x.lasts.length cap,.map (some bm),.int .i64 x.left,.bool x.off],iMapF kInt bm (emap (fun s=>av s) x.fresh),iAcF (dArr 256) (.slice A x.lasts.length cap) x.lasts]:=hs324
     refine ⟨[(0,.pointer (some ⟨d,0,none⟩)),(3,.slice A1 kept.length cap1),(9,.pointer (some ⟨b16,0,none⟩))],⟨(hk327 0 rfl),(hk327 3 rfl),(hk327 9 rfl),trivial⟩,fun g341=>?_⟩
     exact ⟨List.set x.lasts (Int.toNat torn) (List.take (Int.toNat (max 0 (min cut 256))) ((aget x.fresh torn).getD (List.replicate 256 (0:UInt8)))++List.drop (Int.toNat (max 0 (min cut 256))) (ix x.lasts torn)),(by first | exact torn_some ‹_› | exact torn_none ‹_›),(hs340.pick [1,2,3,4,5,6,7] rfl (by decide) rfl),⟨rfl,rfl,rfl,trivial⟩⟩
   .
    have p342:=h27
    try simp only [lrn] at p342
    refine W_skip ?_
    exact ⟨x.lasts,(by first | exact torn_some ‹_› | exact torn_none ‹_›),(hs25.pick [1,2,3,4,5,6,7] rfl (by decide) rfl),⟨rfl,rfl,rfl,trivial⟩⟩
  .
   rintro f343 w19 ⟨l1,q346,hs344,hl345⟩
   refine W_live hl345 ?_
   intro g347
   refine W_seq ?_
   refine W_seq ?_
   refine W_region ?_
   refine S_move rfl ?_
   refine S_len Try.runUnderlying22 rfl rfl ?_
   refine S_move rfl ?_
   refine WL_nil ?_
   refine W_block ?_
   refine W_loopE (fun m f w=>∃ (i:Int) (l2:List Str),m=((kept.length:Int)-i).toNat/\(0<=i)/\(i<=kept.length)/\(l2=(kept.take i.toNat).foldl (keepStep x.fresh) (x.torn torn cut))/\Sep [] w0 (fun b=>b∈F ∨ (D b/\b<w0.heap.size)) w [iOwn b16 78 [.slice A4 x.lasts.length cap5,.map (some b13),.int .i64 (-1),.bool false] [],iMap kInt b13 (emap (fun s=>av s) []) [],iAc (dArr 256) (.slice A4 x.lasts.length cap5) l2 bs6 [],iData (dSlice dInt) [.slice A1 kept.length cap1] kept,iOwnF d 78 [.slice A x.lasts.length cap,.map (some bm),.int .i64 x.left,.bool x.off],iMapF kInt bm (emap (fun s=>av s) x.fresh),iAcF (dArr 256) (.slice A x.lasts.length cap) x.lasts]/\Live f [(0,.pointer (some ⟨d,0,none⟩)),(9,.pointer (some ⟨b16,0,none⟩)),(49,.slice A1 kept.length cap1),(50,.int .i64 (kept.length:Int)),(51,.int .i64 i)]) ?_ ?_
   . exact ⟨_,0,_,rfl,(by omega),(by omega),(by rw [q346]; rfl),hs344,⟨rfl,rfl,rfl,rfl,rfl,trivial⟩⟩
   .
    rintro _ f350 w348 ⟨i,l2,rfl,q353,q354,q355,hs351,hl352⟩
    refine W_live hl352 ?_
    intro g356
    refine W_seq ?_
    refine W_region ?_
    refine S_lss rfl rfl rfl ?_
    refine WL_nil ?_
    refine W_seq ?_
    refine W_cond rfl (fun h357=>?_) (fun h357=>?_)
    .
     have p358:=of_decide_eq_true h357
     refine W_skip ?_
     refine W_seq ?_
     refine W_block ?_
     refine W_seq ?_
     refine W_region ?_
     refine Z_index (hs351.at 3 rfl) Try.runUnderlying22 Try.sizeOf3 rfl rfl rfl (show (0:Int)<=i from by omega) (show i<((kept.length:Nat):Int) from by omega) rfl ?_
     have o362:=cell_ix (q:=(Int.toNat i) * 1) (sz:=1) (o:=0) (hs351.at 3 rfl) (Sub.self _) rfl (Nat.add_zero _).symm (show (0:Int)<=i from by omega) (show i<((kept.length:Nat):Int) from by omega)
     obtain ⟨c359,hc360,hr361⟩:=o362
     obtain ⟨rfl,r363⟩:=hr361
     have ⟨r364,r365⟩:=r363
     refine Z_load Try.isAgg3 rfl hc360 rfl ?_
     refine S_assign rfl ?_
     refine WL_nil ?_
     refine W_seq ?_
     refine W_region ?_
     refine S_move rfl ?_
     refine S_nilCheck rfl rfl ?_
     refine S_fieldAddr Try.runUnderlying78 rfl Try.sizeOf76 rfl rfl ?_
     refine S_load1 Try.isAgg76 rfl (Own.at ((hs351.at 4 rfl)).2 rfl) rfl ?_
     refine S_move rfl ?_
     refine Z_lookupOk (z0:=(List.replicate 256 (0:UInt8))) ((hs351.at 5 rfl)).2 Try.runUnderlying76 Try.runUnderlying3 Try.zeroValue75 zero78 rfl rfl rfl ?_
     refine S_move rfl ?_
     refine S_extract rfl rfl rfl ?_
     refine S_extract rfl rfl rfl ?_
     refine Z_allocAr hs351 Try.zeroValue75 zero78 rfl ?_
     intro b366 w367 hs368
     have hs368:Sep [] w0 (fun b=>b∈F ∨ (D b/\b<w0.heap.size)) w367 [iAr b366 75 (List.replicate 256 0) [],iOwn b16 78 [.slice A4 x.lasts.length cap5,.map (some b13),.int .i64 (-1),.bool false] [],iMap kInt b13 (emap (fun s=>av s) []) [],iAc (dArr 256) (.slice A4 x.lasts.length cap5) l2 bs6 [],iData (dSlice dInt) [.slice A1 kept.length cap1] kept,iOwnF d 78 [.slice A x.lasts.length cap,.map (some bm),.int .i64 x.left,.bool x.off],iMapF kInt bm (emap (fun s=>av s) x.fresh),iAcF (dArr 256) (.slice A x.lasts.length cap) x.lasts]:=hs368
     refine Z_storeAr hs368 0 rfl Try.sizeOf75 rfl rfl List.length_replicate (getD_len ok (ix kept i)) ?_
     intro w369 hs370
     have hs370:Sep [] w0 (fun b=>b∈F ∨ (D b/\b<w0.heap.size)) w369 [iAr b366 75 ((aget x.fresh (ix kept i)).getD (List.replicate 256 (0:UInt8))) [],iOwn b16 78 [.slice A4 x.lasts.length cap5,.map (some b13),.int .i64 (-1),.bool false] [],iMap kInt b13 (emap (fun s=>av s) []) [],iAc (dArr 256) (.slice A4 x.lasts.length cap5) l2 bs6 [],iData (dSlice dInt) [.slice A1 kept.length cap1] kept,iOwnF d 78 [.slice A x.lasts.length cap,.map (some bm),.int .i64 x.left,.bool x.off],iMapF kInt bm (emap (fun s=>av s) x.fresh),iAcF (dArr 256) (.slice A x.lasts.length cap) x.lasts]:=hs370
     refine S_assign rfl ?_
     refine WL_nil ?_
     refine W_seq ?_
     refine W_live (L:=[(0,.pointer (some ⟨d,0,none⟩)),(9,.pointer (some ⟨b16,0,none⟩)),(13,.int .i64 (ix kept i)),(14,.pointer (some ⟨b366,0,none⟩)),(15,.bool (Option.isSome (aget x.fresh (ix kept i)))),(49,.slice A1 kept.length cap1),(50,.int .i64 (kept.length:Int)),(51,.int .i64 i)]) ⟨rfl,rfl,rfl,rfl,rfl,rfl,rfl,rfl,trivial⟩ ?_
     intro g371
     refine W_region ?_
     refine S_move rfl ?_
     refine WL_nil ?_
     refine W_cond rfl (fun h372=>?_) (fun h372=>?_)
     .
      have p373:=h372
      try simp only [lrn] at p373
      have ⟨ht0,ht1⟩:=isSome_flen ok ‹(aget x.fresh (ix kept i)).isSome=true›
      refine W_live (L:=[(0,.pointer (some ⟨d,0,none⟩)),(9,.pointer (some ⟨b16,0,none⟩)),(13,.int .i64 (ix kept i)),(14,.pointer (some ⟨b366,0,none⟩)),(49,.slice A1 kept.length cap1),(50,.int .i64 (kept.length:Int)),(51,.int .i64 i)]) ⟨rfl,rfl,rfl,rfl,rfl,rfl,rfl,trivial⟩ ?_
      intro g374
      refine W_region_J (fun dN vL w=>Sep [] w0 (fun b=>b∈F ∨ (D b/\b<w0.heap.size)) w [iAr b366 75 ((aget x.fresh (ix kept i)).getD (List.replicate 256 (0:UInt8))) [],iOwn b16 78 [.slice A4 x.lasts.length cap5,.map (some b13),.int .i64 (-1),.bool false] [],iMap kInt b13 (emap (fun s=>av s) []) [],(bif dN 7 then (iAc (dArr 256) (.slice A4 x.lasts.length cap5) (List.set l2 (Int.toNat (ix kept i)) ((aget x.fresh (ix kept i)).getD (List.replicate 256 (0:UInt8)))) bs6 []) else (iAc (dArr 256) (.slice A4 x.lasts.length cap5) l2 bs6 [])),iData (dSlice dInt) [.slice A1 kept.length cap1] kept,iOwnF d 78 [.slice A x.lasts.length cap,.map (some bm),.int .i64 x.left,.bool x.off],iMapF kInt bm (emap (fun s=>av s) x.fresh),iAcF (dArr 256) (.slice A x.lasts.length cap) x.lasts]/\(dN 0=true->vL 0=.pointer (some ⟨b16,0,none⟩))/\(dN 1=true->vL 1=.pointer (some ⟨b16,0,none⟩))/\(dN 2=true->vL 2=.pointer (some ⟨b16,0,none⟩))/\(dN 3=true->vL 3=.slice A4 x.lasts.length cap5)/\(dN 4=true->vL 4=.int .i64 (ix kept i))/\(dN 5=true->vL 5=av ((aget x.fresh (ix kept i)).getD (List.replicate 256 (0:UInt8))))/\(dN 6=true->vL 6=.pointer (some (eA A4 ((Int.toNat (ix kept i)) * 256))))/\True) [65,66,67,68,69,70,71] rfl (by decide +kernel) _ rfl ?_ ?_ ?_
      . exact fun V=>⟨hs370,(fun h=>by cases h),(fun h=>by cases h),(fun h=>by cases h),(fun h=>by cases h),(fun h=>by cases h),(fun h=>by cases h),(fun h=>by cases h),trivial⟩
      . refine (.cons ?_ (.cons ?_ (.cons ?_ (.cons ?_ (.cons ?_ (.cons ?_ (.cons ?_ (.cons ?_ .nil))))))))
        .
         rintro dN vL g378 w379 ⟨hs380,v386,v387,v388,v389,v390,v391,v392,_⟩ hD381 hd382 hu383 hg384 hk385
         have e393:dN 7=false:=hu383 7 (by decide +kernel)
         rw [e393] at hs380
         have hs394:Sep [] w0 (fun b=>b∈F ∨ (D b/\b<w0.heap.size)) w379 [iAr b366 75 ((aget x.fresh (ix kept i)).getD (List.replicate 256 (0:UInt8))) [],iOwn b16 78 [.slice A4 x.lasts.length cap5,.map (some b13),.int .i64 (-1),.bool false] [],iMap kInt b13 (emap (fun s=>av s) []) [],iAc (dArr 256) (.slice A4 x.lasts.length cap5) l2 bs6 [],iData (dSlice dInt) [.slice A1 kept.length cap1] kept,iOwnF d 78 [.slice A x.lasts.length cap,.map (some bm),.int .i64 x.left,.bool x.off],iMapF kInt bm (emap (fun s=>av s) x.fresh),iAcF (dArr 256) (.slice A x.lasts.length cap) x.lasts]:=hs380
         refine WL_at (L:=[(9,.pointer (some ⟨b16,0,none⟩))]) ⟨(hk385 9 (by decide +kernel)),trivial⟩ ?_
         refine S_move rfl ?_
         have hs395:Sep [] w0 (fun b=>b∈F ∨ (D b/\b<w0.heap.size)) w379 [iAr b366 75 ((aget x.fresh (ix kept i)).getD (List.replicate 256 (0:UInt8))) [],iOwn b16 78 [.slice A4 x.lasts.length cap5,.map (some b13),.int .i64 (-1),.bool false] [],iMap kInt b13 (emap (fun s=>av s) []) [],(bif dN 7 then (iAc (dArr 256) (.slice A4 x.lasts.length cap5) (List.set l2 (Int.toNat (ix kept i)) ((aget x.fresh (ix kept i)).getD (List.replicate 256 (0:UInt8)))) bs6 []) else (iAc (dArr 256) (.slice A4 x.lasts.length cap5) l2 bs6 [])),iData (dSlice dInt) [.slice A1 kept.length cap1] kept,iOwnF d 78 [.slice A x.lasts.length cap,.map (some bm),.int .i64 x.left,.bool x.off],iMapF kInt bm (emap (fun s=>av s) x.fresh),iAcF (dArr 256) (.slice A x.lasts.length cap) x.lasts]:=by rw [e393]; exact hs394
         exact WL_nil ⟨rfl,_,rfl,hs395,(fun _=>rfl),v387,v388,v389,v390,v391,v392,trivial⟩
        .
         rintro dN vL g396 w397 ⟨hs398,v404,v405,v406,v407,v408,v409,v410,_⟩ hD399 hd400 hu401 hg402 hk403
         have e411:dN 0=true:=hd400 0 (by decide +kernel)
         have e412:dN 7=false:=hu401 7 (by decide +kernel)
         rw [e412] at hs398
         have hs413:Sep [] w0 (fun b=>b∈F ∨ (D b/\b<w0.heap.size)) w397 [iAr b366 75 ((aget x.fresh (ix kept i)).getD (List.replicate 256 (0:UInt8))) [],iOwn b16 78 [.slice A4 x.lasts.length cap5,.map (some b13),.int .i64 (-1),.bool false] [],iMap kInt b13 (emap (fun s=>av s) []) [],iAc (dArr 256) (.slice A4 x.lasts.length cap5) l2 bs6 [],iData (dSlice dInt) [.slice A1 kept.length cap1] kept,iOwnF d 78 [.slice A x.lasts.length cap,.map (some bm),.int .i64 x.left,.bool x.off],iMapF kInt bm (emap (fun s=>av s) x.fresh),iAcF (dArr 256) (.slice A x.lasts.length cap) x.lasts]:=hs398
         refine WL_at (L:=[(65,.pointer (some ⟨b16,0,none⟩))]) ⟨((hg402 0 65 e411 rfl).trans (v404 e411)),trivial⟩ ?_
         refine S_nilCheck rfl rfl ?_
         have hs414:Sep [] w0 (fun b=>b∈F ∨ (D b/\b<w0.heap.size)) w397 [iAr b366 75 ((aget x.fresh (ix kept i)).getD (List.replicate 256 (0:UInt8))) [],iOwn b16 78 [.slice A4 x.lasts.length cap5,.map (some b13),.int .i64 (-1),.bool false] [],iMap kInt b13 (emap (fun s=>av s) []) [],(bif dN 7 then (iAc (dArr 256) (.slice A4 x.lasts.length cap5) (List.set l2 (Int.toNat (ix kept i)) ((aget x.fresh (ix kept i)).getD (List.replicate 256 (0:UInt8)))) bs6 []) else (iAc (dArr 256) (.slice A4 x.lasts.length cap5) l2 bs6 [])),iData (dSlice dInt) [.slice A1 kept.length cap1] kept,iOwnF d 78 [.slice A x.lasts.length cap,.map (some bm),.int .i64 x.left,.bool x.off],iMapF kInt bm (emap (fun s=>av s) x.fresh),iAcF (dArr 256) (.slice A x.lasts.length cap) x.lasts]:=by rw [e412]; exact hs413
         exact WL_nil ⟨rfl,_,rfl,hs414,v404,(fun _=>rfl),v406,v407,v408,v409,v410,trivial⟩
        .
         rintro dN vL g415 w416 ⟨hs417,v423,v424,v425,v426,v427,v428,v429,_⟩ hD418 hd419 hu420 hg421 hk422
         have e430:dN 1=true:=hd419 1 (by decide +kernel)
         have e431:dN 7=false:=hu420 7 (by decide +kernel)
         rw [e431] at hs417
         have hs432:Sep [] w0 (fun b=>b∈F ∨ (D b/\b<w0.heap.size)) w416 [iAr b366 75 ((aget x.fresh (ix kept i)).getD (List.replicate 256 (0:UInt8))) [],iOwn b16 78 [.slice A4 x.lasts.length cap5,.map (some b13),.int .i64 (-1),.bool false] [],iMap kInt b13 (emap (fun s=>av s) []) [],iAc (dArr 256) (.slice A4 x.lasts.length cap5) l2 bs6 [],iData (dSlice dInt) [.slice A1 kept.length cap1] kept,iOwnF d 78 [.slice A x.lasts.length cap,.map (some bm),.int .i64 x.left,.bool x.off],iMapF kInt bm (emap (fun s=>av s) x.fresh),iAcF (dArr 256) (.slice A x.lasts.length cap) x.lasts]:=hs417
         refine WL_at (L:=[(66,.pointer (some ⟨b16,0,none⟩))]) ⟨((hg421 1 66 e430 rfl).trans (v424 e430)),trivial⟩ ?_
         refine S_fieldAddr Try.runUnderlying78 rfl Try.sizeOf72 rfl rfl ?_
         have hs433:Sep [] w0 (fun b=>b∈F ∨ (D b/\b<w0.heap.size)) w416 [iAr b366 75 ((aget x.fresh (ix kept i)).getD (List.replicate 256 (0:UInt8))) [],iOwn b16 78 [.slice A4 x.lasts.length cap5,.map (some b13),.int .i64 (-1),.bool false] [],iMap kInt b13 (emap (fun s=>av s) []) [],(bif dN 7 then (iAc (dArr 256) (.slice A4 x.lasts.length cap5) (List.set l2 (Int.toNat (ix kept i)) ((aget x.fresh (ix kept i)).getD (List.replicate 256 (0:UInt8)))) bs6 []) else (iAc (dArr 256) (.slice A4 x.lasts.length cap5) l2 bs6 [])),iData (dSlice dInt) [.slice A1 kept.length cap1] kept,iOwnF d 78 [.slice A x.lasts.length cap,.map (some bm),.int .i64 x.left,.bool x.off],iMapF kInt bm (emap (fun s=>av s) x.fresh),iAcF (dArr 256) (.slice A x.lasts.length cap) x.lasts]:=by rw [e431]; exact hs432
         exact WL_nil ⟨rfl,_,rfl,hs433,v423,v424,(fun _=>rfl),v426,v427,v428,v429,trivial⟩
        .
         rintro dN vL g434 w435 ⟨hs436,v442,v443,v444,v445,v446,v447,v448,_⟩ hD437 hd438 hu439 hg440 hk441
         have e449:dN 2=true:=hd438 2 (by decide +kernel)
         have e450:dN 7=false:=hu439 7 (by decide +kernel)
         rw [e450] at hs436
         have hs451:Sep [] w0 (fun b=>b∈F ∨ (D b/\b<w0.heap.size)) w435 [iAr b366 75 ((aget x.fresh (ix kept i)).getD (List.replicate 256 (0:UInt8))) [],iOwn b16 78 [.slice A4 x.lasts.length cap5,.map (some b13),.int .i64 (-1),.bool false] [],iMap kInt b13 (emap (fun s=>av s) []) [],iAc (dArr 256) (.slice A4 x.lasts.length cap5) l2 bs6 [],iData (dSlice dInt) [.slice A1 kept.length cap1] kept,iOwnF d 78 [.slice A x.lasts.length cap,.map (some bm),.int .i64 x.left,.bool x.off],iMapF kInt bm (emap (fun s=>av s) x.fresh),iAcF (dArr 256) (.slice A x.lasts.length cap) x.lasts]:=hs436
         refine WL_at (L:=[(67,.pointer (some ⟨b16,0,none⟩))]) ⟨((hg440 2 67 e449 rfl).trans (v444 e449)),trivial⟩ ?_
         refine S_load1 Try.isAgg72 rfl (Own.at (hs451.at 1 rfl) rfl) rfl ?_
         have hs452:Sep [] w0 (fun b=>b∈F ∨ (D b/\b<w0.heap.size)) w435 [iAr b366 75 ((aget x.fresh (ix kept i)).getD (List.replicate 256 (0:UInt8))) [],iOwn b16 78 [.slice A4 x.lasts.length cap5,.map (some b13),.int .i64 (-1),.bool false] [],iMap kInt b13 (emap (fun s=>av s) []) [],(bif dN 7 then (iAc (dArr 256) (.slice A4 x.lasts.length cap5) (List.set l2 (Int.toNat (ix kept i)) ((aget x.fresh (ix kept i)).getD (List.replicate 256 (0:UInt8)))) bs6 []) else (iAc (dArr 256) (.slice A4 x.lasts.length cap5) l2 bs6 [])),iData (dSlice dInt) [.slice A1 kept.length cap1] kept,iOwnF d 78 [.slice A x.lasts.length cap,.map (some bm),.int .i64 x.left,.bool x.off],iMapF kInt bm (emap (fun s=>av s) x.fresh),iAcF (dArr 256) (.slice A x.lasts.length cap) x.lasts]:=by rw [e450]; exact hs451
         exact WL_nil ⟨rfl,_,rfl,hs452,v442,v443,v444,(fun _=>rfl),v446,v447,v448,trivial⟩
        .
         rintro dN vL g453 w454 ⟨hs455,v461,v462,v463,v464,v465,v466,v467,_⟩ hD456 hd457 hu458 hg459 hk460
         have e468:dN 7=false:=hu458 7 (by decide +kernel)
         rw [e468] at hs455
         have hs469:Sep [] w0 (fun b=>b∈F ∨ (D b/\b<w0.heap.size)) w454 [iAr b366 75 ((aget x.fresh (ix kept i)).getD (List.replicate 256 (0:UInt8))) [],iOwn b16 78 [.slice A4 x.lasts.length cap5,.map (some b13),.int .i64 (-1),.bool false] [],iMap kInt b13 (emap (fun s=>av s) []) [],iAc (dArr 256) (.slice A4 x.lasts.length cap5) l2 bs6 [],iData (dSlice dInt) [.slice A1 kept.length cap1] kept,iOwnF d 78 [.slice A x.lasts.length cap,.map (some bm),.int .i64 x.left,.bool x.off],iMapF kInt bm (emap (fun s=>av s) x.fresh),iAcF (dArr 256) (.slice A x.lasts.length cap) x.lasts]:=hs455
         refine WL_at (L:=[(13,.int .i64 (ix kept i))]) ⟨(hk460 13 (by decide +kernel)),trivial⟩ ?_
         refine S_move rfl ?_
         have hs470:Sep [] w0 (fun b=>b∈F ∨ (D b/\b<w0.heap.size)) w454 [iAr b366 75 ((aget x.fresh (ix kept i)).getD (List.replicate 256 (0:UInt8))) [],iOwn b16 78 [.slice A4 x.lasts.length cap5,.map (some b13),.int .i64 (-1),.bool false] [],iMap kInt b13 (emap (fun s=>av s) []) [],(bif dN 7 then (iAc (dArr 256) (.slice A4 x.lasts.length cap5) (List.set l2 (Int.toNat (ix kept i)) ((aget x.fresh (ix kept i)).getD (List.replicate 256 (0:UInt8)))) bs6 []) else (iAc (dArr 256) (.slice A4 x.lasts.length cap5) l2 bs6 [])),iData (dSlice dInt) [.slice A1 kept.length cap1] kept,iOwnF d 78 [.slice A x.lasts.length cap,.map (some bm),.int .i64 x.left,.bool x.off],iMapF kInt bm (emap (fun s=>av s) x.fresh),iAcF (dArr 256) (.slice A x.lasts.length cap) x.lasts]:=by rw [e468]; exact hs469
         exact WL_nil ⟨rfl,_,rfl,hs470,v461,v462,v463,v464,(fun _=>rfl),v466,v467,trivial⟩
        .
         rintro dN vL g471 w472 ⟨hs473,v479,v480,v481,v482,v483,v484,v485,_⟩ hD474 hd475 hu476 hg477 hk478
         have e486:dN 7=false:=hu476 7 (by decide +kernel)
         rw [e486] at hs473
         have hs487:Sep [] w0 (fun b=>b∈F ∨ (D b/\b<w0.heap.size)) w472 [iAr b366 75 ((aget x.fresh (ix kept i)).getD (List.replicate 256 (0:UInt8))) [],iOwn b16 78 [.slice A4 x.lasts.length cap5,.map (some b13),.int .i64 (-1),.bool false] [],iMap kInt b13 (emap (fun s=>av s) []) [],iAc (dArr 256) (.slice A4 x.lasts.length cap5) l2 bs6 [],iData (dSlice dInt) [.slice A1 kept.length cap1] kept,iOwnF d 78 [.slice A x.lasts.length cap,.map (some bm),.int .i64 x.left,.bool x.off],iMapF kInt bm (emap (fun s=>av s) x.fresh),iAcF (dArr 256) (.slice A x.lasts.length cap) x.lasts]:=hs473
         refine WL_at (L:=[(14,.pointer (some ⟨b366,0,none⟩))]) ⟨(hk478 14 (by decide +kernel)),trivial⟩ ?_
         refine S_loadAr Try.isAgg75 Try.sizeOf75 (hs487.at 0 rfl) (getD_len ok (ix kept i)) rfl rfl ?_
         have hs488:Sep [] w0 (fun b=>b∈F ∨ (D b/\b<w0.heap.size)) w472 [iAr b366 75 ((aget x.fresh (ix kept i)).getD (List.replicate 256 (0:UInt8))) [],iOwn b16 78 [.slice A4 x.lasts.length cap5,.map (some b13),.int .i64 (-1),.bool false] [],iMap kInt b13 (emap (fun s=>av s) []) [],(bif dN 7 then (iAc (dArr 256) (.slice A4 x.lasts.length cap5) (List.set l2 (Int.toNat (ix kept i)) ((aget x.fresh (ix kept i)).getD (List.replicate 256 (0:UInt8)))) bs6 []) else (iAc (dArr 256) (.slice A4 x.lasts.length cap5) l2 bs6 [])),iData (dSlice dInt) [.slice A1 kept.length cap1] kept,iOwnF d 78 [.slice A x.lasts.length cap,.map (some bm),.int .i64 x.left,.bool x.off],iMapF kInt bm (emap (fun s=>av s) x.fresh),iAcF (dArr 256) (.slice A x.lasts.length cap) x.lasts]:=by rw [e486]; exact hs487
         exact WL_nil ⟨rfl,_,rfl,hs488,v479,v480,v481,v482,v483,(fun _=>rfl),v485,trivial⟩
        .
         rintro dN vL g489 w490 ⟨hs491,v497,v498,v499,v500,v501,v502,v503,_⟩ hD492 hd493 hu494 hg495 hk496
         have e504:dN 3=true:=hd493 3 (by decide +kernel)
         have e505:dN 4=true:=hd493 4 (by decide +kernel)
         have e506:dN 7=false:=hu494 7 (by decide +kernel)
         rw [e506] at hs491
         have hs507:Sep [] w0 (fun b=>b∈F ∨ (D b/\b<w0.heap.size)) w490 [iAr b366 75 ((aget x.fresh (ix kept i)).getD (List.replicate 256 (0:UInt8))) [],iOwn b16 78 [.slice A4 x.lasts.length cap5,.map (some b13),.int .i64 (-1),.bool false] [],iMap kInt b13 (emap (fun s=>av s) []) [],iAc (dArr 256) (.slice A4 x.lasts.length cap5) l2 bs6 [],iData (dSlice dInt) [.slice A1 kept.length cap1] kept,iOwnF d 78 [.slice A x.lasts.length cap,.map (some bm),.int .i64 x.left,.bool x.off],iMapF kInt bm (emap (fun s=>av s) x.fresh),iAcF (dArr 256) (.slice A x.lasts.length cap) x.lasts]:=hs491
         refine WL_at (L:=[(68,.slice A4 x.lasts.length cap5),(69,.int .i64 (ix kept i))]) ⟨((hg495 3 68 e504 rfl).trans (v500 e504)),((hg495 4 69 e505 rfl).trans (v501 e505)),trivial⟩ ?_
         refine Z_indexAc (hs507.at 3 rfl) Try.runUnderlying72 Try.sizeOf75 rfl rfl (show (0:Int)<=(ix kept i) from by omega) (show (ix kept i)<((x.lasts.length:Nat):Int) from by omega) rfl ?_
         have hs508:Sep [] w0 (fun b=>b∈F ∨ (D b/\b<w0.heap.size)) w490 [iAr b366 75 ((aget x.fresh (ix kept i)).getD (List.replicate 256 (0:UInt8))) [],iOwn b16 78 [.slice A4 x.lasts.length cap5,.map (some b13),.int .i64 (-1),.bool false] [],iMap kInt b13 (emap (fun s=>av s) []) [],(bif dN 7 then (iAc (dArr 256) (.slice A4 x.lasts.length cap5) (List.set l2 (Int.toNat (ix kept i)) ((aget x.fresh (ix kept i)).getD (List.replicate 256 (0:UInt8)))) bs6 []) else (iAc (dArr 256) (.slice A4 x.lasts.length cap5) l2 bs6 [])),iData (dSlice dInt) [.slice A1 kept.length cap1] kept,iOwnF d 78 [.slice A x.lasts.length cap,.map (some bm),.int .i64 x.left,.bool x.off],iMapF kInt bm (emap (fun s=>av s) x.fresh),iAcF (dArr 256) (.slice A x.lasts.length cap) x.lasts]:=by rw [e506]; exact hs507
         exact WL_nil ⟨rfl,_,rfl,hs508,v497,v498,v499,v500,v501,v502,(fun _=>rfl),trivial⟩
        .
         rintro dN vL g509 w510 ⟨hs511,v517,v518,v519,v520,v521,v522,v523,_⟩ hD512 hd513 hu514 hg515 hk516
         have e524:dN 5=true:=hd513 5 (by decide +kernel)
         have e525:dN 6=true:=hd513 6 (by decide +kernel)
         have e526:dN 7=false:=hD512
         rw [e526] at hs511
         have hs527:Sep [] w0 (fun b=>b∈F ∨ (D b/\b<w0.heap.size)) w510 [iAr b366 75 ((aget x.fresh (ix kept i)).getD (List.replicate 256 (0:UInt8))) [],iOwn b16 78 [.slice A4 x.lasts.length cap5,.map (some b13),.int .i64 (-1),.bool false] [],iMap kInt b13 (emap (fun s=>av s) []) [],iAc (dArr 256) (.slice A4 x.lasts.length cap5) l2 bs6 [],iData (dSlice dInt) [.slice A1 kept.length cap1] kept,iOwnF d 78 [.slice A x.lasts.length cap,.map (some bm),.int .i64 x.left,.bool x.off],iMapF kInt bm (emap (fun s=>av s) x.fresh),iAcF (dArr 256) (.slice A x.lasts.length cap) x.lasts]:=hs511
         refine WL_at (L:=[(70,av ((aget x.fresh (ix kept i)).getD (List.replicate 256 (0:UInt8)))),(71,.pointer (some (eA A4 ((Int.toNat (ix kept i)) * 256))))]) ⟨((hg515 5 70 e524 rfl).trans (v522 e524)),((hg515 6 71 e525 rfl).trans (v523 e525)),trivial⟩ ?_
         refine Z_storeEl (o:=0) (sz:=256) hs527 3 rfl Try.sizeOf75 rfl rfl (Nat.add_zero _).symm (av_cells _) (by rw [List.length_map]; exact (getD_len ok (ix kept i))) (show (0:Int)<=(ix kept i) from by omega) (show (ix kept i)<((x.lasts.length:Nat):Int) from by omega) (fun c0 _ hc=>dArr_splice (getD_len ok (ix kept i)) c0 hc) (bv_plain _) ?_
         intro w528 hs529
         have hs529:Sep [] w0 (fun b=>b∈F ∨ (D b/\b<w0.heap.size)) w528 [iAr b366 75 ((aget x.fresh (ix kept i)).getD (List.replicate 256 (0:UInt8))) [],iOwn b16 78 [.slice A4 x.lasts.length cap5,.map (some b13),.int .i64 (-1),.bool false] [],iMap kInt b13 (emap (fun s=>av s) []) [],iAc (dArr 256) (.slice A4 x.lasts.length cap5) (List.set l2 (Int.toNat (ix kept i)) ((aget x.fresh (ix kept i)).getD (List.replicate 256 (0:UInt8)))) bs6 [],iData (dSlice dInt) [.slice A1 kept.length cap1] kept,iOwnF d 78 [.slice A x.lasts.length cap,.map (some bm),.int .i64 x.left,.bool x.off],iMapF kInt bm (emap (fun s=>av s) x.fresh),iAcF (dArr 256) (.slice A x.lasts.length cap) x.lasts]:=hs529
         have hs530:Sep [] w0 (fun b=>b∈F ∨ (D b/\b<w0.heap.size)) w528 [iAr b366 75 ((aget x.fresh (ix kept i)).getD (List.replicate 256 (0:UInt8))) [],iOwn b16 78 [.slice A4 x.lasts.length cap5,.map (some b13),.int .i64 (-1),.bool false] [],iMap kInt b13 (emap (fun s=>av s) []) [],iAc (dArr 256) (.slice A4 x.lasts.length cap5) (List.set l2 (Int.toNat (ix kept i)) ((aget x.fresh (ix kept i)).getD (List.replicate 256 (0:UInt8)))) bs6 [],iData (dSlice dInt) [.slice A1 kept.length cap1] kept,iOwnF d 78 [.slice A x.lasts.length cap,.map (some bm),.int .i64 x.left,.bool x.off],iMapF kInt bm (emap (fun s=>av s) x.fresh),iAcF (dArr 256) (.slice A x.lasts.length cap) x.lasts]:=by exact hs529
         exact WL_nil ⟨rfl,undef,rfl,hs530,v517,v518,v519,v520,v521,v522,v523,trivial⟩
      .
       rintro dN vL g531 w532 ha534 ⟨hs533,v537,v538,v539,v540,v541,v542,v543,_⟩ hg535 hk536
       rw [ha534 7 rfl] at hs533
       have hs544:Sep [] w0 (fun b=>b∈F ∨ (D b/\b<w0.heap.size)) w532 [iAr b366 75 ((aget x.fresh (ix kept i)).getD (List.replicate 256 (0:UInt8))) [],iOwn b16 78 [.slice A4 x.lasts.length cap5,.map (some b13),.int .i64 (-1),.bool false] [],iMap kInt b13 (emap (fun s=>av s) []) [],iAc (dArr 256) (.slice A4 x.lasts.length cap5) (List.set l2 (Int.toNat (ix kept i)) ((aget x.fresh (ix kept i)).getD (List.replicate 256 (0:UInt8)))) bs6 [],iData (dSlice dInt) [.slice A1 kept.length cap1] kept,iOwnF d 78 [.slice A x.lasts.length cap,.map (some bm),.int .i64 x.left,.bool x.off],iMapF kInt bm (emap (fun s=>av s) x.fresh),iAcF (dArr 256) (.slice A x.lasts.length cap) x.lasts]:=hs533
       refine ⟨[(0,.pointer (some ⟨d,0,none⟩)),(9,.pointer (some ⟨b16,0,none⟩)),(49,.slice A1 kept.length cap1),(50,.int .i64 (kept.length:Int)),(51,.int .i64 i)],⟨(hk536 0 rfl),(hk536 9 rfl),(hk536 49 rfl),(hk536 50 rfl),(hk536 51 rfl),trivial⟩,fun g545=>?_⟩
       refine W_region ?_
       refine S_add rfl rfl (by omega) rfl ?_
       refine S_move rfl ?_
       refine WL_nil ?_
       exact ⟨_,(by omega),i+1,List.set l2 (Int.toNat (ix kept i)) ((aget x.fresh (ix kept i)).getD (List.replicate 256 (0:UInt8))),rfl,(by omega),(by omega),(by first | exact keep_some q355 (by omega) (by omega) ‹_› | exact keep_none q355 (by omega) (by omega) ‹_›),(hs544.pick [1,2,3,4,5,6,7] rfl (by decide) rfl),⟨rfl,rfl,rfl,rfl,rfl,trivial⟩⟩
     .
      have p546:=h372
      try simp only [lrn] at p546
      refine W_skip ?_
      refine W_region ?_
      refine S_add rfl rfl (by omega) rfl ?_
      refine S_move rfl ?_
      refine WL_nil ?_
      exact ⟨_,(by omega),i+1,l2,rfl,(by omega),(by omega),(by first | exact keep_some q355 (by omega) (by omega) ‹_› | exact keep_none q355 (by omega) (by omega) ‹_›),(hs370.pick [1,2,3,4,5,6,7] rfl (by decide) rfl),⟨rfl,rfl,rfl,rfl,rfl,trivial⟩⟩
    .
     have p547:=of_decide_eq_false h357
     refine W_exit ?_
     refine W_seq ?_
     refine W_region ?_
     refine S_move rfl ?_
     refine S_assign rfl ?_
     refine WL_nil ?_
     refine W_ret ?_
     show ∃ d2 F2,(Value.pointer (some ⟨b16,0,none⟩))=.pointer (some ⟨d2,0,none⟩)/\DkIs d2 w348 (x.crash torn cut kept) F2/\Ext [] w0 w348/\∀ b∈F2,w0.heap.size<=b
     have ⟨hc,ht⟩:=(DkIs.close (hs351.pick [0,1,2] rfl (by decide) rfl) (Ac.bs1 ((hs351.pick [0,1,2] rfl (by decide) rfl).at 2 rfl)))
     have e:l2=(x.crash torn cut kept).lasts:=by rw [q355,List.take_of_length_le (by omega)]; rfl
     subst e
     exact ⟨_,_,rfl,hc,ht.1,fun b hb=>(ht.2 b hb).elim (fun h=>by cases h) id⟩
theorem wrong0_ok {w0:World} {d:Nat} {x:Dk} {F:List Nat} (h:DkIs d w0 x F) (ok:x.Ok):CallR Try.prog 54 [.pointer (some ⟨d,0,none⟩),.int .i64 0] w0 (fun v w'=>v=.int .i64 0/\w'=w0):=by
 have e:x.wrong 0=0:=by have:=ok.pos; simp only [Dk.wrong]; rw [if_neg (by omega)]
 have:=wrong_ok h ok 0
 rwa [e] at this
theorem flush_ok {w0:World} {d:Nat} {x:Dk} {F:List Nat} (h:DkIs d w0 x F) (ok:x.Ok) :
  CallR Try.prog 50 [.pointer (some ⟨d,0,none⟩)] w0 (fun v w'=>v=errv 58 x.flush.1/\∃ F',DkIs d w' x.flush.2 F'/\Turn w0 w' F F'):=by
 have hs0:=Sep.one (o:=obDk d) (Z:=fun _=>False) h (fun _ h=>h.elim) (fun _ _ h=>h)
 refine Call1 Try.func50 rfl rfl rfl rfl ?_
 refine W_seq ?_
 refine W_region ?_
 refine S_assign rfl ?_
 refine WL_nil ?_
 refine W_seq ?_
 refine W_seq ?_
 refine W_region ?_
 refine S_move rfl ?_
 refine S_move rfl ?_
 refine S_callQ Try.call54 rfl (wrong0_ok (hs0.at 0 rfl) ok) rfl ?_
 have hz5:=act_ok (hs0.at 0 rfl) ok 0
 refine S_callE Try.call58 rfl hz5 rfl ?_
 rintro w1 ⟨F2,h3,t4⟩
 have hs6:Sep F w0 (fun _=>False) w1 [iOb (obDk d) ((x.act 0).2) F2 F]:=hs0.turn 0 rfl h3 t4
 refine S_assign rfl ?_
 refine WL_nil ?_
 refine W_seq ?_
 refine W_region ?_
 refine S_move rfl ?_
 refine S_neqE (Te:=58) (e:=(x.act 0).1) Try.runUnderlying32 rfl rfl ?_
 refine WL_nil ?_
 refine W_cond rfl (fun h8=>?_) (fun h8=>?_)
 .
  have p9:=of_decide_eq_true h8
  refine W_seq ?_
  refine W_region ?_
  refine S_move rfl ?_
  refine S_assign rfl ?_
  refine WL_nil ?_
  refine W_ret ?_
  show (errv 58 ((x.act 0).1))=errv 58 x.flush.1/\∃ F',DkIs d w1 x.flush.2 F'/\Turn w0 w1 F F'
  rw [flush_err ‹_›]
  exact ⟨rfl,_,hs6.at 0 rfl,hs6.ext,fun b hb=>(hs6.org 0 rfl b hb)⟩
 .
  have p10:=of_decide_eq_false h8
  have hz:(x.act 0).1=0:=Classical.not_not.1 p10
  refine W_skip ?_
  refine W_seq ?_
  refine W_seq ?_
  refine W_region ?_
  refine S_move rfl ?_
  have hz18:=dirty_ok (hs6.at 0 rfl) (act_Ok ok 0)
  refine S_call3 Try.call59 rfl hz18 rfl ?_
  rintro A11 cap12 bs13 w14 ⟨ha15,e16,hf17⟩
  have hs19:Sep F w0 (fun _=>False) w14 [iAc dInt (.slice A11 (((x.act 0).2).dirty.length) cap12) (((x.act 0).2).dirty) bs13 [],iOb (obDk d) ((x.act 0).2) F2 F]:=hs6.madeAc e16 ha15 hf17
  refine S_len Try.runUnderlying22 rfl rfl ?_
  have ⟨A20,cap21,bm22,bs23,hs24⟩:=Sep.openDk (hs19.pick [1,0] rfl (by decide) rfl)
  refine S_move rfl ?_
  refine WL_nil ?_
  refine W_block ?_
  refine W_loopE (fun m f w=>∃ (i:Int) (la:List Str) (fr:List (Int×Str)),m=(((x.act 0).2.dirty.length:Int)-i).toNat/\(0<=i)/\(i<=(x.act 0).2.dirty.length)/\((la,fr)=((x.act 0).2.dirty.take i.toNat).foldl flushStep ((x.act 0).2.lasts,(x.act 0).2.fresh))/\(∀ j s,aget fr j=some s->s.length=256)/\Sep F w0 (fun _=>False) w [iOwn d 78 [.slice A20 (((x.act 0).2).lasts.length) cap21,.map (some bm22),.int .i64 (((x.act 0).2).left),.bool (((x.act 0).2).off)] F,iMap kInt bm22 (emap (fun s=>av s) fr) F,iAc (dArr 256) (.slice A20 (((x.act 0).2).lasts.length) cap21) la bs23 F,iAc dInt (.slice A11 (((x.act 0).2).dirty.length) cap12) (((x.act 0).2).dirty) bs13 []]/\Live f [(0,.pointer (some ⟨d,0,none⟩)),(14,.slice A11 (((x.act 0).2).dirty.length) cap12),(15,.int .i64 (((x.act 0).2).dirty.length:Int)),(16,.int .i64 i)]) ?_ ?_
  . exact ⟨_,0,_,_,rfl,(by omega),(by omega),rfl,(fun j s hs=>(aget_flen (act_Ok ok 0) hs).1),hs24,⟨rfl,rfl,rfl,rfl,trivial⟩⟩
  .
   rintro _ f27 w25 ⟨i,la,fr,rfl,q30,q31,q32,q33,hs28,hl29⟩
   refine W_live hl29 ?_
   intro g34
   have hdl:=dirty_len (act_Ok ok 0)
   refine W_seq ?_
   refine W_region ?_
   refine S_lss rfl rfl rfl ?_
   refine WL_nil ?_
   refine W_seq ?_
   refine W_cond rfl (fun h35=>?_) (fun h35=>?_)
   .
    have p36:=of_decide_eq_true h35
    refine W_skip ?_
    refine W_seq ?_
    refine W_block ?_
    refine W_seq ?_
    refine W_region ?_
    refine Z_indexAc (hs28.at 3 rfl) Try.runUnderlying22 Try.sizeOf3 rfl rfl (show (0:Int)<=i from by omega) (show i<((((x.act 0).2).dirty.length:Nat):Int) from by omega) rfl ?_
    have o40:=cell_ac (q:=(Int.toNat i) * 1) (sz:=1) (o:=0) (hs28.at 3 rfl) (Sub.self _) rfl (Nat.add_zero _).symm (show (0:Int)<=i from by omega) (show i<((((x.act 0).2).dirty.length:Nat):Int) from by omega)
    obtain ⟨c37,hc38,hr39⟩:=o40
    obtain ⟨rfl,r41⟩:=hr39
    have ⟨r42,r43⟩:=r41
    refine Z_load Try.isAgg3 rfl hc38 rfl ?_
    refine S_assign rfl ?_
    have hdi:=dirty_in (act_Ok ok 0) (i:=i) (by omega) (by omega)
    refine WL_nil ?_
    refine W_seq ?_
    refine W_live (L:=[(0,.pointer (some ⟨d,0,none⟩)),(5,.int .i64 (ix (((x.act 0).2).dirty) i)),(14,.slice A11 (((x.act 0).2).dirty.length) cap12),(15,.int .i64 (((x.act 0).2).dirty.length:Int)),(16,.int .i64 i)]) ⟨rfl,rfl,rfl,rfl,rfl,trivial⟩ ?_
    intro g44
    refine W_region_J (fun dN vL w=>Sep F w0 (fun _=>False) w [iOwn d 78 [.slice A20 (((x.act 0).2).lasts.length) cap21,.map (some bm22),.int .i64 (((x.act 0).2).left),.bool (((x.act 0).2).off)] F,iMap kInt bm22 (emap (fun s=>av s) fr) F,(bif dN 12 then (iAc (dArr 256) (.slice A20 (((x.act 0).2).lasts.length) cap21) (List.set la (Int.toNat (ix (((x.act 0).2).dirty) i)) ((aget fr (ix (((x.act 0).2).dirty) i)).getD (List.replicate 256 (0:UInt8)))) bs23 F) else (iAc (dArr 256) (.slice A20 (((x.act 0).2).lasts.length) cap21) la bs23 F)),iAc dInt (.slice A11 (((x.act 0).2).dirty.length) cap12) (((x.act 0).2).dirty) bs13 []]/\(dN 0=true->vL 0=.pointer (some ⟨d,0,none⟩))/\(dN 1=true->vL 1=.pointer (some ⟨d,0,none⟩))/\(dN 2=true->vL 2=.pointer (some ⟨d,0,none⟩))/\(dN 3=true->vL 3=.slice A20 (((x.act 0).2).lasts.length) cap21)/\(dN 4=true->vL 4=.int .i64 (ix (((x.act 0).2).dirty) i))/\(dN 5=true->vL 5=.pointer (some ⟨d,0,none⟩))/\(dN 6=true->vL 6=.pointer (some ⟨d,0,none⟩))/\(dN 7=true->vL 7=.pointer (some ⟨d,1,none⟩))/\(dN 8=true->vL 8=.map (some bm22))/\(dN 9=true->vL 9=.int .i64 (ix (((x.act 0).2).dirty) i))/\(dN 10=true->vL 10=av ((aget fr (ix (((x.act 0).2).dirty) i)).getD (List.replicate 256 (0:UInt8))))/\(dN 11=true->vL 11=.pointer (some (eA A20 ((Int.toNat (ix (((x.act 0).2).dirty) i)) * 256))))/\True) [20,21,22,23,24,25,26,27,28,29,30,31] rfl (by decide +kernel) _ rfl ?_ ?_ ?_
    . exact fun V=>⟨hs28,(fun h=>by cases h),(fun h=>by cases h),(fun h=>by cases h),(fun h=>by cases h),(fun h=>by cases h),(fun h=>by cases h),(fun h=>by cases h),(fun h=>by cases h),(fun h=>by cases h),(fun h=>by cases h),(fun h=>by cases h),(fun h=>by cases h),trivial⟩
    . refine (.cons ?_ (.cons ?_ (.cons ?_ (.cons ?_ (.cons ?_ (.cons ?_ (.cons ?_ (.cons ?_ (.cons ?_ (.cons ?_ (.cons ?_ (.cons ?_ (.cons ?_ .nil)))))))))))))
      .
       rintro dN vL g48 w49 ⟨hs50,v56,v57,v58,v59,v60,v61,v62,v63,v64,v65,v66,v67,_⟩ hD51 hd52 hu53 hg54 hk55
       have e68:dN 12=false:=hu53 12 (by decide +kernel)
       rw [e68] at hs50
       have hs69:Sep F w0 (fun _=>False) w49 [iOwn d 78 [.slice A20 (((x.act 0).2).lasts.length) cap21,.map (some bm22),.int .i64 (((x.act 0).2).left),.bool (((x.act 0).2).off)] F,iMap kInt bm22 (emap (fun s=>av s) fr) F,iAc (dArr 256) (.slice A20 (((x.act 0).2).lasts.length) cap21) la bs23 F,iAc dInt (.slice A11 (((x.act 0).2).dirty.length) cap12) (((x.act 0).2).dirty) bs13 []]:=hs50
       refine WL_at (L:=[(0,.pointer (some ⟨d,0,none⟩))]) ⟨(hk55 0 (by decide +kernel)),trivial⟩ ?_
       refine S_move rfl ?_
       have hs70:Sep F w0 (fun _=>False) w49 [iOwn d 78 [.slice A20 (((x.act 0).2).lasts.length) cap21,.map (some bm22),.int .i64 (((x.act 0).2).left),.bool (((x.act 0).2).off)] F,iMap kInt bm22 (emap (fun s=>av s) fr) F,(bif dN 12 then (iAc (dArr 256) (.slice A20 (((x.act 0).2).lasts.length) cap21) (List.set la (Int.toNat (ix (((x.act 0).2).dirty) i)) ((aget fr (ix (((x.act 0).2).dirty) i)).getD (List.replicate 256 (0:UInt8)))) bs23 F) else (iAc (dArr 256) (.slice A20 (((x.act 0).2).lasts.length) cap21) la bs23 F)),iAc dInt (.slice A11 (((x.act 0).2).dirty.length) cap12) (((x.act 0).2).dirty) bs13 []]:=by rw [e68]; exact hs69
       exact WL_nil ⟨rfl,_,rfl,hs70,(fun _=>rfl),v57,v58,v59,v60,v61,v62,v63,v64,v65,v66,v67,trivial⟩
      .
       rintro dN vL g71 w72 ⟨hs73,v79,v80,v81,v82,v83,v84,v85,v86,v87,v88,v89,v90,_⟩ hD74 hd75 hu76 hg77 hk78
       have e91:dN 0=true:=hd75 0 (by decide +kernel)
       have e92:dN 12=false:=hu76 12 (by decide +kernel)
       rw [e92] at hs73
       have hs93:Sep F w0 (fun _=>False) w72 [iOwn d 78 [.slice A20 (((x.act 0).2).lasts.length) cap21,.map (some bm22),.int .i64 (((x.act 0).2).left),.bool (((x.act 0).2).off)] F,iMap kInt bm22 (emap (fun s=>av s) fr) F,iAc (dArr 256) (.slice A20 (((x.act 0).2).lasts.length) cap21) la bs23 F,iAc dInt (.slice A11 (((x.act 0).2).dirty.length) cap12) (((x.act 0).2).dirty) bs13 []]:=hs73
       refine WL_at (L:=[(20,.pointer (some ⟨d,0,none⟩))]) ⟨((hg77 0 20 e91 rfl).trans (v79 e91)),trivial⟩ ?_
       refine S_nilCheck rfl rfl ?_
       have hs94:Sep F w0 (fun _=>False) w72 [iOwn d 78 [.slice A20 (((x.act 0).2).lasts.length) cap21,.map (some bm22),.int .i64 (((x.act 0).2).left),.bool (((x.act 0).2).off)] F,iMap kInt bm22 (emap (fun s=>av s) fr) F,(bif dN 12 then (iAc (dArr 256) (.slice A20 (((x.act 0).2).lasts.length) cap21) (List.set la (Int.toNat (ix (((x.act 0).2).dirty) i)) ((aget fr (ix (((x.act 0).2).dirty) i)).getD (List.replicate 256 (0:UInt8)))) bs23 F) else (iAc (dArr 256) (.slice A20 (((x.act 0).2).lasts.length) cap21) la bs23 F)),iAc dInt (.slice A11 (((x.act 0).2).dirty.length) cap12) (((x.act 0).2).dirty) bs13 []]:=by rw [e92]; exact hs93
       exact WL_nil ⟨rfl,_,rfl,hs94,v79,(fun _=>rfl),v81,v82,v83,v84,v85,v86,v87,v88,v89,v90,trivial⟩
      .
       rintro dN vL g95 w96 ⟨hs97,v103,v104,v105,v106,v107,v108,v109,v110,v111,v112,v113,v114,_⟩ hD98 hd99 hu100 hg101 hk102
       have e115:dN 1=true:=hd99 1 (by decide +kernel)
       have e116:dN 12=false:=hu100 12 (by decide +kernel)
       rw [e116] at hs97
       have hs117:Sep F w0 (fun _=>False) w96 [iOwn d 78 [.slice A20 (((x.act 0).2).lasts.length) cap21,.map (some bm22),.int .i64 (((x.act 0).2).left),.bool (((x.act 0).2).off)] F,iMap kInt bm22 (emap (fun s=>av s) fr) F,iAc (dArr 256) (.slice A20 (((x.act 0).2).lasts.length) cap21) la bs23 F,iAc dInt (.slice A11 (((x.act 0).2).dirty.length) cap12) (((x.act 0).2).dirty) bs13 []]:=hs97
       refine WL_at (L:=[(21,.pointer (some ⟨d,0,none⟩))]) ⟨((hg101 1 21 e115 rfl).trans (v104 e115)),trivial⟩ ?_
       refine S_fieldAddr Try.runUnderlying78 rfl Try.sizeOf72 rfl rfl ?_
       have hs118:Sep F w0 (fun _=>False) w96 [iOwn d 78 [.slice A20 (((x.act 0).2).lasts.length) cap21,.map (some bm22),.int .i64 (((x.act 0).2).left),.bool (((x.act 0).2).off)] F,iMap kInt bm22 (emap (fun s=>av s) fr) F,(bif dN 12 then (iAc (dArr 256) (.slice A20 (((x.act 0).2).lasts.length) cap21) (List.set la (Int.toNat (ix (((x.act 0).2).dirty) i)) ((aget fr (ix (((x.act 0).2).dirty) i)).getD (List.replicate 256 (0:UInt8)))) bs23 F) else (iAc (dArr 256) (.slice A20 (((x.act 0).2).lasts.length) cap21) la bs23 F)),iAc dInt (.slice A11 (((x.act 0).2).dirty.length) cap12) (((x.act 0).2).dirty) bs13 []]:=by rw [e116]; exact hs117
       exact WL_nil ⟨rfl,_,rfl,hs118,v103,v104,(fun _=>rfl),v106,v107,v108,v109,v110,v111,v112,v113,v114,trivial⟩
      .
       rintro dN vL g119 w120 ⟨hs121,v127,v128,v129,v130,v131,v132,v133,v134,v135,v136,v137,v138,_⟩ hD122 hd123 hu124 hg125 hk126
       have e139:dN 2=true:=hd123 2 (by decide +kernel)
       have e140:dN 12=false:=hu124 12 (by decide +kernel)
       rw [e140] at hs121
       have hs141:Sep F w0 (fun _=>False) w120 [iOwn d 78 [.slice A20 (((x.act 0).2).lasts.length) cap21,.map (some bm22),.int .i64 (((x.act 0).2).left),.bool (((x.act 0).2).off)] F,iMap kInt bm22 (emap (fun s=>av s) fr) F,iAc (dArr 256) (.slice A20 (((x.act 0).2).lasts.length) cap21) la bs23 F,iAc dInt (.slice A11 (((x.act 0).2).dirty.length) cap12) (((x.act 0).2).dirty) bs13 []]:=hs121
       refine WL_at (L:=[(22,.pointer (some ⟨d,0,none⟩))]) ⟨((hg125 2 22 e139 rfl).trans (v129 e139)),trivial⟩ ?_
       refine S_load1 Try.isAgg72 rfl (Own.at (hs141.at 0 rfl) rfl) rfl ?_
       have hs142:Sep F w0 (fun _=>False) w120 [iOwn d 78 [.slice A20 (((x.act 0).2).lasts.length) cap21,.map (some bm22),.int .i64 (((x.act 0).2).left),.bool (((x.act 0).2).off)] F,iMap kInt bm22 (emap (fun s=>av s) fr) F,(bif dN 12 then (iAc (dArr 256) (.slice A20 (((x.act 0).2).lasts.length) cap21) (List.set la (Int.toNat (ix (((x.act 0).2).dirty) i)) ((aget fr (ix (((x.act 0).2).dirty) i)).getD (List.replicate 256 (0:UInt8)))) bs23 F) else (iAc (dArr 256) (.slice A20 (((x.act 0).2).lasts.length) cap21) la bs23 F)),iAc dInt (.slice A11 (((x.act 0).2).dirty.length) cap12) (((x.act 0).2).dirty) bs13 []]:=by rw [e140]; exact hs141
       exact WL_nil ⟨rfl,_,rfl,hs142,v127,v128,v129,(fun _=>rfl),v131,v132,v133,v134,v135,v136,v137,v138,trivial⟩
      .
       rintro dN vL g143 w144 ⟨hs145,v151,v152,v153,v154,v155,v156,v157,v158,v159,v160,v161,v162,_⟩ hD146 hd147 hu148 hg149 hk150
       have e163:dN 12=false:=hu148 12 (by decide +kernel)
       rw [e163] at hs145
       have hs164:Sep F w0 (fun _=>False) w144 [iOwn d 78 [.slice A20 (((x.act 0).2).lasts.length) cap21,.map (some bm22),.int .i64 (((x.act 0).2).left),.bool (((x.act 0).2).off)] F,iMap kInt bm22 (emap (fun s=>av s) fr) F,iAc (dArr 256) (.slice A20 (((x.act 0).2).lasts.length) cap21) la bs23 F,iAc dInt (.slice A11 (((x.act 0).2).dirty.length) cap12) (((x.act 0).2).dirty) bs13 []]:=hs145
       refine WL_at (L:=[(5,.int .i64 (ix (((x.act 0).2).dirty) i))]) ⟨(hk150 5 (by decide +kernel)),trivial⟩ ?_
       refine S_move rfl ?_
       have hs165:Sep F w0 (fun _=>False) w144 [iOwn d 78 [.slice A20 (((x.act 0).2).lasts.length) cap21,.map (some bm22),.int .i64 (((x.act 0).2).left),.bool (((x.act 0).2).off)] F,iMap kInt bm22 (emap (fun s=>av s) fr) F,(bif dN 12 then (iAc (dArr 256) (.slice A20 (((x.act 0).2).lasts.length) cap21) (List.set la (Int.toNat (ix (((x.act 0).2).dirty) i)) ((aget fr (ix (((x.act 0).2).dirty) i)).getD (List.replicate 256 (0:UInt8)))) bs23 F) else (iAc (dArr 256) (.slice A20 (((x.act 0).2).lasts.length) cap21) la bs23 F)),iAc dInt (.slice A11 (((x.act 0).2).dirty.length) cap12) (((x.act 0).2).dirty) bs13 []]:=by rw [e163]; exact hs164
       exact WL_nil ⟨rfl,_,rfl,hs165,v151,v152,v153,v154,(fun _=>rfl),v156,v157,v158,v159,v160,v161,v162,trivial⟩
      .
       rintro dN vL g166 w167 ⟨hs168,v174,v175,v176,v177,v178,v179,v180,v181,v182,v183,v184,v185,_⟩ hD169 hd170 hu171 hg172 hk173
       have e186:dN 12=false:=hu171 12 (by decide +kernel)
       rw [e186] at hs168
       have hs187:Sep F w0 (fun _=>False) w167 [iOwn d 78 [.slice A20 (((x.act 0).2).lasts.length) cap21,.map (some bm22),.int .i64 (((x.act 0).2).left),.bool (((x.act 0).2).off)] F,iMap kInt bm22 (emap (fun s=>av s) fr) F,iAc (dArr 256) (.slice A20 (((x.act 0).2).lasts.length) cap21) la bs23 F,iAc dInt (.slice A11 (((x.act 0).2).dirty.length) cap12) (((x.act 0).2).dirty) bs13 []]:=hs168
       refine WL_at (L:=[(0,.pointer (some ⟨d,0,none⟩))]) ⟨(hk173 0 (by decide +kernel)),trivial⟩ ?_
       refine S_move rfl ?_
       have hs188:Sep F w0 (fun _=>False) w167 [iOwn d 78 [.slice A20 (((x.act 0).2).lasts.length) cap21,.map (some bm22),.int .i64 (((x.act 0).2).left),.bool (((x.act 0).2).off)] F,iMap kInt bm22 (emap (fun s=>av s) fr) F,(bif dN 12 then (iAc (dArr 256) (.slice A20 (((x.act 0).2).lasts.length) cap21) (List.set la (Int.toNat (ix (((x.act 0).2).dirty) i)) ((aget fr (ix (((x.act 0).2).dirty) i)).getD (List.replicate 256 (0:UInt8)))) bs23 F) else (iAc (dArr 256) (.slice A20 (((x.act 0).2).lasts.length) cap21) la bs23 F)),iAc dInt (.slice A11 (((x.act 0).2).dirty.length) cap12) (((x.act 0).2).dirty) bs13 []]:=by rw [e186]; exact hs187
       exact WL_nil ⟨rfl,_,rfl,hs188,v174,v175,v176,v177,v178,(fun _=>rfl),v180,v181,v182,v183,v184,v185,trivial⟩
      .
       rintro dN vL g189 w190 ⟨hs191,v197,v198,v199,v200,v201,v202,v203,v204,v205,v206,v207,v208,_⟩ hD192 hd193 hu194 hg195 hk196
       have e209:dN 5=true:=hd193 5 (by decide +kernel)
       have e210:dN 12=false:=hu194 12 (by decide +kernel)
       rw [e210] at hs191
       have hs211:Sep F w0 (fun _=>False) w190 [iOwn d 78 [.slice A20 (((x.act 0).2).lasts.length) cap21,.map (some bm22),.int .i64 (((x.act 0).2).left),.bool (((x.act 0).2).off)] F,iMap kInt bm22 (emap (fun s=>av s) fr) F,iAc (dArr 256) (.slice A20 (((x.act 0).2).lasts.length) cap21) la bs23 F,iAc dInt (.slice A11 (((x.act 0).2).dirty.length) cap12) (((x.act 0).2).dirty) bs13 []]:=hs191
       refine WL_at (L:=[(25,.pointer (some ⟨d,0,none⟩))]) ⟨((hg195 5 25 e209 rfl).trans (v202 e209)),trivial⟩ ?_
       refine S_nilCheck rfl rfl ?_
       have hs212:Sep F w0 (fun _=>False) w190 [iOwn d 78 [.slice A20 (((x.act 0).2).lasts.length) cap21,.map (some bm22),.int .i64 (((x.act 0).2).left),.bool (((x.act 0).2).off)] F,iMap kInt bm22 (emap (fun s=>av s) fr) F,(bif dN 12 then (iAc (dArr 256) (.slice A20 (((x.act 0).2).lasts.length) cap21) (List.set la (Int.toNat (ix (((x.act 0).2).dirty) i)) ((aget fr (ix (((x.act 0).2).dirty) i)).getD (List.replicate 256 (0:UInt8)))) bs23 F) else (iAc (dArr 256) (.slice A20 (((x.act 0).2).lasts.length) cap21) la bs23 F)),iAc dInt (.slice A11 (((x.act 0).2).dirty.length) cap12) (((x.act 0).2).dirty) bs13 []]:=by rw [e210]; exact hs211
       exact WL_nil ⟨rfl,_,rfl,hs212,v197,v198,v199,v200,v201,v202,(fun _=>rfl),v204,v205,v206,v207,v208,trivial⟩
      .
       rintro dN vL g213 w214 ⟨hs215,v221,v222,v223,v224,v225,v226,v227,v228,v229,v230,v231,v232,_⟩ hD216 hd217 hu218 hg219 hk220
       have e233:dN 6=true:=hd217 6 (by decide +kernel)
       have e234:dN 12=false:=hu218 12 (by decide +kernel)
       rw [e234] at hs215
       have hs235:Sep F w0 (fun _=>False) w214 [iOwn d 78 [.slice A20 (((x.act 0).2).lasts.length) cap21,.map (some bm22),.int .i64 (((x.act 0).2).left),.bool (((x.act 0).2).off)] F,iMap kInt bm22 (emap (fun s=>av s) fr) F,iAc (dArr 256) (.slice A20 (((x.act 0).2).lasts.length) cap21) la bs23 F,iAc dInt (.slice A11 (((x.act 0).2).dirty.length) cap12) (((x.act 0).2).dirty) bs13 []]:=hs215
       refine WL_at (L:=[(26,.pointer (some ⟨d,0,none⟩))]) ⟨((hg219 6 26 e233 rfl).trans (v227 e233)),trivial⟩ ?_
       refine S_fieldAddr Try.runUnderlying78 rfl Try.sizeOf76 rfl rfl ?_
       have hs236:Sep F w0 (fun _=>False) w214 [iOwn d 78 [.slice A20 (((x.act 0).2).lasts.length) cap21,.map (some bm22),.int .i64 (((x.act 0).2).left),.bool (((x.act 0).2).off)] F,iMap kInt bm22 (emap (fun s=>av s) fr) F,(bif dN 12 then (iAc (dArr 256) (.slice A20 (((x.act 0).2).lasts.length) cap21) (List.set la (Int.toNat (ix (((x.act 0).2).dirty) i)) ((aget fr (ix (((x.act 0).2).dirty) i)).getD (List.replicate 256 (0:UInt8)))) bs23 F) else (iAc (dArr 256) (.slice A20 (((x.act 0).2).lasts.length) cap21) la bs23 F)),iAc dInt (.slice A11 (((x.act 0).2).dirty.length) cap12) (((x.act 0).2).dirty) bs13 []]:=by rw [e234]; exact hs235
       exact WL_nil ⟨rfl,_,rfl,hs236,v221,v222,v223,v224,v225,v226,v227,(fun _=>rfl),v229,v230,v231,v232,trivial⟩
      .
       rintro dN vL g237 w238 ⟨hs239,v245,v246,v247,v248,v249,v250,v251,v252,v253,v254,v255,v256,_⟩ hD240 hd241 hu242 hg243 hk244
       have e257:dN 7=true:=hd241 7 (by decide +kernel)
       have e258:dN 12=false:=hu242 12 (by decide +kernel)
       rw [e258] at hs239
       have hs259:Sep F w0 (fun _=>False) w238 [iOwn d 78 [.slice A20 (((x.act 0).2).lasts.length) cap21,.map (some bm22),.int .i64 (((x.act 0).2).left),.bool (((x.act 0).2).off)] F,iMap kInt bm22 (emap (fun s=>av s) fr) F,iAc (dArr 256) (.slice A20 (((x.act 0).2).lasts.length) cap21) la bs23 F,iAc dInt (.slice A11 (((x.act 0).2).dirty.length) cap12) (((x.act 0).2).dirty) bs13 []]:=hs239
       refine WL_at (L:=[(27,.pointer (some ⟨d,1,none⟩))]) ⟨((hg243 7 27 e257 rfl).trans (v252 e257)),trivial⟩ ?_
       refine S_load1 Try.isAgg76 rfl (Own.at (hs259.at 0 rfl) rfl) rfl ?_
       have hs260:Sep F w0 (fun _=>False) w238 [iOwn d 78 [.slice A20 (((x.act 0).2).lasts.length) cap21,.map (some bm22),.int .i64 (((x.act 0).2).left),.bool (((x.act 0).2).off)] F,iMap kInt bm22 (emap (fun s=>av s) fr) F,(bif dN 12 then (iAc (dArr 256) (.slice A20 (((x.act 0).2).lasts.length) cap21) (List.set la (Int.toNat (ix (((x.act 0).2).dirty) i)) ((aget fr (ix (((x.act 0).2).dirty) i)).getD (List.replicate 256 (0:UInt8)))) bs23 F) else (iAc (dArr 256) (.slice A20 (((x.act 0).2).lasts.length) cap21) la bs23 F)),iAc dInt (.slice A11 (((x.act 0).2).dirty.length) cap12) (((x.act 0).2).dirty) bs13 []]:=by rw [e258]; exact hs259
       exact WL_nil ⟨rfl,_,rfl,hs260,v245,v246,v247,v248,v249,v250,v251,v252,(fun _=>rfl),v254,v255,v256,trivial⟩
      .
       rintro dN vL g261 w262 ⟨hs263,v269,v270,v271,v272,v273,v274,v275,v276,v277,v278,v279,v280,_⟩ hD264 hd265 hu266 hg267 hk268
       have e281:dN 12=false:=hu266 12 (by decide +kernel)
       rw [e281] at hs263
       have hs282:Sep F w0 (fun _=>False) w262 [iOwn d 78 [.slice A20 (((x.act 0).2).lasts.length) cap21,.map (some bm22),.int .i64 (((x.act 0).2).left),.bool (((x.act 0).2).off)] F,iMap kInt bm22 (emap (fun s=>av s) fr) F,iAc (dArr 256) (.slice A20 (((x.act 0).2).lasts.length) cap21) la bs23 F,iAc dInt (.slice A11 (((x.act 0).2).dirty.length) cap12) (((x.act 0).2).dirty) bs13 []]:=hs263
       refine WL_at (L:=[(5,.int .i64 (ix (((x.act 0).2).dirty) i))]) ⟨(hk268 5 (by decide +kernel)),trivial⟩ ?_
       refine S_move rfl ?_
       have hs283:Sep F w0 (fun _=>False) w262 [iOwn d 78 [.slice A20 (((x.act 0).2).lasts.length) cap21,.map (some bm22),.int .i64 (((x.act 0).2).left),.bool (((x.act 0).2).off)] F,iMap kInt bm22 (emap (fun s=>av s) fr) F,(bif dN 12 then (iAc (dArr 256) (.slice A20 (((x.act 0).2).lasts.length) cap21) (List.set la (Int.toNat (ix (((x.act 0).2).dirty) i)) ((aget fr (ix (((x.act 0).2).dirty) i)).getD (List.replicate 256 (0:UInt8)))) bs23 F) else (iAc (dArr 256) (.slice A20 (((x.act 0).2).lasts.length) cap21) la bs23 F)),iAc dInt (.slice A11 (((x.act 0).2).dirty.length) cap12) (((x.act 0).2).dirty) bs13 []]:=by rw [e281]; exact hs282
       exact WL_nil ⟨rfl,_,rfl,hs283,v269,v270,v271,v272,v273,v274,v275,v276,v277,(fun _=>rfl),v279,v280,trivial⟩
      .
       rintro dN vL g284 w285 ⟨hs286,v292,v293,v294,v295,v296,v297,v298,v299,v300,v301,v302,v303,_⟩ hD287 hd288 hu289 hg290 hk291
       have e304:dN 8=true:=hd288 8 (by decide +kernel)
       have e305:dN 9=true:=hd288 9 (by decide +kernel)
       have e306:dN 12=false:=hu289 12 (by decide +kernel)
       rw [e306] at hs286
       have hs307:Sep F w0 (fun _=>False) w285 [iOwn d 78 [.slice A20 (((x.act 0).2).lasts.length) cap21,.map (some bm22),.int .i64 (((x.act 0).2).left),.bool (((x.act 0).2).off)] F,iMap kInt bm22 (emap (fun s=>av s) fr) F,iAc (dArr 256) (.slice A20 (((x.act 0).2).lasts.length) cap21) la bs23 F,iAc dInt (.slice A11 (((x.act 0).2).dirty.length) cap12) (((x.act 0).2).dirty) bs13 []]:=hs286
       refine WL_at (L:=[(28,.map (some bm22)),(29,.int .i64 (ix (((x.act 0).2).dirty) i))]) ⟨((hg290 8 28 e304 rfl).trans (v300 e304)),((hg290 9 29 e305 rfl).trans (v301 e305)),trivial⟩ ?_
       refine Z_lookup (z0:=(List.replicate 256 (0:UInt8))) (hs307.at 1 rfl) Try.runUnderlying76 Try.runUnderlying3 Try.zeroValue75 zero78 rfl rfl rfl ?_
       have hs308:Sep F w0 (fun _=>False) w285 [iOwn d 78 [.slice A20 (((x.act 0).2).lasts.length) cap21,.map (some bm22),.int .i64 (((x.act 0).2).left),.bool (((x.act 0).2).off)] F,iMap kInt bm22 (emap (fun s=>av s) fr) F,(bif dN 12 then (iAc (dArr 256) (.slice A20 (((x.act 0).2).lasts.length) cap21) (List.set la (Int.toNat (ix (((x.act 0).2).dirty) i)) ((aget fr (ix (((x.act 0).2).dirty) i)).getD (List.replicate 256 (0:UInt8)))) bs23 F) else (iAc (dArr 256) (.slice A20 (((x.act 0).2).lasts.length) cap21) la bs23 F)),iAc dInt (.slice A11 (((x.act 0).2).dirty.length) cap12) (((x.act 0).2).dirty) bs13 []]:=by rw [e306]; exact hs307
       exact WL_nil ⟨rfl,_,rfl,hs308,v292,v293,v294,v295,v296,v297,v298,v299,v300,v301,(fun _=>rfl),v303,trivial⟩
      .
       rintro dN vL g309 w310 ⟨hs311,v317,v318,v319,v320,v321,v322,v323,v324,v325,v326,v327,v328,_⟩ hD312 hd313 hu314 hg315 hk316
       have e329:dN 3=true:=hd313 3 (by decide +kernel)
       have e330:dN 4=true:=hd313 4 (by decide +kernel)
       have e331:dN 12=false:=hu314 12 (by decide +kernel)
       rw [e331] at hs311
       have hs332:Sep F w0 (fun _=>False) w310 [iOwn d 78 [.slice A20 (((x.act 0).2).lasts.length) cap21,.map (some bm22),.int .i64 (((x.act 0).2).left),.bool (((x.act 0).2).off)] F,iMap kInt bm22 (emap (fun s=>av s) fr) F,iAc (dArr 256) (.slice A20 (((x.act 0).2).lasts.length) cap21) la bs23 F,iAc dInt (.slice A11 (((x.act 0).2).dirty.length) cap12) (((x.act 0).2).dirty) bs13 []]:=hs311
       refine WL_at (L:=[(23,.slice A20 (((x.act 0).2).lasts.length) cap21),(24,.int .i64 (ix (((x.act 0).2).dirty) i))]) ⟨((hg315 3 23 e329 rfl).trans (v320 e329)),((hg315 4 24 e330 rfl).trans (v321 e330)),trivial⟩ ?_
       refine Z_indexAc (hs332.at 2 rfl) Try.runUnderlying72 Try.sizeOf75 rfl rfl (show (0:Int)<=(ix (((x.act 0).2).dirty) i) from hdi.1) (show (ix (((x.act 0).2).dirty) i)<((((x.act 0).2).lasts.length:Nat):Int) from hdi.2) rfl ?_
       have hs333:Sep F w0 (fun _=>False) w310 [iOwn d 78 [.slice A20 (((x.act 0).2).lasts.length) cap21,.map (some bm22),.int .i64 (((x.act 0).2).left),.bool (((x.act 0).2).off)] F,iMap kInt bm22 (emap (fun s=>av s) fr) F,(bif dN 12 then (iAc (dArr 256) (.slice A20 (((x.act 0).2).lasts.length) cap21) (List.set la (Int.toNat (ix (((x.act 0).2).dirty) i)) ((aget fr (ix (((x.act 0).2).dirty) i)).getD (List.replicate 256 (0:UInt8)))) bs23 F) else (iAc (dArr 256) (.slice A20 (((x.act 0).2).lasts.length) cap21) la bs23 F)),iAc dInt (.slice A11 (((x.act 0).2).dirty.length) cap12) (((x.act 0).2).dirty) bs13 []]:=by rw [e331]; exact hs332
       exact WL_nil ⟨rfl,_,rfl,hs333,v317,v318,v319,v320,v321,v322,v323,v324,v325,v326,v327,(fun _=>rfl),trivial⟩
      .
       rintro dN vL g334 w335 ⟨hs336,v342,v343,v344,v345,v346,v347,v348,v349,v350,v351,v352,v353,_⟩ hD337 hd338 hu339 hg340 hk341
       have e354:dN 10=true:=hd338 10 (by decide +kernel)
       have e355:dN 11=true:=hd338 11 (by decide +kernel)
       have e356:dN 12=false:=hD337
       rw [e356] at hs336
       have hs357:Sep F w0 (fun _=>False) w335 [iOwn d 78 [.slice A20 (((x.act 0).2).lasts.length) cap21,.map (some bm22),.int .i64 (((x.act 0).2).left),.bool (((x.act 0).2).off)] F,iMap kInt bm22 (emap (fun s=>av s) fr) F,iAc (dArr 256) (.slice A20 (((x.act 0).2).lasts.length) cap21) la bs23 F,iAc dInt (.slice A11 (((x.act 0).2).dirty.length) cap12) (((x.act 0).2).dirty) bs13 []]:=hs336
       refine WL_at (L:=[(30,av ((aget fr (ix (((x.act 0).2).dirty) i)).getD (List.replicate 256 (0:UInt8)))),(31,.pointer (some (eA A20 ((Int.toNat (ix (((x.act 0).2).dirty) i)) * 256))))]) ⟨((hg340 10 30 e354 rfl).trans (v352 e354)),((hg340 11 31 e355 rfl).trans (v353 e355)),trivial⟩ ?_
       refine Z_storeEl (o:=0) (sz:=256) hs357 2 rfl Try.sizeOf75 rfl rfl (Nat.add_zero _).symm (av_cells _) (by rw [List.length_map]; exact (flens_getD q33 (ix (x.act 0).2.dirty i))) (show (0:Int)<=(ix (((x.act 0).2).dirty) i) from hdi.1) (show (ix (((x.act 0).2).dirty) i)<((((x.act 0).2).lasts.length:Nat):Int) from hdi.2) (fun c0 _ hc=>dArr_splice (flens_getD q33 (ix (x.act 0).2.dirty i)) c0 hc) (bv_plain _) ?_
       intro w358 hs359
       have hs359:Sep F w0 (fun _=>False) w358 [iOwn d 78 [.slice A20 (((x.act 0).2).lasts.length) cap21,.map (some bm22),.int .i64 (((x.act 0).2).left),.bool (((x.act 0).2).off)] F,iMap kInt bm22 (emap (fun s=>av s) fr) F,iAc (dArr 256) (.slice A20 (((x.act 0).2).lasts.length) cap21) (List.set la (Int.toNat (ix (((x.act 0).2).dirty) i)) ((aget fr (ix (((x.act 0).2).dirty) i)).getD (List.replicate 256 (0:UInt8)))) bs23 F,iAc dInt (.slice A11 (((x.act 0).2).dirty.length) cap12) (((x.act 0).2).dirty) bs13 []]:=hs359
       have hs360:Sep F w0 (fun _=>False) w358 [iOwn d 78 [.slice A20 (((x.act 0).2).lasts.length) cap21,.map (some bm22),.int .i64 (((x.act 0).2).left),.bool (((x.act 0).2).off)] F,iMap kInt bm22 (emap (fun s=>av s) fr) F,iAc (dArr 256) (.slice A20 (((x.act 0).2).lasts.length) cap21) (List.set la (Int.toNat (ix (((x.act 0).2).dirty) i)) ((aget fr (ix (((x.act 0).2).dirty) i)).getD (List.replicate 256 (0:UInt8)))) bs23 F,iAc dInt (.slice A11 (((x.act 0).2).dirty.length) cap12) (((x.act 0).2).dirty) bs13 []]:=by exact hs359
       exact WL_nil ⟨rfl,undef,rfl,hs360,v342,v343,v344,v345,v346,v347,v348,v349,v350,v351,v352,v353,trivial⟩
    .
     rintro dN vL g361 w362 ha364 ⟨hs363,v367,v368,v369,v370,v371,v372,v373,v374,v375,v376,v377,v378,_⟩ hg365 hk366
     rw [ha364 12 rfl] at hs363
     have hs379:Sep F w0 (fun _=>False) w362 [iOwn d 78 [.slice A20 (((x.act 0).2).lasts.length) cap21,.map (some bm22),.int .i64 (((x.act 0).2).left),.bool (((x.act 0).2).off)] F,iMap kInt bm22 (emap (fun s=>av s) fr) F,iAc (dArr 256) (.slice A20 (((x.act 0).2).lasts.length) cap21) (List.set la (Int.toNat (ix (((x.act 0).2).dirty) i)) ((aget fr (ix (((x.act 0).2).dirty) i)).getD (List.replicate 256 (0:UInt8)))) bs23 F,iAc dInt (.slice A11 (((x.act 0).2).dirty.length) cap12) (((x.act 0).2).dirty) bs13 []]:=hs363
     refine ⟨[(0,.pointer (some ⟨d,0,none⟩)),(5,.int .i64 (ix (((x.act 0).2).dirty) i)),(14,.slice A11 (((x.act 0).2).dirty.length) cap12),(15,.int .i64 (((x.act 0).2).dirty.length:Int)),(16,.int .i64 i)],⟨(hk366 0 rfl),(hk366 5 rfl),(hk366 14 rfl),(hk366 15 rfl),(hk366 16 rfl),trivial⟩,fun g380=>?_⟩
     refine W_region ?_
     refine S_move rfl ?_
     refine S_nilCheck rfl rfl ?_
     refine S_fieldAddr Try.runUnderlying78 rfl Try.sizeOf76 rfl rfl ?_
     refine S_load1 Try.isAgg76 rfl (Own.at (hs379.at 0 rfl) rfl) rfl ?_
     refine S_move rfl ?_
     refine Z_delete hs379 1 rfl Try.runUnderlying76 Try.runUnderlying3 rfl rfl ?_
     intro w381 hs382
     have hs382:Sep F w0 (fun _=>False) w381 [iOwn d 78 [.slice A20 (((x.act 0).2).lasts.length) cap21,.map (some bm22),.int .i64 (((x.act 0).2).left),.bool (((x.act 0).2).off)] F,iMap kInt bm22 (emap (fun s=>av s) (adel fr (ix (((x.act 0).2).dirty) i))) F,iAc (dArr 256) (.slice A20 (((x.act 0).2).lasts.length) cap21) (List.set la (Int.toNat (ix (((x.act 0).2).dirty) i)) ((aget fr (ix (((x.act 0).2).dirty) i)).getD (List.replicate 256 (0:UInt8)))) bs23 F,iAc dInt (.slice A11 (((x.act 0).2).dirty.length) cap12) (((x.act 0).2).dirty) bs13 []]:=hs382
     refine WL_nil ?_
     refine W_region ?_
     refine S_add rfl rfl (by omega) rfl ?_
     skip
     refine S_move rfl ?_
     refine WL_nil ?_
     exact ⟨_,(by omega),i+1,List.set la (Int.toNat (ix (((x.act 0).2).dirty) i)) ((aget fr (ix (((x.act 0).2).dirty) i)).getD (List.replicate 256 (0:UInt8))),adel fr (ix (((x.act 0).2).dirty) i),rfl,(by omega),(by omega),(flush_step q32 q30 (by omega)),(flens_del q33),hs382,⟨rfl,rfl,rfl,rfl,trivial⟩⟩
   .
    have p383:=of_decide_eq_false h35
    refine W_exit ?_
    refine W_seq ?_
    refine W_region ?_
    refine S_assign rfl ?_
    refine WL_nil ?_
    refine W_ret ?_
    show (Value.nilIface)=errv 58 x.flush.1/\∃ F',DkIs d w25 x.flush.2 F'/\Turn w0 w25 F F'
    have hc:=(DkIs.close hs28 (Ac.bs1 (hs28.at 2 rfl)))
    rw [flush_fine hz (la:=la) (fr:=fr) (by rw [q32,List.take_of_length_le (by omega)])]
    exact ⟨errv_0,_,hc⟩
end Go.Proofs.Ytckpdliipjekgaa
end
section
namespace Go.Proofs.Ytckpdliipjekgaa
open Go Go.Wk Go.Wl Classical
structure Rk where
 Lasts:List Str
 At:List Int
 Fresh:List Str
 Left:Int
 Off:Bool
 deriving Inhabited
theorem rset_len {l:List Str} {i:Nat} {s:Str} (h:∀ t∈l,t.length=256) (hs:s.length=256):∀ t∈l.set i s,t.length=256:=fun t ht=>by
 rcases List.mem_or_eq_of_mem_set ht with h' | h'
 . exact h t h'
 . rw [h']; exact hs
theorem ix_set {α:Type} [Inhabited α] {l:List α} {k i:Int} {v:α} (hk:0<=k) (hi:0<=i) (hl:i<l.length):ix (l.set k.toNat v) i=if k=i then v else ix l i:=by
 rw [ix_get (by rw [List.length_set]; omega),ix_get (by omega)]
 by_cases e:k=i
 . subst e; rw [if_pos rfl]; exact List.getElem_set_self _
 . rw [if_neg e,List.getElem_set_ne (by omega)]
theorem aget_nil {L:List (Int×Str)} (h:∀ k,aget L k=none):L=[]:=by
 cases L with
 | nil=>rfl
 | cons p r=>have:=h p.1; simp [aget] at this
theorem flush_fold:∀ {L:List Int} {la:List Str} {fr:List (Int×Str)},L.Nodup->(∀ k∈L,0<=k) ->
  (L.foldl flushStep (la,fr)).1.length=la.length/\(∀ i:Int,0<=i->i<la.length->ix (L.foldl flushStep (la,fr)).1 i=if i∈L then (aget fr i).getD (List.replicate 256 0) else ix la i)/\∀ k,aget (L.foldl flushStep (la,fr)).2 k=if k∈L then none else aget fr k
 | [],la,fr,_,_=>⟨rfl,fun i _ _=>by rw [if_neg (by simp)]; rfl,fun k=>by rw [if_neg (by simp)]; rfl⟩
 | a::L,la,fr,hn,h0=>by
  simp only [List.nodup_cons] at hn
  have ih:=flush_fold (L:=L) (la:=la.set a.toNat ((aget fr a).getD (List.replicate 256 0))) (fr:=adel fr a) hn.2 (fun k hk=>h0 k (by simp [hk]))
  rw [List.length_set] at ih
  have e:(a::L).foldl flushStep (la,fr)=L.foldl flushStep (la.set a.toNat ((aget fr a).getD (List.replicate 256 0)),adel fr a):=rfl
  rw [e]
  refine ⟨ih.1,fun i hi hl=>?_,fun k=>?_⟩
  . rw [ih.2.1 i hi hl,ix_set (h0 a (by simp)) hi hl]
    by_cases hL:i∈L
    . rw [if_pos hL,if_pos (by simp [hL]),aget_del,if_neg (fun e=>hn.1 (by rw [<- e]; exact hL))]
    . rw [if_neg hL]
      by_cases ea:a=i
      . rw [if_pos ea,if_pos (by simp [ea]),ea]
      . rw [if_neg ea,if_neg (by simp [hL]; exact fun e=>ea e.symm)]
  . rw [ih.2.2 k,aget_del]
    by_cases hL:k∈L
    . rw [if_pos hL,if_pos (by simp [hL])]
    . rw [if_neg hL]
      by_cases ea:k=a
      . rw [if_pos ea,if_pos (by simp [ea])]
      . rw [if_neg ea,if_neg (by simp [hL,ea])]
theorem dirty_nodup {x:Dk} (ok:x.Ok):x.dirty.Nodup:=srt_nodup ok.keys
theorem flush_eq {x:Dk} (ok:x.Ok) (h:(x.act 0).1=0):x.flush.1=0/\x.flush.2.lasts.length=x.lasts.length/\(∀ i:Int,0<=i->i<x.lasts.length->ix x.flush.2.lasts i=(aget x.fresh i).getD (ix x.lasts i))/\x.flush.2.fresh=[]/\x.flush.2.left=(x.act 0).2.left/\x.flush.2.off=(x.act 0).2.off:=by
 have ok1:=act_Ok ok 0
 have e:=act_lasts (x:=x) 0
 have hd:(x.act 0).2.dirty=x.dirty:=by simp only [Dk.dirty,e.2]
 have hf:=flush_fold (L:=x.dirty) (la:=x.lasts) (fr:=x.fresh) (dirty_nodup ok) (fun k hk=>(isSome_flen ok (dirty_mem.1 hk)).1)
 have hx:x.flush=(0,⟨(x.dirty.foldl flushStep (x.lasts,x.fresh)).1,(x.dirty.foldl flushStep (x.lasts,x.fresh)).2,(x.act 0).2.left,(x.act 0).2.off⟩):=flush_fine h (by rw [hd,e.1,e.2])
 rw [hx]
 refine ⟨rfl,hf.1,fun i hi hl=>?_,aget_nil fun k=>?_,rfl,rfl⟩
 . show ix (x.dirty.foldl flushStep (x.lasts,x.fresh)).1 i=_
   rw [hf.2.1 i hi hl]
   by_cases hm:i∈x.dirty
   . rw [if_pos hm]
     obtain ⟨s,hs⟩:=Option.isSome_iff_exists.1 (dirty_mem.1 hm)
     rw [hs]; rfl
   . rw [if_neg hm]
     have:aget x.fresh i=none:=by
      cases hs:aget x.fresh i with
      | none=>rfl
      | some s=>exact absurd (dirty_mem.2 (by rw [hs]; rfl)) hm
     rw [this]; rfl
 . show aget (x.dirty.foldl flushStep (x.lasts,x.fresh)).2 k=none
   rw [hf.2.2 k]
   by_cases hm:k∈x.dirty
   . rw [if_pos hm]
   . rw [if_neg hm]
     cases hs:aget x.fresh k with
     | none=>rfl
     | some s=>exact absurd (dirty_mem.2 (by rw [hs]; rfl)) hm
theorem flush_Ok {x:Dk} (ok:x.Ok):x.flush.2.Ok:=by
 by_cases h:(x.act 0).1=0
 . have ⟨_,h1,h2,h3,h4,h5⟩:=flush_eq ok h
   refine ⟨by rw [h1]; exact ok.pos,by rw [h1]; exact ok.max,fun s hs=>?_,fun p hp=>(by rw [h3] at hp; cases hp),by rw [h4]; exact (act_Ok ok 0).left,by rw [h3]; exact List.nodup_nil⟩
   obtain ⟨j,hj,e⟩:=List.getElem_of_mem hs
   have hx:=h2 j (by omega) (by omega)
   rw [ix_get (by simp only [Int.toNat_natCast]; exact hj)] at hx
   have hx:x.flush.2.lasts[j]=(aget x.fresh j).getD (ix x.lasts j):=hx
   rw [<- e,hx]
   cases hs:aget x.fresh j with
   | none=>exact last_len ok (by omega) (by omega)
   | some s=>exact (aget_flen ok hs).1
 . rw [flush_err h]; exact act_Ok ok 0
section
variable {x:Dk} {y:Rk}
theorem limit_Ok (ok:x.Ok) {n:Int} (hn:InI n):(x.limit n).Ok:=⟨ok.pos,ok.max,ok.len,ok.flen,by show InI (max n (-1)); have:=hn.1; have:=hn.2; simp only [InI]; omega,ok.keys⟩
theorem torn_len (ok:x.Ok) (t c:Int):(x.torn t c).length=x.lasts.length/\∀ s∈x.torn t c,s.length=256:=by
 simp only [Dk.torn]
 cases h:aget x.fresh t with
 | none=>exact ⟨rfl,ok.len⟩
 | some s =>
  have ⟨h1,h2,h3⟩:=aget_flen ok h
  have h4:=last_len ok h2 h3
  refine ⟨List.length_set,rset_len ok.len ?_⟩
  simp only [List.length_append,List.length_take,List.length_drop]; omega
theorem keep_len {fr:List (Int×Str)} (h:∀ j s,aget fr j=some s->s.length=256):∀ (kept:List Int) (l:List Str),(∀ s∈l,s.length=256)->(kept.foldl (keepStep fr) l).length=l.length/\∀ s∈kept.foldl (keepStep fr) l,s.length=256:=by
 intro kept
 induction kept with
 | nil=>intro l hl; exact ⟨rfl,hl⟩
 | cons k r ih =>
  intro l hl
  simp only [List.foldl_cons,keepStep]
  cases hk:aget fr k with
  | none=>exact ih l hl
  | some s =>
   have:=ih (l.set k.toNat s) (rset_len hl (h k s hk))
   rw [List.length_set] at this; exact this
theorem crash_Ok (ok:x.Ok) (t c:Int) (kept:List Int):(x.crash t c kept).Ok:=by
 have ⟨h1,h2⟩:=torn_len ok t c
 have ⟨h3,h4⟩:=keep_len (fr:=x.fresh) (fun j s hs=>(aget_flen ok hs).1) kept (x.torn t c) h2
 have e:(x.crash t c kept).lasts.length=x.lasts.length:=h3.trans h1
 exact ⟨by rw [e]; exact ok.pos,by rw [e]; exact ok.max,h4,fun p hp=>(by cases hp),⟨by show (-9223372036854775808:Int)<=-1; omega,by show (-1:Int)<=9223372036854775807; omega⟩,List.nodup_nil⟩
theorem errs_range:0<=(x.act 0).1/\(x.act 0).1<=16:=by
 simp only [Dk.act]; (repeat' split) <;> simp only <;> omega
end
theorem write_range {x:Dk} (a:Int) (b:Str):0<=(x.write a b).1/\(x.write a b).1<=16:=by
 have h:∀ wr,0<=(x.act wr).1/\(x.act wr).1<=16:=fun wr=>by simp only [Dk.act]; (repeat' split) <;> simp only <;> omega
 by_cases e:(x.act (if b.length≠256 then 2 else x.wrong a)).1=0
 . rw [write_fine rfl e]; exact ⟨Int.le_refl _,by show (0:Int)<=16; omega⟩
 . rw [write_err rfl e]; exact h _
theorem flush_range {x:Dk}:0<=x.flush.1/\x.flush.1<=16:=by
 have h:=errs_range (x:=x)
 by_cases e:(x.act 0).1=0
 . simp only [Dk.flush]; rw [if_pos e]; exact ⟨Int.le_refl _,by show (0:Int)<=16; omega⟩
 . rw [flush_err e]; exact h
theorem read_range {x:Dk} (a:Int):0<=(x.read a).2/\(x.read a).2<=16:=by
 simp only [Dk.read]; (repeat' split) <;> simp only <;> omega
section
variable {x:Dk}
theorem act_go (hl:x.left=-1) (ho:x.off=false):x.act 0=(0,x):=by simp [Dk.act,hl,ho]
theorem write_go {a:Int} {b:Str} (hl:x.left=-1) (ho:x.off=false) (h0:0<=a) (h1:a<x.lasts.length) (hb:b.length=256):x.write a b=(0,{ x with fresh:=aput x.fresh a b }):=by
 have hw:x.wrong a=0:=by rw [Dk.wrong,if_neg (by omega)]
 have:=write_fine (x:=x) (a:=a) (b:=b) (wr:=0) (by rw [if_neg (by omega),hw]) (by rw [act_go hl ho])
 rw [this,act_go hl ho]
theorem flush_go (ok:x.Ok) (hl:x.left=-1) (ho:x.off=false):x.flush.1=0/\x.flush.2.lasts.length=x.lasts.length/\(∀ i:Int,0<=i->i<x.lasts.length->ix x.flush.2.lasts i=(aget x.fresh i).getD (ix x.lasts i))/\x.flush.2.fresh=[]/\x.flush.2.left=-1/\x.flush.2.off=false:=by
 have h:=flush_eq ok (by rw [act_go hl ho])
 rw [act_go hl ho] at h
 exact ⟨h.1,h.2.1,h.2.2.1,h.2.2.2.1,h.2.2.2.2.1.trans hl,h.2.2.2.2.2.trans ho⟩
theorem flush_len (ok:x.Ok):x.flush.2.lasts.length=x.lasts.length:=by
 by_cases h:(x.act 0).1=0
 . exact (flush_eq ok h).2.1
 . rw [flush_err h,(act_lasts 0).1]
theorem write_len (a:Int) (b:Str):(x.write a b).2.lasts=x.lasts:=by
 by_cases h:(x.act (if b.length≠256 then 2 else x.wrong a)).1=0
 . rw [write_fine rfl h]; exact (act_lasts _).1
 . rw [write_err rfl h]; exact (act_lasts _).1
theorem keepStep_len {fr:List (Int×Str)} {l:List Str} {k:Int}:(keepStep fr l k).length=l.length:=by
 unfold keepStep; split
 . exact List.length_set
 . rfl
theorem keep_ix {fr:List (Int×Str)} (hf:∀ j s,aget fr j=some s->0<=j):∀ (kept:List Int) (l:List Str) {i:Int},0<=i->i<l.length->ix (kept.foldl (keepStep fr) l) i=if i∈kept then (aget fr i).getD (ix l i) else ix l i
 | [],l,i,_,_=>by rw [if_neg (by simp)]; rfl
 | k::r,l,i,h0,h1=>by
  show ix (r.foldl (keepStep fr) (keepStep fr l k)) i=_
  rw [keep_ix hf r _ h0 (by rw [keepStep_len]; exact h1)]
  have e:ix (keepStep fr l k) i=if k=i then (aget fr i).getD (ix l i) else ix l i:=by
   unfold keepStep
   split
   . rename_i s hs
     rw [ix_set (hf k s hs) h0 h1]
     by_cases e:k=i
     . subst e; rw [if_pos rfl,if_pos rfl,hs]; rfl
     . rw [if_neg e,if_neg e]
   . rename_i hs
     by_cases e:k=i
     . subst e; rw [if_pos rfl,hs]; rfl
     . rw [if_neg e]
  rw [e]
  by_cases ek:k=i
  . subst ek; rw [if_pos rfl,if_pos (by simp:k∈k::r)]
    cases aget fr k with
    | none=>simp
    | some s=>simp
  . rw [if_neg ek]
    by_cases er:i∈r
    . rw [if_pos er,if_pos (by simp [er])]
    . rw [if_neg er,if_neg (by simp [er]; exact fun e=>ek e.symm)]
theorem crash_len (ok:x.Ok) (t c:Int) (k:List Int):(x.crash t c k).lasts.length=x.lasts.length:=by
 have h:=torn_len ok t c
 exact (keep_len (fun j s hs=>(aget_flen ok hs).1) k _ h.2).1.trans h.1
theorem torn_ix (ok:x.Ok) (t c:Int) {i:Int} (h0:0<=i) (h1:i<x.lasts.length) (hn:aget x.fresh i=none):ix (x.torn t c) i=ix x.lasts i:=by
 unfold Dk.torn
 split
 . rename_i s hs
   rw [ix_set (aget_flen ok hs).2.1 h0 h1,if_neg (fun e=>by rw [<- e,hs] at hn; cases hn)]
 . rfl
theorem crash_clean (ok:x.Ok) (t c:Int) (k:List Int) {i:Int} (h0:0<=i) (h1:i<x.lasts.length) (hn:aget x.fresh i=none):ix (x.crash t c k).lasts i=ix x.lasts i:=by
 show ix (k.foldl (keepStep x.fresh) (x.torn t c)) i=_
 rw [keep_ix (fun j s hs=>(aget_flen ok hs).2.1) k _ h0 (by rw [(torn_len ok t c).1]; exact h1),hn,torn_ix ok t c h0 h1 hn]
 split <;> rfl
end
end Go.Proofs.Ytckpdliipjekgaa
end
section
namespace Go.Proofs.Ytckpdliipjekgaa
open Go Go.Wk Go.Wl Go.Rx Go.Wa 
def fSize:FC U:=⟨[],[],fun a its=>match a,its with
 | [.ref 0 0],[(0,.ob 0 1 x)]=>some ⟨[Dk.Ok x],[],.int .i64 (Dk.lasts x).length,[(0,.ob 0 1 x)],2⟩
 | [.con (.pointer none)],[]=>some ⟨[],[],.int .i64 0,[],0⟩
 | _,_=>none⟩
theorem fSize_ok (args:List (SV U)) (its:Items U) (r:FR U) (h:fSize.C args its=some r) (ho:allP r.ob):GenOK Try.prog U eT Gl 42 args its (2 * its.length) (fun k=>allP r.hy->k r.v r.its r.n):=by
 unfold fSize at h
 simp only at h
 split at h
 . rename_i x
   cases h
   refine gen_quiet (new:=[]) fun ρ Z w vs hfr hz hg ha hp=>?_
   obtain ⟨⟨L,Lf,hL,hLf,hob⟩,_⟩:=hp _ (List.mem_singleton.2 rfl)
   obtain ⟨v1,r1,rfl,h1,ha⟩:=Rep.tup_cons ha
   obtain rfl:=tup0_inv ha
   cases h1 with | ref hL' =>
   have hL:ρ 0=some L:=hL
   rw [hL] at hL'; cases hL'
   exact (size_ok (show DkIs L.b w x Lf.bs from hob) ho.1).mono fun v w' ⟨e1,e2⟩=>by
    subst e1; subst e2
    exact ⟨ρ,Z,fun _ _ h=>h,hfr,fun _ h=>h,fun _ h=>.inl h,Sep.nil hz,.int fun _=>by have:=ho.1.max; exact ⟨by omega,by omega⟩⟩
 . cases h
   refine gen_quiet (new:=[]) fun ρ Z w vs hfr hz hg ha hp=>?_
   obtain ⟨v1,r1,rfl,h1,ha⟩:=Rep.tup_cons ha
   obtain rfl:=tup0_inv ha
   cases h1 with | con _ =>
   exact size_nil.mono fun v w' ⟨e1,e2⟩=>by
    subst e1; subst e2
    exact ⟨ρ,Z,fun _ _ h=>h,hfr,fun _ h=>h,fun _ h=>.inl h,Sep.nil hz,.int fun _=>⟨by omega,by omega⟩⟩
 . cases h
def fWrite:FC U:=⟨[2],[],fun a its=>match a,its with
 | [.ref 0 0,.int .i64 at_,.sl 5 s],[(0,.ob 0 1 x)]=>some ⟨[Dk.Ok x],[],.err (erN (Dk.write x at_ s).1),[(0,.ob 0 2 (Dk.write x at_ s).2)],3⟩
 | _,_=>none⟩
theorem sl_rd {ρ:Env1} {Z:Nat->Prop} {w:World} {v:Value} {t:Nat} {s:List (U.U t)} (h:Rep U eT ρ Z w v (.sl t s)):(dSlice (U.tb t).r).rd Z w [v] s:=by cases h with | sl h=>exact h
theorem fWrite_ok (args:List (SV U)) (its:Items U) (r:FR U) (h:fWrite.C args its=some r) (ho:allP r.ob):GenOK Try.prog U eT Gl 56 args its (2 * its.length) (fun k=>allP r.hy->k r.v r.its r.n):=by
 unfold fWrite at h
 simp only at h
 split at h
 . rename_i at_ s x
   cases h
   refine gen_turn (k:=0) (rest:=[.int .i64 at_,.sl 5 s]) rfl fun Z w vs b F hz hnz hob hg ha=>?_
   obtain ⟨v1,r1,rfl,h1,ha⟩:=Rep.tup_cons ha
   obtain ⟨v2,r2,rfl,h2,ha⟩:=Rep.tup_cons ha
   obtain rfl:=tup0_inv ha
   cases h1 with | int h1 =>
   have h2:(dSlice dByte).rd Z w [v2] s:=sl_rd h2
   obtain ⟨A1,cap,rfl⟩:=dSlice_val h2
   exact (write_ok (show DkIs b w x F from hob) ho.1 hnz h2 at_).mono fun v w' ⟨e1,F',h3,h4⟩=>by
    subst e1
    exact ⟨F',h3,h4,erN_rep (small (write_range _ _))⟩
 . cases h
def fFlush:FC U:=⟨[],[],fun a its=>match a,its with
 | [.ref 0 0],[(0,.ob 0 1 x)]=>some ⟨[Dk.Ok x],[],.err (erN (Dk.flush x).1),[(0,.ob 0 2 (Dk.flush x).2)],3⟩
 | _,_=>none⟩
theorem fFlush_ok (args:List (SV U)) (its:Items U) (r:FR U) (h:fFlush.C args its=some r) (ho:allP r.ob):GenOK Try.prog U eT Gl 50 args its (2 * its.length) (fun k=>allP r.hy->k r.v r.its r.n):=by
 unfold fFlush at h
 simp only at h
 split at h
 . rename_i x
   cases h
   refine gen_turn (k:=0) (rest:=[]) rfl fun Z w vs b F hz hnz hob hg ha=>?_
   obtain rfl:=tup0_inv ha
   exact (flush_ok (show DkIs b w x F from hob) ho.1).mono fun v w' ⟨e1,F',h3,h4⟩=>by
    subst e1
    exact ⟨F',h3,h4,erN_rep (small flush_range)⟩
 . cases h
def fLimit:FC U:=⟨[],[],fun a its=>match a,its with
 | [.ref 0 0,.int .i64 n],[(0,.ob 0 1 x)]=>some ⟨[Dk.Ok x],[],.un,[(0,.ob 0 2 (Dk.limit x n))],3⟩
 | _,_=>none⟩
theorem fLimit_ok (args:List (SV U)) (its:Items U) (r:FR U) (h:fLimit.C args its=some r) (ho:allP r.ob):GenOK Try.prog U eT Gl 24 args its (2 * its.length) (fun k=>allP r.hy->k r.v r.its r.n):=by
 unfold fLimit at h
 simp only at h
 split at h
 . rename_i n x
   cases h
   refine gen_turn (k:=0) (rest:=[.int .i64 n]) rfl fun Z w vs b F hz hnz hob hg ha=>?_
   obtain ⟨v1,r1,rfl,h1,ha⟩:=Rep.tup_cons ha
   obtain rfl:=tup0_inv ha
   cases h1 with | int h1 =>
   exact (limit_ok (show DkIs b w x F from hob) ho.1 n).mono fun v w' ⟨F',h3,h4⟩=>⟨F',h3,h4,.un⟩
 . cases h
def fRead:FC U:=⟨[],[],fun a its=>match a,its with
 | [.ref 0 0,.int .i64 at_],[(0,.ob 0 1 x)]=>some ⟨[Dk.Ok x],[],.tup [.acc 2,.err (erN (Dk.read x at_).2)],[(2,.ac 5 (Dk.read x at_).1),(0,.ob 0 1 x)],3⟩
 | _,_=>none⟩
theorem read_len {x:Dk} (ok:x.Ok) (a:Int):(x.read a).1.length<=256:=by
 unfold Dk.read
 split
 . exact Nat.zero_le _
 . split
   . exact Nat.zero_le _
   . rename_i h1 _
     show ((aget x.fresh a).getD (ix x.lasts a)).length<=256
     cases hs:aget x.fresh a with
     | some s=>exact Nat.le_of_eq (aget_flen ok hs).1
     | none =>
      have hw:0<=a/\a<x.lasts.length:=by unfold Dk.wrong at h1; split at h1 <;> omega
      exact Nat.le_of_eq (last_len ok hw.1 hw.2)
theorem fRead_ok (args:List (SV U)) (its:Items U) (r:FR U) (h:fRead.C args its=some r) (ho:allP r.ob):GenOK Try.prog U eT Gl 37 args its (2 * its.length) (fun k=>allP r.hy->k r.v r.its r.n):=by
 unfold fRead at h
 simp only at h
 split at h
 . rename_i at_ x
   cases h
   refine gen_quiet (new:=[(2,.ac (N:=U) 5 (Dk.read x at_).1)]) fun ρ Z w vs hfr hz hg ha hp=>?_
   obtain ⟨⟨L,Lf,hL,hLf,hob⟩,_⟩:=hp _ (List.mem_singleton.2 rfl)
   obtain ⟨v1,r1,rfl,h1,ha⟩:=Rep.tup_cons ha
   obtain ⟨v2,r2,rfl,h2,ha⟩:=Rep.tup_cons ha
   obtain rfl:=tup0_inv ha
   cases h2 with | int h2 =>
   cases h1 with | ref hL' =>
   have hL:ρ 0=some L:=hL
   rw [hL] at hL'; cases hL'
   exact (read_ok (show DkIs L.b w x Lf.bs from hob) ho.1 at_).mono fun v w' ⟨A1,cap,bs,e1,hac,x1,hfresh⟩=>by
    subst e1
    have hsub:=rset_sub (L:=⟨0,A1,(Dk.read x at_).1.length,cap,bs⟩) (hfr 2 (Nat.le_refl _))
    have hac':Ac dByte Z w' (.slice A1 (Dk.read x at_).1.length cap) (Dk.read x at_).1 bs:=hac
    refine ⟨rset ρ 2 ⟨0,A1,(Dk.read x at_).1.length,cap,bs⟩,Z,hsub,fun i hi=>by have hi:3<=i:=hi; unfold rset; rw [if_neg (by omega)]; exact hfr i (show 2<=i by omega),fun _ h=>h,fun _ h=>.inl h,?_,.tup1 (cs:=[errv 58 (Dk.read x at_).2]) (.acc rset_self) (.tup1 (cs:=[]) (erN_rep (small (read_range _))) .tup0)⟩
    refine (Sep.nil hz).add x1 ⟨_,rset_self,rfl,Nat.le_trans (read_len ho.1 at_) (by decide),hac'⟩ toIt_stab (fun b hb=>?_) rfl
    have hb:b∈foot U (rset ρ 2 ⟨0,A1,(Dk.read x at_).1.length,cap,bs⟩) 2 (.ac (N:=U) 5 (Dk.read x at_).1):=hb
    have hb:b∈bs:=Eq.mp (congrArg (b∈·) (foot_ac (N:=U) (id:=2) (t:=5) (l:=((Dk.read x at_).1:List (U.U 5))) (rset_self (ρ:=ρ) (id:=2)))) hb
    exact ⟨hfresh b hb,hac.lt b hb⟩
 . cases h
def fCrash:FC U:=⟨[3],[],fun a its=>match a,its with
 | [.ref 0 0,.int .i64 t,.int .i64 c,.sl 3 kept],[(0,.ob 0 1 x)]=>some ⟨[Dk.Ok x],[],.ref 2 0,[(2,.ob 0 3 (Dk.crash x t c kept)),(0,.ob 0 1 x)],4⟩
 | _,_=>none⟩
theorem dk_new {ρ:Env1} {Z:Nat->Prop} {w w':World} {d2 i:Nat} {F2:List Nat} {x2:Dk} (hfr:∀ j,i<=j->ρ j=none) (hz:∀ b,Z b->b<w.heap.size) (hd:DkIs d2 w' x2 F2) (x1:Ext [] w w') (hf:∀ b∈F2,w.heap.size<=b) :
  ∃ ρ':Env1,(∀ j L,ρ j=some L->ρ' j=some L)/\(∀ j,i+2<=j->ρ' j=none)/\Sep [] w Z w' (toIts U eT ρ' [] [(i,.ob 0 (i+1) x2)])/\Rep U eT ρ' Z w' (.pointer (some ⟨d2,0,none⟩)) (.ref i 0):=by
 have hs1:=rset_sub (L:=⟨d2,none,0,0,[]⟩) (hfr i (Nat.le_refl _))
 have hn1:rset ρ i ⟨d2,none,0,0,[]⟩ (i+1)=none:=by unfold rset; rw [if_neg (by omega)]; exact hfr (i+1) (by omega)
 have hs2:=rset_sub (L:=⟨0,none,0,0,F2⟩) hn1
 have hL:rset (rset ρ i ⟨d2,none,0,0,[]⟩) (i+1) ⟨0,none,0,0,F2⟩ i=some ⟨d2,none,0,0,[]⟩:=hs2 _ _ rset_self
 refine ⟨rset (rset ρ i ⟨d2,none,0,0,[]⟩) (i+1) ⟨0,none,0,0,F2⟩,fun j L h=>hs2 _ _ (hs1 _ _ h),fun j hj=>by unfold rset; rw [if_neg (by omega),if_neg (by omega)]; exact hfr j (by omega),?_,.ref hL⟩
 refine (Sep.nil hz).add x1 ⟨_,_,hL,rset_self,hd⟩ toIt_stab (fun b hb=>?_) rfl
 have hb:b∈foot U (rset (rset ρ i ⟨d2,none,0,0,[]⟩) (i+1) ⟨0,none,0,0,F2⟩) i (.ob (N:=U) 0 (i+1) (x2:U.O 0)):=hb
 have hb:b∈F2:=Eq.mp (congrArg (b∈·) (foot_ob (N:=U) (id:=i) (k:=0) (x:=(x2:U.O 0)) (rset_self (ρ:=rset ρ i ⟨d2,none,0,0,[]⟩) (id:=i+1)))) hb
 exact ⟨hf b hb,hd.lt b hb⟩
theorem fCrash_ok (args:List (SV U)) (its:Items U) (r:FR U) (h:fCrash.C args its=some r) (ho:allP r.ob):GenOK Try.prog U eT Gl 23 args its (2 * its.length) (fun k=>allP r.hy->k r.v r.its r.n):=by
 unfold fCrash at h
 simp only at h
 split at h
 . rename_i t c kept x
   cases h
   refine gen_quiet (new:=[(2,.ob (N:=U) 0 3 (Dk.crash x t c kept))]) fun ρ Z w vs hfr hz hg ha hp=>?_
   obtain ⟨⟨L,Lf,hL,hLf,hob⟩,_⟩:=hp _ (List.mem_singleton.2 rfl)
   obtain ⟨v1,r1,rfl,h1,ha⟩:=Rep.tup_cons ha
   obtain ⟨v2,r2,rfl,h2,ha⟩:=Rep.tup_cons ha
   obtain ⟨v3,r3,rfl,h3,ha⟩:=Rep.tup_cons ha
   obtain ⟨v4,r4,rfl,h4,ha⟩:=Rep.tup_cons ha
   obtain rfl:=tup0_inv ha
   cases h2 with | int h2 =>
   cases h3 with | int h3 =>
   cases h1 with | ref hL' =>
   have hL:ρ 0=some L:=hL
   rw [hL] at hL'; cases hL'
   have h4:(dSlice dInt).rd Z w [v4] kept:=sl_rd h4
   obtain ⟨A1,cap,rfl⟩:=dSlice_val h4
   exact (crash_ok (show DkIs L.b w x Lf.bs from hob) ho.1 h4 t c).mono fun v w' ⟨d2,F2,e1,hd,x1,hf⟩=>by
    subst e1
    obtain ⟨ρ',q1,q2,q3,q4⟩:=dk_new (i:=2) hfr hz hd x1 hf
    exact ⟨ρ',Z,q1,q2,fun _ h=>h,fun _ h=>.inl h,q3,q4⟩
 . cases h
def gNew:GD U:=⟨[],[],fun a its=>match a,its with
 | [.int .i64 n],[]=>some fun k=>((1<=n/\n<=8192)->k (.tup [.ref 0 0,.err .nil]) [(0,.ob 0 1 (Dk.new n))] 2)/\(¬ (1<=n/\n<=8192)->k (.tup [.con (.pointer none),.err (.no 2)]) [] 2)
 | _,_=>none⟩
theorem gNew_ok (args:List (SV U)) (its:Items U) (S:PT U) (h:gNew.C args its=some S):GenOK Try.prog U eT Gl 25 args its (2 * its.length) S:=by
 unfold gNew at h
 simp only at h
 split at h
 . rename_i n
   cases h
   intro k hk
   by_cases hn:1<=n/\n<=8192
   . refine gen_quiet (new:=[(0,.ob (N:=U) 0 1 (Dk.new n))]) (s:=.tup [.ref 0 0,.err .nil]) (nx':=2) (fun ρ Z w vs hfr hz hg ha hp=>?_) k fun _=>hk.1 hn
     obtain ⟨v1,r1,rfl,h1,ha⟩:=Rep.tup_cons ha
     obtain rfl:=tup0_inv ha
     cases h1 with | int h1 =>
     exact (new_ok hn.1 hn.2).mono fun v w' ⟨d2,F2,e1,hd,x1,hf⟩=>by
      subst e1
      obtain ⟨ρ',q1,q2,q3,q4⟩:=dk_new (i:=0) hfr hz hd x1 hf
      exact ⟨ρ',Z,q1,q2,fun _ h=>h,fun _ h=>.inl h,q3,.tup1 (cs:=[.nilIface]) q4 (.tup1 (cs:=[]) (.err .nil) .tup0)⟩
   . refine gen_quiet (new:=[]) (s:=.tup [.con (.pointer none),.err (.no 2)]) (nx':=2) (fun ρ Z w vs hfr hz hg ha hp=>?_) k fun _=>hk.2 hn
     obtain ⟨v1,r1,rfl,h1,ha⟩:=Rep.tup_cons ha
     obtain rfl:=tup0_inv ha
     cases h1 with | int h1 =>
     exact (new_bad (by omega)).mono fun v w' ⟨e1,e2⟩=>by
      subst e1; subst e2
      exact ⟨ρ,Z,fun _ _ h=>h,fun i hi=>hfr i (Nat.zero_le _),fun _ h=>h,fun _ h=>.inl h,Sep.nil hz,.tup1 (cs:=[.iface 58 (.int .i64 2)]) (.con rfl) (.tup1 (cs:=[]) (.err (.no ⟨by omega,by omega⟩)) .tup0)⟩
 . cases h
noncomputable def NDSize:Env:=N0.addX 42 fSize
theorem NDSize_ok:EnvOK NDSize:=N0_ok.addX Try.call42 fSize_ok
noncomputable def NDWrite:Env:=NDSize.addX 56 fWrite
theorem NDWrite_ok:EnvOK NDWrite:=NDSize_ok.addX Try.call56 fWrite_ok
noncomputable def NDRead:Env:=NDWrite.addX 37 fRead
theorem NDRead_ok:EnvOK NDRead:=NDWrite_ok.addX Try.call37 fRead_ok
noncomputable def NDFlush:Env:=NDRead.addX 50 fFlush
theorem NDFlush_ok:EnvOK NDFlush:=NDRead_ok.addX Try.call50 fFlush_ok
noncomputable def NDLimit:Env:=NDFlush.addX 24 fLimit
theorem NDLimit_ok:EnvOK NDLimit:=NDFlush_ok.addX Try.call24 fLimit_ok
noncomputable def NDCrash:Env:=NDLimit.addX 23 fCrash
theorem NDCrash_ok:EnvOK NDCrash:=NDLimit_ok.addX Try.call23 fCrash_ok
noncomputable def N1:Env:=NDCrash.addI 25 Try.f25
theorem N1_ok:EnvOK N1:=NDCrash_ok.addI Try.call25 Try.func25
def H1:Nat->Option (GD U):=addF 25 gNew noH
theorem H1_ok:∀ K o args its S,H1 K=some o->o.C args its=some S->GenOK Try.prog U eT Gl K args its (2 * its.length) S:=addH_ok gNew_ok noH_ok
end Go.Proofs.Ytckpdliipjekgaa
end
section
namespace Go.Wa
open Go Go.Wk Go.Wl Go.Rx
theorem leB_len:∀ (k:Nat) (x:Int),(leB x k).length=k
 | 0,_=>rfl
 | k+1,x=>by unfold leB; rw [List.length_cons,leB_len k]
theorem fdiv_pow (x:Int) (i:Nat):(x.fdiv 256).fdiv (256 ^ i)=x.fdiv (256 ^ (i+1)):=by
 have h1:(0:Int)<256 ^ i:=Int.pow_pos (by decide)
 have h2:(0:Int)<256 ^ (i+1):=Int.pow_pos (by decide)
 rw [Int.fdiv_eq_ediv_of_nonneg x (show (0:Int)<=256 by decide),Int.fdiv_eq_ediv_of_nonneg _ (Int.le_of_lt h1),Int.fdiv_eq_ediv_of_nonneg _ (Int.le_of_lt h2),Int.ediv_ediv_of_nonneg (by decide),Int.pow_succ,Int.mul_comm]
theorem leB_get:∀ (k:Nat) (x:Int) (i:Nat),i<k->(leB x k)[i]?=some (UInt8.ofInt (x.fdiv (256 ^ i)))
 | 0,_,_,h=>absurd h (Nat.not_lt_zero _)
 | k+1,x,0,_=>by unfold leB; rw [List.getElem?_cons_zero,Int.pow_zero,Int.fdiv_one]
 | k+1,x,i+1,h=>by unfold leB; rw [List.getElem?_cons_succ,leB_get k _ i (by omega),fdiv_pow]
def putS (l:Str) (lo n:Nat) (x:Int):Str:=l.take lo++leB x n++l.drop (lo+n)
def putI (l:Str) (lo n:Nat) (x:Int) (i:Int):Str:=l.take lo++(leB x n).take i.toNat++l.drop (lo+i.toNat)
theorem put_0 (l:Str) (lo n:Nat) (x:Int):putI l lo n x 0=l:=by
 unfold putI
 rw [show (0:Int).toNat=0 from rfl,List.take_zero,List.append_nil,Nat.add_zero,List.take_append_drop]
theorem put_n (l:Str) (lo n:Nat) (x i:Int) (h:i.toNat=n):putI l lo n x i=putS l lo n x:=by
 unfold putI putS
 rw [h,List.take_of_length_le (l:=leB x n) (by rw [leB_len]; exact Nat.le_refl _)]
theorem put_len {l:Str} {lo n:Nat} {x i:Int} (h0:0<=i) (h1:i<=n) (h2:lo+n<=l.length):(putI l lo n x i).length=l.length:=by
 unfold putI
 simp only [List.length_append,List.length_take,List.length_drop,leB_len]
 omega
theorem shr8 {x i:Int} (h0:0<=i) (h1:i<8):x.fdiv (2 ^ min (8 * i).toNat IntKind.i64.bits)=x.fdiv (256 ^ i.toNat):=by
 have e:min (8 * i).toNat IntKind.i64.bits=8 * i.toNat:=by
  show min (8 * i).toNat 64=_
  omega
 rw [e,Int.pow_mul]; rfl
theorem put_step {l:Str} {lo n:Nat} {x i j:Int} (h0:0<=i) (h1:i<n) (h2:lo+n<=l.length) (hj:j=(lo:Int)+i):(putI l lo n x i).set j.toNat (UInt8.ofInt (x.fdiv (256 ^ i.toNat)))=putI l lo n x (i+1):=by
 have hg:=leB_get n x i.toNat (by omega)
 have e1:(i+1).toNat=i.toNat+1:=by omega
 have hl:(l.take lo++(leB x n).take i.toNat).length=j.toNat:=by
  simp only [List.length_append,List.length_take,leB_len]; omega
 unfold putI
 rw [e1,List.set_append_right _ _ (by rw [hl]; exact Nat.le_refl _),hl,Nat.sub_self,List.take_add_one,hg]
 have hd:l.drop (lo+i.toNat)=(l[lo+i.toNat]'(by omega))::l.drop (lo+(i.toNat+1)):=List.drop_eq_getElem_cons (by omega)
 rw [hd,List.set_cons_zero]
 simp only [Option.toList_some,List.append_assoc,List.cons_append,List.nil_append]
theorem put_next {l:Str} {lo n:Nat} {x i j:Int} (h0:0<=i) (h1:i<n) (hn:n<=8) (h2:lo+n<=l.length) (hj:j=(lo:Int)+i):(putI l lo n x i).set j.toNat (UInt8.ofInt (x.fdiv (2 ^ min (8 * i).toNat IntKind.i64.bits)))=putI l lo n x (i+1):=by
 rw [shr8 h0 (by omega)]
 exact put_step h0 h1 h2 hj
theorem shr32 {x i:Int} (h0:0<=i) (h1:i<4):x.fdiv (2 ^ min (8 * i).toNat IntKind.u32.bits)=x.fdiv (256 ^ i.toNat):=by
 have e:min (8 * i).toNat IntKind.u32.bits=8 * i.toNat:=by
  show min (8 * i).toNat 32=_
  omega
 rw [e,Int.pow_mul]; rfl
def headS (turn half n:Int):Str:=leB turn 8++leB half 1++leB n 4++List.replicate 235 0++leB turn 8
theorem head_put (t h n:Int):putS (putS (putS (putS (List.replicate 256 0) 0 8 t) 8 1 h) 9 4 n) 248 8 t=headS t h n:=by
 have l8:=leB_len 8 t
 have l1:=leB_len 1 h
 have l4:=leB_len 4 n
 have m:∀ (u:Str) (a k c:Nat) (x:Int),u.length=c->putS (u++List.replicate (k+a) 0) c k x=u++leB x k++List.replicate a 0:=fun u a k c x hu=>by
  unfold putS
  rw [<- hu,List.take_left,<- List.drop_drop,List.drop_left,List.drop_replicate,Nat.add_sub_cancel_left]
 have e1:=m [] 248 8 0 t rfl
 rw [List.nil_append,List.nil_append] at e1
 have e2:=m (leB t 8) 247 1 8 h l8
 have e3:=m (leB t 8++leB h 1) 243 4 9 n (by rw [List.length_append,l8,l1])
 have e4:=m (leB t 8++leB h 1++leB n 4++List.replicate 235 0) 0 8 248 t (by rw [List.length_append,List.length_append,List.length_append,l8,l1,l4,List.length_replicate])
 rw [List.replicate_zero,List.append_nil] at e4
 have f1:putS (List.replicate 256 0) 0 8 t=leB t 8++List.replicate 248 0:=e1
 have f2:putS (leB t 8++List.replicate 248 0) 8 1 h=leB t 8++leB h 1++List.replicate 247 0:=e2
 have f3:putS (leB t 8++leB h 1++List.replicate 247 0) 9 4 n=leB t 8++leB h 1++leB n 4++List.replicate 243 0:=e3
 have f4:(List.replicate 243 0:Str)=List.replicate 235 0++List.replicate (8+0) 0:=by rw [List.replicate_append_replicate]
 rw [f1,f2,f3,f4,<- List.append_assoc,e4]
 rfl
theorem head_len (t h n:Int):(headS t h n).length=256:=by
 unfold headS
 simp only [List.length_append,leB_len,List.length_replicate]
end Go.Wa
end
