/- 36 texts, one behind the other. -/
import Derived.Test.YtckpdliipjekgaaGreatWp4
import Derived.Test.YtckpdliipjekgaaGreatWpEr
set_option linter.defProp false
set_option linter.unusedVariables false
set_option linter.unusedSimpArgs false
set_option maxRecDepth 100000
noncomputable section
def b4N:=@Classical.not_not
def b4Q:=@List.take_of_length_le
def b4Y:=@List.length_singleton
def b5F:=@List.drop_of_length_le
def b5P:=@Int.tdiv_eq_ediv_of_nonneg
def b7R:=@List.replicate_zero
def b7S:=@List.replicate_append_replicate
def b8K:=@List.of_mem_zip
def b8X:=@Int.toNat_natCast
def b9K:=@Array.getElem?_push
def b9W:=@List.take_add_one
def c0F:=@decide_eq_decide
def c0G:=@List.ext_getElem
def c0I:=@Nat.not_lt_zero
section
namespace Go.Proofs.YtckpdliipjekgaaGreat
open Go Go.Wk Go.Wl Go.Rx Go.Wa 
def Gl:a0w:=⟨fun _ _=>True,fun _ _ _ _=>trivial⟩
def E0:Env:=⟨Tryz.prog,U,eT,tyU,fun _=>none,fun _=>none,fun _=>false,fun _=>none,fun _=>none,Gl,fun _=>none,fun t=>Nat.beq t 41,fun _=>none,fun _=>none,none⟩
theorem e5m:l7 E0:=by
 refine ⟨by kernel_rfl,fun t k x h=>?_,fun K h=>?_,fun K fn h=>?_,fun K f args nx c h=>?_,fun K f args nx c h=>?_,fun K o x args r h=>?_,fun K o a x r h=>?_,fun K h=>?_,fun K o args its r h=>?_,fun K h=>?_,fun K C args its q h=>?_,fun o x args r h hr ho=>?_⟩ <;> cases h
theorem E4 {ρ:r9} {Z:Nat->Prop} {w:World} {cs:List Value} (h:Rep U eT ρ Z w (.tuple cs.toArray) (.tup [])):cs=[]:=by
 generalize e:Value.tuple cs.toArray=u at h
 cases h with | a1O=>simpa using e
theorem Sim.cell {w w1:World} (h:Sim w w1) (a:Addr):w1.cell? a=w.cell? a:=by obtain ⟨k,rfl⟩:=h; rfl
theorem Own.b3F {w:World} {b:Nat} {T:TypeId} {cs:List Value} (h:Own w b T cs) (o:Nat):w.cell? ⟨b,o,none⟩=cs[o]? := by unfold Own at h; simp [World.cell?,h]
theorem b3b {w w1 w2:World} {B:List Nat} (hs:Sim w w1) (h:Ext B w1 w2):Ext B w w2:=by
 obtain ⟨k,rfl⟩:=hs
 exact ⟨h.os,h.tape,h.output,h.size,h.block⟩
theorem d09 {K:Nat} {args:List (SV U)} {q:Q1 U} (h:∀ (D:Nat->Prop) (w:World) (vs:List Value),Rep U eT (fun _=>none) D w (.tuple vs.toArray) (.tup args)->∃ v,(∀ w',Rep U eT (fun _=>none) (fun _=>False) w' v q.v)/\n6 q.hy/\∀ w1,Sim w w1->Calls Tryz.prog K vs.toArray w1 fun e w'=>e=.returned v/\Ext [] w1 w'):a0j E0 K args ⟨q.ob,q.hy,q.v,[]⟩ :=
 fun D w vs _ _ ha w1 hs=>by
  obtain ⟨v,hr,hy,hc⟩:=h D w vs ha
  exact (hc w1 hs).mono fun e w2 ⟨h1,h2⟩=>⟨v,w2,h1,Sim.refl _,b3b hs h2,hr w2,hy⟩
theorem b91 (w:World) (o:Obj) (k:Nat) (hk:k<w.heap.size):(w.alloc o).heap[k]?=w.heap[k]? := by
 show (w.heap.push o)[k]?=_
 rw [b9K,if_neg (by omega)]
theorem c3k {w:World} {B:List Nat} (o:Obj):Ext B w (w.alloc o):=⟨rfl,rfl,rfl,(by show w.heap.size<=(w.heap.push o).size; rw [Array.size_push]; omega),fun k hk _=>b91 w o k hk⟩
def cIs (a:List (SV U)):Option (Q1 U):=match a with | [.err e,.err (.no n)]=>some ⟨[],[],.bl (e.is n) inferInstance⟩ | _=>none
theorem d9h (args:List (SV U)) (q:Q1 U) (h:cIs args=some q) (_:n6 q.ob):a0j E0 20 args ⟨q.ob,q.hy,q.v,[]⟩:=by
 unfold cIs at h
 split at h
 . rename_i e n
   cases h
   refine d09 fun D w vs ha=>⟨.bool (decide (e.is n)),fun _=>.bl,trivial,fun w1 hs=>?_⟩
   have same:∀ {b:Bool},(Calls Tryz.prog 20 vs.toArray w1 fun e w'=>e=.returned (.bool b)/\w'=w1)->Calls Tryz.prog 20 vs.toArray w1 fun e w'=>e=.returned (.bool b)/\Ext [] w1 w':=fun h=>h.mono fun _ _ ⟨a,b⟩=>⟨a,by subst b; exact Ext.refl _ _⟩
   obtain ⟨v1,r1,rfl,h1,ha⟩:=Rep.a0H ha
   obtain ⟨v2,r2,rfl,h2,ha⟩:=Rep.a0H ha
   obtain rfl:=E4 ha
   cases h1 with | err h1 =>
   cases h2 with | err h2 =>
   cases h2 with | no hn =>
   cases h1 with
   | nil =>
    have e:decide (Err.is .nil n)=false:=b5K (by simp [Err.is,Err.num])
    rw [e]; exact same (e0i n w1)
   | @no a ha' =>
    have e:decide (Err.is (.no a) n)=decide (a=n):=c0F.2 (by simp [Err.is,Err.num])
    rw [e]; exact same (c7y a n w1)
   | @fault b a m hz ho ha' hm h0=>exact absurd rfl h0
   | @w t k s m ht hm hk =>
    obtain ⟨rfl,rfl⟩:=d7l ht
    have e:decide (Err.is (.w 144 s (.no m)) n)=decide (m=n):=c0F.2 (by simp [Err.is,Err.num])
    rw [e]; exact (d4u (sv s) m n w1).mono fun _ _ ⟨a,o,b⟩=>⟨a,by subst b; exact c3k _⟩
   | @p t S b s m ht hz ho hm =>
    obtain ⟨rfl,rfl⟩:=e0k ht
    have e:decide (Err.is (.p 132 s m) n)=decide (m=n):=c0F.2 (by simp [Err.is,Err.num])
    rw [e]; exact same (d4l b m n w1 (by rw [Sim.cell hs,Own.b3F ho]; rfl))
 . cases h
def N0:Env:=E0.a1R 20 cIs
theorem e2l:l7 N0:=e5m.a1R Tryz.call20 d9h
def erN (n:Int):Err:=if n=0 then .nil else .no n
theorem b3w {ρ:r9} {Z:Nat->Prop} {w:World} {n:Int} (h:InI n):Rep U eT ρ Z w (I5 52 n) (.err (erN n)):=by
 unfold erN
 by_cases e:n=0
 . subst e; rw [if_pos rfl,<- r8]; exact .err .nil
 . rw [if_neg e,<- o6 e]; exact .err (.no h)
theorem small {n:Int} (h:0<=n/\n<=16):InI n:=⟨by omega,by omega⟩
end Go.Proofs.YtckpdliipjekgaaGreat
end
section
namespace Go.Proofs.YtckpdliipjekgaaGreat
open Go Go.Wk Go.Wl Classical
theorem a6o {w0:World} {d:Nat} {x:Dk} {F:List Nat} (h:B9 d w0 x F) (ok:x.Ok) :
  A6 Tryz.prog 55 [.pointer (some ⟨d,0,none⟩)] w0 (fun v w'=>v=.int .i64 (x.a0B.length:Int)/\w'=w0):=by
 obtain ⟨A,cap,bm,hs0⟩:=h.fix
 have ⟨hp,hm,hl,hfl,⟨hi1,hi2⟩,hky⟩:=ok
 refine a17 Tryz.func55 rfl rfl rfl rfl ?_
 refine k8 ?_
 refine b9 ?_
 refine j6 rfl ?_
 refine b8 ?_
 refine k8 ?_
 refine k8 ?_
 refine b9 ?_
 refine k9 rfl ?_
 refine e25 Tryz.runUnderlying23 rfl rfl ?_
 refine b8 ?_
 refine T8 rfl ?_
 refine G0 ?_
 refine k8 ?_
 refine b9 ?_
 refine k9 rfl ?_
 refine r7 rfl rfl ?_
 refine q6 Tryz.runUnderlying56 rfl Tryz.sizeOf53 rfl rfl ?_
 refine C3 Tryz.isAgg53 rfl (Own.at ((hs0.at 0 rfl)).2 rfl) rfl ?_
 refine a1z Tryz.runUnderlying53 rfl rfl ?_
 refine j6 rfl ?_
 refine b8 ?_
 refine F4 ?_
 show (Value.int .i64 (x.a0B.length:Int))=.int .i64 (x.a0B.length:Int)/\w0=w0
 exact ⟨rfl,rfl⟩
theorem c5a {w0:World} :
  A6 Tryz.prog 55 [.pointer none] w0 (fun v w'=>v=.int .i64 0/\w'=w0):=by
 refine a17 Tryz.func55 rfl rfl rfl rfl ?_
 refine k8 ?_
 refine b9 ?_
 refine j6 rfl ?_
 refine b8 ?_
 refine k8 ?_
 refine k8 ?_
 refine b9 ?_
 refine k9 rfl ?_
 refine d4d Tryz.runUnderlying23 rfl rfl ?_
 refine b8 ?_
 refine J9 rfl ?_
 refine k8 ?_
 refine b9 ?_
 refine j6 rfl ?_
 refine b8 ?_
 refine F4 ?_
 show (Value.int .i64 0)=.int .i64 0/\w0=w0
 exact ⟨rfl,rfl⟩
theorem a8t {w0:World} {d:Nat} {x:Dk} {F:List Nat} (h:B9 d w0 x F) (ok:x.Ok) (at_:Int) :
  A6 Tryz.prog 69 [.pointer (some ⟨d,0,none⟩),.int .i64 at_] w0 (fun v w'=>v=.int .i64 (x.a0I at_)/\w'=w0):=by
 obtain ⟨A,cap,bm,hs0⟩:=h.fix
 have ⟨hp,hm,hl,hfl,⟨hi1,hi2⟩,hky⟩:=ok
 refine a17 Tryz.func69 rfl rfl rfl rfl ?_
 refine k8 ?_
 refine b9 ?_
 refine j6 rfl ?_
 refine b8 ?_
 refine k8 ?_
 refine I7 ?_
 refine k8 ?_
 refine b9 ?_
 refine k9 rfl ?_
 refine a14 Tryz.call55 rfl (a6o h ok) rfl ?_
 refine a36 rfl rfl rfl ?_
 refine j6 rfl ?_
 refine b8 ?_
 refine E3 rfl (fun h1=>?_) (fun h1=>?_)
 .
  have p2:=b3V h1
  exfalso; omega
 .
  have p3:=b4K h1
  refine k8 ?_
  refine b9 ?_
  refine k9 rfl ?_
  refine a7r rfl rfl rfl ?_
  refine k9 rfl ?_
  refine a4h (dj:=12) rfl (fun h4=>?_) (fun h4=>?_)
  .
   have p5:=b3V h4
   refine L4 rfl rfl rfl (bT h4) ?_
   refine L4 rfl rfl rfl (bT h4) ?_
   refine L4 rfl rfl rfl (bT h4) ?_
   refine L4 rfl rfl rfl (bT h4) ?_
   refine L4 rfl rfl rfl (bT h4) ?_
   refine L4 rfl rfl rfl (bT h4) ?_
   refine L4 rfl rfl rfl (bT h4) ?_
   refine a4s (bT h4) rfl ?_
   refine j6 rfl ?_
   refine b8 ?_
   refine J9 rfl ?_
   refine k8 ?_
   refine F3 (L:=[]) trivial ?_
   intro g6
   refine b9 ?_
   refine j6 rfl ?_
   refine b8 ?_
   refine F4 ?_
   show (Value.int .i64 3)=.int .i64 (x.a0I at_)/\w0=w0
   exact ⟨by rw [Dk.a0I,if_pos (by omega)],rfl⟩
  .
   have p7:=b4K h4
   refine L5 rfl rfl (bF h4) ?_
   refine k9 rfl ?_
   refine L5 rfl rfl (bF h4) ?_
   refine k9 rfl ?_
   refine L5 rfl rfl (bF h4) ?_
   refine r7 rfl rfl ?_
   refine L5 rfl rfl (bF h4) ?_
   refine q6 Tryz.runUnderlying56 rfl Tryz.sizeOf53 rfl rfl ?_
   refine L5 rfl rfl (bF h4) ?_
   refine C3 Tryz.isAgg53 rfl (Own.at ((hs0.at 0 rfl)).2 rfl) rfl ?_
   refine L5 rfl rfl (bF h4) ?_
   refine a1z Tryz.runUnderlying53 rfl rfl ?_
   refine L5 rfl rfl (bF h4) ?_
   refine c83 rfl rfl rfl ?_
   refine a1v (bF h4) rfl ?_
   refine j6 rfl ?_
   refine b8 ?_
   refine E3 rfl (fun h8=>?_) (fun h8=>?_)
   .
    have p9:=b3V h8
    refine k8 ?_
    refine F3 (L:=[]) trivial ?_
    intro g10
    refine b9 ?_
    refine j6 rfl ?_
    refine b8 ?_
    refine F4 ?_
    show (Value.int .i64 3)=.int .i64 (x.a0I at_)/\w0=w0
    exact ⟨by rw [Dk.a0I,if_pos (by omega)],rfl⟩
   .
    have p11:=b4K h8
    refine G0 ?_
    refine k8 ?_
    refine F3 (L:=[]) trivial ?_
    intro g12
    refine b9 ?_
    refine j6 rfl ?_
    refine b8 ?_
    refine F4 ?_
    show (Value.int .i64 0)=.int .i64 (x.a0I at_)/\w0=w0
    exact ⟨by rw [Dk.a0I,if_neg (by omega)],rfl⟩
theorem b3y {w0:World} {d:Nat} {x:Dk} {F:List Nat} (h:B9 d w0 x F) (ok:x.Ok) (wr:Int) :
  A6 Tryz.prog 70 [.pointer (some ⟨d,0,none⟩),.int .i64 wr] w0 (fun v w'=>v=I5 52 (x.act wr).1/\∃ F',B9 d w' (x.act wr).2 F'/\S5 w0 w' F F'):=by
 obtain ⟨A,cap,bm,bs,eF,hs0⟩:=h.sep (Z:=fun _=>False) (fun _ h=>h.elim) (fun _ _ h=>h)
 have ⟨hp,hm,hl,hfl,⟨hi1,hi2⟩,hky⟩:=ok
 refine a17 Tryz.func70 rfl rfl rfl rfl ?_
 refine k8 ?_
 refine b9 ?_
 refine j6 rfl ?_
 refine b8 ?_
 refine k8 ?_
 refine k8 ?_
 refine b9 ?_
 refine k9 rfl ?_
 refine b8 ?_
 refine I7 ?_
 refine k8 ?_
 refine b9 ?_
 refine a36 rfl rfl rfl ?_
 refine j6 rfl ?_
 refine b8 ?_
 refine E3 rfl (fun h1=>?_) (fun h1=>?_)
 .
  have p2:=b3V h1
  refine k8 ?_
  refine b9 ?_
  refine J1 Tryz.runUnderlying52 rfl rfl rfl ?_
  refine j6 rfl ?_
  refine b8 ?_
  refine F4 ?_
  show (Value.iface 52 (.int .i64 1))=I5 52 (x.act wr).1/\∃ F',B9 d w0 (x.act wr).2 F'/\S5 w0 w0 F F'
  have hc:=B9.close hs0 (Ac.bs1 (hs0.at 2 rfl))
  simp only [Dk.act]
  first | (rw [if_pos (by omega)]; exact ⟨(by first | rfl | exact o6 (by decide) | exact r8),_,hc⟩) | (rw [if_neg (by omega),if_pos (by omega)]; exact ⟨(by first | rfl | exact o6 (by decide) | exact r8),_,hc⟩) | (rw [if_neg (by omega),if_neg (by omega),if_pos (by omega)]; exact ⟨(by first | rfl | exact o6 (by decide) | exact r8),_,hc⟩) | (rw [if_neg (by omega),if_neg (by omega),if_neg (by omega),if_pos (by omega)]; exact ⟨(by first | rfl | exact o6 (by decide) | exact r8),_,hc⟩) | (rw [if_neg (by omega),if_neg (by omega),if_neg (by omega),if_neg (by omega),if_pos (by assumption)]; exact ⟨(by first | rfl | exact o6 (by decide) | exact r8),_,hc⟩) | (rw [if_neg (by omega),if_neg (by omega),if_neg (by omega),if_neg (by omega),if_neg (by simp_all),if_pos (by omega)]; exact ⟨(by first | rfl | exact o6 (by decide) | exact r8),_,hc⟩) | (rw [if_neg (by omega),if_neg (by omega),if_neg (by omega),if_neg (by omega),if_neg (by simp_all),if_neg (by omega)]; exact ⟨(by first | rfl | exact o6 (by decide) | exact r8),_,hc⟩)
 .
  have p3:=b4K h1
  refine k8 ?_
  refine b9 ?_
  refine a36 rfl rfl rfl ?_
  refine j6 rfl ?_
  refine b8 ?_
  refine E3 rfl (fun h4=>?_) (fun h4=>?_)
  .
   have p5:=b3V h4
   refine k8 ?_
   refine b9 ?_
   refine J1 Tryz.runUnderlying52 rfl rfl rfl ?_
   refine j6 rfl ?_
   refine b8 ?_
   refine F4 ?_
   show (Value.iface 52 (.int .i64 2))=I5 52 (x.act wr).1/\∃ F',B9 d w0 (x.act wr).2 F'/\S5 w0 w0 F F'
   have hc:=B9.close hs0 (Ac.bs1 (hs0.at 2 rfl))
   simp only [Dk.act]
   first | (rw [if_pos (by omega)]; exact ⟨(by first | rfl | exact o6 (by decide) | exact r8),_,hc⟩) | (rw [if_neg (by omega),if_pos (by omega)]; exact ⟨(by first | rfl | exact o6 (by decide) | exact r8),_,hc⟩) | (rw [if_neg (by omega),if_neg (by omega),if_pos (by omega)]; exact ⟨(by first | rfl | exact o6 (by decide) | exact r8),_,hc⟩) | (rw [if_neg (by omega),if_neg (by omega),if_neg (by omega),if_pos (by omega)]; exact ⟨(by first | rfl | exact o6 (by decide) | exact r8),_,hc⟩) | (rw [if_neg (by omega),if_neg (by omega),if_neg (by omega),if_neg (by omega),if_pos (by assumption)]; exact ⟨(by first | rfl | exact o6 (by decide) | exact r8),_,hc⟩) | (rw [if_neg (by omega),if_neg (by omega),if_neg (by omega),if_neg (by omega),if_neg (by simp_all),if_pos (by omega)]; exact ⟨(by first | rfl | exact o6 (by decide) | exact r8),_,hc⟩) | (rw [if_neg (by omega),if_neg (by omega),if_neg (by omega),if_neg (by omega),if_neg (by simp_all),if_neg (by omega)]; exact ⟨(by first | rfl | exact o6 (by decide) | exact r8),_,hc⟩)
  .
   have p6:=b4K h4
   refine k8 ?_
   refine b9 ?_
   refine a36 rfl rfl rfl ?_
   refine j6 rfl ?_
   refine b8 ?_
   refine E3 rfl (fun h7=>?_) (fun h7=>?_)
   .
    have p8:=b3V h7
    refine k8 ?_
    refine b9 ?_
    refine J1 Tryz.runUnderlying52 rfl rfl rfl ?_
    refine j6 rfl ?_
    refine b8 ?_
    refine F4 ?_
    show (Value.iface 52 (.int .i64 3))=I5 52 (x.act wr).1/\∃ F',B9 d w0 (x.act wr).2 F'/\S5 w0 w0 F F'
    have hc:=B9.close hs0 (Ac.bs1 (hs0.at 2 rfl))
    simp only [Dk.act]
    first | (rw [if_pos (by omega)]; exact ⟨(by first | rfl | exact o6 (by decide) | exact r8),_,hc⟩) | (rw [if_neg (by omega),if_pos (by omega)]; exact ⟨(by first | rfl | exact o6 (by decide) | exact r8),_,hc⟩) | (rw [if_neg (by omega),if_neg (by omega),if_pos (by omega)]; exact ⟨(by first | rfl | exact o6 (by decide) | exact r8),_,hc⟩) | (rw [if_neg (by omega),if_neg (by omega),if_neg (by omega),if_pos (by omega)]; exact ⟨(by first | rfl | exact o6 (by decide) | exact r8),_,hc⟩) | (rw [if_neg (by omega),if_neg (by omega),if_neg (by omega),if_neg (by omega),if_pos (by assumption)]; exact ⟨(by first | rfl | exact o6 (by decide) | exact r8),_,hc⟩) | (rw [if_neg (by omega),if_neg (by omega),if_neg (by omega),if_neg (by omega),if_neg (by simp_all),if_pos (by omega)]; exact ⟨(by first | rfl | exact o6 (by decide) | exact r8),_,hc⟩) | (rw [if_neg (by omega),if_neg (by omega),if_neg (by omega),if_neg (by omega),if_neg (by simp_all),if_neg (by omega)]; exact ⟨(by first | rfl | exact o6 (by decide) | exact r8),_,hc⟩)
   .
    have p9:=b4K h7
    refine G0 ?_
    refine k8 ?_
    refine I7 ?_
    refine k8 ?_
    refine I7 ?_
    refine k8 ?_
    refine I7 ?_
    refine k8 ?_
    refine I7 ?_
    refine k8 ?_
    refine k8 ?_
    refine k8 ?_
    refine b9 ?_
    refine k9 rfl ?_
    refine r7 rfl rfl ?_
    refine q6 Tryz.runUnderlying56 rfl Tryz.sizeOf3 rfl rfl ?_
    refine C3 Tryz.isAgg3 rfl (Own.at (hs0.at 0 rfl) rfl) rfl ?_
    refine a36 rfl rfl rfl ?_
    refine j6 rfl ?_
    refine b8 ?_
    refine E3 rfl (fun h10=>?_) (fun h10=>?_)
    .
     have p11:=b3V h10
     refine a11 ?_
     refine F3 (L:=[(0,.pointer (some ⟨d,0,none⟩))]) ⟨rfl,trivial⟩ ?_
     intro g12
     refine b9 ?_
     refine k9 rfl ?_
     refine r7 rfl rfl ?_
     refine q6 Tryz.runUnderlying56 rfl Tryz.sizeOf4 rfl rfl ?_
     refine a6y hs0 0 rfl Tryz.sizeOf4 rfl rfl rfl (b4T rfl) rfl ?_
     intro w13 hs14
     have hs14:Sep F w0 (fun _=>False) w13 [K9 d 56 [.slice A x.a0B.length cap,.map (some bm),.int .i64 x.left,.bool true] [d],L7 E5 bm (u9 (fun s=>av s) x.fresh) [bm],iAc (C6 256) (.slice A x.a0B.length cap) x.a0B bs bs]:=hs14
     refine b8 ?_
     refine k8 ?_
     refine k8 ?_
     refine b9 ?_
     refine J1 Tryz.runUnderlying52 rfl rfl rfl ?_
     refine j6 rfl ?_
     refine b8 ?_
     refine F4 ?_
     show (Value.iface 52 (.int .i64 9))=I5 52 (x.act wr).1/\∃ F',B9 d w13 (x.act wr).2 F'/\S5 w0 w13 F F'
     have hc:=B9.close hs14 (Ac.bs1 (hs14.at 2 rfl))
     simp only [Dk.act]
     first | (rw [if_pos (by omega)]; exact ⟨(by first | rfl | exact o6 (by decide) | exact r8),_,hc⟩) | (rw [if_neg (by omega),if_pos (by omega)]; exact ⟨(by first | rfl | exact o6 (by decide) | exact r8),_,hc⟩) | (rw [if_neg (by omega),if_neg (by omega),if_pos (by omega)]; exact ⟨(by first | rfl | exact o6 (by decide) | exact r8),_,hc⟩) | (rw [if_neg (by omega),if_neg (by omega),if_neg (by omega),if_pos (by omega)]; exact ⟨(by first | rfl | exact o6 (by decide) | exact r8),_,hc⟩) | (rw [if_neg (by omega),if_neg (by omega),if_neg (by omega),if_neg (by omega),if_pos (by assumption)]; exact ⟨(by first | rfl | exact o6 (by decide) | exact r8),_,hc⟩) | (rw [if_neg (by omega),if_neg (by omega),if_neg (by omega),if_neg (by omega),if_neg (by simp_all),if_pos (by omega)]; exact ⟨(by first | rfl | exact o6 (by decide) | exact r8),_,hc⟩) | (rw [if_neg (by omega),if_neg (by omega),if_neg (by omega),if_neg (by omega),if_neg (by simp_all),if_neg (by omega)]; exact ⟨(by first | rfl | exact o6 (by decide) | exact r8),_,hc⟩)
    .
     have p15:=b4K h10
     refine G0 ?_
     refine k8 ?_
     refine k8 ?_
     refine F3 (L:=[(0,.pointer (some ⟨d,0,none⟩))]) ⟨rfl,trivial⟩ ?_
     intro g16
     refine b9 ?_
     refine k9 rfl ?_
     refine r7 rfl rfl ?_
     refine q6 Tryz.runUnderlying56 rfl Tryz.sizeOf4 rfl rfl ?_
     refine C3 Tryz.isAgg4 rfl (Own.at (hs0.at 0 rfl) rfl) rfl ?_
     refine j6 rfl ?_
     refine b8 ?_
     refine E3 rfl (fun h17=>?_) (fun h17=>?_)
     .
      have p18:=h17
      try simp only [lrn] at p18
      refine a11 ?_
      refine k8 ?_
      refine k8 ?_
      refine b9 ?_
      refine J1 Tryz.runUnderlying52 rfl rfl rfl ?_
      refine j6 rfl ?_
      refine b8 ?_
      refine F4 ?_
      show (Value.iface 52 (.int .i64 9))=I5 52 (x.act wr).1/\∃ F',B9 d w0 (x.act wr).2 F'/\S5 w0 w0 F F'
      have hc:=B9.close hs0 (Ac.bs1 (hs0.at 2 rfl))
      simp only [Dk.act]
      first | (rw [if_pos (by omega)]; exact ⟨(by first | rfl | exact o6 (by decide) | exact r8),_,hc⟩) | (rw [if_neg (by omega),if_pos (by omega)]; exact ⟨(by first | rfl | exact o6 (by decide) | exact r8),_,hc⟩) | (rw [if_neg (by omega),if_neg (by omega),if_pos (by omega)]; exact ⟨(by first | rfl | exact o6 (by decide) | exact r8),_,hc⟩) | (rw [if_neg (by omega),if_neg (by omega),if_neg (by omega),if_pos (by omega)]; exact ⟨(by first | rfl | exact o6 (by decide) | exact r8),_,hc⟩) | (rw [if_neg (by omega),if_neg (by omega),if_neg (by omega),if_neg (by omega),if_pos (by assumption)]; exact ⟨(by first | rfl | exact o6 (by decide) | exact r8),_,hc⟩) | (rw [if_neg (by omega),if_neg (by omega),if_neg (by omega),if_neg (by omega),if_neg (by simp_all),if_pos (by omega)]; exact ⟨(by first | rfl | exact o6 (by decide) | exact r8),_,hc⟩) | (rw [if_neg (by omega),if_neg (by omega),if_neg (by omega),if_neg (by omega),if_neg (by simp_all),if_neg (by omega)]; exact ⟨(by first | rfl | exact o6 (by decide) | exact r8),_,hc⟩)
     .
      have p19:=h17
      try simp only [lrn] at p19
      refine G0 ?_
      refine k8 ?_
      refine b9 ?_
      refine k9 rfl ?_
      refine r7 rfl rfl ?_
      refine q6 Tryz.runUnderlying56 rfl Tryz.sizeOf3 rfl rfl ?_
      refine C3 Tryz.isAgg3 rfl (Own.at (hs0.at 0 rfl) rfl) rfl ?_
      refine b4f rfl rfl rfl ?_
      refine j6 rfl ?_
      refine b8 ?_
      refine E3 rfl (fun h20=>?_) (fun h20=>?_)
      .
       have p21:=b3V h20
       refine a11 ?_
       refine k8 ?_
       refine F3 (L:=[(0,.pointer (some ⟨d,0,none⟩))]) ⟨rfl,trivial⟩ ?_
       intro g22
       refine b9 ?_
       refine k9 rfl ?_
       refine r7 rfl rfl ?_
       refine q6 Tryz.runUnderlying56 rfl Tryz.sizeOf3 rfl rfl ?_
       refine C3 Tryz.isAgg3 rfl (Own.at (hs0.at 0 rfl) rfl) rfl ?_
       refine c0f rfl rfl (by omega) rfl ?_
       refine r7 rfl rfl ?_
       refine q6 Tryz.runUnderlying56 rfl Tryz.sizeOf3 rfl rfl ?_
       refine a6y hs0 0 rfl Tryz.sizeOf3 rfl rfl rfl (b4T rfl) rfl ?_
       intro w23 hs24
       have hs24:Sep F w0 (fun _=>False) w23 [K9 d 56 [.slice A x.a0B.length cap,.map (some bm),.int .i64 (x.left-1),.bool x.off] [d],L7 E5 bm (u9 (fun s=>av s) x.fresh) [bm],iAc (C6 256) (.slice A x.a0B.length cap) x.a0B bs bs]:=hs24
       refine b8 ?_
       refine a11 ?_
       refine k8 ?_
       refine b9 ?_
       refine j6 rfl ?_
       refine b8 ?_
       refine F4 ?_
       show (Value.nilIface)=I5 52 (x.act wr).1/\∃ F',B9 d w23 (x.act wr).2 F'/\S5 w0 w23 F F'
       have hc:=B9.close hs24 (Ac.bs1 (hs24.at 2 rfl))
       simp only [Dk.act]
       first | (rw [if_pos (by omega)]; exact ⟨(by first | rfl | exact o6 (by decide) | exact r8),_,hc⟩) | (rw [if_neg (by omega),if_pos (by omega)]; exact ⟨(by first | rfl | exact o6 (by decide) | exact r8),_,hc⟩) | (rw [if_neg (by omega),if_neg (by omega),if_pos (by omega)]; exact ⟨(by first | rfl | exact o6 (by decide) | exact r8),_,hc⟩) | (rw [if_neg (by omega),if_neg (by omega),if_neg (by omega),if_pos (by omega)]; exact ⟨(by first | rfl | exact o6 (by decide) | exact r8),_,hc⟩) | (rw [if_neg (by omega),if_neg (by omega),if_neg (by omega),if_neg (by omega),if_pos (by assumption)]; exact ⟨(by first | rfl | exact o6 (by decide) | exact r8),_,hc⟩) | (rw [if_neg (by omega),if_neg (by omega),if_neg (by omega),if_neg (by omega),if_neg (by simp_all),if_pos (by omega)]; exact ⟨(by first | rfl | exact o6 (by decide) | exact r8),_,hc⟩) | (rw [if_neg (by omega),if_neg (by omega),if_neg (by omega),if_neg (by omega),if_neg (by simp_all),if_neg (by omega)]; exact ⟨(by first | rfl | exact o6 (by decide) | exact r8),_,hc⟩)
      .
       have p25:=b4K h20
       refine G0 ?_
       refine a11 ?_
       refine k8 ?_
       refine F3 (L:=[]) trivial ?_
       intro g26
       refine b9 ?_
       refine j6 rfl ?_
       refine b8 ?_
       refine F4 ?_
       show (Value.nilIface)=I5 52 (x.act wr).1/\∃ F',B9 d w0 (x.act wr).2 F'/\S5 w0 w0 F F'
       have hc:=B9.close hs0 (Ac.bs1 (hs0.at 2 rfl))
       simp only [Dk.act]
       first | (rw [if_pos (by omega)]; exact ⟨(by first | rfl | exact o6 (by decide) | exact r8),_,hc⟩) | (rw [if_neg (by omega),if_pos (by omega)]; exact ⟨(by first | rfl | exact o6 (by decide) | exact r8),_,hc⟩) | (rw [if_neg (by omega),if_neg (by omega),if_pos (by omega)]; exact ⟨(by first | rfl | exact o6 (by decide) | exact r8),_,hc⟩) | (rw [if_neg (by omega),if_neg (by omega),if_neg (by omega),if_pos (by omega)]; exact ⟨(by first | rfl | exact o6 (by decide) | exact r8),_,hc⟩) | (rw [if_neg (by omega),if_neg (by omega),if_neg (by omega),if_neg (by omega),if_pos (by assumption)]; exact ⟨(by first | rfl | exact o6 (by decide) | exact r8),_,hc⟩) | (rw [if_neg (by omega),if_neg (by omega),if_neg (by omega),if_neg (by omega),if_neg (by simp_all),if_pos (by omega)]; exact ⟨(by first | rfl | exact o6 (by decide) | exact r8),_,hc⟩) | (rw [if_neg (by omega),if_neg (by omega),if_neg (by omega),if_neg (by omega),if_neg (by simp_all),if_neg (by omega)]; exact ⟨(by first | rfl | exact o6 (by decide) | exact r8),_,hc⟩)
theorem d1d {w0:World} {d:Nat} {x:Dk} {F:List Nat} (h:B9 d w0 x F) (ok:x.Ok) (n:Int) :
  A6 Tryz.prog 33 [.pointer (some ⟨d,0,none⟩),.int .i64 n] w0 (fun _ w'=>∃ F',B9 d w' (x.limit n) F'/\S5 w0 w' F F'):=by
 obtain ⟨A,cap,bm,bs,eF,hs0⟩:=h.sep (Z:=fun _=>False) (fun _ h=>h.elim) (fun _ _ h=>h)
 have ⟨hp,hm,hl,hfl,⟨hi1,hi2⟩,hky⟩:=ok
 refine e4o Tryz.func33 rfl rfl rfl rfl ?_
 refine k8 ?_
 refine b9 ?_
 refine k9 rfl ?_
 refine c4w Tryz.runUnderlying23 rfl rfl ?_
 refine b8 ?_
 refine J9 rfl ?_
 refine b9 ?_
 refine k9 rfl ?_
 refine k9 rfl ?_
 refine c63 rfl rfl rfl ?_
 refine r7 rfl rfl ?_
 refine q6 Tryz.runUnderlying56 rfl Tryz.sizeOf3 rfl rfl ?_
 refine a6y hs0 0 rfl Tryz.sizeOf3 rfl rfl rfl (b4T rfl) rfl ?_
 intro w1 hs2
 have hs2:Sep F w0 (fun _=>False) w1 [K9 d 56 [.slice A x.a0B.length cap,.map (some bm),.int .i64 (max n (-1)),.bool x.off] [d],L7 E5 bm (u9 (fun s=>av s) x.fresh) [bm],iAc (C6 256) (.slice A x.a0B.length cap) x.a0B bs bs]:=hs2
 refine b8 ?_
 show ∃ F',B9 d w1 (x.limit n) F'/\S5 w0 w1 F F'
 exact ⟨_,B9.close hs2 (Ac.bs1 (hs2.at 2 rfl))⟩
theorem d1i {w0:World} {d:Nat} {x:Dk} {F:List Nat} (h:B9 d w0 x F) (ok:x.Ok) (at_:Int) :
  A6 Tryz.prog 63 [.pointer (some ⟨d,0,none⟩),.int .i64 at_] w0 (fun v w'=>∃ A cap bs,v=.tuple #[.slice A (x.read at_).1.length cap,I5 52 (x.read at_).2]/\Ac n5 (fun b=>b∈F) w' (.slice A (x.read at_).1.length cap) (x.read at_).1 bs/\Ext [] w0 w'/\∀ b∈bs,w0.heap.size<=b):=by
 obtain ⟨A,cap,bm,hs0⟩:=h.fix
 have ⟨hp,hm,hl,hfl,⟨hi1,hi2⟩,hky⟩:=ok
 refine d00 Tryz.func63 rfl rfl rfl rfl ?_
 refine k8 ?_
 refine b9 ?_
 refine j6 rfl ?_
 refine j6 rfl ?_
 refine b8 ?_
 refine k8 ?_
 refine k8 ?_
 refine b9 ?_
 refine k9 rfl ?_
 refine k9 rfl ?_
 refine a14 Tryz.call69 rfl (a8t h ok at_) rfl ?_
 refine b8 ?_
 refine I7 ?_
 refine k8 ?_
 refine b9 ?_
 refine a36 rfl rfl rfl ?_
 refine j6 rfl ?_
 refine b8 ?_
 refine E3 rfl (fun h1=>?_) (fun h1=>?_)
 .
  have p2:=b3V h1
  exfalso; simp only [Dk.a0I] at *; split at * <;> omega
 .
  have p3:=b4K h1
  refine k8 ?_
  refine b9 ?_
  refine a36 rfl rfl rfl ?_
  refine j6 rfl ?_
  refine b8 ?_
  refine E3 rfl (fun h4=>?_) (fun h4=>?_)
  .
   have p5:=b3V h4
   refine k8 ?_
   refine b9 ?_
   refine J1 Tryz.runUnderlying52 rfl rfl rfl ?_
   refine j6 rfl ?_
   refine j6 rfl ?_
   refine b8 ?_
   refine F4 ?_
   show ∃ A cap bs,(Value.tuple #[.slice none 0 0,.iface 52 (.int .i64 3)])=.tuple #[.slice A (x.read at_).1.length cap,I5 52 (x.read at_).2]/\Ac n5 (fun b=>b∈F) w0 (.slice A (x.read at_).1.length cap) (x.read at_).1 bs/\Ext [] w0 w0/\∀ b∈bs,w0.heap.size<=b
   exact ⟨none,0,[],by rw [Dk.read,if_pos (by assumption)]; show Value.tuple #[_,_]=Value.tuple #[_,I5 _ 3]; rw [<- o6 (by decide)]; rfl,by rw [Dk.read,if_pos (by assumption)]; exact Ac.nil,Ext.refl _ _,fun _ h=>by cases h⟩
  .
   have p6:=b4K h4
   refine G0 ?_
   refine k8 ?_
   refine k8 ?_
   refine b9 ?_
   refine k9 rfl ?_
   refine r7 rfl rfl ?_
   refine q6 Tryz.runUnderlying56 rfl Tryz.sizeOf4 rfl rfl ?_
   refine C3 Tryz.isAgg4 rfl (Own.at ((hs0.at 0 rfl)).2 rfl) rfl ?_
   refine b8 ?_
   refine E3 rfl (fun h7=>?_) (fun h7=>?_)
   .
    have p8:=h7
    try simp only [lrn] at p8
    refine k8 ?_
    refine F3 (L:=[]) trivial ?_
    intro g9
    refine b9 ?_
    refine J1 Tryz.runUnderlying52 rfl rfl rfl ?_
    refine j6 rfl ?_
    refine j6 rfl ?_
    refine b8 ?_
    refine F4 ?_
    show ∃ A cap bs,(Value.tuple #[.slice none 0 0,.iface 52 (.int .i64 9)])=.tuple #[.slice A (x.read at_).1.length cap,I5 52 (x.read at_).2]/\Ac n5 (fun b=>b∈F) w0 (.slice A (x.read at_).1.length cap) (x.read at_).1 bs/\Ext [] w0 w0/\∀ b∈bs,w0.heap.size<=b
    exact ⟨none,0,[],by rw [Dk.read,if_neg (by assumption),if_pos (by assumption)]; show Value.tuple #[_,_]=Value.tuple #[_,I5 _ 9]; rw [<- o6 (by decide)]; rfl,by rw [Dk.read,if_neg (by assumption),if_pos (by assumption)]; exact Ac.nil,Ext.refl _ _,fun _ h=>by cases h⟩
   .
    have p10:=h7
    try simp only [lrn] at p10
    refine G0 ?_
    refine k8 ?_
    refine F3 (L:=[(0,.pointer (some ⟨d,0,none⟩)),(1,.int .i64 at_)]) ⟨rfl,rfl,trivial⟩ ?_
    intro g11
    refine b9 ?_
    refine k9 rfl ?_
    refine r7 rfl rfl ?_
    refine q6 Tryz.runUnderlying56 rfl Tryz.sizeOf54 rfl rfl ?_
    refine C3 Tryz.isAgg54 rfl (Own.at ((hs0.at 0 rfl)).2 rfl) rfl ?_
    refine k9 rfl ?_
    refine a3i (z0:=(List.replicate 256 (0:UInt8))) ((hs0.at 1 rfl)).2 Tryz.runUnderlying54 Tryz.runUnderlying3 Tryz.zeroValue107 a3u rfl rfl rfl ?_
    refine k9 rfl ?_
    refine I3 rfl rfl rfl ?_
    refine I3 rfl rfl rfl ?_
    refine a5t hs0 Tryz.zeroValue107 a3u rfl ?_
    intro b12 w13 hs14
    have hs14:Sep [] w0 (fun b=>b∈F) w13 [iAr b12 107 (List.replicate 256 0) [],J6 d 56 [.slice A x.a0B.length cap,.map (some bm),.int .i64 x.left,.bool x.off],J3 E5 bm (u9 (fun s=>av s) x.fresh),U7 (C6 256) (.slice A x.a0B.length cap) x.a0B]:=hs14
    refine a2i hs14 0 rfl Tryz.sizeOf107 rfl rfl b3X (N5 ok at_) ?_
    intro w15 hs16
    have hs16:Sep [] w0 (fun b=>b∈F) w15 [iAr b12 107 ((s9 x.fresh at_).getD (List.replicate 256 (0:UInt8))) [],J6 d 56 [.slice A x.a0B.length cap,.map (some bm),.int .i64 x.left,.bool x.off],J3 E5 bm (u9 (fun s=>av s) x.fresh),U7 (C6 256) (.slice A x.a0B.length cap) x.a0B]:=hs16
    refine j6 rfl ?_
    refine b8 ?_
    refine k8 ?_
    refine k8 ?_
    refine F3 (L:=[(0,.pointer (some ⟨d,0,none⟩)),(1,.int .i64 at_),(6,.pointer (some ⟨b12,0,none⟩)),(7,.bool (Option.isSome (s9 x.fresh at_)))]) ⟨rfl,rfl,rfl,rfl,trivial⟩ ?_
    intro g17
    refine b9 ?_
    refine k9 rfl ?_
    refine c0e rfl rfl ?_
    refine b8 ?_
    refine E3 rfl (fun h18=>?_) (fun h18=>?_)
    .
     have h19:=h18
     simp only [e3k] at h19
     have p20:=h19
     try simp only [lrn] at p20
     refine b9 ?_
     refine k9 rfl ?_
     refine r7 rfl rfl ?_
     refine q6 Tryz.runUnderlying56 rfl Tryz.sizeOf53 rfl rfl ?_
     refine C3 Tryz.isAgg53 rfl (Own.at ((hs16.at 1 rfl)).2 rfl) rfl ?_
     refine k9 rfl ?_
     refine U1 ((hs16.at 3 rfl)).choose_spec.2 Tryz.runUnderlying53 Tryz.sizeOf107 rfl rfl (show (0:Int)<=at_ from by simp only [Dk.a0I] at *; omega) (show at_<((x.a0B.length:Nat):Int) from by simp only [Dk.a0I] at *; omega) rfl ?_
     have o24:=b2j (q:=(Int.toNat at_) * 256) (sz:=256) (o:=0) ((hs16.at 3 rfl)).choose_spec.2 (Sub.self _) rfl (b5Q _).symm (show (0:Int)<=at_ from by simp only [Dk.a0I] at *; omega) (show at_<((x.a0B.length:Nat):Int) from by simp only [Dk.a0I] at *; omega)
     obtain ⟨c21,hc22,hr23⟩:=o24
     obtain ⟨rfl,r25⟩:=hr23
     refine b1j Tryz.isAgg107 Tryz.sizeOf107 (by simp [r25]) rfl hc22 rfl ?_
     refine a2i hs16 0 rfl Tryz.sizeOf107 rfl rfl (N5 ok at_) r25 ?_
     intro w26 hs27
     have hs27:Sep [] w0 (fun b=>b∈F) w26 [iAr b12 107 (ix x.a0B at_) [],J6 d 56 [.slice A x.a0B.length cap,.map (some bm),.int .i64 x.left,.bool x.off],J3 E5 bm (u9 (fun s=>av s) x.fresh),U7 (C6 256) (.slice A x.a0B.length cap) x.a0B]:=hs27
     refine b8 ?_
     refine k8 ?_
     refine b9 ?_
     refine a3e (e:=(256:Nat)) Tryz.runUnderlying107 Tryz.sizeOf5 rfl rfl ⟨by omega,by omega⟩ rfl ?_
     have hs28:Sep [] w0 (fun b=>b∈F) w26 [iAc n5 (.slice (some ⟨b12,0,none⟩) 256 256) (ix x.a0B at_) [b12] [],J6 d 56 [.slice A x.a0B.length cap,.map (some bm),.int .i64 x.left,.bool x.off],J3 E5 bm (u9 (fun s=>av s) x.fresh),U7 (C6 256) (.slice A x.a0B.length cap) x.a0B]:=hs27.b3C 0 rfl r25
     refine j6 rfl ?_
     refine j6 rfl ?_
     refine b8 ?_
     refine F4 ?_
     show ∃ A cap bs,(Value.tuple #[.slice (some ⟨b12,0,none⟩) 256 256,.nilIface])=.tuple #[.slice A (x.read at_).1.length cap,I5 52 (x.read at_).2]/\Ac n5 (fun b=>b∈F) w26 (.slice A (x.read at_).1.length cap) (x.read at_).1 bs/\Ext [] w0 w26/\∀ b∈bs,w0.heap.size<=b
     have ha:=hs28.at 0 rfl
     have hl:=Ac.len ha
     have e:x.read at_=((ix x.a0B at_),0):=b1i ‹_› ‹_› (by assumption)
     rw [e]
     exact ⟨_,_,_,by rw [hl,<- r8],by rw [hl]; exact ha,hs28.ext,fun b hb=>(hs28.org 0 rfl b hb).elim (fun h=>by cases h) id⟩
    .
     have h29:=h18
     simp only [e3k] at h29
     have p30:=h29
     try simp only [lrn] at p30
     refine G0 ?_
     refine k8 ?_
     refine b9 ?_
     refine a3e (e:=(256:Nat)) Tryz.runUnderlying107 Tryz.sizeOf5 rfl rfl ⟨by omega,by omega⟩ rfl ?_
     have hs31:Sep [] w0 (fun b=>b∈F) w15 [iAc n5 (.slice (some ⟨b12,0,none⟩) 256 256) ((s9 x.fresh at_).getD (List.replicate 256 (0:UInt8))) [b12] [],J6 d 56 [.slice A x.a0B.length cap,.map (some bm),.int .i64 x.left,.bool x.off],J3 E5 bm (u9 (fun s=>av s) x.fresh),U7 (C6 256) (.slice A x.a0B.length cap) x.a0B]:=hs16.b3C 0 rfl (N5 ok at_)
     refine j6 rfl ?_
     refine j6 rfl ?_
     refine b8 ?_
     refine F4 ?_
     show ∃ A cap bs,(Value.tuple #[.slice (some ⟨b12,0,none⟩) 256 256,.nilIface])=.tuple #[.slice A (x.read at_).1.length cap,I5 52 (x.read at_).2]/\Ac n5 (fun b=>b∈F) w15 (.slice A (x.read at_).1.length cap) (x.read at_).1 bs/\Ext [] w0 w15/\∀ b∈bs,w0.heap.size<=b
     have ha:=hs31.at 0 rfl
     have hl:=Ac.len ha
     have e:x.read at_=(((s9 x.fresh at_).getD (List.replicate 256 (0:UInt8))),0):=b1i ‹_› ‹_› (by assumption)
     rw [e]
     exact ⟨_,_,_,by rw [hl,<- r8],by rw [hl]; exact ha,hs31.ext,fun b hb=>(hs31.org 0 rfl b hb).elim (fun h=>by cases h) id⟩
theorem c59 {w0:World} {d:Nat} {x:Dk} {F:List Nat} (h:B9 d w0 x F) (ok:x.Ok) {D:Nat->Prop} (hD:∀ b∈F,¬ D b) {A:Option Addr} {cap:Nat} {s:Str} (hb:(q9 n5).rd D w0 [.slice A s.length cap] s) (at_:Int) :
  A6 Tryz.prog 37 [.pointer (some ⟨d,0,none⟩),.int .i64 at_,.slice A s.length cap] w0 (fun v w'=>v=I5 52 (x.write at_ s).1/\∃ F',B9 d w' (x.write at_ s).2 F'/\S5 w0 w' F F'):=by
 have hs1:=Sep.one (o:=d2t d) (Z:=fun b=>D b/\b<w0.heap.size) h (fun _ h=>h.2) (fun b hb h=>hD b hb h.1)
 have hs0:=hs1.fact (t:=T4 (q9 n5) [.slice A s.length cap] s) ((q9 n5).a2T hb (fun b h1 h2=>⟨h1,h2⟩)) d06 rfl rfl
 have hsl:=a0z hb
 have hw1:x.a0I at_≠1:=by simp only [Dk.a0I]; split <;> omega
 refine a17 Tryz.func37 rfl rfl rfl rfl ?_
 refine k8 ?_
 refine b9 ?_
 refine j6 rfl ?_
 refine b8 ?_
 refine k8 ?_
 refine b9 ?_
 refine k9 rfl ?_
 refine k9 rfl ?_
 refine a14 Tryz.call69 rfl (a8t (hs0.at 1 rfl) ok at_) rfl ?_
 refine j6 rfl ?_
 refine b8 ?_
 refine k8 ?_
 refine k8 ?_
 refine b9 ?_
 refine k9 rfl ?_
 refine c18 rfl rfl rfl ?_
 refine k9 rfl ?_
 refine a4h (dj:=14) rfl (fun h1=>?_) (fun h1=>?_)
 .
  have p2:=b3V h1
  refine L5 rfl rfl (bT h1) ?_
  refine k9 rfl ?_
  refine L5 rfl rfl (bT h1) ?_
  refine a1z Tryz.runUnderlying59 rfl rfl ?_
  refine L5 rfl rfl (bT h1) ?_
  refine c18 rfl rfl rfl ?_
  refine a4s (bT h1) rfl ?_
  refine b8 ?_
  refine E3 rfl (fun h3=>?_) (fun h3=>?_)
  .
   have p4:=b3V h3
   refine F3 (L:=[(0,.pointer (some ⟨d,0,none⟩)),(1,.int .i64 at_),(2,.slice A s.length cap)]) ⟨rfl,rfl,rfl,trivial⟩ ?_
   intro g5
   refine b9 ?_
   refine j6 rfl ?_
   refine b8 ?_
   refine k8 ?_
   refine k8 ?_
   refine b9 ?_
   refine k9 rfl ?_
   refine k9 rfl ?_
   have hz10:=b3y (hs0.at 1 rfl) ok 2
   refine a71 Tryz.call70 rfl hz10 rfl ?_
   rintro w6 ⟨F7,h8,t9⟩
   have hs11:=hs0.turn 1 rfl h8 t9
   refine j6 rfl ?_
   refine b8 ?_
   refine k8 ?_
   refine b9 ?_
   refine k9 rfl ?_
   refine b3n (Te:=52) (e:=(x.act 2).1) Tryz.runUnderlying25 rfl rfl ?_
   refine b8 ?_
   refine E3 rfl (fun h13=>?_) (fun h13=>?_)
   .
    have p14:=b3V h13
    refine k8 ?_
    refine b9 ?_
    refine k9 rfl ?_
    refine j6 rfl ?_
    refine b8 ?_
    refine F4 ?_
    show (I5 52 ((x.act 2).1))=I5 52 (x.write at_ s).1/\∃ F',B9 d w6 (x.write at_ s).2 F'/\S5 w0 w6 F F'
    rw [M4 (wr:=2) (by split <;> omega) (by assumption)]
    exact ⟨rfl,_,hs11.at 1 rfl,hs11.ext,fun b hb=>(hs11.org 1 rfl b hb)⟩
   .
    have p15:=b4K h13
    have hz:=a4f (b4N.1 p15)
    refine G0 ?_
    refine k8 ?_
    have ⟨A16,cap17,bm18,bs19,hs20⟩:=Sep.a4C (hs11.pick [1,0] rfl (by decide) rfl)
    refine F3 (L:=[(0,.pointer (some ⟨d,0,none⟩)),(1,.int .i64 at_),(2,.slice A s.length cap)]) ⟨rfl,rfl,rfl,trivial⟩ ?_
    intro g21
    refine L8 (fun dN vL w=>Sep F w0 (fun b=>D b/\b<w0.heap.size) w [K9 d 56 [.slice A16 (((x.act 2).2).a0B.length) cap17,.map (some bm18),.int .i64 (((x.act 2).2).left),.bool (((x.act 2).2).off)] F,(bif dN 8 then (L7 E5 bm18 (u9 (fun s=>av s) (O4 (((x.act 2).2).fresh) at_ (List.take 256 s))) F) else (L7 E5 bm18 (u9 (fun s=>av s) (((x.act 2).2).fresh)) F)),iAc (C6 256) (.slice A16 (((x.act 2).2).a0B.length) cap17) (((x.act 2).2).a0B) bs19 F,T4 (q9 n5) [.slice A s.length cap] s]/\(dN 0=true->vL 0=.pointer (some ⟨d,0,none⟩))/\(dN 1=true->vL 1=.pointer (some ⟨d,0,none⟩))/\(dN 2=true->vL 2=.pointer (some ⟨d,1,none⟩))/\(dN 3=true->vL 3=.map (some bm18))/\(dN 4=true->vL 4=.int .i64 at_)/\(dN 5=true->vL 5=.slice A s.length cap)/\(dN 6=true->vL 6=.pointer A)/\(dN 7=true->vL 7=av (List.take 256 s))/\True) [25,26,27,28,29,30,31,32] rfl (by decide +kernel) _ rfl ?_ ?_ ?_
    . exact fun V=>⟨hs20,(fun h=>by cases h),(fun h=>by cases h),(fun h=>by cases h),(fun h=>by cases h),(fun h=>by cases h),(fun h=>by cases h),(fun h=>by cases h),(fun h=>by cases h),trivial⟩
    . refine (.cons ?_ (.cons ?_ (.cons ?_ (.cons ?_ (.cons ?_ (.cons ?_ (.cons ?_ (.cons ?_ (.cons ?_ .nil)))))))))
      .
       rintro dN vL g25 w26 ⟨hs27,v33,v34,v35,v36,v37,v38,v39,v40,_⟩ hD28 hd29 hu30 hg31 hk32
       have e41:dN 8=false:=hu30 8 (by decide +kernel)
       have hs42:=hs27
       rw [e41] at hs42
       refine u7 (L:=[(0,.pointer (some ⟨d,0,none⟩))]) ⟨(hk32 0 (by decide +kernel)),trivial⟩ ?_
       refine k9 rfl ?_
       exact b8 ⟨rfl,_,rfl,hs27,(fun _=>rfl),v34,v35,v36,v37,v38,v39,v40,trivial⟩
      .
       rintro dN vL g44 w45 ⟨hs46,v52,v53,v54,v55,v56,v57,v58,v59,_⟩ hD47 hd48 hu49 hg50 hk51
       have e60:dN 0=true:=hd48 0 (by decide +kernel)
       have e61:dN 8=false:=hu49 8 (by decide +kernel)
       have hs62:=hs46
       rw [e61] at hs62
       refine u7 (L:=[(25,.pointer (some ⟨d,0,none⟩))]) ⟨((hg50 0 25 e60 rfl).trans (v52 e60)),trivial⟩ ?_
       refine r7 rfl rfl ?_
       exact b8 ⟨rfl,_,rfl,hs46,v52,(fun _=>rfl),v54,v55,v56,v57,v58,v59,trivial⟩
      .
       rintro dN vL g64 w65 ⟨hs66,v72,v73,v74,v75,v76,v77,v78,v79,_⟩ hD67 hd68 hu69 hg70 hk71
       have e80:dN 1=true:=hd68 1 (by decide +kernel)
       have e81:dN 8=false:=hu69 8 (by decide +kernel)
       have hs82:=hs66
       rw [e81] at hs82
       refine u7 (L:=[(26,.pointer (some ⟨d,0,none⟩))]) ⟨((hg70 1 26 e80 rfl).trans (v73 e80)),trivial⟩ ?_
       refine q6 Tryz.runUnderlying56 rfl Tryz.sizeOf54 rfl rfl ?_
       exact b8 ⟨rfl,_,rfl,hs66,v72,v73,(fun _=>rfl),v75,v76,v77,v78,v79,trivial⟩
      .
       rintro dN vL g84 w85 ⟨hs86,v92,v93,v94,v95,v96,v97,v98,v99,_⟩ hD87 hd88 hu89 hg90 hk91
       have e100:dN 2=true:=hd88 2 (by decide +kernel)
       have e101:dN 8=false:=hu89 8 (by decide +kernel)
       have hs102:=hs86
       rw [e101] at hs102
       refine u7 (L:=[(27,.pointer (some ⟨d,1,none⟩))]) ⟨((hg90 2 27 e100 rfl).trans (v94 e100)),trivial⟩ ?_
       refine C3 Tryz.isAgg54 rfl (Own.at (hs102.at 0 rfl) rfl) rfl ?_
       exact b8 ⟨rfl,_,rfl,hs86,v92,v93,v94,(fun _=>rfl),v96,v97,v98,v99,trivial⟩
      .
       rintro dN vL g104 w105 ⟨hs106,v112,v113,v114,v115,v116,v117,v118,v119,_⟩ hD107 hd108 hu109 hg110 hk111
       have e120:dN 8=false:=hu109 8 (by decide +kernel)
       have hs121:=hs106
       rw [e120] at hs121
       refine u7 (L:=[(1,.int .i64 at_)]) ⟨(hk111 1 (by decide +kernel)),trivial⟩ ?_
       refine k9 rfl ?_
       exact b8 ⟨rfl,_,rfl,hs106,v112,v113,v114,v115,(fun _=>rfl),v117,v118,v119,trivial⟩
      .
       rintro dN vL g123 w124 ⟨hs125,v131,v132,v133,v134,v135,v136,v137,v138,_⟩ hD126 hd127 hu128 hg129 hk130
       have e139:dN 8=false:=hu128 8 (by decide +kernel)
       have hs140:=hs125
       rw [e139] at hs140
       refine u7 (L:=[(2,.slice A s.length cap)]) ⟨(hk130 2 (by decide +kernel)),trivial⟩ ?_
       refine k9 rfl ?_
       exact b8 ⟨rfl,_,rfl,hs125,v131,v132,v133,v134,v135,(fun _=>rfl),v137,v138,trivial⟩
      .
       rintro dN vL g142 w143 ⟨hs144,v150,v151,v152,v153,v154,v155,v156,v157,_⟩ hD145 hd146 hu147 hg148 hk149
       have e158:dN 5=true:=hd146 5 (by decide +kernel)
       have e159:dN 8=false:=hu147 8 (by decide +kernel)
       have hs160:=hs144
       rw [e159] at hs160
       refine u7 (L:=[(30,.slice A s.length cap)]) ⟨((hg148 5 30 e158 rfl).trans (v155 e158)),trivial⟩ ?_
       refine a9h Tryz.runUnderlying107 rfl (show 256<=s.length from by omega) rfl ?_
       exact b8 ⟨rfl,_,rfl,hs144,v150,v151,v152,v153,v154,v155,(fun _=>rfl),v157,trivial⟩
      .
       rintro dN vL g162 w163 ⟨hs164,v170,v171,v172,v173,v174,v175,v176,v177,_⟩ hD165 hd166 hu167 hg168 hk169
       have e178:dN 6=true:=hd166 6 (by decide +kernel)
       have e179:dN 8=false:=hu167 8 (by decide +kernel)
       have hs180:=hs164
       rw [e179] at hs180
       refine u7 (L:=[(31,.pointer A)]) ⟨((hg168 6 31 e178 rfl).trans (v176 e178)),trivial⟩ ?_
       refine a5m Tryz.isAgg107 Tryz.sizeOf107 (hs180.at 3 rfl) (show 256<=s.length from by omega) (by decide) rfl rfl ?_
       exact b8 ⟨rfl,_,rfl,hs164,v170,v171,v172,v173,v174,v175,v176,(fun _=>rfl),trivial⟩
      .
       rintro dN vL g182 w183 ⟨hs184,v190,v191,v192,v193,v194,v195,v196,v197,_⟩ hD185 hd186 hu187 hg188 hk189
       have e198:dN 3=true:=hd186 3 (by decide +kernel)
       have e199:dN 4=true:=hd186 4 (by decide +kernel)
       have e200:dN 7=true:=hd186 7 (by decide +kernel)
       have e201:dN 8=false:=hD185
       rw [e201] at hs184
       have hs202:=hs184
       refine u7 (L:=[(28,.map (some bm18)),(29,.int .i64 at_),(32,av (List.take 256 s))]) ⟨((hg188 3 28 e198 rfl).trans (v193 e198)),((hg188 4 29 e199 rfl).trans (v194 e199)),((hg188 7 32 e200 rfl).trans (v197 e200)),trivial⟩ ?_
       refine a1n (vv:=List.take 256 s) hs202 1 rfl Tryz.runUnderlying54 Tryz.runUnderlying3 rfl rfl rfl ?_
       intro w203 hs204
       have hs205:Sep F w0 (fun b=>D b/\b<w0.heap.size) w203 [K9 d 56 [.slice A16 (((x.act 2).2).a0B.length) cap17,.map (some bm18),.int .i64 (((x.act 2).2).left),.bool (((x.act 2).2).off)] F,L7 E5 bm18 (u9 (fun s=>av s) (O4 (((x.act 2).2).fresh) at_ (List.take 256 s))) F,iAc (C6 256) (.slice A16 (((x.act 2).2).a0B.length) cap17) (((x.act 2).2).a0B) bs19 F,T4 (q9 n5) [.slice A s.length cap] s]:=by exact hs204
       exact b8 ⟨rfl,undef,rfl,hs205,v190,v191,v192,v193,v194,v195,v196,v197,trivial⟩
    .
     rintro dN vL g206 w207 ha209 ⟨hs208,v212,v213,v214,v215,v216,v217,v218,v219,_⟩ hg210 hk211
     rw [ha209 8 rfl] at hs208
     have hs220:=hs208
     refine ⟨[],trivial,fun g221=>?_⟩
     refine k8 ?_
     refine b9 ?_
     refine j6 rfl ?_
     refine b8 ?_
     refine F4 ?_
     show (Value.nilIface)=I5 52 (x.write at_ s).1/\∃ F',B9 d w207 (x.write at_ s).2 F'/\S5 w0 w207 F F'
     first | (exfalso; omega) | (have hz':=b4N.1 ‹¬ _≠(0:Int)›; have hc:=(B9.close hs220 (Ac.bs1 (hs220.at 2 rfl))); rw [b4Q (by omega)] at hc; rw [L9 rfl (by rw [if_neg (by omega)]; exact hz'),if_neg (by omega)]; exact ⟨(by first | rfl | exact o6 (by decide) | exact r8),_,hc⟩)
  .
   have p222:=b4K h3
   refine G0 ?_
   refine k8 ?_
   refine k8 ?_
   refine F3 (L:=[(0,.pointer (some ⟨d,0,none⟩)),(1,.int .i64 at_),(2,.slice A s.length cap),(7,.int .i64 (x.a0I at_))]) ⟨rfl,rfl,rfl,rfl,trivial⟩ ?_
   intro g223
   refine b9 ?_
   refine k9 rfl ?_
   refine k9 rfl ?_
   have hz228:=b3y (hs0.at 1 rfl) ok (x.a0I at_)
   refine a71 Tryz.call70 rfl hz228 rfl ?_
   rintro w224 ⟨F225,h226,t227⟩
   have hs229:=hs0.turn 1 rfl h226 t227
   refine j6 rfl ?_
   refine b8 ?_
   refine k8 ?_
   refine b9 ?_
   refine k9 rfl ?_
   refine b3n (Te:=52) (e:=(x.act (x.a0I at_)).1) Tryz.runUnderlying25 rfl rfl ?_
   refine b8 ?_
   refine E3 rfl (fun h231=>?_) (fun h231=>?_)
   .
    have p232:=b3V h231
    refine k8 ?_
    refine b9 ?_
    refine k9 rfl ?_
    refine j6 rfl ?_
    refine b8 ?_
    refine F4 ?_
    show (I5 52 ((x.act (x.a0I at_)).1))=I5 52 (x.write at_ s).1/\∃ F',B9 d w224 (x.write at_ s).2 F'/\S5 w0 w224 F F'
    rw [M4 (wr:=(x.a0I at_)) (by split <;> omega) (by assumption)]
    exact ⟨rfl,_,hs229.at 1 rfl,hs229.ext,fun b hb=>(hs229.org 1 rfl b hb)⟩
   .
    have p233:=b4K h231
    have hz:=a4f (b4N.1 p233)
    refine G0 ?_
    refine k8 ?_
    have ⟨A234,cap235,bm236,bs237,hs238⟩:=Sep.a4C (hs229.pick [1,0] rfl (by decide) rfl)
    refine F3 (L:=[(0,.pointer (some ⟨d,0,none⟩)),(1,.int .i64 at_),(2,.slice A s.length cap)]) ⟨rfl,rfl,rfl,trivial⟩ ?_
    intro g239
    refine L8 (fun dN vL w=>Sep F w0 (fun b=>D b/\b<w0.heap.size) w [K9 d 56 [.slice A234 (((x.act (x.a0I at_)).2).a0B.length) cap235,.map (some bm236),.int .i64 (((x.act (x.a0I at_)).2).left),.bool (((x.act (x.a0I at_)).2).off)] F,(bif dN 8 then (L7 E5 bm236 (u9 (fun s=>av s) (O4 (((x.act (x.a0I at_)).2).fresh) at_ (List.take 256 s))) F) else (L7 E5 bm236 (u9 (fun s=>av s) (((x.act (x.a0I at_)).2).fresh)) F)),iAc (C6 256) (.slice A234 (((x.act (x.a0I at_)).2).a0B.length) cap235) (((x.act (x.a0I at_)).2).a0B) bs237 F,T4 (q9 n5) [.slice A s.length cap] s]/\(dN 0=true->vL 0=.pointer (some ⟨d,0,none⟩))/\(dN 1=true->vL 1=.pointer (some ⟨d,0,none⟩))/\(dN 2=true->vL 2=.pointer (some ⟨d,1,none⟩))/\(dN 3=true->vL 3=.map (some bm236))/\(dN 4=true->vL 4=.int .i64 at_)/\(dN 5=true->vL 5=.slice A s.length cap)/\(dN 6=true->vL 6=.pointer A)/\(dN 7=true->vL 7=av (List.take 256 s))/\True) [25,26,27,28,29,30,31,32] rfl (by decide +kernel) _ rfl ?_ ?_ ?_
    . exact fun V=>⟨hs238,(fun h=>by cases h),(fun h=>by cases h),(fun h=>by cases h),(fun h=>by cases h),(fun h=>by cases h),(fun h=>by cases h),(fun h=>by cases h),(fun h=>by cases h),trivial⟩
    . refine (.cons ?_ (.cons ?_ (.cons ?_ (.cons ?_ (.cons ?_ (.cons ?_ (.cons ?_ (.cons ?_ (.cons ?_ .nil)))))))))
      .
       rintro dN vL g243 w244 ⟨hs245,v251,v252,v253,v254,v255,v256,v257,v258,_⟩ hD246 hd247 hu248 hg249 hk250
       have e259:dN 8=false:=hu248 8 (by decide +kernel)
       have hs260:=hs245
       rw [e259] at hs260
       refine u7 (L:=[(0,.pointer (some ⟨d,0,none⟩))]) ⟨(hk250 0 (by decide +kernel)),trivial⟩ ?_
       refine k9 rfl ?_
       exact b8 ⟨rfl,_,rfl,hs245,(fun _=>rfl),v252,v253,v254,v255,v256,v257,v258,trivial⟩
      .
       rintro dN vL g262 w263 ⟨hs264,v270,v271,v272,v273,v274,v275,v276,v277,_⟩ hD265 hd266 hu267 hg268 hk269
       have e278:dN 0=true:=hd266 0 (by decide +kernel)
       have e279:dN 8=false:=hu267 8 (by decide +kernel)
       have hs280:=hs264
       rw [e279] at hs280
       refine u7 (L:=[(25,.pointer (some ⟨d,0,none⟩))]) ⟨((hg268 0 25 e278 rfl).trans (v270 e278)),trivial⟩ ?_
       refine r7 rfl rfl ?_
       exact b8 ⟨rfl,_,rfl,hs264,v270,(fun _=>rfl),v272,v273,v274,v275,v276,v277,trivial⟩
      .
       rintro dN vL g282 w283 ⟨hs284,v290,v291,v292,v293,v294,v295,v296,v297,_⟩ hD285 hd286 hu287 hg288 hk289
       have e298:dN 1=true:=hd286 1 (by decide +kernel)
       have e299:dN 8=false:=hu287 8 (by decide +kernel)
       have hs300:=hs284
       rw [e299] at hs300
       refine u7 (L:=[(26,.pointer (some ⟨d,0,none⟩))]) ⟨((hg288 1 26 e298 rfl).trans (v291 e298)),trivial⟩ ?_
       refine q6 Tryz.runUnderlying56 rfl Tryz.sizeOf54 rfl rfl ?_
       exact b8 ⟨rfl,_,rfl,hs284,v290,v291,(fun _=>rfl),v293,v294,v295,v296,v297,trivial⟩
      .
       rintro dN vL g302 w303 ⟨hs304,v310,v311,v312,v313,v314,v315,v316,v317,_⟩ hD305 hd306 hu307 hg308 hk309
       have e318:dN 2=true:=hd306 2 (by decide +kernel)
       have e319:dN 8=false:=hu307 8 (by decide +kernel)
       have hs320:=hs304
       rw [e319] at hs320
       refine u7 (L:=[(27,.pointer (some ⟨d,1,none⟩))]) ⟨((hg308 2 27 e318 rfl).trans (v312 e318)),trivial⟩ ?_
       refine C3 Tryz.isAgg54 rfl (Own.at (hs320.at 0 rfl) rfl) rfl ?_
       exact b8 ⟨rfl,_,rfl,hs304,v310,v311,v312,(fun _=>rfl),v314,v315,v316,v317,trivial⟩
      .
       rintro dN vL g322 w323 ⟨hs324,v330,v331,v332,v333,v334,v335,v336,v337,_⟩ hD325 hd326 hu327 hg328 hk329
       have e338:dN 8=false:=hu327 8 (by decide +kernel)
       have hs339:=hs324
       rw [e338] at hs339
       refine u7 (L:=[(1,.int .i64 at_)]) ⟨(hk329 1 (by decide +kernel)),trivial⟩ ?_
       refine k9 rfl ?_
       exact b8 ⟨rfl,_,rfl,hs324,v330,v331,v332,v333,(fun _=>rfl),v335,v336,v337,trivial⟩
      .
       rintro dN vL g341 w342 ⟨hs343,v349,v350,v351,v352,v353,v354,v355,v356,_⟩ hD344 hd345 hu346 hg347 hk348
       have e357:dN 8=false:=hu346 8 (by decide +kernel)
       have hs358:=hs343
       rw [e357] at hs358
       refine u7 (L:=[(2,.slice A s.length cap)]) ⟨(hk348 2 (by decide +kernel)),trivial⟩ ?_
       refine k9 rfl ?_
       exact b8 ⟨rfl,_,rfl,hs343,v349,v350,v351,v352,v353,(fun _=>rfl),v355,v356,trivial⟩
      .
       rintro dN vL g360 w361 ⟨hs362,v368,v369,v370,v371,v372,v373,v374,v375,_⟩ hD363 hd364 hu365 hg366 hk367
       have e376:dN 5=true:=hd364 5 (by decide +kernel)
       have e377:dN 8=false:=hu365 8 (by decide +kernel)
       have hs378:=hs362
       rw [e377] at hs378
       refine u7 (L:=[(30,.slice A s.length cap)]) ⟨((hg366 5 30 e376 rfl).trans (v373 e376)),trivial⟩ ?_
       refine a9h Tryz.runUnderlying107 rfl (show 256<=s.length from by omega) rfl ?_
       exact b8 ⟨rfl,_,rfl,hs362,v368,v369,v370,v371,v372,v373,(fun _=>rfl),v375,trivial⟩
      .
       rintro dN vL g380 w381 ⟨hs382,v388,v389,v390,v391,v392,v393,v394,v395,_⟩ hD383 hd384 hu385 hg386 hk387
       have e396:dN 6=true:=hd384 6 (by decide +kernel)
       have e397:dN 8=false:=hu385 8 (by decide +kernel)
       have hs398:=hs382
       rw [e397] at hs398
       refine u7 (L:=[(31,.pointer A)]) ⟨((hg386 6 31 e396 rfl).trans (v394 e396)),trivial⟩ ?_
       refine a5m Tryz.isAgg107 Tryz.sizeOf107 (hs398.at 3 rfl) (show 256<=s.length from by omega) (by decide) rfl rfl ?_
       exact b8 ⟨rfl,_,rfl,hs382,v388,v389,v390,v391,v392,v393,v394,(fun _=>rfl),trivial⟩
      .
       rintro dN vL g400 w401 ⟨hs402,v408,v409,v410,v411,v412,v413,v414,v415,_⟩ hD403 hd404 hu405 hg406 hk407
       have e416:dN 3=true:=hd404 3 (by decide +kernel)
       have e417:dN 4=true:=hd404 4 (by decide +kernel)
       have e418:dN 7=true:=hd404 7 (by decide +kernel)
       have e419:dN 8=false:=hD403
       rw [e419] at hs402
       have hs420:=hs402
       refine u7 (L:=[(28,.map (some bm236)),(29,.int .i64 at_),(32,av (List.take 256 s))]) ⟨((hg406 3 28 e416 rfl).trans (v411 e416)),((hg406 4 29 e417 rfl).trans (v412 e417)),((hg406 7 32 e418 rfl).trans (v415 e418)),trivial⟩ ?_
       refine a1n (vv:=List.take 256 s) hs420 1 rfl Tryz.runUnderlying54 Tryz.runUnderlying3 rfl rfl rfl ?_
       intro w421 hs422
       have hs423:Sep F w0 (fun b=>D b/\b<w0.heap.size) w421 [K9 d 56 [.slice A234 (((x.act (x.a0I at_)).2).a0B.length) cap235,.map (some bm236),.int .i64 (((x.act (x.a0I at_)).2).left),.bool (((x.act (x.a0I at_)).2).off)] F,L7 E5 bm236 (u9 (fun s=>av s) (O4 (((x.act (x.a0I at_)).2).fresh) at_ (List.take 256 s))) F,iAc (C6 256) (.slice A234 (((x.act (x.a0I at_)).2).a0B.length) cap235) (((x.act (x.a0I at_)).2).a0B) bs237 F,T4 (q9 n5) [.slice A s.length cap] s]:=by exact hs422
       exact b8 ⟨rfl,undef,rfl,hs423,v408,v409,v410,v411,v412,v413,v414,v415,trivial⟩
    .
     rintro dN vL g424 w425 ha427 ⟨hs426,v430,v431,v432,v433,v434,v435,v436,v437,_⟩ hg428 hk429
     rw [ha427 8 rfl] at hs426
     have hs438:=hs426
     refine ⟨[],trivial,fun g439=>?_⟩
     refine k8 ?_
     refine b9 ?_
     refine j6 rfl ?_
     refine b8 ?_
     refine F4 ?_
     show (Value.nilIface)=I5 52 (x.write at_ s).1/\∃ F',B9 d w425 (x.write at_ s).2 F'/\S5 w0 w425 F F'
     first | (exfalso; omega) | (have hz':=b4N.1 ‹¬ _≠(0:Int)›; have hc:=(B9.close hs438 (Ac.bs1 (hs438.at 2 rfl))); rw [b4Q (by omega)] at hc; rw [L9 rfl (by rw [if_neg (by omega)]; exact hz'),if_neg (by omega)]; exact ⟨(by first | rfl | exact o6 (by decide) | exact r8),_,hc⟩)
 .
  have p440:=b4K h1
  refine L4 rfl rfl rfl (bF h1) ?_
  refine L4 rfl rfl rfl (bF h1) ?_
  refine L4 rfl rfl rfl (bF h1) ?_
  refine a1v (bF h1) rfl ?_
  refine b8 ?_
  refine T8 rfl ?_
  refine G0 ?_
  refine k8 ?_
  refine k8 ?_
  refine F3 (L:=[(0,.pointer (some ⟨d,0,none⟩)),(1,.int .i64 at_),(2,.slice A s.length cap),(7,.int .i64 (x.a0I at_))]) ⟨rfl,rfl,rfl,rfl,trivial⟩ ?_
  intro g441
  refine b9 ?_
  refine k9 rfl ?_
  refine k9 rfl ?_
  have hz446:=b3y (hs0.at 1 rfl) ok (x.a0I at_)
  refine a71 Tryz.call70 rfl hz446 rfl ?_
  rintro w442 ⟨F443,h444,t445⟩
  have hs447:=hs0.turn 1 rfl h444 t445
  refine j6 rfl ?_
  refine b8 ?_
  refine k8 ?_
  refine b9 ?_
  refine k9 rfl ?_
  refine b3n (Te:=52) (e:=(x.act (x.a0I at_)).1) Tryz.runUnderlying25 rfl rfl ?_
  refine b8 ?_
  refine E3 rfl (fun h449=>?_) (fun h449=>?_)
  .
   have p450:=b3V h449
   refine k8 ?_
   refine b9 ?_
   refine k9 rfl ?_
   refine j6 rfl ?_
   refine b8 ?_
   refine F4 ?_
   show (I5 52 ((x.act (x.a0I at_)).1))=I5 52 (x.write at_ s).1/\∃ F',B9 d w442 (x.write at_ s).2 F'/\S5 w0 w442 F F'
   rw [M4 (wr:=(x.a0I at_)) (by split <;> omega) (by assumption)]
   exact ⟨rfl,_,hs447.at 1 rfl,hs447.ext,fun b hb=>(hs447.org 1 rfl b hb)⟩
  .
   have p451:=b4K h449
   have hz:=a4f (b4N.1 p451)
   refine G0 ?_
   refine k8 ?_
   have ⟨A452,cap453,bm454,bs455,hs456⟩:=Sep.a4C (hs447.pick [1,0] rfl (by decide) rfl)
   refine F3 (L:=[(0,.pointer (some ⟨d,0,none⟩)),(1,.int .i64 at_),(2,.slice A s.length cap)]) ⟨rfl,rfl,rfl,trivial⟩ ?_
   intro g457
   refine L8 (fun dN vL w=>Sep F w0 (fun b=>D b/\b<w0.heap.size) w [K9 d 56 [.slice A452 (((x.act (x.a0I at_)).2).a0B.length) cap453,.map (some bm454),.int .i64 (((x.act (x.a0I at_)).2).left),.bool (((x.act (x.a0I at_)).2).off)] F,(bif dN 8 then (L7 E5 bm454 (u9 (fun s=>av s) (O4 (((x.act (x.a0I at_)).2).fresh) at_ (List.take 256 s))) F) else (L7 E5 bm454 (u9 (fun s=>av s) (((x.act (x.a0I at_)).2).fresh)) F)),iAc (C6 256) (.slice A452 (((x.act (x.a0I at_)).2).a0B.length) cap453) (((x.act (x.a0I at_)).2).a0B) bs455 F,T4 (q9 n5) [.slice A s.length cap] s]/\(dN 0=true->vL 0=.pointer (some ⟨d,0,none⟩))/\(dN 1=true->vL 1=.pointer (some ⟨d,0,none⟩))/\(dN 2=true->vL 2=.pointer (some ⟨d,1,none⟩))/\(dN 3=true->vL 3=.map (some bm454))/\(dN 4=true->vL 4=.int .i64 at_)/\(dN 5=true->vL 5=.slice A s.length cap)/\(dN 6=true->vL 6=.pointer A)/\(dN 7=true->vL 7=av (List.take 256 s))/\True) [25,26,27,28,29,30,31,32] rfl (by decide +kernel) _ rfl ?_ ?_ ?_
   . exact fun V=>⟨hs456,(fun h=>by cases h),(fun h=>by cases h),(fun h=>by cases h),(fun h=>by cases h),(fun h=>by cases h),(fun h=>by cases h),(fun h=>by cases h),(fun h=>by cases h),trivial⟩
   . refine (.cons ?_ (.cons ?_ (.cons ?_ (.cons ?_ (.cons ?_ (.cons ?_ (.cons ?_ (.cons ?_ (.cons ?_ .nil)))))))))
     .
      rintro dN vL g461 w462 ⟨hs463,v469,v470,v471,v472,v473,v474,v475,v476,_⟩ hD464 hd465 hu466 hg467 hk468
      have e477:dN 8=false:=hu466 8 (by decide +kernel)
      have hs478:=hs463
      rw [e477] at hs478
      refine u7 (L:=[(0,.pointer (some ⟨d,0,none⟩))]) ⟨(hk468 0 (by decide +kernel)),trivial⟩ ?_
      refine k9 rfl ?_
      exact b8 ⟨rfl,_,rfl,hs463,(fun _=>rfl),v470,v471,v472,v473,v474,v475,v476,trivial⟩
     .
      rintro dN vL g480 w481 ⟨hs482,v488,v489,v490,v491,v492,v493,v494,v495,_⟩ hD483 hd484 hu485 hg486 hk487
      have e496:dN 0=true:=hd484 0 (by decide +kernel)
      have e497:dN 8=false:=hu485 8 (by decide +kernel)
      have hs498:=hs482
      rw [e497] at hs498
      refine u7 (L:=[(25,.pointer (some ⟨d,0,none⟩))]) ⟨((hg486 0 25 e496 rfl).trans (v488 e496)),trivial⟩ ?_
      refine r7 rfl rfl ?_
      exact b8 ⟨rfl,_,rfl,hs482,v488,(fun _=>rfl),v490,v491,v492,v493,v494,v495,trivial⟩
     .
      rintro dN vL g500 w501 ⟨hs502,v508,v509,v510,v511,v512,v513,v514,v515,_⟩ hD503 hd504 hu505 hg506 hk507
      have e516:dN 1=true:=hd504 1 (by decide +kernel)
      have e517:dN 8=false:=hu505 8 (by decide +kernel)
      have hs518:=hs502
      rw [e517] at hs518
      refine u7 (L:=[(26,.pointer (some ⟨d,0,none⟩))]) ⟨((hg506 1 26 e516 rfl).trans (v509 e516)),trivial⟩ ?_
      refine q6 Tryz.runUnderlying56 rfl Tryz.sizeOf54 rfl rfl ?_
      exact b8 ⟨rfl,_,rfl,hs502,v508,v509,(fun _=>rfl),v511,v512,v513,v514,v515,trivial⟩
     .
      rintro dN vL g520 w521 ⟨hs522,v528,v529,v530,v531,v532,v533,v534,v535,_⟩ hD523 hd524 hu525 hg526 hk527
      have e536:dN 2=true:=hd524 2 (by decide +kernel)
      have e537:dN 8=false:=hu525 8 (by decide +kernel)
      have hs538:=hs522
      rw [e537] at hs538
      refine u7 (L:=[(27,.pointer (some ⟨d,1,none⟩))]) ⟨((hg526 2 27 e536 rfl).trans (v530 e536)),trivial⟩ ?_
      refine C3 Tryz.isAgg54 rfl (Own.at (hs538.at 0 rfl) rfl) rfl ?_
      exact b8 ⟨rfl,_,rfl,hs522,v528,v529,v530,(fun _=>rfl),v532,v533,v534,v535,trivial⟩
     .
      rintro dN vL g540 w541 ⟨hs542,v548,v549,v550,v551,v552,v553,v554,v555,_⟩ hD543 hd544 hu545 hg546 hk547
      have e556:dN 8=false:=hu545 8 (by decide +kernel)
      have hs557:=hs542
      rw [e556] at hs557
      refine u7 (L:=[(1,.int .i64 at_)]) ⟨(hk547 1 (by decide +kernel)),trivial⟩ ?_
      refine k9 rfl ?_
      exact b8 ⟨rfl,_,rfl,hs542,v548,v549,v550,v551,(fun _=>rfl),v553,v554,v555,trivial⟩
     .
      rintro dN vL g559 w560 ⟨hs561,v567,v568,v569,v570,v571,v572,v573,v574,_⟩ hD562 hd563 hu564 hg565 hk566
      have e575:dN 8=false:=hu564 8 (by decide +kernel)
      have hs576:=hs561
      rw [e575] at hs576
      refine u7 (L:=[(2,.slice A s.length cap)]) ⟨(hk566 2 (by decide +kernel)),trivial⟩ ?_
      refine k9 rfl ?_
      exact b8 ⟨rfl,_,rfl,hs561,v567,v568,v569,v570,v571,(fun _=>rfl),v573,v574,trivial⟩
     .
      rintro dN vL g578 w579 ⟨hs580,v586,v587,v588,v589,v590,v591,v592,v593,_⟩ hD581 hd582 hu583 hg584 hk585
      have e594:dN 5=true:=hd582 5 (by decide +kernel)
      have e595:dN 8=false:=hu583 8 (by decide +kernel)
      have hs596:=hs580
      rw [e595] at hs596
      refine u7 (L:=[(30,.slice A s.length cap)]) ⟨((hg584 5 30 e594 rfl).trans (v591 e594)),trivial⟩ ?_
      refine a9h Tryz.runUnderlying107 rfl (show 256<=s.length from by omega) rfl ?_
      exact b8 ⟨rfl,_,rfl,hs580,v586,v587,v588,v589,v590,v591,(fun _=>rfl),v593,trivial⟩
     .
      rintro dN vL g598 w599 ⟨hs600,v606,v607,v608,v609,v610,v611,v612,v613,_⟩ hD601 hd602 hu603 hg604 hk605
      have e614:dN 6=true:=hd602 6 (by decide +kernel)
      have e615:dN 8=false:=hu603 8 (by decide +kernel)
      have hs616:=hs600
      rw [e615] at hs616
      refine u7 (L:=[(31,.pointer A)]) ⟨((hg604 6 31 e614 rfl).trans (v612 e614)),trivial⟩ ?_
      refine a5m Tryz.isAgg107 Tryz.sizeOf107 (hs616.at 3 rfl) (show 256<=s.length from by omega) (by decide) rfl rfl ?_
      exact b8 ⟨rfl,_,rfl,hs600,v606,v607,v608,v609,v610,v611,v612,(fun _=>rfl),trivial⟩
     .
      rintro dN vL g618 w619 ⟨hs620,v626,v627,v628,v629,v630,v631,v632,v633,_⟩ hD621 hd622 hu623 hg624 hk625
      have e634:dN 3=true:=hd622 3 (by decide +kernel)
      have e635:dN 4=true:=hd622 4 (by decide +kernel)
      have e636:dN 7=true:=hd622 7 (by decide +kernel)
      have e637:dN 8=false:=hD621
      rw [e637] at hs620
      have hs638:=hs620
      refine u7 (L:=[(28,.map (some bm454)),(29,.int .i64 at_),(32,av (List.take 256 s))]) ⟨((hg624 3 28 e634 rfl).trans (v629 e634)),((hg624 4 29 e635 rfl).trans (v630 e635)),((hg624 7 32 e636 rfl).trans (v633 e636)),trivial⟩ ?_
      refine a1n (vv:=List.take 256 s) hs638 1 rfl Tryz.runUnderlying54 Tryz.runUnderlying3 rfl rfl rfl ?_
      intro w639 hs640
      have hs641:Sep F w0 (fun b=>D b/\b<w0.heap.size) w639 [K9 d 56 [.slice A452 (((x.act (x.a0I at_)).2).a0B.length) cap453,.map (some bm454),.int .i64 (((x.act (x.a0I at_)).2).left),.bool (((x.act (x.a0I at_)).2).off)] F,L7 E5 bm454 (u9 (fun s=>av s) (O4 (((x.act (x.a0I at_)).2).fresh) at_ (List.take 256 s))) F,iAc (C6 256) (.slice A452 (((x.act (x.a0I at_)).2).a0B.length) cap453) (((x.act (x.a0I at_)).2).a0B) bs455 F,T4 (q9 n5) [.slice A s.length cap] s]:=by exact hs640
      exact b8 ⟨rfl,undef,rfl,hs641,v626,v627,v628,v629,v630,v631,v632,v633,trivial⟩
   .
    rintro dN vL g642 w643 ha645 ⟨hs644,v648,v649,v650,v651,v652,v653,v654,v655,_⟩ hg646 hk647
    rw [ha645 8 rfl] at hs644
    have hs656:=hs644
    refine ⟨[],trivial,fun g657=>?_⟩
    refine k8 ?_
    refine b9 ?_
    refine j6 rfl ?_
    refine b8 ?_
    refine F4 ?_
    show (Value.nilIface)=I5 52 (x.write at_ s).1/\∃ F',B9 d w643 (x.write at_ s).2 F'/\S5 w0 w643 F F'
    first | (exfalso; omega) | (have hz':=b4N.1 ‹¬ _≠(0:Int)›; have hc:=(B9.close hs656 (Ac.bs1 (hs656.at 2 rfl))); rw [b4Q (by omega)] at hc; rw [L9 rfl (by rw [if_neg (by omega)]; exact hz'),if_neg (by omega)]; exact ⟨(by first | rfl | exact o6 (by decide) | exact r8),_,hc⟩)
theorem d0u {w0:World} {d:Nat} {x:Dk} {F:List Nat} (h:B9 d w0 x F) (ok:x.Ok) :
  A6 Tryz.prog 79 [.pointer (some ⟨d,0,none⟩)] w0 (fun v w'=>∃ A cap bs,v=.slice A x.a0J.length cap/\Ac G2 (fun _=>False) w' (.slice A x.a0J.length cap) x.a0J bs/\Ext [] w0 w'/\∀ b∈bs,w0.heap.size<=b):=by
 obtain ⟨A,cap,bm,hs0⟩:=h.fix
 have ⟨hp,hm,hl,hfl,⟨hi1,hi2⟩,hky⟩:=ok
 refine a17 Tryz.func79 rfl rfl rfl rfl ?_
 refine k8 ?_
 refine b9 ?_
 refine j6 rfl ?_
 refine b8 ?_
 refine k8 ?_
 refine b9 ?_
 refine j6 rfl ?_
 have hs1:Sep [] w0 (fun b=>b∈F) w0 [iAc G2 (.slice none 0 0) [] [] [],J6 d 56 [.slice A x.a0B.length cap,.map (some bm),.int .i64 x.left,.bool x.off],J3 E5 bm (u9 (fun s=>av s) x.fresh),U7 (C6 256) (.slice A x.a0B.length cap) x.a0B]:=hs0.fact (Ac.nil) sAc rfl rfl
 refine b8 ?_
 refine k8 ?_
 refine k8 ?_
 refine b9 ?_
 refine k9 rfl ?_
 refine c4w Tryz.runUnderlying23 rfl rfl ?_
 refine b8 ?_
 refine J9 rfl ?_
 refine k8 ?_
 refine b9 ?_
 refine k9 rfl ?_
 refine r7 rfl rfl ?_
 refine q6 Tryz.runUnderlying56 rfl Tryz.sizeOf54 rfl rfl ?_
 refine C3 Tryz.isAgg54 rfl (Own.at ((hs1.at 1 rfl)).2 rfl) rfl ?_
 refine c4v hs1 2 rfl Tryz.runUnderlying54 rfl rfl ?_
 intro it2 w3 hs4
 have hs4:Sep [] w0 (fun b=>b∈F) w3 [Y3 E5 it2 bm (u9 (fun s=>av s) x.fresh) (u9 (fun s=>av s) []),iAc G2 (.slice none 0 0) [] [] [],J6 d 56 [.slice A x.a0B.length cap,.map (some bm),.int .i64 x.left,.bool x.off],J3 E5 bm (u9 (fun s=>av s) x.fresh),U7 (C6 256) (.slice A x.a0B.length cap) x.a0B]:=hs4
 refine b8 ?_
 refine I7 ?_
 refine a2u (fun m f w=>∃ (dm:List (Int×Str)) (ks:List Int) (A5:Option Addr) (cap6:Nat) (bs7:List Nat),m=((x.fresh.length:Int)-dm.length).toNat/\(ks=dm.map (·.1))/\((dm.map (·.1)).Nodup)/\(∀ p∈dm.map (·.1),p∈x.fresh.map (·.1))/\Sep [] w0 (fun b=>b∈F) w [Y3 E5 it2 bm (u9 (fun s=>av s) x.fresh) (u9 (fun s=>av s) dm),iAc G2 (.slice A5 ks.length cap6) ks bs7 [],J6 d 56 [.slice A x.a0B.length cap,.map (some bm),.int .i64 x.left,.bool x.off],J3 E5 bm (u9 (fun s=>av s) x.fresh),U7 (C6 256) (.slice A x.a0B.length cap) x.a0B]/\M5 f [(3,.slice A5 ks.length cap6),(11,.pointer (some ⟨it2,0,none⟩))]) ?_ ?_
 . exact ⟨_,[],[],_,_,_,rfl,rfl,b8R,(fun p hp=>by cases hp),hs4,⟨rfl,rfl,trivial⟩⟩
 .
  rintro _ f10 w8 ⟨dm,ks,A5,cap6,bs7,rfl,q13,q14,q15,hs11,hl12⟩
  refine F3 hl12 ?_
  intro g16
  have hfl0:=b0n ok
  have hdl:=b64 q14 q15
  have hkl:ks.length=dm.length:=by rw [q13,b6F]
  refine k8 ?_
  refine b9 ?_
  refine d4w hs11 0 rfl rfl rfl ?_ ?_
  .
   intro k17 v18 w19 hm21 hn22 hs20
   have hs20:Sep [] w0 (fun b=>b∈F) w19 [Y3 E5 it2 bm (u9 (fun s=>av s) x.fresh) (u9 (fun s=>av s) (dm++[(k17,v18)])),iAc G2 (.slice A5 ks.length cap6) ks bs7 [],J6 d 56 [.slice A x.a0B.length cap,.map (some bm),.int .i64 x.left,.bool x.off],J3 E5 bm (u9 (fun s=>av s) x.fresh),U7 (C6 256) (.slice A x.a0B.length cap) x.a0B]:=hs20
   refine I3 rfl rfl rfl ?_
   refine b8 ?_
   refine k8 ?_
   refine J9 rfl ?_
   refine G0 ?_
   refine I7 ?_
   refine k8 ?_
   refine b9 ?_
   refine d4e ((hs20.at 0 rfl)).2 rfl rfl ?_
   refine I3 rfl rfl rfl ?_
   refine j6 rfl ?_
   refine b8 ?_
   refine b9 ?_
   refine k9 rfl ?_
   refine k9 rfl ?_
   refine a0o (r:=G2) (css:=[[.int .i64 k17]]) (al:=[k17]) hs20 Tryz.runUnderlying42 Tryz.sizeOf3 Tryz.zeroValue3 rfl rfl rfl rfl rfl rfl rfl ⟨⟨rfl,(e19 ok hm21)⟩,trivial⟩ rfl ?_
   intro b24 w25 hs26
   have hs26:Sep [] w0 (fun b=>b∈F) w25 [iAc G2 (.slice (some ⟨b24,0,none⟩) 1 1) [k17] [b24] [],Y3 E5 it2 bm (u9 (fun s=>av s) x.fresh) (u9 (fun s=>av s) (dm++[(k17,v18)])),iAc G2 (.slice A5 ks.length cap6) ks bs7 [],J6 d 56 [.slice A x.a0B.length cap,.map (some bm),.int .i64 x.left,.bool x.off],J3 E5 bm (u9 (fun s=>av s) x.fresh),U7 (C6 256) (.slice A x.a0B.length cap) x.a0B]:=hs26
   refine a3z (r:=G2) (al:=ks) (xs:=[k17]) hs26 2 rfl (Src.ac (hs26.at 0 rfl)) Tryz.runUnderlying42 Tryz.typeInfo3 Tryz.sizeOf3 Tryz.zeroValue3 rfl (by show _ * 8<=_; simp only [b4F,b5R]; omega) (by decide) rfl ?_
   intro A29 cap30 bs31 w27 hs28
   have hs28:Sep [] w0 (fun b=>b∈F) w27 [iAc G2 (.slice (some ⟨b24,0,none⟩) 1 1) [k17] [b24] [],Y3 E5 it2 bm (u9 (fun s=>av s) x.fresh) (u9 (fun s=>av s) (dm++[(k17,v18)])),iAc G2 (.slice A29 ((ks++[k17]).length) cap30) (ks++[k17]) bs31 [],J6 d 56 [.slice A x.a0B.length cap,.map (some bm),.int .i64 x.left,.bool x.off],J3 E5 bm (u9 (fun s=>av s) x.fresh),U7 (C6 256) (.slice A x.a0B.length cap) x.a0B]:=hs28
   refine j6 rfl ?_
   refine b8 ?_
   exact ⟨_,(by have:=b64 (b08 (L:=x.fresh) q14 hn22) (b6d q15 hm21); simp only [b3P,b4F,b5R] at *; omega),dm++[(k17,v18)],ks++[k17],_,_,_,rfl,(by rw [q13,b6W]; rfl),(b08 (L:=x.fresh) q14 hn22),(b6d q15 hm21),(hs28.pick [1,2,3,4,5] rfl (by decide) rfl),⟨rfl,rfl,trivial⟩⟩
  .
   intro ho23
   refine I3 rfl rfl rfl ?_
   refine b8 ?_
   refine k8 ?_
   refine T8 rfl ?_
   refine a11 ?_
   refine k8 ?_
   refine b9 ?_
   refine k9 rfl ?_
   refine b1y Tryz.call84 rfl (d3l Tryz.slices_Sort_int_none Tryz.slices_Sort_int (hs11.at 1 rfl) (by omega)) rfl ?_
   rintro _ w33 ⟨ha34,e35⟩
   have hs36:Sep [] w0 (fun b=>b∈F) w33 [Y3 E5 it2 bm (u9 (fun s=>av s) x.fresh) (u9 (fun s=>av s) dm),iAc G2 (.slice A5 ks.length cap6) (srt ks) bs7 [],J6 d 56 [.slice A x.a0B.length cap,.map (some bm),.int .i64 x.left,.bool x.off],J3 E5 bm (u9 (fun s=>av s) x.fresh),U7 (C6 256) (.slice A x.a0B.length cap) x.a0B]:=hs11.sorted 1 rfl ha34 e35
   refine b8 ?_
   refine k8 ?_
   refine b9 ?_
   refine k9 rfl ?_
   refine j6 rfl ?_
   refine b8 ?_
   refine F4 ?_
   show ∃ A cap bs,(Value.slice A5 ks.length cap6)=.slice A x.a0J.length cap/\Ac G2 (fun _=>False) w33 (.slice A x.a0J.length cap) x.a0J bs/\Ext [] w0 w33/\∀ b∈bs,w0.heap.size<=b
   have ha:=hs36.at 1 rfl
   have hl:=Ac.len ha
   have e:srt ks=x.a0J:=by rw [q13]; exact c78 ok q14 q15 ho23
   rw [e] at ha hl
   exact ⟨_,_,_,by rw [hl],by rw [hl]; exact ha,hs36.ext,fun b hb=>(hs36.org 1 rfl b hb).elim (fun h=>by cases h) id⟩
theorem c9g {w0:World} {D:Nat->Prop} {A:Option Addr} {n cap:Nat} {l:List Str} (h:(q9 (C6 256)).rd D w0 [.slice A n cap] l) (hl:l.length<=8192) :
  A6 Tryz.prog 67 [.slice A n cap] w0 (fun v w'=>∃ A' cap' bs,v=.slice A' n cap'/\Ac (C6 256) (fun _=>False) w' (.slice A' n cap') l bs/\Ext [] w0 w'/\∀ b∈bs,w0.heap.size<=b):=by
 have hs0:=(Sep.nil (B0:=[]) (w0:=w0) (Z:=fun b=>D b/\b<w0.heap.size) (fun _ h=>h.2)).fact (t:=T4 (q9 (C6 256)) [.slice A n cap] l) ((q9 (C6 256)).a2T h (fun b h1 h2=>⟨h1,h2⟩)) d06 rfl rfl
 have hn:=a4a h
 refine a17 Tryz.func67 rfl rfl rfl rfl ?_
 refine k8 ?_
 refine b9 ?_
 refine j6 rfl ?_
 refine b8 ?_
 refine k8 ?_
 refine k8 ?_
 refine b9 ?_
 refine k9 rfl ?_
 refine d8i Tryz.runUnderlying53 rfl rfl ?_
 refine b8 ?_
 refine E3 rfl (fun h1=>?_) (fun h1=>?_)
 .
  have p2:=h1
  try simp only [lrn] at p2
  refine k8 ?_
  refine b9 ?_
  refine j6 rfl ?_
  refine b8 ?_
  refine F4 ?_
  show ∃ A' cap' bs,(Value.slice none 0 0)=.slice A' n cap'/\Ac (C6 256) (fun _=>False) w0 (.slice A' n cap') l bs/\Ext [] w0 w0/\∀ b∈bs,w0.heap.size<=b
  have hA:A=none:=b7P.1 ‹_›
  subst hA
  have e:l=[]:=by cases l with | nil=>rfl | cons a r=>obtain ⟨b,o,c,e,_⟩:=M3 (by rw [<- hn] at h; exact h) (show 0<(a::r).length by simp); cases e
  subst e
  subst hn
  exact ⟨none,0,[],rfl,Ac.nil,Ext.refl _ _,fun _ h=>by cases h⟩
 .
  have p3:=h1
  try simp only [lrn] at p3
  refine G0 ?_
  refine k8 ?_
  refine b9 ?_
  refine a0o (r:=(C6 256)) (css:=[]) (al:=([]:List Str)) hs0 Tryz.runUnderlying53 Tryz.sizeOf107 Tryz.zeroValue107 rfl rfl rfl rfl rfl rfl rfl trivial rfl ?_
  intro b4 w5 hs6
  refine k9 rfl ?_
  refine a3z (r:=(C6 256)) (al:=([]:List Str)) (xs:=l) hs6 0 rfl (Src.data (hs6.at 1 rfl)) Tryz.runUnderlying53 Tryz.typeInfo107 Tryz.sizeOf107 Tryz.zeroValue107 e6r (by show _ * 256<=_; simp only [b5R]; omega) (by decide) rfl ?_
  intro A9 cap10 bs11 w7 hs8
  refine j6 rfl ?_
  refine b8 ?_
  refine F4 ?_
  show ∃ A' cap' bs,(Value.slice A9 ((([]:List Str)++l).length) cap10)=.slice A' n cap'/\Ac (C6 256) (fun _=>False) w7 (.slice A' n cap') l bs/\Ext [] w0 w7/\∀ b∈bs,w0.heap.size<=b
  have ha:=hs8.at 0 rfl
  simp only [b6A] at ha
  rw [hn] at ha
  exact ⟨_,_,_,by simp only [b6A]; rw [hn],ha,hs8.ext,fun b hb=>(hs8.org 0 rfl b hb).elim (fun h=>by cases h) id⟩
theorem d8m {w0:World} {n:Int} (h0:1<=n) (h1:n<=8192) :
  A6 Tryz.prog 4 [.int .i64 n] w0 (fun v w'=>∃ d F,v=.tuple #[.pointer (some ⟨d,0,none⟩),.nilIface]/\B9 d w' (Dk.new n) F/\Ext [] w0 w'/\∀ b∈F,w0.heap.size<=b):=by
 have hs0:=Sep.nil (B0:=[]) (w0:=w0) (Z:=fun _=>False) (fun _ h=>h.elim)
 refine d00 Tryz.func4 rfl rfl rfl rfl ?_
 refine k8 ?_
 refine b9 ?_
 refine j6 rfl ?_
 refine j6 rfl ?_
 refine b8 ?_
 refine k8 ?_
 refine k8 ?_
 refine b9 ?_
 refine k9 rfl ?_
 refine a7r rfl rfl rfl ?_
 refine k9 rfl ?_
 refine a4h (dj:=6) rfl (fun h1=>?_) (fun h1=>?_)
 .
  have p2:=b3V h1
  exfalso; omega
 .
  have p3:=b4K h1
  refine L5 rfl rfl (bF h1) ?_
  refine k9 rfl ?_
  refine L5 rfl rfl (bF h1) ?_
  refine b4f rfl rfl rfl ?_
  refine a1v (bF h1) rfl ?_
  refine b8 ?_
  refine E3 rfl (fun h4=>?_) (fun h4=>?_)
  .
   have p5:=b3V h4
   exfalso; omega
  .
   have p6:=b4K h4
   refine G0 ?_
   refine k8 ?_
   refine b9 ?_
   refine k9 rfl ?_
   refine a64 (r:=(C6 256)) (zc:=((List.replicate 256 (0:UInt8)).map bv)) (zx:=List.replicate 256 0) hs0 Tryz.runUnderlying53 Tryz.typeInfo107 Tryz.sizeOf107 Tryz.zeroValue107 e67 rfl (by decide) (fun _ _=>⟨rfl,b3X⟩) rfl rfl (by omega) (by show (256:Int) * n<=_; omega) (by omega) rfl ?_
   intro b7 w8 hs9
   refine b1a E5 (fun s=>av s) hs9 rfl ?_
   intro b10 w11 hs12
   refine b2f (pl:=#[(0,1),(1,1),(2,1),(3,1)]) (cs:=[.slice (some ⟨b7,0,none⟩) (Int.toNat n) (Int.toNat n),.map (some b10),.int .i64 (-1),.bool false]) Tryz.runUnderlying56 Tryz.zeroValue56 (by intro w; kernel_rfl) rfl rfl rfl ?_
   refine d0p hs12 rfl ?_
   intro b13 w14 hs15
   refine j6 rfl ?_
   refine j6 rfl ?_
   refine b8 ?_
   refine F4 ?_
   show ∃ d F,(Value.tuple #[.pointer (some ⟨b13,0,none⟩),.nilIface])=.tuple #[.pointer (some ⟨d,0,none⟩),.nilIface]/\B9 d w14 (Dk.new n) F/\Ext [] w0 w14/\∀ b∈F,w0.heap.size<=b
   have ⟨hc,ht⟩:=(B9.close (hs15.pick [0,1,2] rfl (by decide) rfl) (Ac.bs1 ((hs15.pick [0,1,2] rfl (by decide) rfl).at 2 rfl)))
   exact ⟨_,_,rfl,hc,ht.1,fun b hb=>(ht.2 b hb).elim (fun h=>by cases h) id⟩
theorem d2q {w0:World} {n:Int} (h:n<1 ∨ 8192<n) :
  A6 Tryz.prog 4 [.int .i64 n] w0 (fun v w'=>v=.tuple #[.pointer none,.iface 52 (.int .i64 2)]/\w'=w0):=by
 refine d00 Tryz.func4 rfl rfl rfl rfl ?_
 refine k8 ?_
 refine b9 ?_
 refine j6 rfl ?_
 refine j6 rfl ?_
 refine b8 ?_
 refine k8 ?_
 refine k8 ?_
 refine b9 ?_
 refine k9 rfl ?_
 refine a7r rfl rfl rfl ?_
 refine k9 rfl ?_
 refine a4h (dj:=6) rfl (fun h1=>?_) (fun h1=>?_)
 .
  have p2:=b3V h1
  refine L4 rfl rfl rfl (bT h1) ?_
  refine L4 rfl rfl rfl (bT h1) ?_
  refine a4s (bT h1) rfl ?_
  refine b8 ?_
  refine J9 rfl ?_
  refine k8 ?_
  refine b9 ?_
  refine J1 Tryz.runUnderlying52 rfl rfl rfl ?_
  refine j6 rfl ?_
  refine j6 rfl ?_
  refine b8 ?_
  refine F4 ?_
  show (Value.tuple #[.pointer none,.iface 52 (.int .i64 2)])=.tuple #[.pointer none,.iface 52 (.int .i64 2)]/\w0=w0
  exact ⟨rfl,rfl⟩
 .
  have p3:=b4K h1
  refine L5 rfl rfl (bF h1) ?_
  refine k9 rfl ?_
  refine L5 rfl rfl (bF h1) ?_
  refine b4f rfl rfl rfl ?_
  refine a1v (bF h1) rfl ?_
  refine b8 ?_
  refine E3 rfl (fun h4=>?_) (fun h4=>?_)
  .
   have p5:=b3V h4
   refine k8 ?_
   refine b9 ?_
   refine J1 Tryz.runUnderlying52 rfl rfl rfl ?_
   refine j6 rfl ?_
   refine j6 rfl ?_
   refine b8 ?_
   refine F4 ?_
   show (Value.tuple #[.pointer none,.iface 52 (.int .i64 2)])=.tuple #[.pointer none,.iface 52 (.int .i64 2)]/\w0=w0
   exact ⟨rfl,rfl⟩
  .
   have p6:=b4K h4
   exfalso; omega
theorem c8k {w0:World} {d:Nat} {x:Dk} {F:List Nat} (h:B9 d w0 x F) (ok:x.Ok) {D:Nat->Prop} {A1:Option Addr} {cap1:Nat} {kept:List Int} (hk:(q9 G2).rd D w0 [.slice A1 kept.length cap1] kept) (a0W cut:Int) :
  A6 Tryz.prog 35 [.pointer (some ⟨d,0,none⟩),.int .i64 a0W,.int .i64 cut,.slice A1 kept.length cap1] w0 (fun v w'=>∃ d2 F2,v=.pointer (some ⟨d2,0,none⟩)/\B9 d2 w' (x.a0P a0W cut kept) F2/\Ext [] w0 w'/\∀ b∈F2,w0.heap.size<=b):=by
 have ⟨hp,hm,hl,hfl,⟨hi1,hi2⟩,hky⟩:=ok
 obtain ⟨A,cap,bm,hs1⟩:=h.b3G (Z:=fun b=>b∈F ∨ (D b/\b<w0.heap.size)) (fun b hb=>hb.elim (h.lt b) (·.2)) (fun b hb=>.inl hb)
 have hs0:=hs1.fact (t:=T4 (q9 G2) [.slice A1 kept.length cap1] kept) ((q9 G2).a2T hk (fun b h1 h2=>.inr ⟨h1,h2⟩)) d06 rfl rfl
 have hkl:=a0z hk
 refine a17 Tryz.func35 rfl rfl rfl rfl ?_
 refine k8 ?_
 refine b9 ?_
 refine j6 rfl ?_
 refine b8 ?_
 refine k8 ?_
 refine k8 ?_
 refine b9 ?_
 refine k9 rfl ?_
 refine a14 Tryz.call55 rfl (a6o h ok) rfl ?_
 refine a36 rfl rfl rfl ?_
 refine b8 ?_
 refine E3 rfl (fun h1=>?_) (fun h1=>?_)
 .
  have p2:=b3V h1
  exfalso; omega
 .
  have p3:=b4K h1
  refine G0 ?_
  refine k8 ?_
  refine b9 ?_
  refine k9 rfl ?_
  refine r7 rfl rfl ?_
  refine q6 Tryz.runUnderlying56 rfl Tryz.sizeOf53 rfl rfl ?_
  refine C3 Tryz.isAgg53 rfl (Own.at ((hs0.at 1 rfl)).2 rfl) rfl ?_
  have hz11:=c9g (Ac.rd ((hs0.at 3 rfl)).choose_spec.2 (by omega)) hm
  refine c05 Tryz.call67 rfl hz11 rfl ?_
  rintro A4 cap5 bs6 w7 ⟨ha8,e9,hf10⟩
  have hs12:=hs0.a7J e9 ha8 hf10
  refine b1a E5 (fun s=>av s) hs12 rfl ?_
  intro b13 w14 hs15
  refine b2f (pl:=#[(0,1),(1,1),(2,1),(3,1)]) (cs:=[.slice A4 x.a0B.length cap5,.map (some b13),.int .i64 (-1),.bool false]) Tryz.runUnderlying56 Tryz.zeroValue56 (by intro w; kernel_rfl) rfl rfl rfl ?_
  refine d0p hs15 rfl ?_
  intro b16 w17 hs18
  refine j6 rfl ?_
  refine b8 ?_
  refine e4a (fun f w=>∃ (l1:List Str),(l1=x.a0W a0W cut)/\Sep [] w0 (fun b=>b∈F ∨ (D b/\b<w0.heap.size)) w [K9 b16 56 [.slice A4 x.a0B.length cap5,.map (some b13),.int .i64 (-1),.bool false] [],L7 E5 b13 (u9 (fun s=>av s) []) [],iAc (C6 256) (.slice A4 x.a0B.length cap5) l1 bs6 [],T4 (q9 G2) [.slice A1 kept.length cap1] kept,J6 d 56 [.slice A x.a0B.length cap,.map (some bm),.int .i64 x.left,.bool x.off],J3 E5 bm (u9 (fun s=>av s) x.fresh),U7 (C6 256) (.slice A x.a0B.length cap) x.a0B]/\M5 f [(0,.pointer (some ⟨d,0,none⟩)),(3,.slice A1 kept.length cap1),(9,.pointer (some ⟨b16,0,none⟩))]) ?_ ?_
  .
   refine k8 ?_
   refine F3 (L:=[(0,.pointer (some ⟨d,0,none⟩)),(1,.int .i64 a0W),(2,.int .i64 cut),(3,.slice A1 kept.length cap1),(9,.pointer (some ⟨b16,0,none⟩))]) ⟨rfl,rfl,rfl,rfl,rfl,trivial⟩ ?_
   intro g20
   refine b9 ?_
   refine k9 rfl ?_
   refine r7 rfl rfl ?_
   refine q6 Tryz.runUnderlying56 rfl Tryz.sizeOf54 rfl rfl ?_
   refine C3 Tryz.isAgg54 rfl (Own.at ((hs18.at 4 rfl)).2 rfl) rfl ?_
   refine k9 rfl ?_
   refine a3i (z0:=(List.replicate 256 (0:UInt8))) ((hs18.at 5 rfl)).2 Tryz.runUnderlying54 Tryz.runUnderlying3 Tryz.zeroValue107 a3u rfl rfl rfl ?_
   refine k9 rfl ?_
   refine I3 rfl rfl rfl ?_
   refine I3 rfl rfl rfl ?_
   refine a5t hs18 Tryz.zeroValue107 a3u rfl ?_
   intro b21 w22 hs23
   refine a2i hs23 0 rfl Tryz.sizeOf107 rfl rfl b3X (N5 ok a0W) ?_
   intro w24 hs25
   refine j6 rfl ?_
   refine b8 ?_
   refine k8 ?_
   refine F3 (L:=[(0,.pointer (some ⟨d,0,none⟩)),(1,.int .i64 a0W),(2,.int .i64 cut),(3,.slice A1 kept.length cap1),(9,.pointer (some ⟨b16,0,none⟩)),(10,.pointer (some ⟨b21,0,none⟩)),(11,.bool (Option.isSome (s9 x.fresh a0W)))]) ⟨rfl,rfl,rfl,rfl,rfl,rfl,rfl,trivial⟩ ?_
   intro g26
   refine b9 ?_
   refine k9 rfl ?_
   refine b8 ?_
   refine E3 rfl (fun h27=>?_) (fun h27=>?_)
   .
    have p28:=h27
    try simp only [lrn] at p28
    have ⟨ht0,ht1⟩:=X3 ok ‹(s9 x.fresh a0W).isSome=true›
    refine F3 (L:=[(0,.pointer (some ⟨d,0,none⟩)),(1,.int .i64 a0W),(2,.int .i64 cut),(3,.slice A1 kept.length cap1),(9,.pointer (some ⟨b16,0,none⟩)),(10,.pointer (some ⟨b21,0,none⟩))]) ⟨rfl,rfl,rfl,rfl,rfl,rfl,trivial⟩ ?_
    intro g29
    refine L8 (fun dN vL w=>Sep [] w0 (fun b=>b∈F ∨ (D b/\b<w0.heap.size)) w [iAr b21 107 ((s9 x.fresh a0W).getD (List.replicate 256 (0:UInt8))) [],K9 b16 56 [.slice A4 x.a0B.length cap5,.map (some b13),.int .i64 (-1),.bool false] [],L7 E5 b13 (u9 (fun s=>av s) []) [],(bif dN 11 then (iAc (C6 256) (.slice A4 x.a0B.length cap5) (List.set x.a0B (Int.toNat a0W) (List.take (Int.toNat (max 0 (min cut 256))) ((s9 x.fresh a0W).getD (List.replicate 256 (0:UInt8)))++List.drop (Int.toNat (max 0 (min cut 256))) (ix x.a0B a0W))) bs6 []) else (iAc (C6 256) (.slice A4 x.a0B.length cap5) x.a0B bs6 [])),T4 (q9 G2) [.slice A1 kept.length cap1] kept,J6 d 56 [.slice A x.a0B.length cap,.map (some bm),.int .i64 x.left,.bool x.off],J3 E5 bm (u9 (fun s=>av s) x.fresh),U7 (C6 256) (.slice A x.a0B.length cap) x.a0B]/\(dN 0=true->vL 0=.pointer (some ⟨b16,0,none⟩))/\(dN 1=true->vL 1=.pointer (some ⟨b16,0,none⟩))/\(dN 2=true->vL 2=.pointer (some ⟨b16,0,none⟩))/\(dN 3=true->vL 3=.slice A4 x.a0B.length cap5)/\(dN 4=true->vL 4=.int .i64 a0W)/\(dN 5=true->vL 5=.pointer (some (eA A4 ((Int.toNat a0W) * 256))))/\(dN 6=true->vL 6=.slice (some (eA A4 ((Int.toNat a0W) * 256))) 256 256)/\(dN 7=true->vL 7=.int .i64 cut)/\(dN 8=true->vL 8=.int .i64 (min cut 256))/\(dN 9=true->vL 9=.int .i64 (max 0 (min cut 256)))/\(dN 10=true->vL 10=.slice (some ⟨b21,0,none⟩) (Int.toNat (max 0 (min cut 256))) 256)/\(dN 11=true->vL 11=.int .i64 (max 0 (min cut 256)))/\True) [37,38,39,40,41,42,43,44,45,46,47,48] rfl (by decide +kernel) _ rfl ?_ ?_ ?_
    . exact fun V=>⟨hs25,(fun h=>by cases h),(fun h=>by cases h),(fun h=>by cases h),(fun h=>by cases h),(fun h=>by cases h),(fun h=>by cases h),(fun h=>by cases h),(fun h=>by cases h),(fun h=>by cases h),(fun h=>by cases h),(fun h=>by cases h),(fun h=>by cases h),trivial⟩
    . refine (.cons ?_ (.cons ?_ (.cons ?_ (.cons ?_ (.cons ?_ (.cons ?_ (.cons ?_ (.cons ?_ (.cons ?_ (.cons ?_ (.cons ?_ (.cons ?_ .nil))))))))))))
      .
       rintro dN vL g33 w34 ⟨hs35,v41,v42,v43,v44,v45,v46,v47,v48,v49,v50,v51,v52,_⟩ hD36 hd37 hu38 hg39 hk40
       have e53:dN 11=false:=hu38 11 (by decide +kernel)
       have hs54:=hs35
       rw [e53] at hs54
       refine u7 (L:=[(9,.pointer (some ⟨b16,0,none⟩))]) ⟨(hk40 9 (by decide +kernel)),trivial⟩ ?_
       refine k9 rfl ?_
       exact b8 ⟨rfl,_,rfl,hs35,(fun _=>rfl),v42,v43,v44,v45,v46,v47,v48,v49,v50,v51,v52,trivial⟩
      .
       rintro dN vL g56 w57 ⟨hs58,v64,v65,v66,v67,v68,v69,v70,v71,v72,v73,v74,v75,_⟩ hD59 hd60 hu61 hg62 hk63
       have e76:dN 0=true:=hd60 0 (by decide +kernel)
       have e77:dN 11=false:=hu61 11 (by decide +kernel)
       have hs78:=hs58
       rw [e77] at hs78
       refine u7 (L:=[(37,.pointer (some ⟨b16,0,none⟩))]) ⟨((hg62 0 37 e76 rfl).trans (v64 e76)),trivial⟩ ?_
       refine r7 rfl rfl ?_
       exact b8 ⟨rfl,_,rfl,hs58,v64,(fun _=>rfl),v66,v67,v68,v69,v70,v71,v72,v73,v74,v75,trivial⟩
      .
       rintro dN vL g80 w81 ⟨hs82,v88,v89,v90,v91,v92,v93,v94,v95,v96,v97,v98,v99,_⟩ hD83 hd84 hu85 hg86 hk87
       have e100:dN 1=true:=hd84 1 (by decide +kernel)
       have e101:dN 11=false:=hu85 11 (by decide +kernel)
       have hs102:=hs82
       rw [e101] at hs102
       refine u7 (L:=[(38,.pointer (some ⟨b16,0,none⟩))]) ⟨((hg86 1 38 e100 rfl).trans (v89 e100)),trivial⟩ ?_
       refine q6 Tryz.runUnderlying56 rfl Tryz.sizeOf53 rfl rfl ?_
       exact b8 ⟨rfl,_,rfl,hs82,v88,v89,(fun _=>rfl),v91,v92,v93,v94,v95,v96,v97,v98,v99,trivial⟩
      .
       rintro dN vL g104 w105 ⟨hs106,v112,v113,v114,v115,v116,v117,v118,v119,v120,v121,v122,v123,_⟩ hD107 hd108 hu109 hg110 hk111
       have e124:dN 2=true:=hd108 2 (by decide +kernel)
       have e125:dN 11=false:=hu109 11 (by decide +kernel)
       have hs126:=hs106
       rw [e125] at hs126
       refine u7 (L:=[(39,.pointer (some ⟨b16,0,none⟩))]) ⟨((hg110 2 39 e124 rfl).trans (v114 e124)),trivial⟩ ?_
       refine C3 Tryz.isAgg53 rfl (Own.at (hs126.at 1 rfl) rfl) rfl ?_
       exact b8 ⟨rfl,_,rfl,hs106,v112,v113,v114,(fun _=>rfl),v116,v117,v118,v119,v120,v121,v122,v123,trivial⟩
      .
       rintro dN vL g128 w129 ⟨hs130,v136,v137,v138,v139,v140,v141,v142,v143,v144,v145,v146,v147,_⟩ hD131 hd132 hu133 hg134 hk135
       have e148:dN 11=false:=hu133 11 (by decide +kernel)
       have hs149:=hs130
       rw [e148] at hs149
       refine u7 (L:=[(1,.int .i64 a0W)]) ⟨(hk135 1 (by decide +kernel)),trivial⟩ ?_
       refine k9 rfl ?_
       exact b8 ⟨rfl,_,rfl,hs130,v136,v137,v138,v139,(fun _=>rfl),v141,v142,v143,v144,v145,v146,v147,trivial⟩
      .
       rintro dN vL g151 w152 ⟨hs153,v159,v160,v161,v162,v163,v164,v165,v166,v167,v168,v169,v170,_⟩ hD154 hd155 hu156 hg157 hk158
       have e171:dN 3=true:=hd155 3 (by decide +kernel)
       have e172:dN 4=true:=hd155 4 (by decide +kernel)
       have e173:dN 11=false:=hu156 11 (by decide +kernel)
       have hs174:=hs153
       rw [e173] at hs174
       refine u7 (L:=[(40,.slice A4 x.a0B.length cap5),(41,.int .i64 a0W)]) ⟨((hg157 3 40 e171 rfl).trans (v162 e171)),((hg157 4 41 e172 rfl).trans (v163 e172)),trivial⟩ ?_
       refine U1 (hs174.at 3 rfl) Tryz.runUnderlying53 Tryz.sizeOf107 rfl rfl (show (0:Int)<=a0W from by omega) (show a0W<((x.a0B.length:Nat):Int) from by omega) rfl ?_
       exact b8 ⟨rfl,_,rfl,hs153,v159,v160,v161,v162,v163,(fun _=>rfl),v165,v166,v167,v168,v169,v170,trivial⟩
      .
       rintro dN vL g176 w177 ⟨hs178,v184,v185,v186,v187,v188,v189,v190,v191,v192,v193,v194,v195,_⟩ hD179 hd180 hu181 hg182 hk183
       have e196:dN 5=true:=hd180 5 (by decide +kernel)
       have e197:dN 11=false:=hu181 11 (by decide +kernel)
       have hs198:=hs178
       rw [e197] at hs198
       refine u7 (L:=[(42,.pointer (some (eA A4 ((Int.toNat a0W) * 256))))]) ⟨((hg182 5 42 e196 rfl).trans (v189 e196)),trivial⟩ ?_
       refine b1g (e:=(256:Nat)) Tryz.runUnderlying107 Tryz.sizeOf5 rfl rfl ⟨by omega,by omega⟩ rfl ?_
       exact b8 ⟨rfl,_,rfl,hs178,v184,v185,v186,v187,v188,v189,(fun _=>rfl),v191,v192,v193,v194,v195,trivial⟩
      .
       rintro dN vL g200 w201 ⟨hs202,v208,v209,v210,v211,v212,v213,v214,v215,v216,v217,v218,v219,_⟩ hD203 hd204 hu205 hg206 hk207
       have e220:dN 11=false:=hu205 11 (by decide +kernel)
       have hs221:=hs202
       rw [e220] at hs221
       refine u7 (L:=[(2,.int .i64 cut)]) ⟨(hk207 2 (by decide +kernel)),trivial⟩ ?_
       refine k9 rfl ?_
       exact b8 ⟨rfl,_,rfl,hs202,v208,v209,v210,v211,v212,v213,v214,(fun _=>rfl),v216,v217,v218,v219,trivial⟩
      .
       rintro dN vL g223 w224 ⟨hs225,v231,v232,v233,v234,v235,v236,v237,v238,v239,v240,v241,v242,_⟩ hD226 hd227 hu228 hg229 hk230
       have e243:dN 7=true:=hd227 7 (by decide +kernel)
       have e244:dN 11=false:=hu228 11 (by decide +kernel)
       have hs245:=hs225
       rw [e244] at hs245
       refine u7 (L:=[(44,.int .i64 cut)]) ⟨((hg229 7 44 e243 rfl).trans (v238 e243)),trivial⟩ ?_
       refine d6r rfl rfl rfl ?_
       exact b8 ⟨rfl,_,rfl,hs225,v231,v232,v233,v234,v235,v236,v237,v238,(fun _=>rfl),v240,v241,v242,trivial⟩
      .
       rintro dN vL g247 w248 ⟨hs249,v255,v256,v257,v258,v259,v260,v261,v262,v263,v264,v265,v266,_⟩ hD250 hd251 hu252 hg253 hk254
       have e267:dN 8=true:=hd251 8 (by decide +kernel)
       have e268:dN 11=false:=hu252 11 (by decide +kernel)
       have hs269:=hs249
       rw [e268] at hs269
       refine u7 (L:=[(45,.int .i64 (min cut 256))]) ⟨((hg253 8 45 e267 rfl).trans (v263 e267)),trivial⟩ ?_
       refine c63 rfl rfl rfl ?_
       exact b8 ⟨rfl,_,rfl,hs249,v255,v256,v257,v258,v259,v260,v261,v262,v263,(fun _=>rfl),v265,v266,trivial⟩
      .
       rintro dN vL g271 w272 ⟨hs273,v279,v280,v281,v282,v283,v284,v285,v286,v287,v288,v289,v290,_⟩ hD274 hd275 hu276 hg277 hk278
       have e291:dN 9=true:=hd275 9 (by decide +kernel)
       have e292:dN 11=false:=hu276 11 (by decide +kernel)
       have hs293:=hs273
       rw [e292] at hs293
       refine u7 (L:=[(10,.pointer (some ⟨b21,0,none⟩)),(46,.int .i64 (max 0 (min cut 256)))]) ⟨(hk278 10 (by decide +kernel)),((hg277 9 46 e291 rfl).trans (v288 e291)),trivial⟩ ?_
       refine a3e (e:=max 0 (min cut 256)) Tryz.runUnderlying107 Tryz.sizeOf5 rfl rfl ⟨by omega,by omega⟩ rfl ?_
       exact b8 ⟨rfl,_,rfl,hs273,v279,v280,v281,v282,v283,v284,v285,v286,v287,v288,(fun _=>rfl),v290,trivial⟩
      .
       rintro dN vL g295 w296 ⟨hs297,v303,v304,v305,v306,v307,v308,v309,v310,v311,v312,v313,v314,_⟩ hD298 hd299 hu300 hg301 hk302
       have e315:dN 6=true:=hd299 6 (by decide +kernel)
       have e316:dN 10=true:=hd299 10 (by decide +kernel)
       have e317:dN 11=false:=hD298
       rw [e317] at hs297
       have hs318:=hs297
       refine u7 (L:=[(43,.slice (some (eA A4 ((Int.toNat a0W) * 256))) 256 256),(47,.slice (some ⟨b21,0,none⟩) (Int.toNat (max 0 (min cut 256))) 256)]) ⟨((hg301 6 43 e315 rfl).trans (v309 e315)),((hg301 10 47 e316 rfl).trans (v313 e316)),trivial⟩ ?_
       refine c4f (e:=max 0 (min cut 256)) hs318 3 rfl (hs318.at 0 rfl) Tryz.runUnderlying59 Tryz.sizeOf5 rfl rfl rfl (show (0:Int)<=a0W from by omega) (show a0W<((x.a0B.length:Nat):Int) from by omega) (N5 ok a0W) ⟨by omega,by omega⟩ rfl ?_
       intro w319 hs320
       have hs321:Sep [] w0 (fun b=>b∈F ∨ (D b/\b<w0.heap.size)) w319 [iAr b21 107 ((s9 x.fresh a0W).getD (List.replicate 256 (0:UInt8))) [],K9 b16 56 [.slice A4 x.a0B.length cap5,.map (some b13),.int .i64 (-1),.bool false] [],L7 E5 b13 (u9 (fun s=>av s) []) [],iAc (C6 256) (.slice A4 x.a0B.length cap5) (List.set x.a0B (Int.toNat a0W) (List.take (Int.toNat (max 0 (min cut 256))) ((s9 x.fresh a0W).getD (List.replicate 256 (0:UInt8)))++List.drop (Int.toNat (max 0 (min cut 256))) (ix x.a0B a0W))) bs6 [],T4 (q9 G2) [.slice A1 kept.length cap1] kept,J6 d 56 [.slice A x.a0B.length cap,.map (some bm),.int .i64 x.left,.bool x.off],J3 E5 bm (u9 (fun s=>av s) x.fresh),U7 (C6 256) (.slice A x.a0B.length cap) x.a0B]:=by exact hs320
       exact b8 ⟨rfl,_,rfl,hs321,v303,v304,v305,v306,v307,v308,v309,v310,v311,v312,v313,(fun _=>rfl),trivial⟩
    .
     rintro dN vL g322 w323 ha325 ⟨hs324,v328,v329,v330,v331,v332,v333,v334,v335,v336,v337,v338,v339,_⟩ hg326 hk327
     rw [ha325 11 rfl] at hs324
     have hs340:=hs324
     refine ⟨[(0,.pointer (some ⟨d,0,none⟩)),(3,.slice A1 kept.length cap1),(9,.pointer (some ⟨b16,0,none⟩))],⟨(hk327 0 rfl),(hk327 3 rfl),(hk327 9 rfl),trivial⟩,fun g341=>?_⟩
     exact ⟨List.set x.a0B (Int.toNat a0W) (List.take (Int.toNat (max 0 (min cut 256))) ((s9 x.fresh a0W).getD (List.replicate 256 (0:UInt8)))++List.drop (Int.toNat (max 0 (min cut 256))) (ix x.a0B a0W)),(by first | exact b0c ‹_› | exact b0p ‹_›),(hs340.pick [1,2,3,4,5,6,7] rfl (by decide) rfl),⟨rfl,rfl,rfl,trivial⟩⟩
   .
    have p342:=h27
    try simp only [lrn] at p342
    refine G0 ?_
    exact ⟨x.a0B,(by first | exact b0c ‹_› | exact b0p ‹_›),(hs25.pick [1,2,3,4,5,6,7] rfl (by decide) rfl),⟨rfl,rfl,rfl,trivial⟩⟩
  .
   rintro f343 w19 ⟨l1,q346,hs344,hl345⟩
   refine F3 hl345 ?_
   intro g347
   refine k8 ?_
   refine k8 ?_
   refine b9 ?_
   refine k9 rfl ?_
   refine a1z Tryz.runUnderlying42 rfl rfl ?_
   refine k9 rfl ?_
   refine b8 ?_
   refine I7 ?_
   refine a2u (fun m f w=>∃ (i:Int) (l2:List Str),m=((kept.length:Int)-i).toNat/\(0<=i)/\(i<=kept.length)/\(l2=(kept.take i.toNat).foldl (G7 x.fresh) (x.a0W a0W cut))/\Sep [] w0 (fun b=>b∈F ∨ (D b/\b<w0.heap.size)) w [K9 b16 56 [.slice A4 x.a0B.length cap5,.map (some b13),.int .i64 (-1),.bool false] [],L7 E5 b13 (u9 (fun s=>av s) []) [],iAc (C6 256) (.slice A4 x.a0B.length cap5) l2 bs6 [],T4 (q9 G2) [.slice A1 kept.length cap1] kept,J6 d 56 [.slice A x.a0B.length cap,.map (some bm),.int .i64 x.left,.bool x.off],J3 E5 bm (u9 (fun s=>av s) x.fresh),U7 (C6 256) (.slice A x.a0B.length cap) x.a0B]/\M5 f [(0,.pointer (some ⟨d,0,none⟩)),(9,.pointer (some ⟨b16,0,none⟩)),(49,.slice A1 kept.length cap1),(50,.int .i64 (kept.length:Int)),(51,.int .i64 i)]) ?_ ?_
   . exact ⟨_,0,_,rfl,(by omega),(by omega),(by rw [q346]; rfl),hs344,⟨rfl,rfl,rfl,rfl,rfl,trivial⟩⟩
   .
    rintro _ f350 w348 ⟨i,l2,rfl,q353,q354,q355,hs351,hl352⟩
    refine F3 hl352 ?_
    intro g356
    refine k8 ?_
    refine b9 ?_
    refine a7r rfl rfl rfl ?_
    refine b8 ?_
    refine k8 ?_
    refine E3 rfl (fun h357=>?_) (fun h357=>?_)
    .
     have p358:=b3V h357
     refine G0 ?_
     refine k8 ?_
     refine I7 ?_
     refine k8 ?_
     refine b9 ?_
     refine c0z (hs351.at 3 rfl) Tryz.runUnderlying42 Tryz.sizeOf3 rfl rfl rfl (show (0:Int)<=i from by omega) (show i<((kept.length:Nat):Int) from by omega) rfl ?_
     have o362:=c1x (q:=(Int.toNat i) * 1) (sz:=1) (o:=0) (hs351.at 3 rfl) (Sub.self _) rfl (b5Q _).symm (show (0:Int)<=i from by omega) (show i<((kept.length:Nat):Int) from by omega)
     obtain ⟨c359,hc360,hr361⟩:=o362
     obtain ⟨rfl,r363⟩:=hr361
     have ⟨r364,r365⟩:=r363
     refine c9s Tryz.isAgg3 rfl hc360 rfl ?_
     refine j6 rfl ?_
     refine b8 ?_
     refine k8 ?_
     refine b9 ?_
     refine k9 rfl ?_
     refine r7 rfl rfl ?_
     refine q6 Tryz.runUnderlying56 rfl Tryz.sizeOf54 rfl rfl ?_
     refine C3 Tryz.isAgg54 rfl (Own.at ((hs351.at 4 rfl)).2 rfl) rfl ?_
     refine k9 rfl ?_
     refine a3i (z0:=(List.replicate 256 (0:UInt8))) ((hs351.at 5 rfl)).2 Tryz.runUnderlying54 Tryz.runUnderlying3 Tryz.zeroValue107 a3u rfl rfl rfl ?_
     refine k9 rfl ?_
     refine I3 rfl rfl rfl ?_
     refine I3 rfl rfl rfl ?_
     refine a5t hs351 Tryz.zeroValue107 a3u rfl ?_
     intro b366 w367 hs368
     refine a2i hs368 0 rfl Tryz.sizeOf107 rfl rfl b3X (N5 ok (ix kept i)) ?_
     intro w369 hs370
     refine j6 rfl ?_
     refine b8 ?_
     refine k8 ?_
     refine F3 (L:=[(0,.pointer (some ⟨d,0,none⟩)),(9,.pointer (some ⟨b16,0,none⟩)),(13,.int .i64 (ix kept i)),(14,.pointer (some ⟨b366,0,none⟩)),(15,.bool (Option.isSome (s9 x.fresh (ix kept i)))),(49,.slice A1 kept.length cap1),(50,.int .i64 (kept.length:Int)),(51,.int .i64 i)]) ⟨rfl,rfl,rfl,rfl,rfl,rfl,rfl,rfl,trivial⟩ ?_
     intro g371
     refine b9 ?_
     refine k9 rfl ?_
     refine b8 ?_
     refine E3 rfl (fun h372=>?_) (fun h372=>?_)
     .
      have p373:=h372
      try simp only [lrn] at p373
      have ⟨ht0,ht1⟩:=X3 ok ‹(s9 x.fresh (ix kept i)).isSome=true›
      refine F3 (L:=[(0,.pointer (some ⟨d,0,none⟩)),(9,.pointer (some ⟨b16,0,none⟩)),(13,.int .i64 (ix kept i)),(14,.pointer (some ⟨b366,0,none⟩)),(49,.slice A1 kept.length cap1),(50,.int .i64 (kept.length:Int)),(51,.int .i64 i)]) ⟨rfl,rfl,rfl,rfl,rfl,rfl,rfl,trivial⟩ ?_
      intro g374
      refine L8 (fun dN vL w=>Sep [] w0 (fun b=>b∈F ∨ (D b/\b<w0.heap.size)) w [iAr b366 107 ((s9 x.fresh (ix kept i)).getD (List.replicate 256 (0:UInt8))) [],K9 b16 56 [.slice A4 x.a0B.length cap5,.map (some b13),.int .i64 (-1),.bool false] [],L7 E5 b13 (u9 (fun s=>av s) []) [],(bif dN 7 then (iAc (C6 256) (.slice A4 x.a0B.length cap5) (List.set l2 (Int.toNat (ix kept i)) ((s9 x.fresh (ix kept i)).getD (List.replicate 256 (0:UInt8)))) bs6 []) else (iAc (C6 256) (.slice A4 x.a0B.length cap5) l2 bs6 [])),T4 (q9 G2) [.slice A1 kept.length cap1] kept,J6 d 56 [.slice A x.a0B.length cap,.map (some bm),.int .i64 x.left,.bool x.off],J3 E5 bm (u9 (fun s=>av s) x.fresh),U7 (C6 256) (.slice A x.a0B.length cap) x.a0B]/\(dN 0=true->vL 0=.pointer (some ⟨b16,0,none⟩))/\(dN 1=true->vL 1=.pointer (some ⟨b16,0,none⟩))/\(dN 2=true->vL 2=.pointer (some ⟨b16,0,none⟩))/\(dN 3=true->vL 3=.slice A4 x.a0B.length cap5)/\(dN 4=true->vL 4=.int .i64 (ix kept i))/\(dN 5=true->vL 5=av ((s9 x.fresh (ix kept i)).getD (List.replicate 256 (0:UInt8))))/\(dN 6=true->vL 6=.pointer (some (eA A4 ((Int.toNat (ix kept i)) * 256))))/\True) [65,66,67,68,69,70,71] rfl (by decide +kernel) _ rfl ?_ ?_ ?_
      . exact fun V=>⟨hs370,(fun h=>by cases h),(fun h=>by cases h),(fun h=>by cases h),(fun h=>by cases h),(fun h=>by cases h),(fun h=>by cases h),(fun h=>by cases h),trivial⟩
      . refine (.cons ?_ (.cons ?_ (.cons ?_ (.cons ?_ (.cons ?_ (.cons ?_ (.cons ?_ (.cons ?_ .nil))))))))
        .
         rintro dN vL g378 w379 ⟨hs380,v386,v387,v388,v389,v390,v391,v392,_⟩ hD381 hd382 hu383 hg384 hk385
         have e393:dN 7=false:=hu383 7 (by decide +kernel)
         have hs394:=hs380
         rw [e393] at hs394
         refine u7 (L:=[(9,.pointer (some ⟨b16,0,none⟩))]) ⟨(hk385 9 (by decide +kernel)),trivial⟩ ?_
         refine k9 rfl ?_
         exact b8 ⟨rfl,_,rfl,hs380,(fun _=>rfl),v387,v388,v389,v390,v391,v392,trivial⟩
        .
         rintro dN vL g396 w397 ⟨hs398,v404,v405,v406,v407,v408,v409,v410,_⟩ hD399 hd400 hu401 hg402 hk403
         have e411:dN 0=true:=hd400 0 (by decide +kernel)
         have e412:dN 7=false:=hu401 7 (by decide +kernel)
         have hs413:=hs398
         rw [e412] at hs413
         refine u7 (L:=[(65,.pointer (some ⟨b16,0,none⟩))]) ⟨((hg402 0 65 e411 rfl).trans (v404 e411)),trivial⟩ ?_
         refine r7 rfl rfl ?_
         exact b8 ⟨rfl,_,rfl,hs398,v404,(fun _=>rfl),v406,v407,v408,v409,v410,trivial⟩
        .
         rintro dN vL g415 w416 ⟨hs417,v423,v424,v425,v426,v427,v428,v429,_⟩ hD418 hd419 hu420 hg421 hk422
         have e430:dN 1=true:=hd419 1 (by decide +kernel)
         have e431:dN 7=false:=hu420 7 (by decide +kernel)
         have hs432:=hs417
         rw [e431] at hs432
         refine u7 (L:=[(66,.pointer (some ⟨b16,0,none⟩))]) ⟨((hg421 1 66 e430 rfl).trans (v424 e430)),trivial⟩ ?_
         refine q6 Tryz.runUnderlying56 rfl Tryz.sizeOf53 rfl rfl ?_
         exact b8 ⟨rfl,_,rfl,hs417,v423,v424,(fun _=>rfl),v426,v427,v428,v429,trivial⟩
        .
         rintro dN vL g434 w435 ⟨hs436,v442,v443,v444,v445,v446,v447,v448,_⟩ hD437 hd438 hu439 hg440 hk441
         have e449:dN 2=true:=hd438 2 (by decide +kernel)
         have e450:dN 7=false:=hu439 7 (by decide +kernel)
         have hs451:=hs436
         rw [e450] at hs451
         refine u7 (L:=[(67,.pointer (some ⟨b16,0,none⟩))]) ⟨((hg440 2 67 e449 rfl).trans (v444 e449)),trivial⟩ ?_
         refine C3 Tryz.isAgg53 rfl (Own.at (hs451.at 1 rfl) rfl) rfl ?_
         exact b8 ⟨rfl,_,rfl,hs436,v442,v443,v444,(fun _=>rfl),v446,v447,v448,trivial⟩
        .
         rintro dN vL g453 w454 ⟨hs455,v461,v462,v463,v464,v465,v466,v467,_⟩ hD456 hd457 hu458 hg459 hk460
         have e468:dN 7=false:=hu458 7 (by decide +kernel)
         have hs469:=hs455
         rw [e468] at hs469
         refine u7 (L:=[(13,.int .i64 (ix kept i))]) ⟨(hk460 13 (by decide +kernel)),trivial⟩ ?_
         refine k9 rfl ?_
         exact b8 ⟨rfl,_,rfl,hs455,v461,v462,v463,v464,(fun _=>rfl),v466,v467,trivial⟩
        .
         rintro dN vL g471 w472 ⟨hs473,v479,v480,v481,v482,v483,v484,v485,_⟩ hD474 hd475 hu476 hg477 hk478
         have e486:dN 7=false:=hu476 7 (by decide +kernel)
         have hs487:=hs473
         rw [e486] at hs487
         refine u7 (L:=[(14,.pointer (some ⟨b366,0,none⟩))]) ⟨(hk478 14 (by decide +kernel)),trivial⟩ ?_
         refine d0l Tryz.isAgg107 Tryz.sizeOf107 (hs487.at 0 rfl) (N5 ok (ix kept i)) rfl rfl ?_
         exact b8 ⟨rfl,_,rfl,hs473,v479,v480,v481,v482,v483,(fun _=>rfl),v485,trivial⟩
        .
         rintro dN vL g489 w490 ⟨hs491,v497,v498,v499,v500,v501,v502,v503,_⟩ hD492 hd493 hu494 hg495 hk496
         have e504:dN 3=true:=hd493 3 (by decide +kernel)
         have e505:dN 4=true:=hd493 4 (by decide +kernel)
         have e506:dN 7=false:=hu494 7 (by decide +kernel)
         have hs507:=hs491
         rw [e506] at hs507
         refine u7 (L:=[(68,.slice A4 x.a0B.length cap5),(69,.int .i64 (ix kept i))]) ⟨((hg495 3 68 e504 rfl).trans (v500 e504)),((hg495 4 69 e505 rfl).trans (v501 e505)),trivial⟩ ?_
         refine U1 (hs507.at 3 rfl) Tryz.runUnderlying53 Tryz.sizeOf107 rfl rfl (show (0:Int)<=(ix kept i) from by omega) (show (ix kept i)<((x.a0B.length:Nat):Int) from by omega) rfl ?_
         exact b8 ⟨rfl,_,rfl,hs491,v497,v498,v499,v500,v501,v502,(fun _=>rfl),trivial⟩
        .
         rintro dN vL g509 w510 ⟨hs511,v517,v518,v519,v520,v521,v522,v523,_⟩ hD512 hd513 hu514 hg515 hk516
         have e524:dN 5=true:=hd513 5 (by decide +kernel)
         have e525:dN 6=true:=hd513 6 (by decide +kernel)
         have e526:dN 7=false:=hD512
         rw [e526] at hs511
         have hs527:=hs511
         refine u7 (L:=[(70,av ((s9 x.fresh (ix kept i)).getD (List.replicate 256 (0:UInt8)))),(71,.pointer (some (eA A4 ((Int.toNat (ix kept i)) * 256))))]) ⟨((hg515 5 70 e524 rfl).trans (v522 e524)),((hg515 6 71 e525 rfl).trans (v523 e525)),trivial⟩ ?_
         refine a56 (o:=0) (sz:=256) hs527 3 rfl Tryz.sizeOf107 rfl rfl (b5Q _).symm (a4i _) (by rw [b6F]; exact (N5 ok (ix kept i))) (show (0:Int)<=(ix kept i) from by omega) (show (ix kept i)<((x.a0B.length:Nat):Int) from by omega) (fun c0 _ hc=>a69 (N5 ok (ix kept i)) c0 hc) (a2c _) ?_
         intro w528 hs529
         have hs530:Sep [] w0 (fun b=>b∈F ∨ (D b/\b<w0.heap.size)) w528 [iAr b366 107 ((s9 x.fresh (ix kept i)).getD (List.replicate 256 (0:UInt8))) [],K9 b16 56 [.slice A4 x.a0B.length cap5,.map (some b13),.int .i64 (-1),.bool false] [],L7 E5 b13 (u9 (fun s=>av s) []) [],iAc (C6 256) (.slice A4 x.a0B.length cap5) (List.set l2 (Int.toNat (ix kept i)) ((s9 x.fresh (ix kept i)).getD (List.replicate 256 (0:UInt8)))) bs6 [],T4 (q9 G2) [.slice A1 kept.length cap1] kept,J6 d 56 [.slice A x.a0B.length cap,.map (some bm),.int .i64 x.left,.bool x.off],J3 E5 bm (u9 (fun s=>av s) x.fresh),U7 (C6 256) (.slice A x.a0B.length cap) x.a0B]:=by exact hs529
         exact b8 ⟨rfl,undef,rfl,hs530,v517,v518,v519,v520,v521,v522,v523,trivial⟩
      .
       rintro dN vL g531 w532 ha534 ⟨hs533,v537,v538,v539,v540,v541,v542,v543,_⟩ hg535 hk536
       rw [ha534 7 rfl] at hs533
       have hs544:=hs533
       refine ⟨[(0,.pointer (some ⟨d,0,none⟩)),(9,.pointer (some ⟨b16,0,none⟩)),(49,.slice A1 kept.length cap1),(50,.int .i64 (kept.length:Int)),(51,.int .i64 i)],⟨(hk536 0 rfl),(hk536 9 rfl),(hk536 49 rfl),(hk536 50 rfl),(hk536 51 rfl),trivial⟩,fun g545=>?_⟩
       refine b9 ?_
       refine c0b rfl rfl (by omega) rfl ?_
       refine k9 rfl ?_
       refine b8 ?_
       exact ⟨_,(by omega),i+1,List.set l2 (Int.toNat (ix kept i)) ((s9 x.fresh (ix kept i)).getD (List.replicate 256 (0:UInt8))),rfl,(by omega),(by omega),(by first | exact b0h q355 (by omega) (by omega) ‹_› | exact b11 q355 (by omega) (by omega) ‹_›),(hs544.pick [1,2,3,4,5,6,7] rfl (by decide) rfl),⟨rfl,rfl,rfl,rfl,rfl,trivial⟩⟩
     .
      have p546:=h372
      try simp only [lrn] at p546
      refine G0 ?_
      refine b9 ?_
      refine c0b rfl rfl (by omega) rfl ?_
      refine k9 rfl ?_
      refine b8 ?_
      exact ⟨_,(by omega),i+1,l2,rfl,(by omega),(by omega),(by first | exact b0h q355 (by omega) (by omega) ‹_› | exact b11 q355 (by omega) (by omega) ‹_›),(hs370.pick [1,2,3,4,5,6,7] rfl (by decide) rfl),⟨rfl,rfl,rfl,rfl,rfl,trivial⟩⟩
    .
     have p547:=b4K h357
     refine a11 ?_
     refine k8 ?_
     refine b9 ?_
     refine k9 rfl ?_
     refine j6 rfl ?_
     refine b8 ?_
     refine F4 ?_
     show ∃ d2 F2,(Value.pointer (some ⟨b16,0,none⟩))=.pointer (some ⟨d2,0,none⟩)/\B9 d2 w348 (x.a0P a0W cut kept) F2/\Ext [] w0 w348/\∀ b∈F2,w0.heap.size<=b
     have ⟨hc,ht⟩:=(B9.close (hs351.pick [0,1,2] rfl (by decide) rfl) (Ac.bs1 ((hs351.pick [0,1,2] rfl (by decide) rfl).at 2 rfl)))
     have e:l2=(x.a0P a0W cut kept).a0B:=by rw [q355,b4Q (by omega)]; rfl
     subst e
     exact ⟨_,_,rfl,hc,ht.1,fun b hb=>(ht.2 b hb).elim (fun h=>by cases h) id⟩
theorem c3t {w0:World} {d:Nat} {x:Dk} {F:List Nat} (h:B9 d w0 x F) (ok:x.Ok):A6 Tryz.prog 69 [.pointer (some ⟨d,0,none⟩),.int .i64 0] w0 (fun v w'=>v=.int .i64 0/\w'=w0):=by
 have e:x.a0I 0=0:=by have:=ok.pos; simp only [Dk.a0I]; rw [if_neg (by omega)]
 have:=a8t h ok 0
 rwa [e] at this
theorem d0s {w0:World} {d:Nat} {x:Dk} {F:List Nat} (h:B9 d w0 x F) (ok:x.Ok) :
  A6 Tryz.prog 57 [.pointer (some ⟨d,0,none⟩)] w0 (fun v w'=>v=I5 52 x.flush.1/\∃ F',B9 d w' x.flush.2 F'/\S5 w0 w' F F'):=by
 have hs0:=Sep.one (o:=d2t d) (Z:=fun _=>False) h (fun _ h=>h.elim) (fun _ _ h=>h)
 refine a17 Tryz.func57 rfl rfl rfl rfl ?_
 refine k8 ?_
 refine b9 ?_
 refine j6 rfl ?_
 refine b8 ?_
 refine k8 ?_
 refine k8 ?_
 refine b9 ?_
 refine k9 rfl ?_
 refine k9 rfl ?_
 refine a14 Tryz.call69 rfl (c3t (hs0.at 0 rfl) ok) rfl ?_
 have hz5:=b3y (hs0.at 0 rfl) ok 0
 refine a71 Tryz.call70 rfl hz5 rfl ?_
 rintro w1 ⟨F2,h3,t4⟩
 have hs6:=hs0.turn 0 rfl h3 t4
 refine j6 rfl ?_
 refine b8 ?_
 refine k8 ?_
 refine b9 ?_
 refine k9 rfl ?_
 refine b3n (Te:=52) (e:=(x.act 0).1) Tryz.runUnderlying25 rfl rfl ?_
 refine b8 ?_
 refine E3 rfl (fun h8=>?_) (fun h8=>?_)
 .
  have p9:=b3V h8
  refine k8 ?_
  refine b9 ?_
  refine k9 rfl ?_
  refine j6 rfl ?_
  refine b8 ?_
  refine F4 ?_
  show (I5 52 ((x.act 0).1))=I5 52 x.flush.1/\∃ F',B9 d w1 x.flush.2 F'/\S5 w0 w1 F F'
  rw [a2w ‹_›]
  exact ⟨rfl,_,hs6.at 0 rfl,hs6.ext,fun b hb=>(hs6.org 0 rfl b hb)⟩
 .
  have p10:=b4K h8
  have hz:(x.act 0).1=0:=b4N.1 p10
  refine G0 ?_
  refine k8 ?_
  refine k8 ?_
  refine b9 ?_
  refine k9 rfl ?_
  have hz18:=d0u (hs6.at 0 rfl) (a0n ok 0)
  refine c05 Tryz.call79 rfl hz18 rfl ?_
  rintro A11 cap12 bs13 w14 ⟨ha15,e16,hf17⟩
  have hs19:=hs6.a7J e16 ha15 hf17
  refine a1z Tryz.runUnderlying42 rfl rfl ?_
  have ⟨A20,cap21,bm22,bs23,hs24⟩:=Sep.a4C (hs19.pick [1,0] rfl (by decide) rfl)
  refine k9 rfl ?_
  refine b8 ?_
  refine I7 ?_
  refine a2u (fun m f w=>∃ (i:Int) (la:List Str) (fr:List (Int×Str)),m=(((x.act 0).2.a0J.length:Int)-i).toNat/\(0<=i)/\(i<=(x.act 0).2.a0J.length)/\((la,fr)=((x.act 0).2.a0J.take i.toNat).foldl E6 ((x.act 0).2.a0B,(x.act 0).2.fresh))/\(∀ j s,s9 fr j=some s->s.length=256)/\Sep F w0 (fun _=>False) w [K9 d 56 [.slice A20 (((x.act 0).2).a0B.length) cap21,.map (some bm22),.int .i64 (((x.act 0).2).left),.bool (((x.act 0).2).off)] F,L7 E5 bm22 (u9 (fun s=>av s) fr) F,iAc (C6 256) (.slice A20 (((x.act 0).2).a0B.length) cap21) la bs23 F,iAc G2 (.slice A11 (((x.act 0).2).a0J.length) cap12) (((x.act 0).2).a0J) bs13 []]/\M5 f [(0,.pointer (some ⟨d,0,none⟩)),(14,.slice A11 (((x.act 0).2).a0J.length) cap12),(15,.int .i64 (((x.act 0).2).a0J.length:Int)),(16,.int .i64 i)]) ?_ ?_
  . exact ⟨_,0,_,_,rfl,(by omega),(by omega),rfl,(fun j s hs=>(M2 (a0n ok 0) hs).1),hs24,⟨rfl,rfl,rfl,rfl,trivial⟩⟩
  .
   rintro _ f27 w25 ⟨i,la,fr,rfl,q30,q31,q32,q33,hs28,hl29⟩
   refine F3 hl29 ?_
   intro g34
   have hdl:=c4g (a0n ok 0)
   refine k8 ?_
   refine b9 ?_
   refine a7r rfl rfl rfl ?_
   refine b8 ?_
   refine k8 ?_
   refine E3 rfl (fun h35=>?_) (fun h35=>?_)
   .
    have p36:=b3V h35
    refine G0 ?_
    refine k8 ?_
    refine I7 ?_
    refine k8 ?_
    refine b9 ?_
    refine U1 (hs28.at 3 rfl) Tryz.runUnderlying42 Tryz.sizeOf3 rfl rfl (show (0:Int)<=i from by omega) (show i<((((x.act 0).2).a0J.length:Nat):Int) from by omega) rfl ?_
    have o40:=b2j (q:=(Int.toNat i) * 1) (sz:=1) (o:=0) (hs28.at 3 rfl) (Sub.self _) rfl (b5Q _).symm (show (0:Int)<=i from by omega) (show i<((((x.act 0).2).a0J.length:Nat):Int) from by omega)
    obtain ⟨c37,hc38,hr39⟩:=o40
    obtain ⟨rfl,r41⟩:=hr39
    have ⟨r42,r43⟩:=r41
    refine c9s Tryz.isAgg3 rfl hc38 rfl ?_
    refine j6 rfl ?_
    have hdi:=c9z (a0n ok 0) (i:=i) (by omega) (by omega)
    refine b8 ?_
    refine k8 ?_
    refine F3 (L:=[(0,.pointer (some ⟨d,0,none⟩)),(5,.int .i64 (ix (((x.act 0).2).a0J) i)),(14,.slice A11 (((x.act 0).2).a0J.length) cap12),(15,.int .i64 (((x.act 0).2).a0J.length:Int)),(16,.int .i64 i)]) ⟨rfl,rfl,rfl,rfl,rfl,trivial⟩ ?_
    intro g44
    refine L8 (fun dN vL w=>Sep F w0 (fun _=>False) w [K9 d 56 [.slice A20 (((x.act 0).2).a0B.length) cap21,.map (some bm22),.int .i64 (((x.act 0).2).left),.bool (((x.act 0).2).off)] F,L7 E5 bm22 (u9 (fun s=>av s) fr) F,(bif dN 12 then (iAc (C6 256) (.slice A20 (((x.act 0).2).a0B.length) cap21) (List.set la (Int.toNat (ix (((x.act 0).2).a0J) i)) ((s9 fr (ix (((x.act 0).2).a0J) i)).getD (List.replicate 256 (0:UInt8)))) bs23 F) else (iAc (C6 256) (.slice A20 (((x.act 0).2).a0B.length) cap21) la bs23 F)),iAc G2 (.slice A11 (((x.act 0).2).a0J.length) cap12) (((x.act 0).2).a0J) bs13 []]/\(dN 0=true->vL 0=.pointer (some ⟨d,0,none⟩))/\(dN 1=true->vL 1=.pointer (some ⟨d,0,none⟩))/\(dN 2=true->vL 2=.pointer (some ⟨d,0,none⟩))/\(dN 3=true->vL 3=.slice A20 (((x.act 0).2).a0B.length) cap21)/\(dN 4=true->vL 4=.int .i64 (ix (((x.act 0).2).a0J) i))/\(dN 5=true->vL 5=.pointer (some ⟨d,0,none⟩))/\(dN 6=true->vL 6=.pointer (some ⟨d,0,none⟩))/\(dN 7=true->vL 7=.pointer (some ⟨d,1,none⟩))/\(dN 8=true->vL 8=.map (some bm22))/\(dN 9=true->vL 9=.int .i64 (ix (((x.act 0).2).a0J) i))/\(dN 10=true->vL 10=av ((s9 fr (ix (((x.act 0).2).a0J) i)).getD (List.replicate 256 (0:UInt8))))/\(dN 11=true->vL 11=.pointer (some (eA A20 ((Int.toNat (ix (((x.act 0).2).a0J) i)) * 256))))/\True) [20,21,22,23,24,25,26,27,28,29,30,31] rfl (by decide +kernel) _ rfl ?_ ?_ ?_
    . exact fun V=>⟨hs28,(fun h=>by cases h),(fun h=>by cases h),(fun h=>by cases h),(fun h=>by cases h),(fun h=>by cases h),(fun h=>by cases h),(fun h=>by cases h),(fun h=>by cases h),(fun h=>by cases h),(fun h=>by cases h),(fun h=>by cases h),(fun h=>by cases h),trivial⟩
    . refine (.cons ?_ (.cons ?_ (.cons ?_ (.cons ?_ (.cons ?_ (.cons ?_ (.cons ?_ (.cons ?_ (.cons ?_ (.cons ?_ (.cons ?_ (.cons ?_ (.cons ?_ .nil)))))))))))))
      .
       rintro dN vL g48 w49 ⟨hs50,v56,v57,v58,v59,v60,v61,v62,v63,v64,v65,v66,v67,_⟩ hD51 hd52 hu53 hg54 hk55
       have e68:dN 12=false:=hu53 12 (by decide +kernel)
       have hs69:=hs50
       rw [e68] at hs69
       refine u7 (L:=[(0,.pointer (some ⟨d,0,none⟩))]) ⟨(hk55 0 (by decide +kernel)),trivial⟩ ?_
       refine k9 rfl ?_
       exact b8 ⟨rfl,_,rfl,hs50,(fun _=>rfl),v57,v58,v59,v60,v61,v62,v63,v64,v65,v66,v67,trivial⟩
      .
       rintro dN vL g71 w72 ⟨hs73,v79,v80,v81,v82,v83,v84,v85,v86,v87,v88,v89,v90,_⟩ hD74 hd75 hu76 hg77 hk78
       have e91:dN 0=true:=hd75 0 (by decide +kernel)
       have e92:dN 12=false:=hu76 12 (by decide +kernel)
       have hs93:=hs73
       rw [e92] at hs93
       refine u7 (L:=[(20,.pointer (some ⟨d,0,none⟩))]) ⟨((hg77 0 20 e91 rfl).trans (v79 e91)),trivial⟩ ?_
       refine r7 rfl rfl ?_
       exact b8 ⟨rfl,_,rfl,hs73,v79,(fun _=>rfl),v81,v82,v83,v84,v85,v86,v87,v88,v89,v90,trivial⟩
      .
       rintro dN vL g95 w96 ⟨hs97,v103,v104,v105,v106,v107,v108,v109,v110,v111,v112,v113,v114,_⟩ hD98 hd99 hu100 hg101 hk102
       have e115:dN 1=true:=hd99 1 (by decide +kernel)
       have e116:dN 12=false:=hu100 12 (by decide +kernel)
       have hs117:=hs97
       rw [e116] at hs117
       refine u7 (L:=[(21,.pointer (some ⟨d,0,none⟩))]) ⟨((hg101 1 21 e115 rfl).trans (v104 e115)),trivial⟩ ?_
       refine q6 Tryz.runUnderlying56 rfl Tryz.sizeOf53 rfl rfl ?_
       exact b8 ⟨rfl,_,rfl,hs97,v103,v104,(fun _=>rfl),v106,v107,v108,v109,v110,v111,v112,v113,v114,trivial⟩
      .
       rintro dN vL g119 w120 ⟨hs121,v127,v128,v129,v130,v131,v132,v133,v134,v135,v136,v137,v138,_⟩ hD122 hd123 hu124 hg125 hk126
       have e139:dN 2=true:=hd123 2 (by decide +kernel)
       have e140:dN 12=false:=hu124 12 (by decide +kernel)
       have hs141:=hs121
       rw [e140] at hs141
       refine u7 (L:=[(22,.pointer (some ⟨d,0,none⟩))]) ⟨((hg125 2 22 e139 rfl).trans (v129 e139)),trivial⟩ ?_
       refine C3 Tryz.isAgg53 rfl (Own.at (hs141.at 0 rfl) rfl) rfl ?_
       exact b8 ⟨rfl,_,rfl,hs121,v127,v128,v129,(fun _=>rfl),v131,v132,v133,v134,v135,v136,v137,v138,trivial⟩
      .
       rintro dN vL g143 w144 ⟨hs145,v151,v152,v153,v154,v155,v156,v157,v158,v159,v160,v161,v162,_⟩ hD146 hd147 hu148 hg149 hk150
       have e163:dN 12=false:=hu148 12 (by decide +kernel)
       have hs164:=hs145
       rw [e163] at hs164
       refine u7 (L:=[(5,.int .i64 (ix (((x.act 0).2).a0J) i))]) ⟨(hk150 5 (by decide +kernel)),trivial⟩ ?_
       refine k9 rfl ?_
       exact b8 ⟨rfl,_,rfl,hs145,v151,v152,v153,v154,(fun _=>rfl),v156,v157,v158,v159,v160,v161,v162,trivial⟩
      .
       rintro dN vL g166 w167 ⟨hs168,v174,v175,v176,v177,v178,v179,v180,v181,v182,v183,v184,v185,_⟩ hD169 hd170 hu171 hg172 hk173
       have e186:dN 12=false:=hu171 12 (by decide +kernel)
       have hs187:=hs168
       rw [e186] at hs187
       refine u7 (L:=[(0,.pointer (some ⟨d,0,none⟩))]) ⟨(hk173 0 (by decide +kernel)),trivial⟩ ?_
       refine k9 rfl ?_
       exact b8 ⟨rfl,_,rfl,hs168,v174,v175,v176,v177,v178,(fun _=>rfl),v180,v181,v182,v183,v184,v185,trivial⟩
      .
       rintro dN vL g189 w190 ⟨hs191,v197,v198,v199,v200,v201,v202,v203,v204,v205,v206,v207,v208,_⟩ hD192 hd193 hu194 hg195 hk196
       have e209:dN 5=true:=hd193 5 (by decide +kernel)
       have e210:dN 12=false:=hu194 12 (by decide +kernel)
       have hs211:=hs191
       rw [e210] at hs211
       refine u7 (L:=[(25,.pointer (some ⟨d,0,none⟩))]) ⟨((hg195 5 25 e209 rfl).trans (v202 e209)),trivial⟩ ?_
       refine r7 rfl rfl ?_
       exact b8 ⟨rfl,_,rfl,hs191,v197,v198,v199,v200,v201,v202,(fun _=>rfl),v204,v205,v206,v207,v208,trivial⟩
      .
       rintro dN vL g213 w214 ⟨hs215,v221,v222,v223,v224,v225,v226,v227,v228,v229,v230,v231,v232,_⟩ hD216 hd217 hu218 hg219 hk220
       have e233:dN 6=true:=hd217 6 (by decide +kernel)
       have e234:dN 12=false:=hu218 12 (by decide +kernel)
       have hs235:=hs215
       rw [e234] at hs235
       refine u7 (L:=[(26,.pointer (some ⟨d,0,none⟩))]) ⟨((hg219 6 26 e233 rfl).trans (v227 e233)),trivial⟩ ?_
       refine q6 Tryz.runUnderlying56 rfl Tryz.sizeOf54 rfl rfl ?_
       exact b8 ⟨rfl,_,rfl,hs215,v221,v222,v223,v224,v225,v226,v227,(fun _=>rfl),v229,v230,v231,v232,trivial⟩
      .
       rintro dN vL g237 w238 ⟨hs239,v245,v246,v247,v248,v249,v250,v251,v252,v253,v254,v255,v256,_⟩ hD240 hd241 hu242 hg243 hk244
       have e257:dN 7=true:=hd241 7 (by decide +kernel)
       have e258:dN 12=false:=hu242 12 (by decide +kernel)
       have hs259:=hs239
       rw [e258] at hs259
       refine u7 (L:=[(27,.pointer (some ⟨d,1,none⟩))]) ⟨((hg243 7 27 e257 rfl).trans (v252 e257)),trivial⟩ ?_
       refine C3 Tryz.isAgg54 rfl (Own.at (hs259.at 0 rfl) rfl) rfl ?_
       exact b8 ⟨rfl,_,rfl,hs239,v245,v246,v247,v248,v249,v250,v251,v252,(fun _=>rfl),v254,v255,v256,trivial⟩
      .
       rintro dN vL g261 w262 ⟨hs263,v269,v270,v271,v272,v273,v274,v275,v276,v277,v278,v279,v280,_⟩ hD264 hd265 hu266 hg267 hk268
       have e281:dN 12=false:=hu266 12 (by decide +kernel)
       have hs282:=hs263
       rw [e281] at hs282
       refine u7 (L:=[(5,.int .i64 (ix (((x.act 0).2).a0J) i))]) ⟨(hk268 5 (by decide +kernel)),trivial⟩ ?_
       refine k9 rfl ?_
       exact b8 ⟨rfl,_,rfl,hs263,v269,v270,v271,v272,v273,v274,v275,v276,v277,(fun _=>rfl),v279,v280,trivial⟩
      .
       rintro dN vL g284 w285 ⟨hs286,v292,v293,v294,v295,v296,v297,v298,v299,v300,v301,v302,v303,_⟩ hD287 hd288 hu289 hg290 hk291
       have e304:dN 8=true:=hd288 8 (by decide +kernel)
       have e305:dN 9=true:=hd288 9 (by decide +kernel)
       have e306:dN 12=false:=hu289 12 (by decide +kernel)
       have hs307:=hs286
       rw [e306] at hs307
       refine u7 (L:=[(28,.map (some bm22)),(29,.int .i64 (ix (((x.act 0).2).a0J) i))]) ⟨((hg290 8 28 e304 rfl).trans (v300 e304)),((hg290 9 29 e305 rfl).trans (v301 e305)),trivial⟩ ?_
       refine c6z (z0:=(List.replicate 256 (0:UInt8))) (hs307.at 1 rfl) Tryz.runUnderlying54 Tryz.runUnderlying3 Tryz.zeroValue107 a3u rfl rfl rfl ?_
       exact b8 ⟨rfl,_,rfl,hs286,v292,v293,v294,v295,v296,v297,v298,v299,v300,v301,(fun _=>rfl),v303,trivial⟩
      .
       rintro dN vL g309 w310 ⟨hs311,v317,v318,v319,v320,v321,v322,v323,v324,v325,v326,v327,v328,_⟩ hD312 hd313 hu314 hg315 hk316
       have e329:dN 3=true:=hd313 3 (by decide +kernel)
       have e330:dN 4=true:=hd313 4 (by decide +kernel)
       have e331:dN 12=false:=hu314 12 (by decide +kernel)
       have hs332:=hs311
       rw [e331] at hs332
       refine u7 (L:=[(23,.slice A20 (((x.act 0).2).a0B.length) cap21),(24,.int .i64 (ix (((x.act 0).2).a0J) i))]) ⟨((hg315 3 23 e329 rfl).trans (v320 e329)),((hg315 4 24 e330 rfl).trans (v321 e330)),trivial⟩ ?_
       refine U1 (hs332.at 2 rfl) Tryz.runUnderlying53 Tryz.sizeOf107 rfl rfl (show (0:Int)<=(ix (((x.act 0).2).a0J) i) from hdi.1) (show (ix (((x.act 0).2).a0J) i)<((((x.act 0).2).a0B.length:Nat):Int) from hdi.2) rfl ?_
       exact b8 ⟨rfl,_,rfl,hs311,v317,v318,v319,v320,v321,v322,v323,v324,v325,v326,v327,(fun _=>rfl),trivial⟩
      .
       rintro dN vL g334 w335 ⟨hs336,v342,v343,v344,v345,v346,v347,v348,v349,v350,v351,v352,v353,_⟩ hD337 hd338 hu339 hg340 hk341
       have e354:dN 10=true:=hd338 10 (by decide +kernel)
       have e355:dN 11=true:=hd338 11 (by decide +kernel)
       have e356:dN 12=false:=hD337
       rw [e356] at hs336
       have hs357:=hs336
       refine u7 (L:=[(30,av ((s9 fr (ix (((x.act 0).2).a0J) i)).getD (List.replicate 256 (0:UInt8)))),(31,.pointer (some (eA A20 ((Int.toNat (ix (((x.act 0).2).a0J) i)) * 256))))]) ⟨((hg340 10 30 e354 rfl).trans (v352 e354)),((hg340 11 31 e355 rfl).trans (v353 e355)),trivial⟩ ?_
       refine a56 (o:=0) (sz:=256) hs357 2 rfl Tryz.sizeOf107 rfl rfl (b5Q _).symm (a4i _) (by rw [b6F]; exact (a7n q33 (ix (x.act 0).2.a0J i))) (show (0:Int)<=(ix (((x.act 0).2).a0J) i) from hdi.1) (show (ix (((x.act 0).2).a0J) i)<((((x.act 0).2).a0B.length:Nat):Int) from hdi.2) (fun c0 _ hc=>a69 (a7n q33 (ix (x.act 0).2.a0J i)) c0 hc) (a2c _) ?_
       intro w358 hs359
       have hs360:Sep F w0 (fun _=>False) w358 [K9 d 56 [.slice A20 (((x.act 0).2).a0B.length) cap21,.map (some bm22),.int .i64 (((x.act 0).2).left),.bool (((x.act 0).2).off)] F,L7 E5 bm22 (u9 (fun s=>av s) fr) F,iAc (C6 256) (.slice A20 (((x.act 0).2).a0B.length) cap21) (List.set la (Int.toNat (ix (((x.act 0).2).a0J) i)) ((s9 fr (ix (((x.act 0).2).a0J) i)).getD (List.replicate 256 (0:UInt8)))) bs23 F,iAc G2 (.slice A11 (((x.act 0).2).a0J.length) cap12) (((x.act 0).2).a0J) bs13 []]:=by exact hs359
       exact b8 ⟨rfl,undef,rfl,hs360,v342,v343,v344,v345,v346,v347,v348,v349,v350,v351,v352,v353,trivial⟩
    .
     rintro dN vL g361 w362 ha364 ⟨hs363,v367,v368,v369,v370,v371,v372,v373,v374,v375,v376,v377,v378,_⟩ hg365 hk366
     rw [ha364 12 rfl] at hs363
     have hs379:=hs363
     refine ⟨[(0,.pointer (some ⟨d,0,none⟩)),(5,.int .i64 (ix (((x.act 0).2).a0J) i)),(14,.slice A11 (((x.act 0).2).a0J.length) cap12),(15,.int .i64 (((x.act 0).2).a0J.length:Int)),(16,.int .i64 i)],⟨(hk366 0 rfl),(hk366 5 rfl),(hk366 14 rfl),(hk366 15 rfl),(hk366 16 rfl),trivial⟩,fun g380=>?_⟩
     refine b9 ?_
     refine k9 rfl ?_
     refine r7 rfl rfl ?_
     refine q6 Tryz.runUnderlying56 rfl Tryz.sizeOf54 rfl rfl ?_
     refine C3 Tryz.isAgg54 rfl (Own.at (hs379.at 0 rfl) rfl) rfl ?_
     refine k9 rfl ?_
     refine c7x hs379 1 rfl Tryz.runUnderlying54 Tryz.runUnderlying3 rfl rfl ?_
     intro w381 hs382
     refine b8 ?_
     refine b9 ?_
     refine c0b rfl rfl (by omega) rfl ?_
     skip
     refine k9 rfl ?_
     refine b8 ?_
     exact ⟨_,(by omega),i+1,List.set la (Int.toNat (ix (((x.act 0).2).a0J) i)) ((s9 fr (ix (((x.act 0).2).a0J) i)).getD (List.replicate 256 (0:UInt8))),a6g fr (ix (((x.act 0).2).a0J) i),rfl,(by omega),(by omega),(b8d q32 q30 (by omega)),(c4h q33),hs382,⟨rfl,rfl,rfl,rfl,trivial⟩⟩
   .
    have p383:=b4K h35
    refine a11 ?_
    refine k8 ?_
    refine b9 ?_
    refine j6 rfl ?_
    refine b8 ?_
    refine F4 ?_
    show (Value.nilIface)=I5 52 x.flush.1/\∃ F',B9 d w25 x.flush.2 F'/\S5 w0 w25 F F'
    have hc:=(B9.close hs28 (Ac.bs1 (hs28.at 2 rfl)))
    rw [a8m hz (la:=la) (fr:=fr) (by rw [q32,b4Q (by omega)])]
    exact ⟨r8,_,hc⟩
end Go.Proofs.YtckpdliipjekgaaGreat
end
section
namespace Go.Proofs.YtckpdliipjekgaaGreat
open Go Go.Wk Go.Wl Classical
structure Rk where
 a0C:List Str
 At:List Int
 a0D:List Str
 Left:Int
 Off:Bool
 deriving Inhabited
def G5:List (Int×Str)->Int->Option Str
 | [],_=>none
 | p::r,a=>match G5 r a with | some s=>some s | none=>if p.1=a then some p.2 else none
structure Rk.Ok (x:Rk):Prop where
 same:x.At.length=x.a0D.length
 max:x.a0C.length<=8192
 inn:∀ a∈x.At,0<=a/\a<x.a0C.length
 a7N:∀ s∈x.a0C,s.length=256
 a4B:∀ s∈x.a0D,s.length=256
 left:InI x.Left
 cnt:x.At.length<=1000000
def Rk.now (x:Rk) (a:Int):Option Str:=G5 (x.At.zip x.a0D) a
theorem a9x (l:List (Int×Str)) (p:Int×Str) (a:Int):G5 (l++[p]) a=if p.1=a then some p.2 else G5 l a:=by
 induction l with
 | nil=>simp [G5]
 | cons q r ih =>
  simp only [b8C,G5,ih]
  by_cases h:p.1=a
  . simp [h]
  . simp [h]
theorem a6c {l:List (Int×Str)} {a:Int} (h:∀ p∈l,p.1≠a):G5 l a=none:=by
 induction l with
 | nil=>rfl
 | cons p r ih=>simp only [G5,ih (fun q hq=>h q (by simp [hq])),if_neg (h p (by simp))]
theorem b1l:∀ {aa:List Int} {fs:List Str} {i:Nat} {a:Int},aa.length=fs.length->(hi:i<aa.length)->aa[i]=a->(∀ j,i<j->(hj:j<aa.length)->aa[j]≠a)->G5 (aa.zip fs) a=fs[i]?
 | a0::aa,f0::fs,0,a,hl,_,ha,hn=>by
  have:G5 (aa.zip fs) a=none:=a6c (fun p hp=>by
   obtain ⟨j,hj,rfl⟩:=b4I hp
   have hj':j<aa.length:=by simp at hj; omega
   have:=hn (j+1) (by omega) (by simp; omega)
   simpa using this)
  simp only [b8O,G5,this]
  simp only [List.getElem_cons_zero] at ha
  simp [ha]
 | a0::aa,f0::fs,i+1,a,hl,hi,ha,hn=>by
  have:=b1l (aa:=aa) (fs:=fs) (i:=i) (a:=a) (by simpa using hl) (by simpa using hi) (by simpa using ha) (fun j h1 h2=>by
   have:=hn (j+1) (by omega) (by simp; omega)
   simpa using this)
  have hf:fs[i]?=some (fs[i]'(by simp at hl hi; omega)):=b3T _
  simp only [b8O,G5,this,hf,b4B]
 | [],_,_,_,_,hi,_,_=>by simp at hi
 | _::_,[],_,_,hl,_,_,_=>by simp at hl
theorem c2u {x:Rk} (ok:x.Ok) {i a:Int} (h0:0<=i) (h1:i<x.At.length) (ha:ix x.At i=a) (hn:∀ j:Int,i<j->j<x.At.length->ix x.At j≠a):x.now a=some (ix x.a0D i):=by
 have hi:i.toNat<x.At.length:=by omega
 have hf:i.toNat<x.a0D.length:=by have:=ok.same; omega
 have:=b1l (i:=i.toNat) (a:=a) ok.same hi (by rw [<- C5 hi]; exact ha) (fun j hj hj'=>by
  have:=hn j (by omega) (by omega)
  rwa [C5 (by simpa using hj')] at this)
 rw [Rk.now,this,C5 hf,b3T hf]
theorem c76 {x:Rk} {a:Int} (hn:∀ j:Int,-1<j->j<x.At.length->ix x.At j≠a):x.now a=none:=by
 refine a6c fun p hp=>?_
 have hm:=(b8K (a:=p.1) (b:=p.2) hp).1
 obtain ⟨j,hj,e⟩:=b4I hm
 have:=hn j (by omega) (by omega)
 rw [C5 (by simpa using hj)] at this
 rw [<- e]; simpa using this
def Rk.act (x:Rk):Bool×Rk :=
 if x.Left=0 then (false,{ x with Off:=true }) else if x.Off=true then (false,x) else if 0<x.Left then (true,{ x with Left:=x.Left-1 }) else (true,x)
def Rk.write (x:Rk) (a:Int) (b:Str):Int×Rk :=
 if b.length≠256 then (2,x) else if a<0 ∨ (x.a0C.length:Int)<=a then (3,x) else if x.act.1=false then (9,x.act.2) else (0,{ x.act.2 with At:=x.act.2.At++[a],a0D:=x.act.2.a0D++[b] })
def Rk.read (x:Rk) (a:Int):Str×Int :=
 if a<0 ∨ (x.a0C.length:Int)<=a then ([],3) else if x.Off=true then ([],9) else ((x.now a).getD (ix x.a0C a),0)
def a0h (l:List Str) (p:Int×Str):List Str:=l.set p.1.toNat p.2
def Rk.flush (x:Rk):Int×Rk :=
 if x.act.1=false then (9,x.act.2) else (0,{ x.act.2 with a0C:=(x.act.2.At.zip x.act.2.a0D).foldl a0h x.act.2.a0C,At:=[],a0D:=[] })
def Rk.limit (x:Rk) (n:Int):Rk:={ x with Left:=if n<0 then -1 else n }
def M8 (c:Int):Int:=if 256<(if c<0 then 0 else c) then 256 else (if c<0 then 0 else c)
def Rk.a0W (x:Rk) (t cut:Int):List Str :=
 match x.now t with
 | some s=>x.a0C.set t.toNat (s.take (M8 cut).toNat++(ix x.a0C t).drop (M8 cut).toNat)
 | none=>x.a0C
def X4 (x:Rk) (l:List Str) (k:Int):List Str :=
 match x.now k with
 | some s=>l.set k.toNat s
 | none=>l
def Rk.a0P (x:Rk) (t cut:Int) (kept:List Int):Rk:=⟨kept.foldl (X4 x) (x.a0W t cut),[],[],-1,false⟩
def Rk.new (n:Int):Rk:=⟨List.replicate n.toNat (List.replicate 256 0),[],[],-1,false⟩
theorem b28 {x:Rk} (ok:x.Ok):x.act.2.Ok:=by
 have ⟨a,b,c,d,e,f,g⟩:=ok
 simp only [Rk.act]
 split; exact ⟨a,b,c,d,e,f,g⟩
 split; exact ok
 split
 . exact ⟨a,b,c,d,e,⟨by have:=f.1; simp only; omega,by have:=f.2; simp only; omega⟩,g⟩
 . exact ok
theorem a06 {x:Rk}:x.act.2.At=x.At/\x.act.2.a0D=x.a0D/\x.act.2.a0C=x.a0C:=by
 simp only [Rk.act]
 split; exact ⟨rfl,rfl,rfl⟩
 split; exact ⟨rfl,rfl,rfl⟩
 split <;> exact ⟨rfl,rfl,rfl⟩
theorem d3h {x:Rk} (ok:x.Ok) {k:Int} {s:Str} (h:x.now k=some s):s.length=256/\0<=k/\k<x.a0C.length:=by
 have:∀ l:List (Int×Str),G5 l k=some s->(k,s)∈l:=by
  intro l
  induction l with
  | nil=>intro h; cases h
  | cons p r ih =>
   intro h
   simp only [G5] at h
   cases hr:G5 r k with
   | some s'=>rw [hr] at h; simp only [b3N] at h; subst h; exact b5O _ (ih hr)
   | none =>
    rw [hr] at h
    simp only at h
    split at h
    . simp only [b3N] at h; subst h; rename_i e; subst e; simp
    . cases h
 have hm:=this _ h
 exact ⟨ok.a4B _ (b8K hm).2,ok.inn _ (b8K hm).1⟩
theorem b5c {x:Rk} {a:Int} {b:Str} (h1:b.length=256) (h2:0<=a) (h3:a<x.a0C.length) (h:x.act.1=true):x.write a b=(0,⟨x.act.2.a0C,x.act.2.At++[a],x.act.2.a0D++[b],x.act.2.Left,x.act.2.Off⟩):=by
 rw [Rk.write,if_neg (by simp [h1]),if_neg (by omega),if_neg (by simp [h])]
theorem b37 {x:Rk} {a:Int} {b:Str} (h1:b.length=256) (h2:0<=a) (h3:a<x.a0C.length) (h:x.act.1=false):x.write a b=(9,x.act.2):=by
 rw [Rk.write,if_neg (by simp [h1]),if_neg (by omega),if_pos h]
theorem b4c {l:List Str} {i:Nat} {s:Str} (h:∀ t∈l,t.length=256) (hs:s.length=256):∀ t∈l.set i s,t.length=256:=fun t ht=>by
 rcases List.mem_or_eq_of_mem_set ht with h' | h'
 . exact h t h'
 . rw [h']; exact hs
theorem e57 (c:Int):0<=M8 c/\M8 c<=256:=by unfold M8; (repeat' split) <;> omega
structure Rel (x:Dk) (y:Rk):Prop where
 a0B:x.a0B=y.a0C
 left:x.left=y.Left
 off:x.off=y.Off
 now:∀ k,s9 x.fresh k=y.now k
theorem c6b {α:Type} [Inhabited α] {l:List α} {k i:Int} {v:α} (hk:0<=k) (hi:0<=i) (hl:i<l.length):ix (l.set k.toNat v) i=if k=i then v else ix l i:=by
 rw [C5 (by rw [b6G]; omega),C5 (by omega)]
 by_cases e:k=i
 . subst e; rw [if_pos rfl]; exact List.getElem_set_self _
 . rw [if_neg e,List.getElem_set_ne (by omega)]
theorem d8e {α:Type} [Inhabited α] {a b:List α} (hl:a.length=b.length) (h:∀ i:Int,0<=i->i<a.length->ix a i=ix b i):a=b:=by
 apply c0G hl
 intro j h1 h2
 have:=h j (by omega) (by omega)
 rwa [C5 (by simp only [b8X]; exact h1),C5 (by simp only [b8X]; exact h2)] at this
theorem d0h {L:List (Int×Str)} (h:∀ k,s9 L k=none):L=[]:=by
 cases L with
 | nil=>rfl
 | cons p r=>have:=h p.1; simp [s9] at this
theorem a9i:∀ {L:List Int} {la:List Str} {fr:List (Int×Str)},L.Nodup->(∀ k∈L,0<=k) ->
  (L.foldl E6 (la,fr)).1.length=la.length/\(∀ i:Int,0<=i->i<la.length->ix (L.foldl E6 (la,fr)).1 i=if i∈L then (s9 fr i).getD (List.replicate 256 0) else ix la i)/\∀ k,s9 (L.foldl E6 (la,fr)).2 k=if k∈L then none else s9 fr k
 | [],la,fr,_,_=>⟨rfl,fun i _ _=>by rw [if_neg (by simp)]; rfl,fun k=>by rw [if_neg (by simp)]; rfl⟩
 | a::L,la,fr,hn,h0=>by
  simp only [b5U] at hn
  have ih:=a9i (L:=L) (la:=la.set a.toNat ((s9 fr a).getD (List.replicate 256 0))) (fr:=a6g fr a) hn.2 (fun k hk=>h0 k (by simp [hk]))
  rw [b6G] at ih
  have e:(a::L).foldl E6 (la,fr)=L.foldl E6 (la.set a.toNat ((s9 fr a).getD (List.replicate 256 0)),a6g fr a):=rfl
  rw [e]
  refine ⟨ih.1,fun i hi hl=>?_,fun k=>?_⟩
  . rw [ih.2.1 i hi hl,c6b (h0 a (by simp)) hi hl]
    by_cases hL:i∈L
    . rw [if_pos hL,if_pos (by simp [hL]),a9q,if_neg (fun e=>hn.1 (by rw [<- e]; exact hL))]
    . rw [if_neg hL]
      by_cases ea:a=i
      . rw [if_pos ea,if_pos (by simp [ea]),ea]
      . rw [if_neg ea,if_neg (by simp [hL]; exact fun e=>ea e.symm)]
  . rw [ih.2.2 k,a9q]
    by_cases hL:k∈L
    . rw [if_pos hL,if_pos (by simp [hL])]
    . rw [if_neg hL]
      by_cases ea:k=a
      . rw [if_pos ea,if_pos (by simp [ea])]
      . rw [if_neg ea,if_neg (by simp [hL,ea])]
theorem b6g {x:Dk} (ok:x.Ok):x.a0J.Nodup:=b0i ok.keys
theorem a92 {x:Dk} (ok:x.Ok) (h:(x.act 0).1=0):x.flush.1=0/\x.flush.2.a0B.length=x.a0B.length/\(∀ i:Int,0<=i->i<x.a0B.length->ix x.flush.2.a0B i=(s9 x.fresh i).getD (ix x.a0B i))/\x.flush.2.fresh=[]/\x.flush.2.left=(x.act 0).2.left/\x.flush.2.off=(x.act 0).2.off:=by
 have ok1:=a0n ok 0
 have e:=b1d (x:=x) 0
 have hd:(x.act 0).2.a0J=x.a0J:=by simp only [Dk.a0J,e.2]
 have hf:=a9i (L:=x.a0J) (la:=x.a0B) (fr:=x.fresh) (b6g ok) (fun k hk=>(X3 ok (Z5.1 hk)).1)
 have hx:x.flush=(0,⟨(x.a0J.foldl E6 (x.a0B,x.fresh)).1,(x.a0J.foldl E6 (x.a0B,x.fresh)).2,(x.act 0).2.left,(x.act 0).2.off⟩):=a8m h (by rw [hd,e.1,e.2])
 rw [hx]
 refine ⟨rfl,hf.1,fun i hi hl=>?_,d0h fun k=>?_,rfl,rfl⟩
 . show ix (x.a0J.foldl E6 (x.a0B,x.fresh)).1 i=_
   rw [hf.2.1 i hi hl]
   by_cases hm:i∈x.a0J
   . rw [if_pos hm]
     obtain ⟨s,hs⟩:=b5T.1 (Z5.1 hm)
     rw [hs]; rfl
   . rw [if_neg hm]
     have:s9 x.fresh i=none:=by
      cases hs:s9 x.fresh i with
      | none=>rfl
      | some s=>exact absurd (Z5.2 (by rw [hs]; rfl)) hm
     rw [this]; rfl
 . show s9 (x.a0J.foldl E6 (x.a0B,x.fresh)).2 k=none
   rw [hf.2.2 k]
   by_cases hm:k∈x.a0J
   . rw [if_pos hm]
   . rw [if_neg hm]
     cases hs:s9 x.fresh k with
     | none=>rfl
     | some s=>exact absurd (Z5.2 (by rw [hs]; rfl)) hm
theorem a4g {x:Dk} (ok:x.Ok):x.flush.2.Ok:=by
 by_cases h:(x.act 0).1=0
 . have ⟨_,h1,h2,h3,h4,h5⟩:=a92 ok h
   refine ⟨by rw [h1]; exact ok.pos,by rw [h1]; exact ok.max,fun s hs=>?_,fun p hp=>(by rw [h3] at hp; cases hp),by rw [h4]; exact (a0n ok 0).left,by rw [h3]; exact b8R⟩
   obtain ⟨j,hj,e⟩:=b4I hs
   have hx:=h2 j (by omega) (by omega)
   rw [C5 (by simp only [b8X]; exact hj)] at hx
   have hx:x.flush.2.a0B[j]=(s9 x.fresh j).getD (ix x.a0B j):=hx
   rw [<- e,hx]
   cases hs:s9 x.fresh j with
   | none=>exact a7p ok (by omega) (by omega)
   | some s=>exact (M2 ok hs).1
 . rw [a2w h]; exact a0n ok 0
theorem d6g:∀ {L:List (Int×Str)} {l:List Str} {i:Int},(∀ p∈L,0<=p.1)->0<=i->i<l.length->(L.foldl a0h l).length=l.length/\ix (L.foldl a0h l) i=(G5 L i).getD (ix l i)
 | [],l,i,_,_,_=>⟨rfl,rfl⟩
 | p::L,l,i,h,h0,h1=>by
  have ih:=d6g (L:=L) (l:=l.set p.1.toNat p.2) (i:=i) (fun q hq=>h q (by simp [hq])) h0 (by rw [b6G]; exact h1)
  rw [b6G] at ih
  refine ⟨ih.1,?_⟩
  show ix (L.foldl a0h (l.set p.1.toNat p.2)) i=_
  rw [ih.2,c6b (h p (by simp)) h0 h1]
  simp only [G5]
  cases G5 L i with
  | some s=>rfl
  | none=>by_cases e:p.1=i <;> simp [e]
theorem d9z {x:Rk} (ok:x.Ok):∀ p∈x.At.zip x.a0D,0<=p.1:=fun p hp=>(ok.inn _ (b8K (a:=p.1) (b:=p.2) hp).1).1
theorem b1h {y:Rk} (ok:y.Ok) (h:y.act.1=true):y.flush.1=0/\y.flush.2.a0C.length=y.a0C.length/\(∀ i:Int,0<=i->i<y.a0C.length->ix y.flush.2.a0C i=(y.now i).getD (ix y.a0C i))/\y.flush.2.At=[]/\y.flush.2.a0D=[]/\y.flush.2.Left=y.act.2.Left/\y.flush.2.Off=y.act.2.Off:=by
 have ⟨e1,e2,e3⟩:=a06 (x:=y)
 have hx:y.flush=(0,{ y.act.2 with a0C:=(y.At.zip y.a0D).foldl a0h y.a0C,At:=[],a0D:=[] }):=by rw [Rk.flush,if_neg (by simp [h]),e1,e2,e3]
 rw [hx]
 have hlen:∀ (L:List (Int×Str)) (l:List Str),(L.foldl a0h l).length=l.length:=by
  intro L
  induction L with
  | nil=>intro l; rfl
  | cons p r ih=>intro l; show (r.foldl a0h _).length=_; rw [ih]; exact b6G
 refine ⟨rfl,hlen _ _,fun i h0 h1=>(d6g (d9z ok) h0 h1).2,rfl,rfl,rfl,rfl⟩
theorem c2g {y:Rk} (ok:y.Ok):y.flush.2.Ok:=by
 by_cases h:y.act.1=true
 . have ⟨_,h1,h2,h3,h4,h5,_⟩:=b1h ok h
   refine ⟨by rw [h3,h4]; rfl,by rw [h1]; exact ok.max,fun a ha=>(by rw [h3] at ha; cases ha),fun s hs=>?_,fun s hs=>(by rw [h4] at hs; cases hs),by rw [h5]; exact (b28 ok).left,by rw [h3]; exact b6N _⟩
   obtain ⟨j,hj,e⟩:=b4I hs
   have hx:=h2 j (by omega) (by omega)
   rw [C5 (by simp only [b8X]; exact hj)] at hx
   have hx:y.flush.2.a0C[j]=(y.now j).getD (ix y.a0C j):=hx
   rw [<- e,hx]
   cases hs:y.now j with
   | none=>exact ok.a7N _ (b9i (by omega) (by omega))
   | some s=>exact (d3h ok hs).1
 . have h:y.act.1=false:=by simpa using h
   rw [Rk.flush,if_pos h]; exact b28 ok
section
variable {x:Dk} {y:Rk}
theorem c1s (r:Rel x y):(x.act 0).1=(if y.act.1=true then 0 else 9)/\Rel (x.act 0).2 y.act.2:=by
 obtain ⟨la,fr,le,of⟩:=x
 obtain ⟨La,At,Fr,Le,Of⟩:=y
 obtain ⟨a,b,c,d⟩:=r
 have a:la=La:=a
 have b:le=Le:=b
 have c:of=Of:=c
 subst a; subst b; subst c
 simp only [Dk.act,Rk.act]
 rw [if_neg (by decide),if_neg (by decide),if_neg (by decide)]
 split
 . exact ⟨rfl,rfl,rfl,rfl,d⟩
 split
 . exact ⟨rfl,rfl,rfl,rfl,d⟩
 split
 . exact ⟨rfl,rfl,rfl,rfl,d⟩
 . exact ⟨rfl,rfl,rfl,rfl,d⟩
theorem c2b (ok:x.Ok) (ok':y.Ok) (r:Rel x y):x.flush.1=y.flush.1/\Rel x.flush.2 y.flush.2:=by
 have ⟨h1,h2⟩:=c1s r
 by_cases h:y.act.1=true
 . rw [if_pos h] at h1
   have ⟨a1,a2,a3,a4,a5,a6⟩:=a92 ok h1
   have ⟨b1,b2,b3,b4,b5,b6,b7⟩:=b1h ok' h
   refine ⟨by rw [a1,b1],⟨?_,by rw [a5,b6]; exact h2.left,by rw [a6,b7]; exact h2.off,fun k=>by rw [a4,Rk.now,b4]; rfl⟩⟩
   have hl:=congrArg List.length r.a0B
   refine d8e (by rw [a2,b2,hl]) fun i h0 h1=>?_
   rw [a2] at h1
   rw [a3 i h0 h1,b3 i h0 (by omega),r.now,r.a0B]
 . have hf:y.act.1=false:=by simpa using h
   rw [if_neg h] at h1
   rw [a2w (by rw [h1]; decide),Rk.flush,if_pos hf]
   exact ⟨h1,h2⟩
theorem b1k (ok:x.Ok) (ok':y.Ok) (r:Rel x y) (a:Int) (b:Str):(x.write a b).1=(y.write a b).1/\Rel (x.write a b).2 (y.write a b).2:=by
 have ⟨h1,h2⟩:=c1s r
 have hl:=congrArg List.length r.a0B
 by_cases hb:b.length=256
 . by_cases ha:a<0 ∨ (y.a0C.length:Int)<=a
   . have hw:x.a0I a=3:=by simp only [Dk.a0I]; rw [if_pos (by omega)]
     have e:(x.act 3).1=3/\(x.act 3).2=x:=⟨rfl,rfl⟩
     rw [M4 (wr:=3) (by rw [if_neg (by omega),hw]) (by rw [e.1]; decide),Rk.write,if_neg (by omega),if_pos ha]
     exact ⟨rfl,r⟩
   . have hw:x.a0I a=0:=by simp only [Dk.a0I]; rw [if_neg (by omega)]
     by_cases h:y.act.1=true
     . rw [if_pos h] at h1
       rw [L9 (wr:=0) (by rw [if_neg (by omega),hw]) h1,b5c hb (by omega) (by omega) h]
       refine ⟨rfl,h2.a0B,h2.left,h2.off,fun k=>?_⟩
       have ⟨e1,e2,_⟩:=a06 (x:=y)
       show s9 (O4 (x.act 0).2.fresh a b) k=G5 ((y.act.2.At++[a]).zip (y.act.2.a0D++[b])) k
       rw [List.zip_append (by rw [e1,e2]; exact ok'.same),b44]
       show _=G5 (_++[(a,b)]) k
       rw [a9x,h2.now k]
       by_cases e:k=a
       . rw [if_pos e,if_pos e.symm]
       . rw [if_neg e,if_neg (fun h=>e h.symm)]; rfl
     . have hf:y.act.1=false:=by simpa using h
       rw [if_neg h] at h1
       rw [M4 (wr:=0) (by rw [if_neg (by omega),hw]) (by rw [h1]; decide),b37 hb (by omega) (by omega) hf]
       exact ⟨h1,h2⟩
 . have e:(x.act 2).1=2/\(x.act 2).2=x:=⟨rfl,rfl⟩
   rw [M4 (wr:=2) (by rw [if_pos hb]) (by rw [e.1]; decide),Rk.write,if_pos hb]
   exact ⟨rfl,r⟩
theorem a2m (ok:y.Ok) (hc:y.At.length<1000000) (a:Int) (b:Str):(y.write a b).2.Ok:=by
 have ⟨e1,e2,e3⟩:=a06 (x:=y)
 have ok1:=b28 ok
 simp only [Rk.write]
 split; exact ok
 split; exact ok
 split; exact ok1
 rename_i h1 h2 _
 refine ⟨by simp only [b3P,b4F,b5R]; rw [ok1.same],ok1.max,fun k hk=>?_,ok1.a7N,fun s hs=>?_,ok1.left,by simp only [b3P,b4F,b5R,e1]; omega⟩
 . rcases b5Y.1 hk with hk | hk
   . exact ok1.inn k hk
   . simp only [b4D,b6K,or_false] at hk; rw [hk]; show 0<=a/\a<(y.act.2.a0C.length:Int); rw [e3]; omega
 . rcases b5Y.1 hs with hs | hs
   . exact ok1.a4B s hs
   . simp only [b4D,b6K,or_false] at hs; rw [hs]; omega
theorem a0t (a:Int) (b:Str):(y.write a b).2.At.length<=y.At.length+1:=by
 have ⟨e1,e2,e3⟩:=a06 (x:=y)
 simp only [Rk.write]
 split; simp only; omega
 split; simp only; omega
 split; simp only [e1]; omega
 simp only [b3P,b4F,b5R,e1]; omega
theorem b97:y.flush.2.At.length<=y.At.length:=by
 have ⟨e1,e2,e3⟩:=a06 (x:=y)
 simp only [Rk.flush]
 split
 . rw [e1]; omega
 . exact b6N _
theorem b6c (r:Rel x y) (a:Int):x.read a=y.read a:=by
 have hl:=congrArg List.length r.a0B
 by_cases h:a<0 ∨ (y.a0C.length:Int)<=a
 . have hw:x.a0I a=3:=by simp only [Dk.a0I]; rw [if_pos (by omega)]
   rw [Dk.read,Rk.read,if_pos hw,if_pos h]
 . have hw:¬ x.a0I a=3:=by simp only [Dk.a0I]; rw [if_neg (by omega)]; decide
   rw [Dk.read,Rk.read,if_neg hw,if_neg h,r.off,r.now,r.a0B]
theorem b09 (r:Rel x y) (n:Int):Rel (x.limit n) (y.limit n):=by
 refine ⟨r.a0B,?_,r.off,r.now⟩
 show max n (-1)=if n<0 then -1 else n
 split <;> omega
theorem b0y (r:Rel x y) (t c:Int) (kept:List Int):Rel (x.a0P t c kept) (y.a0P t c kept):=by
 refine ⟨?_,rfl,rfl,fun k=>rfl⟩
 show kept.foldl (G7 x.fresh) (x.a0W t c)=kept.foldl (X4 y) (y.a0W t c)
 have e1:G7 x.fresh=X4 y:=by funext l k; simp only [G7,X4,r.now]; cases y.now k <;> rfl
 have e2:max 0 (min c 256)=M8 c:=by unfold M8; (repeat' split) <;> omega
 have e3:x.a0W t c=y.a0W t c:=by simp only [Dk.a0W,Rk.a0W,r.now,r.a0B,e2]; cases y.now t <;> rfl
 rw [e1,e3]
theorem b33 {n:Int}:Rel (Dk.new n) (Rk.new n):=⟨rfl,rfl,rfl,fun k=>rfl⟩
theorem b5j (ok:x.Ok) {n:Int} (hn:InI n):(x.limit n).Ok:=⟨ok.pos,ok.max,ok.len,ok.a4B,by show InI (max n (-1)); have:=hn.1; have:=hn.2; simp only [InI]; omega,ok.keys⟩
theorem b0z (ok:y.Ok) {n:Int} (hn:InI n):(y.limit n).Ok:=⟨ok.same,ok.max,ok.inn,ok.a7N,ok.a4B,by show InI (if n<0 then -1 else n); have:=hn.1; have:=hn.2; simp only [InI]; split <;> omega,ok.cnt⟩
theorem c5t (ok:x.Ok) (t c:Int):(x.a0W t c).length=x.a0B.length/\∀ s∈x.a0W t c,s.length=256:=by
 simp only [Dk.a0W]
 cases h:s9 x.fresh t with
 | none=>exact ⟨rfl,ok.len⟩
 | some s =>
  have ⟨h1,h2,h3⟩:=M2 ok h
  have h4:=a7p ok h2 h3
  refine ⟨b6G,b4c ok.len ?_⟩
  simp only [b3P,b3U,b3W]; omega
theorem c91 {fr:List (Int×Str)} (h:∀ j s,s9 fr j=some s->s.length=256):∀ (kept:List Int) (l:List Str),(∀ s∈l,s.length=256)->(kept.foldl (G7 fr) l).length=l.length/\∀ s∈kept.foldl (G7 fr) l,s.length=256:=by
 intro kept
 induction kept with
 | nil=>intro l hl; exact ⟨rfl,hl⟩
 | cons k r ih =>
  intro l hl
  simp only [b7T,G7]
  cases hk:s9 fr k with
  | none=>exact ih l hl
  | some s =>
   have:=ih (l.set k.toNat s) (b4c hl (h k s hk))
   rw [b6G] at this; exact this
theorem b53 (ok:x.Ok) (t c:Int) (kept:List Int):(x.a0P t c kept).Ok:=by
 have ⟨h1,h2⟩:=c5t ok t c
 have ⟨h3,h4⟩:=c91 (fr:=x.fresh) (fun j s hs=>(M2 ok hs).1) kept (x.a0W t c) h2
 have e:(x.a0P t c kept).a0B.length=x.a0B.length:=h3.trans h1
 exact ⟨by rw [e]; exact ok.pos,by rw [e]; exact ok.max,h4,fun p hp=>(by cases hp),⟨by show (-9223372036854775808:Int)<=-1; omega,by show (-1:Int)<=9223372036854775807; omega⟩,b8R⟩
theorem c2o (ok:x.Ok) (r:Rel x y) (t c:Int) (kept:List Int):(y.a0P t c kept).Ok:=by
 have h:=b53 ok t c kept
 have e:=(b0y r t c kept).a0B
 refine ⟨rfl,by rw [<- e]; exact h.max,fun a ha=>(by cases ha),by rw [<- e]; exact h.len,fun s hs=>(by cases hs),⟨by show (-9223372036854775808:Int)<=-1; omega,by show (-1:Int)<=9223372036854775807; omega⟩,b6N _⟩
theorem b9h:0<=(x.act 0).1/\(x.act 0).1<=16:=by
 simp only [Dk.act]; (repeat' split) <;> simp only <;> omega
end
theorem a61 {x:Dk} (a:Int) (b:Str):0<=(x.write a b).1/\(x.write a b).1<=16:=by
 have h:∀ wr,0<=(x.act wr).1/\(x.act wr).1<=16:=fun wr=>by simp only [Dk.act]; (repeat' split) <;> simp only <;> omega
 by_cases e:(x.act (if b.length≠256 then 2 else x.a0I a)).1=0
 . rw [L9 rfl e]; exact ⟨b5G _,by show (0:Int)<=16; omega⟩
 . rw [M4 rfl e]; exact h _
theorem a6e {x:Dk}:0<=x.flush.1/\x.flush.1<=16:=by
 have h:=b9h (x:=x)
 by_cases e:(x.act 0).1=0
 . simp only [Dk.flush]; rw [if_pos e]; exact ⟨b5G _,by show (0:Int)<=16; omega⟩
 . rw [a2w e]; exact h
theorem a3q {x:Dk} (a:Int):0<=(x.read a).2/\(x.read a).2<=16:=by
 simp only [Dk.read]; (repeat' split) <;> simp only <;> omega
section
variable {x:Dk}
theorem b3u (hl:x.left=-1) (ho:x.off=false):x.act 0=(0,x):=by simp [Dk.act,hl,ho]
theorem c5m {a:Int} {b:Str} (hl:x.left=-1) (ho:x.off=false) (h0:0<=a) (h1:a<x.a0B.length) (hb:b.length=256):x.write a b=(0,{ x with fresh:=O4 x.fresh a b }):=by
 have hw:x.a0I a=0:=by rw [Dk.a0I,if_neg (by omega)]
 have:=L9 (x:=x) (a:=a) (b:=b) (wr:=0) (by rw [if_neg (by omega),hw]) (by rw [b3u hl ho])
 rw [this,b3u hl ho]
theorem b5p (ok:x.Ok) (hl:x.left=-1) (ho:x.off=false):x.flush.1=0/\x.flush.2.a0B.length=x.a0B.length/\(∀ i:Int,0<=i->i<x.a0B.length->ix x.flush.2.a0B i=(s9 x.fresh i).getD (ix x.a0B i))/\x.flush.2.fresh=[]/\x.flush.2.left=-1/\x.flush.2.off=false:=by
 have h:=a92 ok (by rw [b3u hl ho])
 rw [b3u hl ho] at h
 exact ⟨h.1,h.2.1,h.2.2.1,h.2.2.2.1,h.2.2.2.2.1.trans hl,h.2.2.2.2.2.trans ho⟩
end
end Go.Proofs.YtckpdliipjekgaaGreat
end
section
namespace Go.Proofs.YtckpdliipjekgaaGreat
open Go Go.Wk Go.Wl Go.Rx Go.Wa 
def c80:FC U:=⟨[],[],fun a its=>match a,its with
 | [.ref 0 0],[(0,.ob 0 1 x)]=>some ⟨[Dk.Ok x],[],.int .i64 (Dk.a0B x).length,[(0,.ob 0 1 x)],2⟩
 | [.con (.pointer none)],[]=>some ⟨[],[],.int .i64 0,[],0⟩
 | _,_=>none⟩
theorem c7s (args:List (SV U)) (its:a7 U) (r:FR U) (h:c80.C args its=some r) (ho:n6 r.ob):r6 Tryz.prog U eT Gl 55 args its (2 * its.length) (fun k=>n6 r.hy->k r.v r.its r.n):=by
 unfold c80 at h
 simp only at h
 split at h
 . rename_i x
   cases h
   refine P3 (new:=[]) fun ρ Z w vs hfr hz hg ha hp=>?_
   obtain ⟨⟨L,Lf,hL,hLf,hob⟩,_⟩:=hp _ (b4U.2 rfl)
   obtain ⟨v1,r1,rfl,h1,ha⟩:=Rep.a0H ha
   obtain rfl:=E4 ha
   cases h1 with | ref hL' =>
   have hL:ρ 0=some L:=hL
   rw [hL] at hL'; cases hL'
   exact (a6o (show B9 L.b w x Lf.bs from hob) ho.1).mono fun v w' ⟨e1,e2⟩=>by
    subst e1; subst e2
    exact ⟨ρ,Z,fun _ _ h=>h,hfr,fun _ h=>h,fun _ h=>.inl h,Sep.nil hz,.int fun _=>by have:=ho.1.max; exact ⟨by omega,by omega⟩⟩
 . cases h
   refine P3 (new:=[]) fun ρ Z w vs hfr hz hg ha hp=>?_
   obtain ⟨v1,r1,rfl,h1,ha⟩:=Rep.a0H ha
   obtain rfl:=E4 ha
   cases h1 with | con _ =>
   exact c5a.mono fun v w' ⟨e1,e2⟩=>by
    subst e1; subst e2
    exact ⟨ρ,Z,fun _ _ h=>h,hfr,fun _ h=>h,fun _ h=>.inl h,Sep.nil hz,.int fun _=>⟨by omega,by omega⟩⟩
 . cases h
def b80:FC U:=⟨[2],[],fun a its=>match a,its with
 | [.ref 0 0,.int .i64 at_,.sl 5 s],[(0,.ob 0 1 x)]=>some ⟨[Dk.Ok x],[],.err (erN (Dk.write x at_ s).1),[(0,.ob 0 2 (Dk.write x at_ s).2)],3⟩
 | _,_=>none⟩
theorem d5n {ρ:r9} {Z:Nat->Prop} {w:World} {v:Value} {t:Nat} {s:List (U.U t)} (h:Rep U eT ρ Z w v (.sl t s)):(q9 (U.tb t).r).rd Z w [v] s:=by cases h with | sl h=>exact h
theorem c44 (args:List (SV U)) (its:a7 U) (r:FR U) (h:b80.C args its=some r) (ho:n6 r.ob):r6 Tryz.prog U eT Gl 37 args its (2 * its.length) (fun k=>n6 r.hy->k r.v r.its r.n):=by
 unfold b80 at h
 simp only at h
 split at h
 . rename_i at_ s x
   cases h
   refine a9u (k:=0) (rest:=[.int .i64 at_,.sl 5 s]) rfl fun Z w vs b F hz hnz hob hg ha=>?_
   obtain ⟨v1,r1,rfl,h1,ha⟩:=Rep.a0H ha
   obtain ⟨v2,r2,rfl,h2,ha⟩:=Rep.a0H ha
   obtain rfl:=E4 ha
   cases h1 with | int h1 =>
   have h2:(q9 n5).rd Z w [v2] s:=d5n h2
   obtain ⟨A1,cap,rfl⟩:=J7 h2
   exact (c59 (show B9 b w x F from hob) ho.1 hnz h2 at_).mono fun v w' ⟨e1,F',h3,h4⟩=>by
    subst e1
    exact ⟨F',h3,h4,b3w (small (a61 _ _))⟩
 . cases h
def b90:FC U:=⟨[],[],fun a its=>match a,its with
 | [.ref 0 0],[(0,.ob 0 1 x)]=>some ⟨[Dk.Ok x],[],.err (erN (Dk.flush x).1),[(0,.ob 0 2 (Dk.flush x).2)],3⟩
 | _,_=>none⟩
theorem c2t (args:List (SV U)) (its:a7 U) (r:FR U) (h:b90.C args its=some r) (ho:n6 r.ob):r6 Tryz.prog U eT Gl 57 args its (2 * its.length) (fun k=>n6 r.hy->k r.v r.its r.n):=by
 unfold b90 at h
 simp only at h
 split at h
 . rename_i x
   cases h
   refine a9u (k:=0) (rest:=[]) rfl fun Z w vs b F hz hnz hob hg ha=>?_
   obtain rfl:=E4 ha
   exact (d0s (show B9 b w x F from hob) ho.1).mono fun v w' ⟨e1,F',h3,h4⟩=>by
    subst e1
    exact ⟨F',h3,h4,b3w (small a6e)⟩
 . cases h
def b7o:FC U:=⟨[],[],fun a its=>match a,its with
 | [.ref 0 0,.int .i64 n],[(0,.ob 0 1 x)]=>some ⟨[Dk.Ok x],[],.un,[(0,.ob 0 2 (Dk.limit x n))],3⟩
 | _,_=>none⟩
theorem c45 (args:List (SV U)) (its:a7 U) (r:FR U) (h:b7o.C args its=some r) (ho:n6 r.ob):r6 Tryz.prog U eT Gl 33 args its (2 * its.length) (fun k=>n6 r.hy->k r.v r.its r.n):=by
 unfold b7o at h
 simp only at h
 split at h
 . rename_i n x
   cases h
   refine a9u (k:=0) (rest:=[.int .i64 n]) rfl fun Z w vs b F hz hnz hob hg ha=>?_
   obtain ⟨v1,r1,rfl,h1,ha⟩:=Rep.a0H ha
   obtain rfl:=E4 ha
   cases h1 with | int h1 =>
   exact (d1d (show B9 b w x F from hob) ho.1 n).mono fun v w' ⟨F',h3,h4⟩=>⟨F',h3,h4,.un⟩
 . cases h
def c9c:FC U:=⟨[],[],fun a its=>match a,its with
 | [.ref 0 0,.int .i64 at_],[(0,.ob 0 1 x)]=>some ⟨[Dk.Ok x],[],.tup [.acc 2,.err (erN (Dk.read x at_).2)],[(2,.ac 5 (Dk.read x at_).1),(0,.ob 0 1 x)],3⟩
 | _,_=>none⟩
theorem c8o {x:Dk} (ok:x.Ok) (a:Int):(x.read a).1.length<=256:=by
 unfold Dk.read
 split
 . exact b6N _
 . split
   . exact b6N _
   . rename_i h1 _
     show ((s9 x.fresh a).getD (ix x.a0B a)).length<=256
     cases hs:s9 x.fresh a with
     | some s=>exact Nat.le_of_eq (M2 ok hs).1
     | none =>
      have hw:0<=a/\a<x.a0B.length:=by unfold Dk.a0I at h1; split at h1 <;> omega
      exact Nat.le_of_eq (a7p ok hw.1 hw.2)
theorem c5h (args:List (SV U)) (its:a7 U) (r:FR U) (h:c9c.C args its=some r) (ho:n6 r.ob):r6 Tryz.prog U eT Gl 63 args its (2 * its.length) (fun k=>n6 r.hy->k r.v r.its r.n):=by
 unfold c9c at h
 simp only at h
 split at h
 . rename_i at_ x
   cases h
   refine P3 (new:=[(2,.ac (N:=U) 5 (Dk.read x at_).1)]) fun ρ Z w vs hfr hz hg ha hp=>?_
   obtain ⟨⟨L,Lf,hL,hLf,hob⟩,_⟩:=hp _ (b4U.2 rfl)
   obtain ⟨v1,r1,rfl,h1,ha⟩:=Rep.a0H ha
   obtain ⟨v2,r2,rfl,h2,ha⟩:=Rep.a0H ha
   obtain rfl:=E4 ha
   cases h2 with | int h2 =>
   cases h1 with | ref hL' =>
   have hL:ρ 0=some L:=hL
   rw [hL] at hL'; cases hL'
   exact (d1i (show B9 L.b w x Lf.bs from hob) ho.1 at_).mono fun v w' ⟨A1,cap,bs,e1,hac,x1,hfresh⟩=>by
    subst e1
    have hsub:=z6 (L:=⟨0,A1,(Dk.read x at_).1.length,cap,bs⟩) (hfr 2 (b4H _))
    have hac':Ac n5 Z w' (.slice A1 (Dk.read x at_).1.length cap) (Dk.read x at_).1 bs:=hac
    refine ⟨C1 ρ 2 ⟨0,A1,(Dk.read x at_).1.length,cap,bs⟩,Z,hsub,fun i hi=>by have hi:3<=i:=hi; unfold C1; rw [if_neg (by omega)]; exact hfr i (show 2<=i by omega),fun _ h=>h,fun _ h=>.inl h,?_,.a1F (cs:=[I5 52 (Dk.read x at_).2]) (.acc k7) (.a1F (cs:=[]) (b3w (small (a3q _))) .a1O)⟩
    refine (Sep.nil hz).add x1 ⟨_,k7,rfl,Nat.le_trans (c8o ho.1 at_) (by decide),hac'⟩ z7 (fun b hb=>?_) rfl
    have hb:b∈u5 U (C1 ρ 2 ⟨0,A1,(Dk.read x at_).1.length,cap,bs⟩) 2 (.ac (N:=U) 5 (Dk.read x at_).1):=hb
    have hb:b∈bs:=Eq.mp (congrArg (b∈·) (u6 (N:=U) (id:=2) (t:=5) (l:=((Dk.read x at_).1:List (U.U 5))) (k7 (ρ:=ρ) (id:=2)))) hb
    exact ⟨hfresh b hb,hac.lt b hb⟩
 . cases h
def b6z:FC U:=⟨[3],[],fun a its=>match a,its with
 | [.ref 0 0,.int .i64 t,.int .i64 c,.sl 3 kept],[(0,.ob 0 1 x)]=>some ⟨[Dk.Ok x],[],.ref 2 0,[(2,.ob 0 3 (Dk.a0P x t c kept)),(0,.ob 0 1 x)],4⟩
 | _,_=>none⟩
theorem c7h {ρ:r9} {Z:Nat->Prop} {w w':World} {d2 i:Nat} {F2:List Nat} {x2:Dk} (hfr:∀ j,i<=j->ρ j=none) (hz:∀ b,Z b->b<w.heap.size) (hd:B9 d2 w' x2 F2) (x1:Ext [] w w') (hf:∀ b∈F2,w.heap.size<=b) :
  ∃ ρ':r9,(∀ j L,ρ j=some L->ρ' j=some L)/\(∀ j,i+2<=j->ρ' j=none)/\Sep [] w Z w' (s6 U eT ρ' [] [(i,.ob 0 (i+1) x2)])/\Rep U eT ρ' Z w' (.pointer (some ⟨d2,0,none⟩)) (.ref i 0):=by
 have hs1:=z6 (L:=⟨d2,none,0,0,[]⟩) (hfr i (b4H _))
 have hn1:C1 ρ i ⟨d2,none,0,0,[]⟩ (i+1)=none:=by unfold C1; rw [if_neg (by omega)]; exact hfr (i+1) (by omega)
 have hs2:=z6 (L:=⟨0,none,0,0,F2⟩) hn1
 have hL:C1 (C1 ρ i ⟨d2,none,0,0,[]⟩) (i+1) ⟨0,none,0,0,F2⟩ i=some ⟨d2,none,0,0,[]⟩:=hs2 _ _ k7
 refine ⟨C1 (C1 ρ i ⟨d2,none,0,0,[]⟩) (i+1) ⟨0,none,0,0,F2⟩,fun j L h=>hs2 _ _ (hs1 _ _ h),fun j hj=>by unfold C1; rw [if_neg (by omega),if_neg (by omega)]; exact hfr j (by omega),?_,.ref hL⟩
 refine (Sep.nil hz).add x1 ⟨_,_,hL,k7,hd⟩ z7 (fun b hb=>?_) rfl
 have hb:b∈u5 U (C1 (C1 ρ i ⟨d2,none,0,0,[]⟩) (i+1) ⟨0,none,0,0,F2⟩) i (.ob (N:=U) 0 (i+1) (x2:U.O 0)):=hb
 have hb:b∈F2:=Eq.mp (congrArg (b∈·) (D6 (N:=U) (id:=i) (k:=0) (x:=(x2:U.O 0)) (k7 (ρ:=C1 ρ i ⟨d2,none,0,0,[]⟩) (id:=i+1)))) hb
 exact ⟨hf b hb,hd.lt b hb⟩
theorem c34 (args:List (SV U)) (its:a7 U) (r:FR U) (h:b6z.C args its=some r) (ho:n6 r.ob):r6 Tryz.prog U eT Gl 35 args its (2 * its.length) (fun k=>n6 r.hy->k r.v r.its r.n):=by
 unfold b6z at h
 simp only at h
 split at h
 . rename_i t c kept x
   cases h
   refine P3 (new:=[(2,.ob (N:=U) 0 3 (Dk.a0P x t c kept))]) fun ρ Z w vs hfr hz hg ha hp=>?_
   obtain ⟨⟨L,Lf,hL,hLf,hob⟩,_⟩:=hp _ (b4U.2 rfl)
   obtain ⟨v1,r1,rfl,h1,ha⟩:=Rep.a0H ha
   obtain ⟨v2,r2,rfl,h2,ha⟩:=Rep.a0H ha
   obtain ⟨v3,r3,rfl,h3,ha⟩:=Rep.a0H ha
   obtain ⟨v4,r4,rfl,h4,ha⟩:=Rep.a0H ha
   obtain rfl:=E4 ha
   cases h2 with | int h2 =>
   cases h3 with | int h3 =>
   cases h1 with | ref hL' =>
   have hL:ρ 0=some L:=hL
   rw [hL] at hL'; cases hL'
   have h4:(q9 G2).rd Z w [v4] kept:=d5n h4
   obtain ⟨A1,cap,rfl⟩:=J7 h4
   exact (c8k (show B9 L.b w x Lf.bs from hob) ho.1 h4 t c).mono fun v w' ⟨d2,F2,e1,hd,x1,hf⟩=>by
    subst e1
    obtain ⟨ρ',q1,q2,q3,q4⟩:=c7h (i:=2) hfr hz hd x1 hf
    exact ⟨ρ',Z,q1,q2,fun _ h=>h,fun _ h=>.inl h,q3,q4⟩
 . cases h
def d7r:GD U:=⟨[],[],fun a its=>match a,its with
 | [.int .i64 n],[]=>some fun k=>((1<=n/\n<=8192)->k (.tup [.ref 0 0,.err .nil]) [(0,.ob 0 1 (Dk.new n))] 2)/\(¬ (1<=n/\n<=8192)->k (.tup [.con (.pointer none),.err (.no 2)]) [] 2)
 | _,_=>none⟩
theorem d3u (args:List (SV U)) (its:a7 U) (S:PT U) (h:d7r.C args its=some S):r6 Tryz.prog U eT Gl 4 args its (2 * its.length) S:=by
 unfold d7r at h
 simp only at h
 split at h
 . rename_i n
   cases h
   intro k hk
   by_cases hn:1<=n/\n<=8192
   . refine P3 (new:=[(0,.ob (N:=U) 0 1 (Dk.new n))]) (s:=.tup [.ref 0 0,.err .nil]) (nx':=2) (fun ρ Z w vs hfr hz hg ha hp=>?_) k fun _=>hk.1 hn
     obtain ⟨v1,r1,rfl,h1,ha⟩:=Rep.a0H ha
     obtain rfl:=E4 ha
     cases h1 with | int h1 =>
     exact (d8m hn.1 hn.2).mono fun v w' ⟨d2,F2,e1,hd,x1,hf⟩=>by
      subst e1
      obtain ⟨ρ',q1,q2,q3,q4⟩:=c7h (i:=0) hfr hz hd x1 hf
      exact ⟨ρ',Z,q1,q2,fun _ h=>h,fun _ h=>.inl h,q3,.a1F (cs:=[.nilIface]) q4 (.a1F (cs:=[]) (.err .nil) .a1O)⟩
   . refine P3 (new:=[]) (s:=.tup [.con (.pointer none),.err (.no 2)]) (nx':=2) (fun ρ Z w vs hfr hz hg ha hp=>?_) k fun _=>hk.2 hn
     obtain ⟨v1,r1,rfl,h1,ha⟩:=Rep.a0H ha
     obtain rfl:=E4 ha
     cases h1 with | int h1 =>
     exact (d2q (by omega)).mono fun v w' ⟨e1,e2⟩=>by
      subst e1; subst e2
      exact ⟨ρ,Z,fun _ _ h=>h,fun i hi=>hfr i (b6N _),fun _ h=>h,fun _ h=>.inl h,Sep.nil hz,.a1F (cs:=[.iface 52 (.int .i64 2)]) (.con rfl) (.a1F (cs:=[]) (.err (.no ⟨by omega,by omega⟩)) .a1O)⟩
 . cases h
def c92:Env:=N0.a0N 55 c80
theorem c43:l7 c92:=e2l.a0N Tryz.call55 c7s
def c1k:Env:=c92.a0N 37 b80
theorem b7r:l7 c1k:=c43.a0N Tryz.call37 c44
def c65:Env:=c1k.a0N 63 c9c
theorem c2m:l7 c65:=b7r.a0N Tryz.call63 c5h
def c1a:Env:=c65.a0N 57 b90
theorem b9x:l7 c1a:=c2m.a0N Tryz.call57 c2t
def c04:Env:=c1a.a0N 33 b7o
theorem b9d:l7 c04:=b9x.a0N Tryz.call33 c45
def c0l:Env:=c04.a0N 35 b6z
theorem b8c:l7 c0l:=b9d.a0N Tryz.call35 c34
def N1:Env:=c0l.a0K 4 Tryz.f4
theorem c68:l7 N1:=b8c.a0K Tryz.call4 Tryz.func4
def H1:Nat->Option (GD U):=S7 4 d7r noH
theorem Q9:∀ K o args its S,H1 K=some o->o.C args its=some S->r6 Tryz.prog U eT Gl K args its (2 * its.length) S:=I8 d3u d9y
end Go.Proofs.YtckpdliipjekgaaGreat
end
section
namespace Go.Wa
open Go Go.Wk Go.Wl Go.Rx
theorem D7:∀ (k:Nat) (x:Int),(leB x k).length=k
 | 0,_=>rfl
 | k+1,x=>by unfold leB; rw [b4F,D7 k]
theorem c7k (x:Int) (i:Nat):(x.fdiv 256).fdiv (256 ^ i)=x.fdiv (256 ^ (i+1)):=by
 have h1:(0:Int)<256 ^ i:=Int.pow_pos (by decide)
 have h2:(0:Int)<256 ^ (i+1):=Int.pow_pos (by decide)
 rw [b5W x (show (0:Int)<=256 by decide),b5W _ (Int.le_of_lt h1),b5W _ (Int.le_of_lt h2),Int.ediv_ediv_of_nonneg (by decide),c0E,Int.mul_comm]
theorem c1z:∀ (k:Nat) (x:Int) (i:Nat),i<k->(leB x k)[i]?=some (UInt8.ofInt (x.fdiv (256 ^ i)))
 | 0,_,_,h=>absurd h (c0I _)
 | k+1,x,0,_=>by unfold leB; rw [b5D,Int.pow_zero,Int.fdiv_one]
 | k+1,x,i+1,h=>by unfold leB; rw [b4B,c1z k _ i (by omega),c7k]
def a6l (l:Str) (lo n:Nat) (x:Int):Str:=l.take lo++leB x n++l.drop (lo+n)
def a2y (l:Str) (lo n:Nat) (x:Int) (i:Int):Str:=l.take lo++(leB x n).take i.toNat++l.drop (lo+i.toNat)
theorem b52 (l:Str) (lo n:Nat) (x:Int):a2y l lo n x 0=l:=by
 unfold a2y
 rw [show (0:Int).toNat=0 from rfl,List.take_zero,b4M,b5Q,b6I]
theorem b56 (l:Str) (lo n:Nat) (x i:Int) (h:i.toNat=n):a2y l lo n x i=a6l l lo n x:=by
 unfold a2y a6l
 rw [h,b4Q (l:=leB x n) (by rw [D7]; exact b4H _)]
theorem a6u {l:Str} {lo n:Nat} {x i:Int} (h0:0<=i) (h1:i<=n) (h2:lo+n<=l.length):(a2y l lo n x i).length=l.length:=by
 unfold a2y
 simp only [b3P,b3U,b3W,D7]
 omega
theorem e74 {x i:Int} (h0:0<=i) (h1:i<8):x.fdiv (2 ^ min (8 * i).toNat IntKind.i64.bits)=x.fdiv (256 ^ i.toNat):=by
 have e:min (8 * i).toNat IntKind.i64.bits=8 * i.toNat:=by
  show min (8 * i).toNat 64=_
  omega
 rw [e,Int.pow_mul]; rfl
theorem b5i {l:Str} {lo n:Nat} {x i j:Int} (h0:0<=i) (h1:i<n) (h2:lo+n<=l.length) (hj:j=(lo:Int)+i):(a2y l lo n x i).set j.toNat (UInt8.ofInt (x.fdiv (256 ^ i.toNat)))=a2y l lo n x (i+1):=by
 have hg:=c1z n x i.toNat (by omega)
 have e1:(i+1).toNat=i.toNat+1:=by omega
 have hl:(l.take lo++(leB x n).take i.toNat).length=j.toNat:=by
  simp only [b3P,b3U,D7]; omega
 unfold a2y
 rw [e1,List.set_append_right _ _ (by rw [hl]; exact b4H _),hl,b8P,b9W,hg]
 have hd:l.drop (lo+i.toNat)=(l[lo+i.toNat]'(by omega))::l.drop (lo+(i.toNat+1)):=b7M (by omega)
 rw [hd,List.set_cons_zero]
 simp only [Option.toList_some,b4L,b8C,b6A]
theorem a4r {l:Str} {lo n:Nat} {x i j:Int} (h0:0<=i) (h1:i<n) (hn:n<=8) (h2:lo+n<=l.length) (hj:j=(lo:Int)+i):(a2y l lo n x i).set j.toNat (UInt8.ofInt (x.fdiv (2 ^ min (8 * i).toNat IntKind.i64.bits)))=a2y l lo n x (i+1):=by
 rw [e74 h0 (by omega)]
 exact b5i h0 h1 h2 hj
theorem e51 {x i:Int} (h0:0<=i) (h1:i<4):x.fdiv (2 ^ min (8 * i).toNat IntKind.u32.bits)=x.fdiv (256 ^ i.toNat):=by
 have e:min (8 * i).toNat IntKind.u32.bits=8 * i.toNat:=by
  show min (8 * i).toNat 32=_
  omega
 rw [e,Int.pow_mul]; rfl
def q5 (turn half n:Int):Str:=leB turn 8++leB half 1++leB n 4++List.replicate 235 0++leB turn 8
theorem c6x (t h n:Int):a6l (a6l (a6l (a6l (List.replicate 256 0) 0 8 t) 8 1 h) 9 4 n) 248 8 t=q5 t h n:=by
 have l8:=D7 8 t
 have l1:=D7 1 h
 have l4:=D7 4 n
 have m:∀ (u:Str) (a k c:Nat) (x:Int),u.length=c->a6l (u++List.replicate (k+a) 0) c k x=u++leB x k++List.replicate a 0:=fun u a k c x hu=>by
  unfold a6l
  rw [<- hu,List.take_left,<- b6R,List.drop_left,List.drop_replicate,b7B]
 have e1:=m [] 248 8 0 t rfl
 rw [b6A,b6A] at e1
 have e2:=m (leB t 8) 247 1 8 h l8
 have e3:=m (leB t 8++leB h 1) 243 4 9 n (by rw [b3P,l8,l1])
 have e4:=m (leB t 8++leB h 1++leB n 4++List.replicate 235 0) 0 8 248 t (by rw [b3P,b3P,b3P,l8,l1,l4,b3X])
 rw [b7R,b4M] at e4
 have f1:a6l (List.replicate 256 0) 0 8 t=leB t 8++List.replicate 248 0:=e1
 have f2:a6l (leB t 8++List.replicate 248 0) 8 1 h=leB t 8++leB h 1++List.replicate 247 0:=e2
 have f3:a6l (leB t 8++leB h 1++List.replicate 247 0) 9 4 n=leB t 8++leB h 1++leB n 4++List.replicate 243 0:=e3
 have f4:(List.replicate 243 0:Str)=List.replicate 235 0++List.replicate (8+0) 0:=by rw [b7S]
 rw [f1,f2,f3,f4,<- b4L,e4]
 rfl
theorem a1o (t h n:Int):(q5 t h n).length=256:=by
 unfold q5
 simp only [b3P,D7,b3X]
end Go.Wa
end
section
namespace Go.Proofs.YtckpdliipjekgaaGreat
open Go Go.Wk Go.Wl Go.Rx Go.Wa 
def inE (what:Str) (e:Err):Err:=if e=.nil then .nil else .p 132 what e.n0
theorem a2t {n:Int}:erN n=.nil↔n=0:=by
 unfold erN
 by_cases h:n=0
 . rw [if_pos h]; simp [h]
 . rw [if_neg h]; simp [h]
theorem a7u {n:Int} (h:erN n≠.nil):erN n=.no (erN n).n0:=by
 unfold erN at *
 by_cases e:n=0
 . rw [if_pos e] at h; exact absurd rfl h
 . rw [if_neg e]; rfl
theorem d5g {w:Str}:inE w (erN 0)=.nil:=by unfold inE erN; rw [if_pos rfl,if_pos rfl]
abbrev sWr:Str:=[119,114,105,116,101]
abbrev sFl:Str:=[102,108,117,115,104]
abbrev sHd:Str:=[104,101,97,100]
abbrev sRd:Str:=[114,101,97,100]
def Y4 (s:Str):Str:=s.take 256++List.replicate (256-s.length) 0
theorem d2v (s:Str):(Y4 s).length=256:=by
 unfold Y4
 rw [b3P,b3U,b3X]; omega
theorem d8g (s:Str):s.take (List.replicate (Int.toNat 256) (0:UInt8)).length++(List.replicate (Int.toNat 256) (0:UInt8)).drop s.length=Y4 s:=by
 unfold Y4
 rw [b3X,List.drop_replicate]; rfl
def o8 (s:Str):List Str:=if _:s.length=0 then [] else Y4 s::o8 (s.drop 256)
termination_by s.length
decreasing_by rw [b3W]; omega
theorem a4x {s:Str} (h:s.length=0):o8 s=[]:=by rw [o8,dif_pos h]
theorem P8 {s:Str} (h:s.length≠0):o8 s=Y4 s::o8 (s.drop 256):=by rw [o8,dif_neg h]
def a8:Dk->Int->List Str->Err×Dk
 | x,_,[]=>(inE sFl (erN x.flush.1),x.flush.2)
 | x,a,b::r=>if (x.write a b).1=0 then a8 (x.write a b).2 (a+1) r else (inE sWr (erN (x.write a b).1),(x.write a b).2)
theorem V0:∀ (l:List Str) {x:Dk} (a:Int),x.Ok->(a8 x a l).2.Ok
 | [],_,_,ok=>a4g ok
 | b::r,x,a,ok=>by
  unfold a8
  split
  . exact V0 r _ (a01 ok _ _)
  . exact a01 ok _ _
end Go.Proofs.YtckpdliipjekgaaGreat
end
section
namespace Go.Proofs.YtckpdliipjekgaaGreat
open Go Go.Wk Go.Wl Go.Rx Go.Wa 
attribute [local irreducible] o9
def e3z:Nat->Ann:=fun | 56=>⟨12,nn,nn⟩ | _=>⟨0,nn,nn⟩
def Vin (what:Str) (e:Err) (Q:Err->Prop):Prop :=
(e=Err.nil->Q Err.nil)/\(¬e=Err.nil->e=Err.no e.n0/\Q (Err.p (132:Nat) what e.n0))
theorem pin (what:Str) (e:Err) (h0:e≠.nil->e=.no e.n0):Vin what e (fun y0=>y0=inE what e):=by
 unfold Vin
 refine ⟨fun h=>?_,fun h=>⟨h0 h,?_⟩⟩
 . unfold inE; rw [if_pos h]
 . unfold inE; rw [if_neg h]
def cin (a:List (SV U)) (nx:Nat):Option (CR U):=match a with | [.str what,.err e]=>some ⟨[(e:Err)≠.nil->e=.no e.n0],[],.err (inE what e),[]⟩ | _=>none
def Nin:Env:=N1.a2A 56 cin
theorem b6y:l7 Nin:=c68.a2A Tryz.call56 fun (args:List (SV U)) nx (c:CR U) (h:cin args nx=some c) hp ho=>by
 unfold cin at h
 split at h
 . rename_i what e
   cases h
   exact b4q (an:=e3z 56) c68 (l5 c68 Q9 e3z 2) Tryz.func56 (k:=.err) (x:=inE what e) hp (kc (pin what e ho.1) (by kernel_rfl))
 . cases h
def d5z:Nat->Ann:=fun | 80=>⟨21,fun | 3=>some ⟨[0],[.slot 3 (.int .i64),.slot 4 (.int .i64)]⟩ | _=>none,nn⟩ | _=>⟨0,nn,nn⟩
def c81 (x:Int) (b:Str) (x_1:Int):=IntKind.i64.wrap (↑(BitVec.ofInt IntKind.i64.bits (IntKind.i64.wrap (x * 2 ^ min (Int.toNat (8:Int)) IntKind.i64.bits)) ||| BitVec.ofInt IntKind.i64.bits (↑(ix b x_1).toNat:Int)).toNat:Int)
def e5q (b:Str) (Q:Int->Prop):Prop :=
i6 ((↑(List.length b):Int)-1)/\∃ (I:Int->Int->Prop),∃ (m:Int->Int->Nat),I (0:Int) ((↑(List.length b):Int)-1)/\∀ (x x_1:Int),I x x_1->((0:Int)<=x_1->(0:Int)<=8/\(0:Int)<=x_1/\x_1<(↑(List.length b):Int)/\i6 (x_1-1)/\I (c81 x b x_1) (x_1-1)/\m (c81 x b x_1) (x_1-1)<m x x_1)/\(¬(0:Int)<=x_1->Q x)
theorem e7q (b:Str) (hb:b.length<=100000):e5q b (fun y0=>y0=D2 b):=by
 unfold e5q c81
 refine ⟨⟨by omega,by omega⟩,fun x i=>-1<=i/\i<b.length/\x=D2 (b.drop (i+1).toNat),fun _ i=>(i+1).toNat,⟨by omega,by omega,?_⟩,?_⟩
 . rw [b5F (by omega)]; rfl
 rintro x i ⟨i0,i1,hx⟩
 refine ⟨fun h=>⟨by decide,h,by omega,⟨by omega,by omega⟩,⟨by omega,by omega,?_⟩,by dsimp only; omega⟩,fun h=>?_⟩
 . rw [c98,hx,c3w h i1]
   congr 2
   omega
 . rw [hx,show (i+1).toNat=0 by omega]; rfl
def d8x (a:List (SV U)):Option (Q1 U):=match a with | [.sl 5 b]=>some ⟨[List.length (α:=UInt8) b<=100000],[],.int .i64 (D2 b)⟩ | _=>none
def e44:Env:=Nin.a1R 80 d8x
theorem d1e:l7 e44:=b6y.a1R Tryz.call80 fun (args:List (SV U)) (q:Q1 U) (h:d8x args=some q) ho=>by
 unfold d8x at h
 split at h
 . rename_i b
   cases h
   exact a05 (an:=d5z 80) b6y (l5 b6y Q9 d5z 2) Tryz.func80 (k:=.int .i64) (x:=D2 b) trivial (kc (e7q b ho.1) (by kernel_rfl)) 0
 . cases h
def e5n:Env:=e44.a0K 58 Tryz.f58
theorem b2b:l7 e5n:=d1e.a0K Tryz.call58 Tryz.func58
def e4x:Nat->Ann:=fun | 27=>⟨26,nn,nn⟩ | 58=>⟨19,fun | 1=>some ⟨[0,1,6],[.cont 0 5,.slot 7 (.int .i64)]⟩ | _=>none,nn⟩ | _=>⟨0,nn,nn⟩
def c2d  := List.replicate (Int.toNat (256:Int)) (0:UInt8)
def d8s (x:List UInt8) (x_4:Int) (n:Int):=x.set ((some (9:Int)).getD (0:Int)+x_4).toNat (UInt8.ofInt (n.fdiv ((2:Int) ^ min ((8:Int) * x_4).toNat IntKind.i64.bits)))
def e07 (x_5:List UInt8) (x_6:Int) (turn:Int):=x_5.set ((some (248:Int)).getD (0:Int)+x_6).toNat (UInt8.ofInt (turn.fdiv ((2:Int) ^ min ((8:Int) * x_6).toNat IntKind.i64.bits)))
def d9c (x_2:List UInt8) (x_3:Int) (half:Int):=x_2.set ((some (8:Int)).getD (0:Int)+x_3).toNat (UInt8.ofInt (half.fdiv ((2:Int) ^ min ((8:Int) * x_3).toNat IntKind.i64.bits)))
def d7o (x:List UInt8) (x_1:Int) (turn:Int):=x.set (none.getD (0:Int)+x_1).toNat (UInt8.ofInt (turn.fdiv ((2:Int) ^ min ((8:Int) * x_1).toNat IntKind.i64.bits)))
def Vho (turn:Int) (half:Int) (n:Int) (Q:List UInt8->Prop):Prop :=
(0:Int)<=256/\(256:Int)=256/\(↑((some (1:Nat)).getD (0:Nat)):Int) * 256<=140737488355328/\(0:Int)<=8/\(8:Int)<=(↑c2d.length:Int)/\∃ (I:List UInt8->Int->Prop),∃ (m:List UInt8->Int->Nat),I c2d (0:Int)/\∀ (x:List UInt8) (x_1:Int),I x x_1->(x_1<(some (8:Int)).getD (↑c2d.length:Int)-none.getD (0:Int)->i6 ((8:Int) * x_1)/\(0:Int)<=(8:Int) * x_1/\(0:Int)<=x_1/\x_1<(some (8:Int)).getD (↑c2d.length:Int)-none.getD (0:Int)/\i6 (x_1+1)/\I (d7o x x_1 turn) (x_1+1)/\m (d7o x x_1 turn) (x_1+1)<m x x_1)/\(¬x_1<(some (8:Int)).getD (↑c2d.length:Int)-none.getD (0:Int)->(0:Int)<=8/\(8:Int)<=9/\(9:Int)<=(↑x.length:Int)/\∃ (I:List UInt8->Int->Prop),∃ (m:List UInt8->Int->Nat),I x (0:Int)/\∀ (x_2:List UInt8) (x_3:Int),I x_2 x_3->(x_3<(some (9:Int)).getD (↑x.length:Int)-(some (8:Int)).getD (0:Int)->i6 ((8:Int) * x_3)/\(0:Int)<=(8:Int) * x_3/\(0:Int)<=x_3/\x_3<(some (9:Int)).getD (↑x.length:Int)-(some (8:Int)).getD (0:Int)/\i6 (x_3+1)/\I (d9c x_2 x_3 half) (x_3+1)/\m (d9c x_2 x_3 half) (x_3+1)<m x_2 x_3)/\(¬x_3<(some (9:Int)).getD (↑x.length:Int)-(some (8:Int)).getD (0:Int)->(0:Int)<=9/\(9:Int)<=13/\(13:Int)<=(↑x_2.length:Int)/\∃ (I:List UInt8->Int->Prop),∃ (m:List UInt8->Int->Nat),I x_2 (0:Int)/\∀ (x:List UInt8) (x_4:Int),I x x_4->(x_4<(some (13:Int)).getD (↑x_2.length:Int)-(some (9:Int)).getD (0:Int)->i6 ((8:Int) * x_4)/\(0:Int)<=(8:Int) * x_4/\(0:Int)<=x_4/\x_4<(some (13:Int)).getD (↑x_2.length:Int)-(some (9:Int)).getD (0:Int)/\i6 (x_4+1)/\I (d8s x x_4 n) (x_4+1)/\m (d8s x x_4 n) (x_4+1)<m x x_4)/\(¬x_4<(some (13:Int)).getD (↑x_2.length:Int)-(some (9:Int)).getD (0:Int)->(0:Int)<=248/\(248:Int)<=(↑x.length:Int)/\∃ (I:List UInt8->Int->Prop),∃ (m:List UInt8->Int->Nat),I x (0:Int)/\∀ (x_5:List UInt8) (x_6:Int),I x_5 x_6->(x_6<none.getD (↑x.length:Int)-(some (248:Int)).getD (0:Int)->i6 ((8:Int) * x_6)/\(0:Int)<=(8:Int) * x_6/\(0:Int)<=x_6/\x_6<none.getD (↑x.length:Int)-(some (248:Int)).getD (0:Int)/\i6 (x_6+1)/\I (e07 x_5 x_6 turn) (x_6+1)/\m (e07 x_5 x_6 turn) (x_6+1)<m x_5 x_6)/\(¬x_6<none.getD (↑x.length:Int)-(some (248:Int)).getD (0:Int)->Q x_5))))
theorem pho (turn:Int) (half:Int) (n:Int) (h1:i6 half) (h2:i6 n):Vho turn half n (fun y0=>y0=q5 turn half n):=by
 unfold Vho d7o d9c e07 d8s c2d
 have hz:(List.replicate (Int.toNat 256) 0:Str).length=256:=by rw [b3X]; rfl
 have g1:∀ a:Int,(some a).getD 0=a:=fun _=>rfl
 refine ⟨by decide,rfl,by decide,by decide,by rw [hz]; decide,fun y i=>0<=i/\i<=8/\y=a2y (List.replicate (Int.toNat 256) 0) 0 8 turn i,fun _ i=>(8-i).toNat,⟨by decide,by decide,(b52 _ _ _ _).symm⟩,?_⟩
 rintro y i ⟨i0,i1,hy⟩
 have hyl:y.length=256:=by rw [hy,a6u i0 i1 (by rw [hz]; decide),hz]
 refine ⟨fun h=>?_,fun h=>?_⟩
 . have h:i<8:=h
   exact ⟨⟨by omega,by omega⟩,by omega,i0,h,⟨by omega,by omega⟩,⟨by omega,by omega,by rw [hy]; exact a4r i0 h (b4H _) (by rw [hz]; decide) (show 0+i=_ by omega)⟩,by dsimp only; omega⟩
 have h:¬ i<8:=h
 rw [b56 _ _ _ _ _ (by omega)] at hy
 refine ⟨by decide,by decide,by rw [hyl]; decide,fun z i=>0<=i/\i<=1/\z=a2y y 8 1 half i,fun _ i=>(1-i).toNat,⟨by decide,by decide,(b52 _ _ _ _).symm⟩,?_⟩
 rintro z i ⟨i0,i1,hz1⟩
 have hzl:z.length=256:=by rw [hz1,a6u i0 i1 (by rw [hyl]; decide),hyl]
 refine ⟨fun h=>?_,fun h=>?_⟩
 . have h:i<9-8:=h
   exact ⟨⟨by omega,by omega⟩,by omega,i0,h,⟨by omega,by omega⟩,⟨by omega,by omega,by rw [hz1]; exact a4r i0 h (by decide) (by rw [hyl]; decide) rfl⟩,by dsimp only; omega⟩
 have h:¬ i<9-8:=h
 rw [b56 _ _ _ _ _ (by omega)] at hz1
 refine ⟨by decide,by decide,by rw [hzl]; decide,fun u i=>0<=i/\i<=4/\u=a2y z 9 4 n i,fun _ i=>(4-i).toNat,⟨by decide,by decide,(b52 _ _ _ _).symm⟩,?_⟩
 rintro u i ⟨i0,i1,hu⟩
 have hul:u.length=256:=by rw [hu,a6u i0 i1 (by rw [hzl]; decide),hzl]
 refine ⟨fun h=>?_,fun h=>?_⟩
 . have h:i<13-9:=h
   exact ⟨⟨by omega,by omega⟩,by omega,i0,h,⟨by omega,by omega⟩,⟨by omega,by omega,by rw [hu]; exact a4r i0 h (by decide) (by rw [hzl]; decide) rfl⟩,by dsimp only; omega⟩
 have h:¬ i<13-9:=h
 rw [b56 _ _ _ _ _ (by omega)] at hu
 have hq:none.getD (u.length:Int)-(some (248:Int)).getD 0=8:=by show (u.length:Int)-248=8; rw [hul]; rfl
 refine ⟨by decide,by rw [hul]; decide,fun v i=>0<=i/\i<=8/\v=a2y u 248 8 turn i,fun _ i=>(8-i).toNat,⟨by decide,by decide,(b52 _ _ _ _).symm⟩,?_⟩
 rintro v i ⟨i0,i1,hv⟩
 rw [hq]
 refine ⟨fun h=>?_,fun h=>?_⟩
 . exact ⟨⟨by omega,by omega⟩,by omega,i0,h,⟨by omega,by omega⟩,⟨by omega,by omega,by rw [hv]; exact a4r i0 h (b4H _) (by rw [hul]; decide) rfl⟩,by dsimp only; omega⟩
 rw [b56 _ _ _ _ _ (by omega)] at hv
 rw [hv,hu,hz1,hy]
 exact c6x turn half n
def cho (a:List (SV U)) (nx:Nat):Option (CR U):=match a with | [.int .i64 turn,.int .i64 half,.int .i64 n]=>some ⟨[i6 half,i6 n],[],.acc nx,[.ac 5 (q5 turn half n)]⟩ | _=>none
def Nho:Env:=e5n.a2A 27 cho
theorem e22:l7 Nho:=b2b.a2A Tryz.call27 fun (args:List (SV U)) nx (c:CR U) (h:cho args nx=some c) hp ho=>by
 unfold cho at h
 split at h
 . rename_i turn half n
   cases h
   exact b4q (an:=e4x 27) b2b (l5 b2b Q9 e4x 2) Tryz.func27 (k:=.acc 5) (x:=q5 turn half n) hp (kc (pho turn half n ho.1 ho.2.1) (by kernel_rfl))
 . cases h
def e3n:Env:=Nho.a0K 74 Tryz.f74
theorem d4j:l7 e3n:=e22.a0K Tryz.call74 Tryz.func74
def e1t:Env:=e3n.a0K 25 Tryz.f25
theorem b2g:l7 e1t:=d4j.a0K Tryz.call25 Tryz.func25
def e2t:Nat->Ann:=fun | 26=>⟨36,fun | 2=>some ⟨[0,1,2],[.slot 7 (.int .i64),.ob 0 0]⟩ | _=>none,nn⟩ | _=>⟨0,nn,nn⟩
def a0l  := List.replicate (Int.toNat (256:Int)) (0:UInt8)
def Vst (x:Dk) (at_:Int) (s:Str) (Q:Err->Dk->Prop):Prop :=
∃ (I:Int->Dk->Prop),∃ (m:Int->Dk->Nat),I (0:Int) x/\∀ (x:Int) (x_1:Dk),I x x_1->(x<(↑(List.length s):Int)->(0:Int)<=256/\(256:Int)=256/\(↑((some (1:Nat)).getD (0:Nat)):Int) * 256<=140737488355328/\(0:Int)<=x/\x<=(↑(List.length s):Int)/\(256:Int)≠0/\i6 (x.tdiv (256:Int))/\i6 (at_+x.tdiv (256:Int))/\x_1.Ok/\(erN (x_1.write (at_+x.tdiv (256:Int)) (List.take a0l.length (List.drop x.toNat s)++List.drop (List.drop x.toNat s).length a0l)).fst≠Err.nil->(erN (x_1.write (at_+x.tdiv (256:Int)) (List.take a0l.length (List.drop x.toNat s)++List.drop (List.drop x.toNat s).length a0l)).fst≠Err.nil->erN (x_1.write (at_+x.tdiv (256:Int)) (List.take a0l.length (List.drop x.toNat s)++List.drop (List.drop x.toNat s).length a0l)).fst=Err.no (erN (x_1.write (at_+x.tdiv (256:Int)) (List.take a0l.length (List.drop x.toNat s)++List.drop (List.drop x.toNat s).length a0l)).fst).n0)/\Q (inE ([119,114,105,116,101]:List UInt8) (erN (x_1.write (at_+x.tdiv (256:Int)) (List.take a0l.length (List.drop x.toNat s)++List.drop (List.drop x.toNat s).length a0l)).fst)) (x_1.write (at_+x.tdiv (256:Int)) (List.take a0l.length (List.drop x.toNat s)++List.drop (List.drop x.toNat s).length a0l)).snd)/\(¬erN (x_1.write (at_+x.tdiv (256:Int)) (List.take a0l.length (List.drop x.toNat s)++List.drop (List.drop x.toNat s).length a0l)).fst≠Err.nil->i6 (x+256)/\I (x+256) (x_1.write (at_+x.tdiv (256:Int)) (List.take a0l.length (List.drop x.toNat s)++List.drop (List.drop x.toNat s).length a0l)).snd/\m (x+256) (x_1.write (at_+x.tdiv (256:Int)) (List.take a0l.length (List.drop x.toNat s)++List.drop (List.drop x.toNat s).length a0l)).snd<m x x_1))/\(¬x<(↑(List.length s):Int)->x_1.Ok/\(erN x_1.flush.fst≠Err.nil->erN x_1.flush.fst=Err.no (erN x_1.flush.fst).n0)/\Q (inE ([102,108,117,115,104]:List UInt8) (erN x_1.flush.fst)) x_1.flush.snd)
theorem pst (x:Dk) (at_:Int) (s:Str) (ok:x.Ok) (hs:s.length<=10000000) (ha:0<=at_) (hb:at_<=1000000):Vst x at_ s (fun y0 y1=>y0=(a8 x at_ (o8 s)).1/\y1=(a8 x at_ (o8 s)).2):=by
 unfold Vst a0l
 refine ⟨fun i x'=>∃ k:Int,0<=k/\i=256 * k/\i<s.length+256/\x'.Ok/\a8 x at_ (o8 s)=a8 x' (at_+k) (o8 (s.drop i.toNat)),fun i _=>((s.length:Int)-i).toNat,⟨0,by omega,by omega,by omega,ok,by rw [Int.add_zero]; rfl⟩,?_⟩
 rintro i x' ⟨k,k0,rfl,hi,ok',he⟩
 have hd:(256 * k).tdiv 256=k:=Int.mul_tdiv_cancel_left _ (by decide)
 rw [d8g,hd]
 refine ⟨fun h=>?_,fun h=>?_⟩
 . have hne:(s.drop (256 * k).toNat).length≠0:=by rw [b3W]; omega
   rw [P8 hne,a8] at he
   refine ⟨by decide,rfl,by decide,by omega,by omega,by decide,⟨by omega,by omega⟩,⟨by omega,by omega⟩,ok',fun h1=>⟨fun h2=>a7u h2,?_⟩,fun h1=>?_⟩
   . rw [if_neg (fun e=>h1 (a2t.2 e))] at he
     rw [he]; exact ⟨rfl,rfl⟩
   . rw [if_pos (a2t.1 (b4N.1 h1))] at he
     refine ⟨⟨by omega,by omega⟩,⟨k+1,by omega,by omega,by omega,a01 ok' _ _,?_⟩,by dsimp only; omega⟩
     rw [he,b6R,show (256 * k+256).toNat=(256 * k).toNat+256 by omega,Int.add_assoc]
 . have hz:(s.drop (256 * k).toNat).length=0:=by rw [b3W]; omega
   rw [a4x hz,a8] at he
   rw [he]
   exact ⟨ok',fun h2=>a7u h2,rfl,rfl⟩
def e7f (x:Dk) (at_:Int) (s:Str):FR U:=K8 e1t [Dk.Ok x,List.length (α:=UInt8) s<=10000000,0<=at_,at_<=1000000] [(0,.ob (N:=U) 0 1 x)] 2 1 [.slot 0 (.err),.tree [] [.ob (some 200) 0]] ((a8 x at_ (o8 s)).1,((a8 x at_ (o8 s)).2,()),())
def fst:FC U:=⟨[],[],fun a its=>match a,its with | [.ref 0 0,.int .i64 at_,.str s],[(0,.ob 0 1 x)]=>some (e7f x at_ s) | _,_=>none⟩
theorem e04 (args:List (SV U)) (its:a7 U) (r:FR U) (h:fst.C args its=some r) (ho:n6 r.ob):r6 Tryz.prog U eT Gl 26 args its (2 * its.length) (fun k=>n6 r.hy->k r.v r.its r.n):=by
 unfold fst at h
 simp only at h
 split at h
 . rename_i at_ s x
   cases h
   exact G8 (an:=e2t 26) b2g (l5 b2g Q9 e2t 3) Tryz.func26 (n:=1) rfl (vs:=[.slot 0 (.err),.tree [] [.ob (some 200) 0]]) (X:=((a8 x at_ (o8 s)).1,((a8 x at_ (o8 s)).2,()),())) rfl (kc (pst x at_ s ho.1 ho.2.1 ho.2.2.1 ho.2.2.2.1) (by kernel_rfl))
 . cases h
def Nst:Env:=(e1t.a0K 26 Tryz.f26).a0N 26 fst
theorem b7z:l7 Nst:=(b2g.a0K Tryz.call26 Tryz.func26).a0N Tryz.call26 e04
end Go.Proofs.YtckpdliipjekgaaGreat
end
section
namespace Go.Wa
open Go Go.Wk Go.Wl Go.Rx
theorem d5f {α:Type} [Inhabited α] {a b:List α} (hl:a.length=b.length) (h:∀ i:Int,0<=i->i<a.length->ix a i=ix b i):a=b:=by
 apply c0G hl
 intro i h1 h2
 have:=h i (by omega) (by omega)
 rw [C5 (by simpa using h1),C5 (by simpa using h2)] at this
 simpa using this
def eqT (a b:Str):Bool:=decide (a=b)
def a77 (a b:Int):Int:=IntKind.u32.wrap ((BitVec.ofInt IntKind.u32.bits a ^^^ BitVec.ofInt IntKind.u32.bits b).toNat:Int)
def b4m (x:Int):Int:=x.fdiv (2 ^ min (Int.toNat 1) IntKind.u32.bits)
def b06 (x:Int):Int:=if IntKind.u32.wrap ((BitVec.ofInt IntKind.u32.bits x &&& BitVec.ofInt IntKind.u32.bits 1).toNat:Int)=1 then a77 (b4m x) 3988292384 else b4m x
def a68:Nat->Int->Int
 | 0,x=>x
 | k+1,x=>a68 k (b06 x)
def c20 (x:Int) (c:UInt8):Int:=a68 8 (a77 x (c.toNat:Int))
def a32:Int->Str->Int
 | x,[]=>x
 | x,c::r=>a32 (c20 x c) r
theorem b60:∀ (a:Str) (x:Int) (b:Str),a32 x (a++b)=a32 (a32 x a) b
 | [],_,_=>rfl
 | c::r,x,b=>b60 r (c20 x c) b
def K7 (l:List Str):Int:=a77 (if IntKind.u32.signed=true then -1 else IntKind.u32.max) (a32 4294967295 l.flatten)
theorem W3 (n:Int):IntKind.u32.wrap n=n % 4294967296:=by
 rw [IntKind.wrap_u32]
theorem a6x (a b:Int):0<=a77 a b/\a77 a b<4294967296:=by
 unfold a77
 rw [W3]; omega
theorem a4j (l:List Str):0<=K7 l/\K7 l<4294967296:=a6x _ _
def SmL (l:List Str):Prop:=l.length<=1000000/\∀ s∈l,s.length<=1000000
theorem Q4 {α:Type} [Inhabited α] {l:List α} {i:Int} (h0:0<=i) (h1:i<l.length):ix l i∈l:=by
 rw [C5 (by omega)]; exact b5J _
def R6 (s:Str):Int:=IntKind.u32.wrap (leN s)
theorem d3g (x:Int) (c:UInt8):IntKind.u32.wrap ((BitVec.ofInt IntKind.u32.bits (IntKind.u32.wrap (x * 2 ^ min (Int.toNat 8) IntKind.u32.bits)) ||| BitVec.ofInt IntKind.u32.bits (c.toNat:Int)).toNat:Int)=IntKind.u32.wrap (c.toNat+256 * x):=by
 have hc:c.toNat<256:=c.toNat_lt
 have e8:(2:Int) ^ min (Int.toNat 8) IntKind.u32.bits=256:=by decide
 rw [e8]
 show IntKind.u32.wrap ((BitVec.ofInt 32 (IntKind.u32.wrap (x * 256)) ||| BitVec.ofInt 32 (c.toNat:Int)).toNat:Int)=_
 have bv:∀ z:Int,((BitVec.ofInt 32 z).toNat:Int)=z % 4294967296:=fun z=>by rw [b9O]; omega
 rw [BitVec.toNat_or]
 have h1:=bv (IntKind.u32.wrap (x * 256))
 have h2:=bv (c.toNat:Int)
 generalize (BitVec.ofInt 32 (IntKind.u32.wrap (x * 256))).toNat=a at h1 ⊢
 generalize (BitVec.ofInt 32 (c.toNat:Int)).toNat=d at h2 ⊢
 rw [W3] at h1
 have hd:d=c.toNat:=by omega
 have ha:a % 256=0:=by omega
 have hq:a=2 ^ 8 * (a / 256):=by omega
 have hor:(a ||| d:Nat)=a+d:=by
  rw [hq,hd]
  exact (b9P (by omega) _).symm
 rw [hor,W3,W3]
 omega
theorem d4f {b:Str} {i:Int} (h0:0<=i) (h1:i<b.length):IntKind.u32.wrap ((ix b i).toNat+256 * R6 (b.drop (i+1).toNat))=R6 (b.drop i.toNat):=by
 rw [H5 h0 h1]
 unfold R6
 rw [show leN (ix b i::b.drop (i+1).toNat)=(ix b i).toNat+256 * leN (b.drop (i+1).toNat) from rfl]
 generalize leN (b.drop (i+1).toNat)=L
 rw [W3,W3,W3]
 omega
def a1y:Int->List Str->Int
 | x,[]=>x
 | x,r::t=>if 30000<(r.length:Int) then 0 else a1y (x+(7+(r.length:Int))) t
abbrev z8 (l:List Str):Int:=a1y 0 l
end Go.Wa
end
section
namespace Go.Proofs.YtckpdliipjekgaaGreat
open Go Go.Wk Go.Wl Go.Rx Go.Wa 
attribute [local irreducible] o9
def e39:Nat->Ann:=fun | 81=>⟨26,fun | 4=>some ⟨[0,1,12],[.slot 13 (.int .i64)]⟩ | _=>none,nn⟩ | _=>⟨0,nn,nn⟩
def Veq (a:Str) (b:Str) (Q:Bool->Prop):Prop :=
((↑(List.length a):Int)≠(↑(List.length b):Int)->Q false)/\(¬(↑(List.length a):Int)≠(↑(List.length b):Int)->∃ (I:Int->Prop),∃ (m:Int->Nat),I (0:Int)/\∀ (x:Int),I x->(x<(↑(List.length a):Int)->(0:Int)<=x/\x<(↑(List.length a):Int)/\(0:Int)<=x/\x<(↑(List.length b):Int)/\(ix a x≠ix b x->Q false)/\(¬ix a x≠ix b x->i6 (x+1)/\I (x+1)/\m (x+1)<m x))/\(¬x<(↑(List.length a):Int)->Q true))
theorem peq (a:Str) (b:Str) (ha:a.length<=1000000):Veq a b (fun y0=>y0=eqT a b):=by
 unfold Veq eqT
 refine ⟨fun h=>(b5K (p:=(a:Str)=b) fun e=>h (by rw [e])).symm,fun h=>?_⟩
 have hl:a.length=b.length:=by omega
 refine ⟨fun i=>0<=i/\∀ j:Int,0<=j->j<i->ix a j=ix b j,fun i=>((a.length:Int)-i).toNat,⟨by omega,fun j h0 h1=>absurd h1 (by omega)⟩,?_⟩
 rintro i ⟨i0,hi⟩
 refine ⟨fun h1=>⟨i0,h1,i0,by omega,fun hn=>(b5K (p:=(a:Str)=b) fun e=>hn (by rw [e])).symm,fun he=>⟨⟨by omega,by omega⟩,⟨by omega,fun j j0 j1=>?_⟩,by dsimp only; omega⟩⟩,fun h1=>(b4R (p:=(a:Str)=b) (d5f hl fun j j0 j1=>hi j j0 (by omega))).symm⟩
 by_cases e:j=i
 . subst e; exact b4N.1 he
 . exact hi j j0 (by omega)
def ceq (a:List (SV U)):Option (Q1 U):=match a with | [.sl 5 a,.sl 5 b]=>some ⟨[List.length (α:=UInt8) a<=1000000],[],blB (eqT a b)⟩ | _=>none
def Neq:Env:=Nst.a1R 81 ceq
theorem b9s:l7 Neq:=b7z.a1R Tryz.call81 fun (args:List (SV U)) (q:Q1 U) (h:ceq args=some q) ho=>by
 unfold ceq at h
 split at h
 . rename_i a b
   cases h
   exact a05 (an:=e39 81) b7z (l5 b7z Q9 e39 2) Tryz.func81 (k:=.bool) (x:=eqT a b) trivial (kc (peq a b ho.1) (by kernel_rfl)) 0
 . cases h
def d5u:Nat->Ann:=fun | 75=>⟨25,fun | 3=>some ⟨[0,5,10],[.cont 5 5,.slot 11 (.int .i64)]⟩ | _=>none,nn⟩ | _=>⟨0,nn,nn⟩
def e3r (x:Int) (n:Int) (Q:Str->Prop):Prop :=
(0:Int)<=n/\n=n/\(↑((some (1:Nat)).getD (0:Nat)):Int) * n<=140737488355328/\∃ (I:List UInt8->Int->Prop),∃ (m:List UInt8->Int->Nat),I (List.replicate n.toNat (0:UInt8)) (0:Int)/\∀ (x_1:List UInt8) (x_2:Int),I x_1 x_2->(x_2<(↑(List.replicate n.toNat (0:UInt8)).length:Int)->i6 ((8:Int) * x_2)/\(0:Int)<=(8:Int) * x_2/\(0:Int)<=x_2/\x_2<(↑x_1.length:Int)/\i6 (x_2+1)/\I (x_1.set x_2.toNat (UInt8.ofInt (x.fdiv ((2:Int) ^ min ((8:Int) * x_2).toNat IntKind.u32.bits)))) (x_2+1)/\m (x_1.set x_2.toNat (UInt8.ofInt (x.fdiv ((2:Int) ^ min ((8:Int) * x_2).toNat IntKind.u32.bits)))) (x_2+1)<m x_1 x_2)/\(¬x_2<(↑(List.replicate n.toNat (0:UInt8)).length:Int)->Q x_1)
theorem e6w (x:Int) (n:Int) (h0:0<=n) (h4:n<=4):e3r x n (fun y0=>y0=leB x n.toNat):=by
 unfold e3r
 have hz:(List.replicate n.toNat 0:Str).length=n.toNat:=b3X
 refine ⟨h0,rfl,by show (1:Int) * n<=_; omega,fun y i=>0<=i/\i<=n/\y=a2y (List.replicate n.toNat 0) 0 n.toNat x i,fun _ i=>(n-i).toNat,⟨by omega,by omega,(b52 _ _ _ _).symm⟩,?_⟩
 rintro y i ⟨i0,i1,hy⟩
 have hyl:y.length=n.toNat:=by rw [hy,a6u i0 (by omega) (by rw [hz]; omega),hz]
 refine ⟨fun h=>?_,fun h=>?_⟩
 . have h:i<n:=by rw [hz] at h; omega
   exact ⟨⟨by omega,by omega⟩,by omega,i0,by omega,⟨by omega,by omega⟩,⟨by omega,by omega,by rw [hy,e51 i0 (by omega)]; exact b5i i0 (by omega) (by rw [hz]; omega) (by omega)⟩,by dsimp only; omega⟩
 have h:¬ i<n:=by rw [hz] at h; omega
 rw [b56 _ _ _ _ _ (by omega)] at hy
 rw [hy]
 unfold a6l
 rw [List.take_zero,b6A,b6J,b5F (by rw [hz]; exact b4H _),b4M]
def e2g (a:List (SV U)):Option (Q1 U):=match a with | [.int .u32 x,.int .i64 n]=>some ⟨[0<=n,n<=4],[],.str (leB x n.toNat)⟩ | _=>none
def e2v:Env:=Neq.a1R 75 e2g
theorem b2a:l7 e2v:=b9s.a1R Tryz.call75 fun (args:List (SV U)) (q:Q1 U) (h:e2g args=some q) ho=>by
 unfold e2g at h
 split at h
 . rename_i x n
   cases h
   exact a05 (an:=d5u 75) b9s (l5 b9s Q9 d5u 2) Tryz.func75 (k:=.str) (x:=leB x n.toNat) trivial (kc (e6w x n ho.1 ho.2.1) (by kernel_rfl)) 0
 . cases h
def e55:Nat->Ann:=fun | 85=>⟨20,fun | 3=>some ⟨[0],[.slot 3 (.int .u32),.slot 4 (.int .i64)]⟩ | _=>none,nn⟩ | _=>⟨0,nn,nn⟩
def e0j (x:Int) (s:Str) (x_1:Int):=IntKind.u32.wrap (↑(BitVec.ofInt IntKind.u32.bits (IntKind.u32.wrap (x * 2 ^ min (Int.toNat (8:Int)) IntKind.u32.bits)) ||| BitVec.ofInt IntKind.u32.bits (↑(ix s x_1).toNat:Int)).toNat:Int)
def Vrd (s:Str) (Q:Int->Prop):Prop :=
i6 ((↑(List.length s):Int)-1)/\∃ (I:Int->Int->Prop),∃ (m:Int->Int->Nat),I (0:Int) ((↑(List.length s):Int)-1)/\∀ (x x_1:Int),I x x_1->((0:Int)<=x_1->(0:Int)<=8/\(0:Int)<=x_1/\x_1<(↑(List.length s):Int)/\i6 (x_1-1)/\I (e0j x s x_1) (x_1-1)/\m (e0j x s x_1) (x_1-1)<m x x_1)/\(¬(0:Int)<=x_1->Q x)
theorem prd (s:Str) (hs:s.length<=1000000):Vrd s (fun y0=>y0=R6 s):=by
 unfold Vrd e0j
 refine ⟨⟨by omega,by omega⟩,fun x i=>-1<=i/\i<s.length/\x=R6 (s.drop (i+1).toNat),fun _ i=>(i+1).toNat,⟨by omega,by omega,?_⟩,?_⟩
 . rw [b5F (by omega)]; rfl
 rintro x i ⟨i0,i1,hx⟩
 refine ⟨fun h=>⟨by decide,h,by omega,⟨by omega,by omega⟩,⟨by omega,by omega,?_⟩,by dsimp only; omega⟩,fun h=>?_⟩
 . rw [d3g,hx,d4f h i1]
   congr 2
   omega
 . rw [hx,show (i+1).toNat=0 by omega]; rfl
def crd (a:List (SV U)):Option (Q1 U):=match a with | [.str s]=>some ⟨[List.length (α:=UInt8) s<=1000000],[],.int .u32 (R6 s)⟩ | _=>none
def Nrd:Env:=e2v.a1R 85 crd
theorem b89:l7 Nrd:=b2a.a1R Tryz.call85 fun (args:List (SV U)) (q:Q1 U) (h:crd args=some q) ho=>by
 unfold crd at h
 split at h
 . rename_i s
   cases h
   exact a05 (an:=e55 85) b2a (l5 b2a Q9 e55 2) Tryz.func85 (k:=.int .u32) (x:=R6 s) trivial (kc (prd s ho.1) (by kernel_rfl)) 0
 . cases h
def d7f:Nat->Ann:=fun | 76=>⟨40,fun | 3=>some ⟨[8,9],[.slot 3 (.int .u32),.slot 10 (.int .i64)]⟩ | 6=>some ⟨[5,8,9,10,15],[.slot 3 (.int .u32),.slot 16 (.int .i64)]⟩ | 10=>some ⟨[5,8,9,10,15,16],[.slot 3 (.int .u32),.slot 25 (.int .i64)]⟩ | _=>none,nn⟩ | _=>⟨0,nn,nn⟩
def c89 (x:Int):=IntKind.u32.wrap (↑(BitVec.ofInt IntKind.u32.bits (x.fdiv ((2:Int) ^ min (Int.toNat (1:Int)) IntKind.u32.bits)) ^^^ BitVec.ofInt IntKind.u32.bits (3988292384:Int)).toNat:Int)
def e2n (l:List Str) (Q:Int->Prop):Prop :=
∃ (I:Int->Int->Prop),∃ (m:Int->Int->Nat),I (4294967295:Int) (0:Int)/\∀ (x x_1:Int),I x x_1->(x_1<(↑l.length:Int)->(0:Int)<=x_1/\x_1<(↑l.length:Int)/\∃ (I_1:Int->Int->Prop),∃ (m_1:Int->Int->Nat),I_1 x (0:Int)/\∀ (x_2 x_3:Int),I_1 x_2 x_3->(x_3<(↑(ix l x_1).length:Int)->(0:Int)<=x_3/\x_3<(↑(ix l x_1).length:Int)/\∃ (I:Int->Int->Prop),∃ (m:Int->Int->Nat),I (IntKind.u32.wrap (↑(BitVec.ofInt IntKind.u32.bits x_2 ^^^ BitVec.ofInt IntKind.u32.bits (↑(ix (ix l x_1) x_3).toNat:Int)).toNat:Int)) (0:Int)/\∀ (x x_4:Int),I x x_4->(x_4<8->(0:Int)<=1/\(IntKind.u32.wrap (↑(BitVec.ofInt IntKind.u32.bits x &&& BitVec.ofInt IntKind.u32.bits (1:Int)).toNat:Int)=1->i6 (x_4+1)/\I (c89 x) (x_4+1)/\m (c89 x) (x_4+1)<m x x_4)/\(¬IntKind.u32.wrap (↑(BitVec.ofInt IntKind.u32.bits x &&& BitVec.ofInt IntKind.u32.bits (1:Int)).toNat:Int)=1->i6 (x_4+1)/\I (x.fdiv ((2:Int) ^ min (Int.toNat (1:Int)) IntKind.u32.bits)) (x_4+1)/\m (x.fdiv ((2:Int) ^ min (Int.toNat (1:Int)) IntKind.u32.bits)) (x_4+1)<m x x_4))/\(¬x_4<8->i6 (x_3+1)/\I_1 x (x_3+1)/\m_1 x (x_3+1)<m_1 x_2 x_3))/\(¬x_3<(↑(ix l x_1).length:Int)->i6 (x_1+1)/\I x_2 (x_1+1)/\m x_2 (x_1+1)<m x x_1))/\(¬x_1<(↑l.length:Int)->Q (IntKind.u32.wrap (↑(BitVec.ofInt IntKind.u32.bits (if IntKind.u32.signed=true then (-1:Int) else IntKind.u32.max) ^^^ BitVec.ofInt IntKind.u32.bits x).toNat:Int)))
theorem e6p (l:List Str) (hl:SmL l):e2n l (fun y0=>y0=K7 l):=by
 unfold e2n c89
 obtain ⟨hl0,hl1⟩:=hl
 refine ⟨fun x i=>0<=i/\i<=l.length/\a32 x (l.drop i.toNat).flatten=a32 4294967295 l.flatten,fun _ i=>((l.length:Int)-i).toNat,⟨by omega,by omega,rfl⟩,?_⟩
 rintro x i ⟨i0,i1,hx⟩
 refine ⟨fun h=>?_,fun h=>?_⟩
 . have hp:=hl1 _ (Q4 i0 h)
   rw [H5 i0 h,b6C,b60] at hx
   generalize ix l i=p at hp hx ⊢
   refine ⟨i0,h,fun y j=>0<=j/\j<=p.length/\a32 y (p.drop j.toNat)=a32 x p,fun _ j=>((p.length:Int)-j).toNat,⟨by omega,by omega,rfl⟩,?_⟩
   rintro y j ⟨j0,j1,hy⟩
   refine ⟨fun h2=>?_,fun h2=>?_⟩
   . rw [H5 j0 h2,a32] at hy
     refine ⟨j0,h2,fun z k=>0<=k/\k<=8/\a68 (8-k).toNat z=c20 y (ix p j),fun _ k=>(8-k).toNat,⟨by omega,by omega,rfl⟩,?_⟩
     rintro z k ⟨k0,k1,hz⟩
     refine ⟨fun h3=>?_,fun h3=>?_⟩
     . rw [show (8-k).toNat=(8-(k+1)).toNat+1 by omega,a68] at hz
       refine ⟨by decide,fun hb=>⟨⟨by omega,by omega⟩,⟨by omega,by omega,?_⟩,by dsimp only; omega⟩,fun hb=>⟨⟨by omega,by omega⟩,⟨by omega,by omega,?_⟩,by dsimp only; omega⟩⟩
       . rw [<- hz,b06,if_pos hb]; rfl
       . rw [<- hz,b06,if_neg hb]; rfl
     . rw [show (8-k).toNat=0 by omega,a68] at hz
       exact ⟨⟨by omega,by omega⟩,⟨by omega,by omega,by rw [hz]; exact hy⟩,by dsimp only; omega⟩
   . rw [b5F (by omega),a32] at hy
     exact ⟨⟨by omega,by omega⟩,⟨by omega,by omega,by rw [hy]; exact hx⟩,by dsimp only; omega⟩
 . rw [b5F (by omega)] at hx
   have hx:x=a32 4294967295 l.flatten:=hx
   rw [hx]; rfl
def e0d (a:List (SV U)):Option (Q1 U):=match a with | [.sl 9 l]=>some ⟨[SmL l],[],.int .u32 (K7 l)⟩ | _=>none
def e3x:Env:=Nrd.a1R 76 e0d
theorem b42:l7 e3x:=b89.a1R Tryz.call76 fun (args:List (SV U)) (q:Q1 U) (h:e0d args=some q) ho=>by
 unfold e0d at h
 split at h
 . rename_i l
   cases h
   exact a05 (an:=d7f 76) b89 (l5 b89 Q9 d7f 2) Tryz.func76 (k:=.int .u32) (x:=K7 l) trivial (kc (e6p l ho.1) (by kernel_rfl)) 0
 . cases h
def d0c:Nat->Ann:=fun | 46=>⟨22,fun | 3=>some ⟨[6,7],[.slot 3 (.int .i64),.slot 8 (.int .i64)]⟩ | _=>none,nn⟩ | _=>⟨0,nn,nn⟩
def d6f (l:List Str) (Q:Int->Prop):Prop :=
∃ (I:Int->Int->Prop),∃ (m:Int->Int->Nat),I (0:Int) (0:Int)/\∀ (x x_1:Int),I x x_1->(x_1<(↑l.length:Int)->(0:Int)<=x_1/\x_1<(↑l.length:Int)/\((30000:Int)<(↑(ix l x_1).length:Int)->Q (0:Int))/\(¬(30000:Int)<(↑(ix l x_1).length:Int)->i6 ((7:Int)+(↑(ix l x_1).length:Int))/\i6 (x+((7:Int)+(↑(ix l x_1).length:Int)))/\i6 (x_1+1)/\I (x+((7:Int)+(↑(ix l x_1).length:Int))) (x_1+1)/\m (x+((7:Int)+(↑(ix l x_1).length:Int))) (x_1+1)<m x x_1))/\(¬x_1<(↑l.length:Int)->Q x)
theorem e3f (l:List Str) (hl:SmL l):d6f l (fun y0=>y0=z8 l):=by
 unfold d6f
 obtain ⟨hl0,hl1⟩:=hl
 refine ⟨fun x i=>0<=i/\i<=l.length/\0<=x/\x<=1000007 * i/\a1y x (l.drop i.toNat)=z8 l,fun _ i=>((l.length:Int)-i).toNat,⟨by omega,by omega,by omega,by omega,rfl⟩,?_⟩
 rintro x i ⟨i0,i1,x0,x1,hx⟩
 refine ⟨fun h=>?_,fun h=>?_⟩
 . have hp:=hl1 _ (Q4 i0 h)
   rw [H5 i0 h,a1y] at hx
   generalize ix l i=p at hp hx ⊢
   refine ⟨i0,h,fun hb=>?_,fun hb=>?_⟩
   . rw [if_pos hb] at hx; exact hx
   . rw [if_neg hb] at hx
     exact ⟨⟨by omega,by omega⟩,⟨by omega,by omega⟩,⟨by omega,by omega⟩,⟨by omega,by omega,by omega,by omega,hx⟩,by dsimp only; omega⟩
 . rw [b5F (by omega),a1y] at hx
   exact hx
def c5v (a:List (SV U)):Option (Q1 U):=match a with | [.sl 9 l]=>some ⟨[SmL l],[],.int .i64 (z8 l)⟩ | _=>none
def d7j:Env:=e3x.a1R 46 c5v
theorem a83:l7 d7j:=b42.a1R Tryz.call46 fun (args:List (SV U)) (q:Q1 U) (h:c5v args=some q) ho=>by
 unfold c5v at h
 split at h
 . rename_i l
   cases h
   exact a05 (an:=d0c 46) b42 (l5 b42 Q9 d0c 2) Tryz.func46 (k:=.int .i64) (x:=z8 l) trivial (kc (e3f l ho.1) (by kernel_rfl)) 0
 . cases h
end Go.Proofs.YtckpdliipjekgaaGreat
end
section
namespace Go.Proofs.YtckpdliipjekgaaGreat
open Go Go.Wk Go.Wl Go.Rx Go.Wa Go.Wa
theorem b77 (s:Str):0<=leN (s.take 3)/\leN (s.take 3)<16777216:=by
 refine ⟨Y5 _,?_⟩
 have h:=a5y (s.take 3)
 have hl:(s.take 3).length<=3:=by rw [b3U]; omega
 generalize (s.take 3).length=k at h hl
 match k,hl with
 | 0,_=>have h:leN (s.take 3)<1:=h; omega
 | 1,_=>have h:leN (s.take 3)<256:=h; omega
 | 2,_=>have h:leN (s.take 3)<65536:=h; omega
 | 3,_=>have h:leN (s.take 3)<16777216:=h; omega
def C7 (s:Str):Int:=leN (s.take 3)-1
theorem d1x (s:Str):IntKind.i64.wrap (R6 (s.take (Int.toNat 3)))-1=C7 s:=by
 obtain ⟨h0,h1⟩:=b77 s
 show IntKind.i64.wrap (IntKind.u32.wrap (leN (s.take 3)))-1=leN (s.take 3)-1
 rw [W3,I0]
 omega
def C4 (s:Str):Str×Str×Err :=
 if (s.length:Int)<7 then ([],[],.w 144 [] (.no 4)) else
 if C7 s<0 ∨ 30000<C7 s then ([],[],.w 144 [] (.no 11)) else
 if (s.length:Int)-7<C7 s then ([],[],.w 144 [] (.no 4)) else
 if K7 [s.take 3,(s.take (7+C7 s).toNat).drop 7]≠R6 ((s.take 7).drop 3) then ([],[],.w 144 [] (.no 11)) else
 ((s.take (7+C7 s).toNat).drop 7,s.drop (7+C7 s).toNat,.nil)
def H7 (r:Str):Str:=leB ((r.length:Int)+1) 3
def B4 (r:Str):Str:=H7 r++leB (K7 [H7 r,r]) 4++r
theorem a0e (r:Str):(B4 r).length=7+r.length:=by
 unfold B4 H7
 simp only [b3P,D7]
def a67:Str->List Str->Str×Err
 | x,[]=>(x,.nil)
 | x,r::t=>if 30000<(r.length:Int) then ([],.no 4) else a67 (x++B4 r) t
abbrev l6 (l:List Str):Str×Err:=a67 [] l
def ShL (l:List Str):Prop:=∀ r∈l,r.length<=30000
instance (l:List Str):Decidable (ShL l):=inferInstanceAs (Decidable (∀ r∈l,r.length<=30000))
def i7 (l:List Str):Str:=(l.map B4).flatten
theorem a3l (a b:List Str):i7 (a++b)=i7 a++i7 b:=by
 unfold i7; rw [b6W,List.flatten_append]
theorem b48:∀ (l:List Str) (x:Str),a67 x l=if ShL l then (x++i7 l,.nil) else ([],.no 4)
 | [],x=>by
  rw [if_pos (show ShL [] from fun _ h=>absurd h (b6K))]
  show (x,Err.nil)=(x++[],Err.nil)
  rw [b4M]
 | r::t,x=>by
  unfold a67
  by_cases h:30000<(r.length:Int)
  . rw [if_pos h,if_neg fun hs=>absurd (hs r (b6B ..)) (by omega)]
  . rw [if_neg h,b48 t]
    by_cases ht:ShL t
    . rw [if_pos ht,if_pos (show ShL (r::t) from fun s hs=>by
        rcases b4D.1 hs with e | hs
        . subst e; omega
        . exact ht s hs),b4L]
      rfl
    . rw [if_neg ht,if_neg fun hs=>ht fun s h'=>hs s (b5O _ h')]
theorem a4l (l:List Str):l6 l=if ShL l then (i7 l,.nil) else ([],.no 4):=b48 l []
theorem c4i (l:List Str):(l6 l).2=.nil ∨ ∃ n,(l6 l).2=.no n:=by
 rw [a4l]
 split
 . exact .inl rfl
 . exact .inr ⟨_,rfl⟩
theorem b5e:∀ (l:List Str) (x:Int),ShL l->a1y x l=x+((i7 l).length:Int)
 | [],x,_=>by show x=x+((([]:Str).length:Nat):Int); rw [b5R]; omega
 | r::t,x,h=>by
  have hr:=h r (b6B ..)
  unfold a1y
  rw [if_neg (by omega),b5e t _ fun s hs=>h s (b5O _ hs)]
  have e:i7 (r::t)=B4 r++i7 t:=by unfold i7; rw [b4W,b6C]
  rw [e,b3P,a0e]; omega
theorem X2 {l:List Str} (h:ShL l):z8 l=((i7 l).length:Int):=by rw [z8,b5e l 0 h]; omega
theorem e5i {r:Str} (h:r.length<=30000):leB (IntKind.u32.wrap ((r.length:Int)+1)) (Int.toNat 3)=H7 r:=by
 rw [W3,Int.emod_eq_of_lt (by omega) (by omega)]; rfl
theorem a7a (r:Str):(H7 r).length=3:=D7 _ _
theorem e32 {a b:Str} (ha:a.length<=1000000) (hb:b.length<=1000000):SmL [a,b]:=by
 refine ⟨by rw [b4F,b4F,b5R]; decide,fun s hs=>?_⟩
 rcases b4D.1 hs with e | hs
 . subst e; exact ha
 . rcases b4D.1 hs with e | hs
   . subst e; exact hb
   . exact absurd hs b6K
theorem a48 {s:Str} (h:(C4 s).2.2=.nil):(C4 s).2.1.length+7<=s.length/\(C4 s).1.length<=30000/\s.length=7+(C4 s).1.length+(C4 s).2.1.length:=by
 unfold C4 at h ⊢
 by_cases h1:(s.length:Int)<7
 . rw [if_pos h1] at h; simp at h
 rw [if_neg h1] at h ⊢
 by_cases h2:C7 s<0 ∨ 30000<C7 s
 . rw [if_pos h2] at h; simp at h
 rw [if_neg h2] at h ⊢
 by_cases h3:(s.length:Int)-7<C7 s
 . rw [if_pos h3] at h; simp at h
 rw [if_neg h3] at h ⊢
 split at h
 . simp at h
 . rename_i h4
   rw [if_neg h4]
   simp only [b3W,b3U]
   omega
def o4 (s:Str):List Str:=if _:(C4 s).2.2=.nil then (C4 s).1::o4 (C4 s).2.1 else []
termination_by s.length
decreasing_by have:=(a48 ‹_›).1; omega
def D8 (s:Str):Str:=if _:(C4 s).2.2=.nil then D8 (C4 s).2.1 else s
termination_by s.length
decreasing_by have:=(a48 ‹_›).1; omega
theorem U0 {s:Str} (h:(C4 s).2.2=.nil):o4 s=(C4 s).1::o4 (C4 s).2.1:=by rw [o4,dif_pos h]
theorem P2 {s:Str} (h:(C4 s).2.2≠.nil):o4 s=[]:=by rw [o4,dif_neg h]
theorem U3 {s:Str} (h:(C4 s).2.2=.nil):D8 s=D8 (C4 s).2.1:=by rw [D8,dif_pos h]
theorem U2 {s:Str} (h:(C4 s).2.2≠.nil):D8 s=s:=by rw [D8,dif_neg h]
theorem c5l (s:Str):(C4 s).2.2=.nil ∨ (C4 s).2.2=.w 144 [] (.no 4) ∨ (C4 s).2.2=.w 144 [] (.no 11):=by
 unfold C4
 split
 . exact .inr (.inl rfl)
 split
 . exact .inr (.inr rfl)
 split
 . exact .inr (.inl rfl)
 split
 . exact .inr (.inr rfl)
 . exact .inl rfl
theorem c00 (s:Str):(Err.is (C4 s).2.2 11 ∨ Err.is (C4 s).2.2 4)↔(C4 s).2.2≠.nil:=by
 rcases c5l s with h | h | h <;> rw [h] <;> simp [Err.is,Err.num]
end Go.Proofs.YtckpdliipjekgaaGreat
end
section
namespace Go.Proofs.YtckpdliipjekgaaGreat
open Go Go.Wk Go.Wl Go.Rx Go.Wa 
attribute [local irreducible] o9
def d6t:Nat->Ann:=fun | 82=>⟨58,nn,nn⟩ | _=>⟨0,nn,nn⟩
def a3c (s:Str):=IntKind.i64.wrap (R6 (List.take (Int.toNat (3:Int)) s))-1
def W4  := Int.toNat (3:Int)
def b54 (s:Str):=List.take ((7:Int)+(a3c s)).toNat s
def a65  := Int.toNat (7:Int)
def e5j (s:Str) (Q:Str->Str->Err->Prop):Prop :=
((↑(List.length s):Int)<7->Q [] [] (Err.w (144:Nat) [] (Err.no (4:Int))))/\(¬(↑(List.length s):Int)<7->(0:Int)<=3/\(3:Int)<=(↑(List.length s):Int)/\(List.take W4 s).length<=1000000/\i6 (a3c s)/\(IntKind.i64.wrap (R6 (List.take W4 s))-1<0 ∨ (30000:Int)<IntKind.i64.wrap (R6 (List.take W4 s))-1->Q [] [] (Err.w (144:Nat) [] (Err.no (11:Int))))/\(¬(IntKind.i64.wrap (R6 (List.take W4 s))-1<0 ∨ (30000:Int)<IntKind.i64.wrap (R6 (List.take W4 s))-1)->i6 ((↑(List.length s):Int)-7)/\((↑(List.length s):Int)-7<IntKind.i64.wrap (R6 (List.take W4 s))-1->Q [] [] (Err.w (144:Nat) [] (Err.no (4:Int))))/\(¬(↑(List.length s):Int)-7<IntKind.i64.wrap (R6 (List.take W4 s))-1->i6 ((7:Int)+(a3c s))/\(0:Int)<=7/\(7:Int)<=(7:Int)+(a3c s)/\(7:Int)+(a3c s)<=(↑(List.length s):Int)/\((0:Int)<=3/\(3:Int)<=(↑(List.length s):Int))/\SmL [List.take W4 s,List.drop a65 (b54 s)]/\((0:Int)<=3/\(3:Int)<=7/\(7:Int)<=(↑(List.length s):Int))/\(List.drop W4 (List.take a65 s)).length<=1000000/\(K7 [List.take W4 s,List.drop a65 (b54 s)]≠R6 (List.drop W4 (List.take a65 s))->Q [] [] (Err.w (144:Nat) [] (Err.no (11:Int))))/\(¬K7 [List.take W4 s,List.drop a65 (b54 s)]≠R6 (List.drop W4 (List.take a65 s))->i6 ((7:Int)+(a3c s))/\(0:Int)<=(7:Int)+(a3c s)/\(7:Int)+(a3c s)<=(↑(List.length s):Int)/\Q (List.drop a65 (b54 s)) (List.drop ((7:Int)+(a3c s)).toNat s) Err.nil))))
theorem e79 (s:Str) (hs:s.length<=100000000):e5j s (fun y0 y1 y2=>y0=(C4 s).1/\y1=(C4 s).2.1/\y2=(C4 s).2.2):=by
 unfold e5j a65 b54 W4 a3c C4
 rw [d1x]
 have e3:Int.toNat 3=3:=rfl
 have e7:Int.toNat 7=7:=rfl
 refine ⟨fun h=>?_,fun h=>?_⟩
 . rw [if_pos h]; exact ⟨rfl,rfl,rfl⟩
 rw [if_neg h]
 obtain ⟨t0,t1⟩:=b77 s
 have hL:C7 s=leN (s.take 3)-1:=rfl
 refine ⟨by decide,by omega,by rw [b3U]; omega,⟨by omega,by omega⟩,fun h2=>?_,fun h2=>?_⟩
 . rw [if_pos h2]; exact ⟨rfl,rfl,rfl⟩
 rw [if_neg h2]
 refine ⟨⟨by omega,by omega⟩,fun h3=>?_,fun h3=>?_⟩
 . rw [if_pos h3]; exact ⟨rfl,rfl,rfl⟩
 rw [if_neg h3]
 refine ⟨⟨by omega,by omega⟩,by decide,by omega,by omega,⟨by decide,by omega⟩,e32 (by rw [b3U]; omega) (by rw [b3W,b3U]; omega),⟨by decide,by decide,by omega⟩,by rw [b3W,b3U]; omega,fun h4=>?_,fun h4=>?_⟩
 . have h4:K7 [s.take 3,(s.take (7+C7 s).toNat).drop 7]≠R6 ((s.take 7).drop 3):=h4
   rw [if_pos h4]; exact ⟨rfl,rfl,rfl⟩
 have h4:¬ K7 [s.take 3,(s.take (7+C7 s).toNat).drop 7]≠R6 ((s.take 7).drop 3):=h4
 rw [if_neg h4]
 exact ⟨⟨by omega,by omega⟩,by omega,by omega,rfl,rfl,rfl⟩
def e0t (a:List (SV U)) (nx:Nat):Option (CR U):=match a with | [.str s]=>some ⟨[List.length (α:=UInt8) s<=100000000],[],.tup [.str ((C4 s).1),.str ((C4 s).2.1),.err ((C4 s).2.2)],[]⟩ | _=>none
def e5u:Env:=d7j.a2A 82 e0t
theorem b3c:l7 e5u:=a83.a2A Tryz.call82 fun (args:List (SV U)) nx (c:CR U) (h:e0t args nx=some c) hp ho=>by
 unfold e0t at h
 split at h
 . rename_i s
   cases h
   exact e7n (an:=d6t 82) a83 (l5 a83 Q9 d6t 2) Tryz.func82 (k1:=.str) (k2:=.str) (k3:=.err) (x1:=(C4 s).1) (x2:=(C4 s).2.1) (x3:=(C4 s).2.2) rfl rfl hp (kc (e79 s ho.1) (by kernel_rfl))
 . cases h
def c8f:Nat->Ann:=fun | 52=>⟨39,fun | 3=>some ⟨[8,9],[.slot 4 (.acc 5),.slot 10 (.int .i64)]⟩ | _=>none,nn⟩ | _=>⟨0,nn,nn⟩
def U6 (l:List Str) (x_1:Int):=IntKind.u32.wrap ((↑(ix l x_1).length:Int)+1)
def V9  := Int.toNat (3:Int)
def d5t (l:List Str) (Q:Str->Err->Prop):Prop :=
∃ (I:List UInt8->Int->Prop),∃ (m:List UInt8->Int->Nat),I [] (0:Int)/\∀ (x:List UInt8) (x_1:Int),I x x_1->(x_1<(↑l.length:Int)->(0:Int)<=x_1/\x_1<(↑l.length:Int)/\((30000:Int)<(↑(ix l x_1).length:Int)->Q [] (Err.no (4:Int)))/\(¬(30000:Int)<(↑(ix l x_1).length:Int)->i6 ((↑(ix l x_1).length:Int)+1)/\(0:Int)<=3/\(3:Int)<=4/\(x.length+List.length (leB (U6 l x_1) V9)) * (some (1:Nat)).getD (0:Nat)<=140737488355328/\SmL [leB (U6 l x_1) V9,ix l x_1]/\(0:Int)<=4/\(4:Int)<=4/\((x++leB (U6 l x_1) V9).length+List.length (leB (K7 [leB (U6 l x_1) V9,ix l x_1]) (Int.toNat (4:Int)))) * (some (1:Nat)).getD (0:Nat)<=140737488355328/\((x++leB (U6 l x_1) V9++leB (K7 [leB (U6 l x_1) V9,ix l x_1]) (Int.toNat (4:Int))).length+(ix l x_1).length) * (some (1:Nat)).getD (0:Nat)<=140737488355328/\i6 (x_1+1)/\I (x++leB (U6 l x_1) V9++leB (K7 [leB (U6 l x_1) V9,ix l x_1]) (Int.toNat (4:Int))++ix l x_1) (x_1+1)/\m (x++leB (U6 l x_1) V9++leB (K7 [leB (U6 l x_1) V9,ix l x_1]) (Int.toNat (4:Int))++ix l x_1) (x_1+1)<m x x_1))/\(¬x_1<(↑l.length:Int)->Q x Err.nil)
theorem e3y (l:List Str) (hl:SmL l):d5t l (fun y0 y1=>y0=(l6 l).1/\y1=(l6 l).2):=by
 unfold d5t V9 U6
 obtain ⟨hl0,hl1⟩:=hl
 refine ⟨fun x i=>0<=i/\i<=l.length/\(x.length:Int)<=40000 * i/\a67 x (l.drop i.toNat)=l6 l,fun _ i=>((l.length:Int)-i).toNat,⟨by omega,by omega,by decide,rfl⟩,?_⟩
 rintro x i ⟨i0,i1,x1,hx⟩
 refine ⟨fun h=>?_,fun h=>?_⟩
 . have hp:=hl1 _ (Q4 i0 h)
   rw [H5 i0 h,a67] at hx
   generalize ix l i=p at hp hx ⊢
   refine ⟨i0,h,fun hb=>?_,fun hb=>?_⟩
   . rw [if_pos hb] at hx; rw [<- hx]; exact ⟨rfl,rfl⟩
   . rw [if_neg hb] at hx
     rw [e5i (by omega)]
     have e1:=a7a p
     have e2:(leB (K7 [H7 p,p]) (Int.toNat 4)).length=4:=D7 _ _
     have e3:(some (1:Nat)).getD 0=1:=rfl
     refine ⟨⟨by omega,by omega⟩,by decide,by decide,?_,e32 (by omega) hp,by decide,by decide,?_,?_,⟨by omega,by omega⟩,⟨by omega,by omega,?_,?_⟩,by dsimp only; omega⟩
     . rw [e1,e3]; omega
     . rw [b3P,e1,e2,e3]; omega
     . rw [b3P,b3P,e1,e2,e3]; omega
     . rw [b3P,b3P,b3P,e1,e2]; omega
     . rw [<- hx]; unfold B4; rw [<- b4L,<- b4L]; rfl
 . rw [b5F (by omega)] at hx
   have hx:(x,Err.nil)=l6 l:=hx
   rw [<- hx]; exact ⟨rfl,rfl⟩
def c6y (a:List (SV U)):Option (Q1 U):=match a with | [.sl 9 l]=>some ⟨[SmL l],[],.tup [.str ((l6 l).1),.err ((l6 l).2)]⟩ | _=>none
def d6k:Env:=e5u.a1R 52 c6y
theorem a8s:l7 d6k:=b3c.a1R Tryz.call52 fun (args:List (SV U)) (q:Q1 U) (h:c6y args=some q) ho=>by
 unfold c6y at h
 split at h
 . rename_i l
   cases h
   exact d6y (an:=c8f 52) b3c (l5 b3c Q9 c8f 2) Tryz.func52 (k1:=.str) (k2:=.err) (x1:=(l6 l).1) (x2:=(l6 l).2) trivial (c4i l) (kc (e3y l ho.1) (by kernel_rfl)) 0
 . cases h
def c8u:Nat->Ann:=fun | 64=>⟨35,fun | 3=>some ⟨[0],[.slot 4 (.acc 9),.slot 5 .str]⟩ | _=>none,nn⟩ | _=>⟨0,nn,nn⟩
def d7h (s:Str) (Q:List Str->Int->Prop):Prop :=
∃ (I:List (List UInt8)->List UInt8->Prop),∃ (m:List (List UInt8)->List UInt8->Nat),I [] s/\∀ (x:List (List UInt8)) (x_1:List UInt8),I x x_1->x_1.length<=100000000/\((C4 x_1).snd.snd.is (11:Int) ∨ (C4 x_1).snd.snd.is (4:Int)->i6 ((↑(List.length s):Int)-(↑x_1.length:Int))/\Q x ((↑(List.length s):Int)-(↑x_1.length:Int)))/\(¬((C4 x_1).snd.snd.is (11:Int) ∨ (C4 x_1).snd.snd.is (4:Int))->(x.length+[(C4 x_1).fst].length) * (some (16:Nat)).getD (0:Nat)<=140737488355328/\I (x++[(C4 x_1).fst]) (C4 x_1).snd.fst/\m (x++[(C4 x_1).fst]) (C4 x_1).snd.fst<m x x_1)
theorem e5r (s:Str) (hs:s.length<=100000000):d7h s (fun y0 y1=>y0=o4 s/\y1=((s.length:Int)-((D8 s).length:Int))):=by
 unfold d7h
 refine ⟨fun x r=>x++o4 r=o4 s/\D8 r=D8 s/\x.length+r.length<=s.length,fun _ r=>r.length,⟨rfl,rfl,by show 0+_<=_; omega⟩,?_⟩
 rintro x r ⟨h0,h1,h2⟩
 refine ⟨by omega,fun he=>?_,fun he=>?_⟩
 . have he:=(c00 r).1 he
   rw [P2 he,b4M] at h0
   rw [U2 he] at h1
   rw [h0,<- h1]
   exact ⟨⟨by omega,by omega⟩,rfl,rfl⟩
 . have he:=b4N.1 (fun h=>he ((c00 r).2 h))
   obtain ⟨g1,g2,g3⟩:=a48 he
   rw [U0 he] at h0
   rw [U3 he] at h1
   refine ⟨?_,⟨?_,h1,?_⟩,by dsimp only; omega⟩
   . have e:(some 16).getD 0=16:=rfl
     rw [b4Y,e]; omega
   . rw [b4L]; exact h0
   . rw [b3P,b4Y]; omega
def c6e (a:List (SV U)) (nx:Nat):Option (CR U):=match a with | [.str s]=>some ⟨[List.length (α:=UInt8) s<=100000000],[],.tup [.acc nx,.int .i64 ((s.length:Int)-((D8 s).length:Int))],[.ac 9 (o4 s)]⟩ | _=>none
def c52:Env:=d6k.a2A 64 c6e
theorem a8n:l7 c52:=a8s.a2A Tryz.call64 fun (args:List (SV U)) nx (c:CR U) (h:c6e args nx=some c) hp ho=>by
 unfold c6e at h
 split at h
 . rename_i s
   cases h
   exact e4r (an:=c8u 64) a8s (l5 a8s Q9 c8u 2) Tryz.func64 (k1:=.acc 9) (k2:=.int .i64) (x1:=o4 s) (x2:=((s.length:Int)-((D8 s).length:Int))) rfl hp (kc (e5r s ho.1) (by kernel_rfl))
 . cases h
end Go.Proofs.YtckpdliipjekgaaGreat
end
section
namespace Go.Proofs.YtckpdliipjekgaaGreat
open Go Go.Wk Go.Wl Go.Rx Go.Wa Go.Wa
def hdT (b:Str) (at_:Int):Int×Int×Int :=
 if D2 (b.take 8)<1 ∨ 1099511627776<D2 (b.take 8) ∨ (D2 (b.take 8)).tmod 2≠at_ ∨ 1<D2 ((b.take 9).drop 8) ∨ b≠q5 (D2 (b.take 8)) (D2 ((b.take 9).drop 8)) (D2 ((b.take 13).drop 9)) then (0,0,0)
 else (D2 (b.take 8),D2 ((b.take 9).drop 8),D2 ((b.take 13).drop 9))
def hdA (x:Dk) (at_:Int):Int×Int×Int×Err :=
 if (x.read at_).2=0 then ((hdT (x.read at_).1 at_).1,(hdT (x.read at_).1 at_).2.1,(hdT (x.read at_).1 at_).2.2,.nil) else (0,0,0,inE sHd (erN (x.read at_).2))
theorem a9c {x:Dk} (ok:x.Ok) {a:Int} (h:(x.read a).2=0):(x.read a).1.length=256:=by
 unfold Dk.read at h ⊢
 split at h
 . simp at h
 . rename_i hw
   split at h
   . simp at h
   . rename_i ho
     simp only [hw,ho]
     unfold Dk.a0I at hw
     cases e:s9 x.fresh a with
     | some s=>exact (M2 ok e).1
     | none =>
      split at hw
      . simp at hw
      . refine ok.len _ (Q4 ?_ ?_) <;> omega
theorem c1q (b:Str):i6 (D2 b):=by
 unfold D2
 rw [I0]
 exact ⟨by omega,by omega⟩
def b66 (x:Dk):Err:=if x.a0B.length=0 then .no 1 else if x.a0B.length<6 then .no 2 else .nil
theorem b2p {x:Dk} (h:1<=x.a0B.length) (h6:x.a0B.length<6):b66 x=.no 2:=by
 unfold b66
 rw [if_neg (by omega),if_pos h6]
theorem a5b {x:Dk} (h6:6<=x.a0B.length):b66 x=.nil:=by
 unfold b66
 rw [if_neg (by omega),if_neg (by omega)]
def J4 (x:Dk):Err×Dk :=
 if b66 x≠.nil then (b66 x,x) else
 if (a8 x 0 (o8 (List.replicate 512 0))).1≠.nil then a8 x 0 (o8 (List.replicate 512 0)) else
 a8 (a8 x 0 (o8 (List.replicate 512 0))).2 1 (o8 (q5 1 0 0))
end Go.Proofs.YtckpdliipjekgaaGreat
end
section
namespace Go.Proofs.YtckpdliipjekgaaGreat
open Go Go.Wk Go.Wl Go.Rx Go.Wa 
attribute [local irreducible] o9
def e3m:Nat->Ann:=fun | 61=>⟨60,nn,nn⟩ | _=>⟨0,nn,nn⟩
def a5o (x:Dk) (at_:Int):=List.drop (none.getD (0:Int)).toNat (List.take ((none.getD (0:Int)).toNat+((some (8:Int)).getD (↑(List.length (x.read at_).fst):Int)-none.getD (0:Int)).toNat) (x.read at_).fst)
def b4d (x:Dk) (at_:Int):=List.drop ((some (8:Int)).getD (0:Int)).toNat (List.take (((some (8:Int)).getD (0:Int)).toNat+((some (9:Int)).getD (↑(List.length (x.read at_).fst):Int)-(some (8:Int)).getD (0:Int)).toNat) (x.read at_).fst)
def c3v (x:Dk) (at_:Int):=List.drop ((some (9:Int)).getD (0:Int)).toNat (List.take (((some (9:Int)).getD (0:Int)).toNat+((some (13:Int)).getD (↑(List.length (x.read at_).fst):Int)-(some (9:Int)).getD (0:Int)).toNat) (x.read at_).fst)
def VhA (x:Dk) (at_:Int) (Q:Int->Int->Int->Err->Dk->Prop):Prop :=
x.Ok/\(erN (x.read at_).snd≠Err.nil->(erN (x.read at_).snd≠Err.nil->erN (x.read at_).snd=Err.no (erN (x.read at_).snd).n0)/\Q (0:Int) (0:Int) (0:Int) (inE ([104,101,97,100]:List UInt8) (erN (x.read at_).snd)) x)/\(¬erN (x.read at_).snd≠Err.nil->((0:Int)<=8/\(8:Int)<=(↑(List.length (x.read at_).fst):Int))/\(a5o x at_).length<=100000/\((0:Int)<=8/\(8:Int)<=9/\(9:Int)<=(↑(List.length (x.read at_).fst):Int))/\(b4d x at_).length<=100000/\((0:Int)<=9/\(9:Int)<=13/\(13:Int)<=(↑(List.length (x.read at_).fst):Int))/\(c3v x at_).length<=100000/\(¬(D2 (a5o x at_)<1 ∨ (1099511627776:Int)<D2 (a5o x at_))->(2:Int)≠0)/\(((D2 (a5o x at_)<1 ∨ (1099511627776:Int)<D2 (a5o x at_)) ∨ (D2 (a5o x at_)).tmod (2:Int)≠at_) ∨ (1:Int)<D2 (b4d x at_)->Q (0:Int) (0:Int) (0:Int) Err.nil x)/\(¬(((D2 (a5o x at_)<1 ∨ (1099511627776:Int)<D2 (a5o x at_)) ∨ (D2 (a5o x at_)).tmod (2:Int)≠at_) ∨ (1:Int)<D2 (b4d x at_))->i6 (D2 (b4d x at_))/\i6 (D2 (c3v x at_))/\List.length (x.read at_).fst<=1000000/\(¬eqT (x.read at_).fst (q5 (D2 (a5o x at_)) (D2 (b4d x at_)) (D2 (c3v x at_)))=true->Q (0:Int) (0:Int) (0:Int) Err.nil x)/\(¬¬eqT (x.read at_).fst (q5 (D2 (a5o x at_)) (D2 (b4d x at_)) (D2 (c3v x at_)))=true->Q (D2 (a5o x at_)) (D2 (b4d x at_)) (D2 (c3v x at_)) Err.nil x)))
theorem phA (x:Dk) (at_:Int) (ok:x.Ok):VhA x at_ (fun y0 y1 y2 y3 y4=>y0=(hdA x at_).1/\y1=(hdA x at_).2.1/\y2=(hdA x at_).2.2.1/\y3=(hdA x at_).2.2.2/\y4=x):=by
 unfold VhA c3v b4d a5o hdA
 refine ⟨ok,fun h=>⟨fun _=>a7u h,?_⟩,fun h=>?_⟩
 . have hn:(x.read at_).2≠0:=fun e=>h (a2t.2 e)
   rw [if_neg hn]; exact ⟨rfl,rfl,rfl,rfl,rfl⟩
 have hz:(x.read at_).2=0:=a2t.1 (b4N.1 h)
 rw [if_pos hz]
 have hl:=a9c ok hz
 unfold hdT
 generalize (x.read at_).1=b at hl ⊢
 have e1:(List.drop ((none:Option Int).getD 0).toNat (List.take (((none:Option Int).getD 0).toNat+((some 8:Option Int).getD (b.length:Int)-(none:Option Int).getD 0).toNat) b))=b.take 8:=rfl
 have e2:(List.drop ((some 8:Option Int).getD 0).toNat (List.take (((some 8:Option Int).getD 0).toNat+((some 9:Option Int).getD (b.length:Int)-(some 8:Option Int).getD 0).toNat) b))=(b.take 9).drop 8:=rfl
 have e3:(List.drop ((some 9:Option Int).getD 0).toNat (List.take (((some 9:Option Int).getD 0).toNat+((some 13:Option Int).getD (b.length:Int)-(some 9:Option Int).getD 0).toNat) b))=(b.take 13).drop 9:=rfl
 rw [e1,e2,e3]
 have g2:=c1q ((b.take 9).drop 8)
 have g3:=c1q ((b.take 13).drop 9)
 have l1:(b.take 8).length<=100000:=by rw [b3U]; omega
 have l2:((b.take 9).drop 8).length<=100000:=by rw [b3W,b3U]; omega
 have l3:((b.take 13).drop 9).length<=100000:=by rw [b3W,b3U]; omega
 generalize D2 ((b.take 9).drop 8)=H at g2 ⊢
 generalize D2 ((b.take 13).drop 9)=M at g3 ⊢
 generalize D2 (b.take 8)=T
 refine ⟨⟨by decide,by omega⟩,l1,⟨by decide,by decide,by omega⟩,l2,⟨by decide,by decide,by omega⟩,l3,fun _=>by decide,fun h1=>?_,fun h1=>⟨g2,g3,by omega,fun h2=>?_,fun h2=>?_⟩⟩
 . rw [if_pos (by rcases h1 with ((h1 | h1) | h1) | h1
                  . exact .inl h1
                  . exact .inr (.inl h1)
                  . exact .inr (.inr (.inl h1))
                  . exact .inr (.inr (.inr (.inl h1))))]
   exact ⟨rfl,rfl,rfl,rfl,rfl⟩
 . rw [if_pos (.inr (.inr (.inr (.inr fun e=>h2 (b4R e)))))]
   exact ⟨rfl,rfl,rfl,rfl,rfl⟩
 . have h2:=b3V (b4N.1 h2)
   rw [if_neg (by rintro (e | e | e | e | e)
                  . exact h1 (.inl (.inl (.inl e)))
                  . exact h1 (.inl (.inl (.inr e)))
                  . exact h1 (.inl (.inr e))
                  . exact h1 (.inr e)
                  . exact e h2)]
   exact ⟨rfl,rfl,rfl,rfl,rfl⟩
def e69 (x:Dk) (at_:Int):FR U:=K8 c52 [Dk.Ok x] [(0,.ob (N:=U) 0 1 x)] 2 4 [.slot 0 (.int .i64),.slot 1 (.int .i64),.slot 2 (.int .i64),.slot 3 (.err),.tree [] [.ob (some 200) 0]] ((hdA x at_).1,(hdA x at_).2.1,(hdA x at_).2.2.1,(hdA x at_).2.2.2,(x,()),())
def fhA:FC U:=⟨[],[],fun a its=>match a,its with | [.ref 0 0,.int .i64 at_],[(0,.ob 0 1 x)]=>some (e69 x at_) | _,_=>none⟩
theorem e0m (args:List (SV U)) (its:a7 U) (r:FR U) (h:fhA.C args its=some r) (ho:n6 r.ob):r6 Tryz.prog U eT Gl 61 args its (2 * its.length) (fun k=>n6 r.hy->k r.v r.its r.n):=by
 unfold fhA at h
 simp only at h
 split at h
 . rename_i at_ x
   cases h
   exact G8 (an:=e3m 61) a8n (l5 a8n Q9 e3m 3) Tryz.func61 (n:=4) rfl (vs:=[.slot 0 (.int .i64),.slot 1 (.int .i64),.slot 2 (.int .i64),.slot 3 (.err),.tree [] [.ob (some 200) 0]]) (X:=((hdA x at_).1,(hdA x at_).2.1,(hdA x at_).2.2.1,(hdA x at_).2.2.2,(x,()),())) rfl (kc (phA x at_ ho.1) (by kernel_rfl))
 . cases h
def NhA:Env:=(c52.a0K 61 Tryz.f61).a0N 61 fhA
theorem b8a:l7 NhA:=(a8n.a0K Tryz.call61 Tryz.func61).a0N Tryz.call61 e0m
def d7g:Nat->Ann:=fun | 9=>⟨21,nn,nn⟩ | _=>⟨0,nn,nn⟩
def R5 (x:Dk):=a8 x (0:Int) (o8 (List.replicate (Int.toNat (512:Int)) (0:UInt8)))
def a99 (x:Dk):=a8 (R5 x).snd (1:Int) (o8 (q5 (1:Int) (0:Int) (0:Int)))
def e38 (x:Dk) (Q:Err->Dk->Prop):Prop :=
x.Ok/\((↑x.a0B.length:Int)=0->(Err.no (1:Int)≠Err.nil->Q (Err.no (1:Int)) x)/\(¬Err.no (1:Int)≠Err.nil->(0:Int)<=512/\(512:Int)=512/\(↑((some (1:Nat)).getD (0:Nat)):Int) * 512<=140737488355328/\x.Ok/\(List.replicate (Int.toNat (512:Int)) (0:UInt8)).length<=10000000/\(0:Int)<=0/\(0:Int)<=1000000/\((R5 x).fst≠Err.nil->Q (R5 x).fst (R5 x).snd)/\(¬(R5 x).fst≠Err.nil->i6 (0:Int)/\i6 (0:Int)/\(R5 x).snd.Ok/\List.length (q5 (1:Int) (0:Int) (0:Int))<=10000000/\(0:Int)<=1/\(1:Int)<=1000000/\Q (a99 x).fst (a99 x).snd)))/\(¬(↑x.a0B.length:Int)=0->x.Ok/\((↑x.a0B.length:Int)<6->(Err.no (2:Int)≠Err.nil->Q (Err.no (2:Int)) x)/\(¬Err.no (2:Int)≠Err.nil->(0:Int)<=512/\(512:Int)=512/\(↑((some (1:Nat)).getD (0:Nat)):Int) * 512<=140737488355328/\x.Ok/\(List.replicate (Int.toNat (512:Int)) (0:UInt8)).length<=10000000/\(0:Int)<=0/\(0:Int)<=1000000/\((R5 x).fst≠Err.nil->Q (R5 x).fst (R5 x).snd)/\(¬(R5 x).fst≠Err.nil->i6 (0:Int)/\i6 (0:Int)/\(R5 x).snd.Ok/\List.length (q5 (1:Int) (0:Int) (0:Int))<=10000000/\(0:Int)<=1/\(1:Int)<=1000000/\Q (a99 x).fst (a99 x).snd)))/\(¬(↑x.a0B.length:Int)<6->(Err.nil≠Err.nil->Q Err.nil x)/\(¬Err.nil≠Err.nil->(0:Int)<=512/\(512:Int)=512/\(↑((some (1:Nat)).getD (0:Nat)):Int) * 512<=140737488355328/\x.Ok/\(List.replicate (Int.toNat (512:Int)) (0:UInt8)).length<=10000000/\(0:Int)<=0/\(0:Int)<=1000000/\((R5 x).fst≠Err.nil->Q (R5 x).fst (R5 x).snd)/\(¬(R5 x).fst≠Err.nil->i6 (0:Int)/\i6 (0:Int)/\(R5 x).snd.Ok/\List.length (q5 (1:Int) (0:Int) (0:Int))<=10000000/\(0:Int)<=1/\(1:Int)<=1000000/\Q (a99 x).fst (a99 x).snd))))
theorem e6t (x:Dk) (ok:x.Ok):e38 x (fun y0 y1=>y0=(J4 x).1/\y1=(J4 x).2):=by
 unfold e38 a99 R5 J4
 have p:=ok.pos
 have e5:Int.toNat 512=512:=rfl
 rw [e5]
 generalize hs:o8 (List.replicate 512 0)=S0
 refine ⟨ok,fun h=>absurd h (by omega),fun h=>⟨ok,fun h6=>⟨fun _=>?_,fun hn=>absurd hn (by simp)⟩,fun h6=>⟨fun hn=>absurd rfl hn,fun _=>?_⟩⟩⟩
 . rw [b2p p (by omega),if_pos (by simp)]; exact ⟨rfl,rfl⟩
 rw [a5b (by omega),if_neg (by simp)]
 refine ⟨by decide,rfl,by decide,ok,by rw [b3X]; decide,by decide,by decide,fun h1=>?_,fun h1=>⟨⟨by decide,by decide⟩,⟨by decide,by decide⟩,V0 _ _ ok,by rw [a1o]; decide,by decide,by decide,?_⟩⟩
 . rw [if_pos h1]; exact ⟨rfl,rfl⟩
 . rw [if_neg h1]; exact ⟨rfl,rfl⟩
def e4c (x:Dk):FR U:=K8 NhA [Dk.Ok x] [(0,.ob (N:=U) 0 1 x)] 2 1 [.slot 0 (.err),.tree [] [.ob (some 200) 0]] ((J4 x).1,((J4 x).2,()),())
def e06:FC U:=⟨[],[],fun a its=>match a,its with | [.ref 0 0],[(0,.ob 0 1 x)]=>some (e4c x) | _,_=>none⟩
theorem d1n (args:List (SV U)) (its:a7 U) (r:FR U) (h:e06.C args its=some r) (ho:n6 r.ob):r6 Tryz.prog U eT Gl 9 args its (2 * its.length) (fun k=>n6 r.hy->k r.v r.its r.n):=by
 unfold e06 at h
 simp only at h
 split at h
 . rename_i x
   cases h
   exact G8 (an:=d7g 9) b8a (l5 b8a Q9 d7g 3) Tryz.func9 (n:=1) rfl (vs:=[.slot 0 (.err),.tree [] [.ob (some 200) 0]]) (X:=((J4 x).1,((J4 x).2,()),())) rfl (kc (e6t x ho.1) (by kernel_rfl))
 . cases h
def d7s:Env:=(NhA.a0K 9 Tryz.f9).a0N 9 e06
theorem b26:l7 d7s:=(b8a.a0K Tryz.call9 Tryz.func9).a0N Tryz.call9 d1n
end Go.Proofs.YtckpdliipjekgaaGreat
end
section
namespace Go.Proofs.YtckpdliipjekgaaGreat
open Go Go.Wk Go.Wl Go.Rx Go.Wa Go.Wa
def c9 (x:Dk):Int:=((x.a0B.length:Int)-2).tdiv 2
theorem F9 {x:Dk} (ok:x.Ok):0<=c9 x/\c9 x<=4095/\(2<=x.a0B.length->c9 x=((x.a0B.length:Int)-2) / 2):=by
 have h1:=ok.pos
 have h2:=ok.max
 unfold c9
 by_cases h:2<=x.a0B.length
 . have e:((x.a0B.length:Int)-2).tdiv 2=((x.a0B.length:Int)-2) / 2:=b5P (by omega)
   rw [e]
   exact ⟨by omega,by omega,fun _=>rfl⟩
 . have e:(x.a0B.length:Int)-2=-1:=by omega
   rw [e]
   exact ⟨by decide,by decide,fun h'=>absurd h' h⟩
def a1a (p q:Int×Int×Int):Int×Int×Int:=if p.1<q.1 then q else p
def a6i (x:Dk):Nat->Int->Int×Int×Int->Err×Int×Int×Int
 | 0,_,p=>(.nil,p)
 | k+1,a,p=>if (hdA x a).2.2.2≠.nil then ((hdA x a).2.2.2,0,0,0) else a6i x k (a+1) (a1a p ((hdA x a).1,(hdA x a).2.1,(hdA x a).2.2.1))
abbrev opH (x:Dk):Err×Int×Int×Int:=a6i x 2 0 (0,0,0)
def I9 (x:Dk):Nat->Int->Str->Str×Err
 | 0,_,b=>(b,.nil)
 | k+1,i,b=>if (x.read i).2=0 then I9 x k (i+1) (b++(x.read i).1) else ([],inE sRd (erN (x.read i).2))
def A0 (n:Int):Nat:=((n+255) / 256).toNat
def a6h (x:Dk) (p:Int×Int×Int):Err×Int×Int×Str×List Str :=
 if p.1=0 then (.no 10,0,0,[],[]) else if c9 x * 256<p.2.2 then (.no 10,0,0,[],[]) else
 if (I9 x (A0 p.2.2) (2+p.2.1 * c9 x) []).2≠.nil then ((I9 x (A0 p.2.2) (2+p.2.1 * c9 x) []).2,0,0,[],[]) else
 if (((I9 x (A0 p.2.2) (2+p.2.1 * c9 x) []).1.take p.2.2.toNat).length:Int)-((D8 ((I9 x (A0 p.2.2) (2+p.2.1 * c9 x) []).1.take p.2.2.toNat)).length:Int)≠p.2.2 then (.no 10,0,0,[],[]) else
 (.nil,p.1,p.2.1,(I9 x (A0 p.2.2) (2+p.2.1 * c9 x) []).1.take p.2.2.toNat,o4 ((I9 x (A0 p.2.2) (2+p.2.1 * c9 x) []).1.take p.2.2.toNat))
def b6a (x:Dk):Err×Int×Int×Str×List Str:=if (opH x).1≠.nil then ((opH x).1,0,0,[],[]) else a6h x (opH x).2
def s8 (x:Dk):Err×Int×Int×Str×List Str:=if b66 x≠.nil then (b66 x,0,0,[],[]) else b6a x
theorem b22 {b:Str} (h:b.length<=4):0<=D2 b/\D2 b<4294967296:=by
 have h0:=Y5 b
 have h1:=a5y b
 have e:leN b<4294967296:=by
  generalize b.length=k at h h1
  match k,h with
  | 0,_=>have h1:leN b<1:=h1; omega
  | 1,_=>have h1:leN b<256:=h1; omega
  | 2,_=>have h1:leN b<65536:=h1; omega
  | 3,_=>have h1:leN b<16777216:=h1; omega
  | 4,_=>have h1:leN b<4294967296:=h1; omega
 unfold D2
 rw [I0]; omega
theorem d8f (x:Dk) (a:Int):0<=(hdA x a).2.1/\(hdA x a).2.1<=1/\0<=(hdA x a).2.2.1/\(hdA x a).2.2.1<4294967296:=by
 unfold hdA
 split
 . unfold hdT
   split
   . exact ⟨by decide,by decide,by decide,by decide⟩
   . rename_i hn
     have g1:=b22 (b:=(((x.read a).1.take 9).drop 8)) (by rw [b3W,b3U]; omega)
     have g2:=b22 (b:=(((x.read a).1.take 13).drop 9)) (by rw [b3W,b3U]; omega)
     refine ⟨g1.1,?_,g2.1,g2.2⟩
     exact b9X.1 fun e=>hn (.inr (.inr (.inr (.inl e))))
 . exact ⟨b5G 0,show (0:Int)<=1 by decide,b5G 0,show (0:Int)<4294967296 by decide⟩
theorem c5k {n:Int} {b:Str}:List.drop ((none:Option Int).getD 0).toNat (List.take (((none:Option Int).getD 0).toNat+((some n:Option Int).getD (b.length:Int)-(none:Option Int).getD 0).toNat) b)=b.take n.toNat:=by
 show List.drop 0 (List.take (0+(n-0).toNat) b)=_
 rw [b6J,Int.sub_zero]; rfl
theorem c25 {n:Int} {l j:Nat} (h0:0<=n) (hl:l=256 * j):((l:Int)<n↔j<A0 n):=by
 unfold A0
 omega
theorem b59 {x:Dk} (ok:x.Ok) {h:Int} (h0:0<=h) (h1:h<=1):0<=h * c9 x/\h * c9 x<=4095:=by
 obtain ⟨g1,g2,_⟩:=F9 ok
 have hh:h=0 ∨ h=1:=by omega
 rcases hh with e | e
 . rw [e]; omega
 . rw [e]; omega
end Go.Proofs.YtckpdliipjekgaaGreat
end
section
namespace Go.Proofs.YtckpdliipjekgaaGreat
open Go Go.Wk Go.Wl Go.Rx Go.Wa 
attribute [local irreducible] o9
def c6m:Nat->Ann:=fun | 74=>⟨7,nn,nn⟩ | _=>⟨0,nn,nn⟩
def d6p (x:Dk) (Q:Int->Dk->Prop):Prop :=
x.Ok/\i6 ((↑x.a0B.length:Int)-2)/\(2:Int)≠0/\i6 (((↑x.a0B.length:Int)-2).tdiv (2:Int))/\Q (((↑x.a0B.length:Int)-2).tdiv (2:Int)) x
theorem e5d (x:Dk) (ok:x.Ok):d6p x (fun y0 y1=>y0=c9 x/\y1=x):=by
 unfold d6p
 have h1:=ok.pos
 have h2:=ok.max
 obtain ⟨g1,g2,_⟩:=F9 ok
 have e:((x.a0B.length:Int)-2).tdiv 2=c9 x:=rfl
 rw [e]
 exact ⟨ok,⟨by omega,by omega⟩,by decide,⟨by omega,by omega⟩,rfl,rfl⟩
def d9t (x:Dk):FR U:=K8 d7s [Dk.Ok x] [(0,.ob (N:=U) 0 1 x)] 2 1 [.slot 0 (.int .i64),.tree [] [.ob (some 200) 0]] (c9 x,(x,()),())
def c8n:FC U:=⟨[],[],fun a its=>match a,its with | [.ref 0 0],[(0,.ob 0 1 x)]=>some (d9t x) | _,_=>none⟩
theorem c4u (args:List (SV U)) (its:a7 U) (r:FR U) (h:c8n.C args its=some r) (ho:n6 r.ob):r6 Tryz.prog U eT Gl 74 args its (2 * its.length) (fun k=>n6 r.hy->k r.v r.its r.n):=by
 unfold c8n at h
 simp only at h
 split at h
 . rename_i x
   cases h
   exact G8 (an:=c6m 74) b26 (l5 b26 Q9 c6m 3) Tryz.func74 (n:=1) rfl (vs:=[.slot 0 (.int .i64),.tree [] [.ob (some 200) 0]]) (X:=(c9 x,(x,()),())) rfl (kc (e5d x ho.1) (by kernel_rfl))
 . cases h
def d5l:Env:=(d7s.a0K 74 Tryz.f74).a0N 74 c8n
theorem c9a:l7 d5l:=(b26.a0K Tryz.call74 Tryz.func74).a0N Tryz.call74 c4u
def e3v:Env:=d5l.a0K 45 Tryz.f45
theorem d4k:l7 e3v:=c9a.a0K Tryz.call45 Tryz.func45
def b35:Env:=e3v.a0K 62 Tryz.f62
theorem b2v:l7 b35:=d4k.a0K Tryz.call62 Tryz.func62
end Go.Proofs.YtckpdliipjekgaaGreat
end
