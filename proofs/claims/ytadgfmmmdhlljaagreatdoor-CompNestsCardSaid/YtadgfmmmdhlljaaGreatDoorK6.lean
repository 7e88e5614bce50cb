/- 4 texts, one behind the other. -/
import Derived.Test.YtadgfmmmdhlljaaGreatDoorK4
import Derived.Lib.MapLaws
import Derived.Lib.ValidLaws
import Derived.Lib.Bytealg
import Derived.Test.YtadgfmmmdhlljaaGreatDoorKEr
import Derived.Test.YtadgfmmmdhlljaaGreatDoorKShelf
import Derived.Lib.UnsafeStr
set_option linter.unusedVariables false
set_option linter.unusedSimpArgs false
set_option maxRecDepth 100000
section
namespace Go.Fo
open Go Go.Wk Go.Wl
def decw (s : Str) : Nat:=if s = [] then 0 else (Lib.decodeL s).2
def dec : Dec where
 w:=decw
 pos:=fun s h=>by rw [decw,if_neg h]; exact Lib.decodeL_width s
 le:=fun s=>by
  unfold decw
  split
  . omega
  . rename_i h; exact Lib.decodeL_le s h
 four:=fun s=>by
  unfold decw
  split
  . omega
  . rw [Lib.decodeL_N]
    rcases Lib.decodeN_shape s.length (s.getD 0 0).toNat (s.getD 1 0).toNat (s.getD 2 0).toNat (s.getD 3 0).toNat with ⟨_,e⟩ | ⟨_,_,_,_,e⟩ | ⟨_,_,_,_,_,_,e⟩ | ⟨_,_,_,_,_,_,_,e⟩ | e <;> rw [e] <;> simp
def letter (c : Str) : Prop:=c ≠ [] /\ ∀ r : Str,Lib.decodeL (c ++ r) = Lib.decodeL c /\ (Lib.decodeL c).2 = c.length /\ ¬ ((Lib.decodeL c).1 = 65533 /\ (Lib.decodeL c).2 = 1)
end Go.Fo
end
section
namespace Go.Fo
open Go Go.Wk Go.Wl
theorem indexByte_lt (s : Str) (c : UInt8) : Lib.indexByte s c < s.length:=by
 induction s with
 | nil=>simp [Lib.indexByte]
 | cons b l ih =>
  unfold Lib.indexByte
  rw [List.length_cons]
  split
  . omega
  . split <;> omega
theorem index_nl (s : Str) : (10 ∈ s -> 0 <= Lib.indexByte s 10 /\ s.take (Lib.indexByte s 10).toNat = hd s /\ s.drop (Lib.indexByte s 10 + 1).toNat = tl s) /\ (10 ∉ s -> Lib.indexByte s 10 = -1):=by
 induction s with
 | nil=>simp [Lib.indexByte]
 | cons b l ih =>
  by_cases hb : b = 10
  . subst hb
    refine ⟨fun _=>?_,fun h=>absurd (by simp) h⟩
    unfold Lib.indexByte
    simp [hd,tl,nl,List.takeWhile,List.dropWhile]
  . have hnl : nl b = true:=by simp [nl,hb]
    have hbe : (b == 10) = false:=by simp [hb]
    refine ⟨fun h=>?_,fun h=>?_⟩
    . have hl : (10 : UInt8) ∈ l:=by rcases List.mem_cons.1 h with e | e; (exact absurd e.symm hb); exact e
      obtain ⟨h1,h2,h3⟩:=ih.1 hl
      have hne : (Lib.indexByte l 10 == -1) = false:=by simp; omega
      have e : Lib.indexByte (b :: l) 10 = Lib.indexByte l 10 + 1:=by
       show (if (b == 10) = true then (0 : Int) else if (Lib.indexByte l 10 == -1) = true then -1 else Lib.indexByte l 10 + 1) = _
       rw [hbe,hne]; rfl
      rw [e]
      refine ⟨by omega,?_,?_⟩
      . rw [show (Lib.indexByte l 10 + 1).toNat = (Lib.indexByte l 10).toNat + 1 by omega,List.take_succ_cons,h2]
        simp [hd,List.takeWhile,hnl]
      . rw [show (Lib.indexByte l 10 + 1 + 1).toNat = (Lib.indexByte l 10 + 1).toNat + 1 by omega,List.drop_succ_cons,h3]
        simp [tl,List.dropWhile,hnl]
    . have hl : (10 : UInt8) ∉ l:=fun hm=>h (List.mem_cons_of_mem _ hm)
      have h1:=ih.2 hl
      show (if (b == 10) = true then (0 : Int) else if (Lib.indexByte l 10 == -1) = true then -1 else Lib.indexByte l 10 + 1) = _
      rw [hbe,h1]; rfl
theorem hd_all {s : Str} (h : 10 ∉ s) : hd s = s /\ tl s = []:=by
 have h1 : ∀ c ∈ s,c ≠ 10:=fun c hc e=>h (e ▸ hc)
 refine ⟨?_,hd_none h1⟩
 have h2 : ∀ c ∈ s,nl c = true:=fun c hc=>by simp [nl,h1 c hc]
 unfold hd
 rw [<- List.append_nil s,List.takeWhile_append_of_pos h2]; simp
theorem trim13 (s : Str) : Lib.trimSuffix s [13] = trimR s:=by
 unfold Lib.trimSuffix trimR Lib.hasSuffix
 have e : (([13] : Str).isSuffixOf s = true) ↔ s.getLast? = some 13:=by
  rw [List.isSuffixOf_iff_suffix]
  constructor
  . rintro ⟨a,rfl⟩; simp
  . intro h
    obtain ⟨a,rfl⟩:=List.getLast?_eq_some_iff.1 h
    exact ⟨a,rfl⟩
 by_cases h : s.getLast? = some 13
 . rw [if_pos (e.2 h),if_pos h,List.dropLast_eq_take]; rfl
 . rw [if_neg (fun k=>h (e.1 k)),if_neg h]
end Go.Fo
end
section
namespace Go.Proofs.YtadgfmmmdhlljaaGreatDoor
open Go Go.Wk Go.Wl Go.Rx Go.Fo Go.Li Go.Co Go.Proofs
theorem tup0_inv {ρ : Env1} {Z : Nat -> Prop} {w : World} {cs : List Value} (h : Rep U eT ρ Z w (.tuple cs.toArray) (.tup [])) : cs = []:=by
 generalize e : Value.tuple cs.toArray = u at h
 cases h with | tup0=>simpa using e
theorem callR_same {P : Program} {K : FuncId} {args : List Value} {w : World} {v : Value} (h : ∀ w1,Sim w w1 -> Calls P K args.toArray w1 fun e w'=>e = .returned v /\ w' = w1) : CallR P K args w (fun v' w'=>v' = v /\ w' = w) :=
 fun w1 hs=>Calls.mono (h w1 hs) fun _ _ ⟨h1,h2⟩=>⟨_,w,h1,by rw [h2]; exact hs,rfl,rfl⟩
theorem lend_same {K : Nat} {args : List (SV U)} {q : Q1 U} (h : ∀ (D : Nat -> Prop) (w : World) (vs : List Value),Gl.is D w -> Rep U eT (fun _=>none) D w (.tuple vs.toArray) (.tup args) -> ∃ v,Rep U eT (fun _=>none) (fun _=>False) w v q.v /\ allP q.hy /\ ∀ w1,Sim w w1 -> Calls Tryz.prog K vs.toArray w1 fun e w'=>e = .returned v /\ w' = w1) : LendOK E0 K args ⟨q.ob,q.hy,q.v,[]⟩ :=
 fun D w vs _ hg ha=>by
  obtain ⟨v,hr,hy,hc⟩:=h D w vs hg ha
  exact (callR_same hc).mono fun v' w' ⟨h1,h2⟩=>by subst h1 h2; exact ⟨Ext.refl _ _,hr,hy⟩
theorem Sim.cell {w w1 : World} (h : Sim w w1) (a : Addr) : w1.cell? a = w.cell? a:=by obtain ⟨k,rfl⟩:=h; rfl
theorem Own.cellv {w : World} {b : Nat} {T : TypeId} {cs : List Value} (h : Own w b T cs) (o : Nat) : w.cell? ⟨b,o,none⟩ = cs[o]? := by unfold Own at h; simp [World.cell?,h]
def LendU (K : Nat) (args : List (SV U)) (q : Q1 U) : Prop:=∀ (D : Nat -> Prop) (w : World) (vs : List Value),Rep U eT (fun _=>none) D w (.tuple vs.toArray) (.tup args) -> CallR Tryz.prog K vs w (fun v w'=>Ext [] w w' /\ Rep U eT (fun _=>none) (fun _=>False) w' v q.v /\ allP q.hy)
theorem LendU.ok0 {K : Nat} {args : List (SV U)} {q : Q1 U} (h : LendU K args q) : LendOK E0 K args ⟨q.ob,q.hy,q.v,[]⟩:=fun D w vs _ _ ha=>h D w vs ha
theorem sim_ext {w w1 w2 : World} {B : List Nat} (hs : Sim w w1) (h : Ext B w1 w2) : Ext B w w2:=by
 obtain ⟨k,rfl⟩:=hs
 exact ⟨h.os,h.tape,h.output,h.size,h.block⟩
theorem lend_ext {K : Nat} {args : List (SV U)} {q : Q1 U} (h : ∀ (D : Nat -> Prop) (w : World) (vs : List Value),Rep U eT (fun _=>none) D w (.tuple vs.toArray) (.tup args) -> ∃ v,(∀ w',Rep U eT (fun _=>none) (fun _=>False) w' v q.v) /\ allP q.hy /\ ∀ w1,Sim w w1 -> Calls Tryz.prog K vs.toArray w1 fun e w'=>e = .returned v /\ Ext [] w1 w') : LendU K args q :=
 fun D w vs ha w1 hs=>by
  obtain ⟨v,hr,hy,hc⟩:=h D w vs ha
  exact (hc w1 hs).mono fun e w2 ⟨h1,h2⟩=>⟨v,w2,h1,Sim.refl _,sim_ext hs h2,hr w2,hy⟩
theorem alloc_old' (w : World) (o : Obj) (k : Nat) (hk : k < w.heap.size) : (w.alloc o).heap[k]? = w.heap[k]? := by
 show (w.heap.push o)[k]? = _
 rw [Array.getElem?_push,if_neg (by omega)]
theorem ext_alloc {w : World} {B : List Nat} (o : Obj) : Ext B w (w.alloc o):=⟨rfl,rfl,rfl,(by show w.heap.size <= (w.heap.push o).size; rw [Array.size_push]; omega),fun k hk _=>alloc_old' w o k hk⟩
theorem wr_val {t k : Nat} (h : eT.wr t = some k) : t = 134 /\ k = 0:=wr_inv h
def cIs (a : List (SV U)) : Option (Q1 U):=match a with | [.err e,.err (.no n)]=>some ⟨[],[],.bl (e.is n) inferInstance⟩ | _=>none
theorem cIsU (args : List (SV U)) (q : Q1 U) (h : cIs args = some q) : LendU 23 args q:=by
 unfold cIs at h
 split at h
 . rename_i e n
   cases h
   refine lend_ext fun D w vs ha=>⟨.bool (decide (e.is n)),fun _=>.bl,trivial,fun w1 hs=>?_⟩
   have same : ∀ {b : Bool},(Calls Tryz.prog 23 vs.toArray w1 fun e w'=>e = .returned (.bool b) /\ w' = w1) -> Calls Tryz.prog 23 vs.toArray w1 fun e w'=>e = .returned (.bool b) /\ Ext [] w1 w':=fun h=>h.mono fun _ _ ⟨a,b⟩=>⟨a,by subst b; exact Ext.refl _ _⟩
   obtain ⟨v1,r1,rfl,h1,ha⟩:=Rep.tup_cons ha
   obtain ⟨v2,r2,rfl,h2,ha⟩:=Rep.tup_cons ha
   obtain rfl:=tup0_inv ha
   cases h1 with | err h1 =>
   cases h2 with | err h2 =>
   cases h2 with | no hn =>
   cases h1 with
   | nil =>
    have e : decide (Err.is .nil n) = false:=decide_eq_false (by simp [Err.is,Err.num])
    rw [e]; exact same (is_nil n w1)
   | @no a ha' =>
    have e : decide (Err.is (.no a) n) = decide (a = n):=decide_eq_decide.2 (by simp [Err.is,Err.num])
    rw [e]; exact same (is_errno a n w1)
   | @fault b a m hz ho ha' hm =>
    have e : decide (Err.is (.fault a m) n) = decide (m = n):=decide_eq_decide.2 (by simp [Err.is,Err.num])
    rw [e]; exact same (is_fault b m n w1 (by rw [Sim.cell hs,Own.cellv ho]; rfl))
   | @w t k s m ht hm hk =>
    obtain ⟨rfl,rfl⟩:=wr_val ht
    have e : decide (Err.is (.w 134 s (.no m)) n) = decide (m = n):=decide_eq_decide.2 (by simp [Err.is,Err.num])
    rw [e]; exact (is_w134 (sv s) m n w1).mono fun _ _ ⟨a,o,b⟩=>⟨a,by subst b; exact ext_alloc _⟩
 . cases h
theorem cIs_ok (args : List (SV U)) (q : Q1 U) (h : cIs args = some q) : LendOK E0 23 args ⟨q.ob,q.hy,q.v,[]⟩:=(cIsU args q h).ok0
def rune (s : Str) : Int:=if s = [] then 65533 else ((Lib.decodeL s).1 : Int)
theorem decodeGo_eq (s : Str) : ((Lib.decodeGo ⟨s.toArray⟩).1 : Int) = rune s /\ ((Lib.decodeGo ⟨s.toArray⟩).2 : Int) = (decw s : Int):=by
 have h : (⟨s.toArray⟩ : ByteArray).size = s.length:=sv_size s
 unfold Lib.decodeGo rune decw
 by_cases e : s = []
 . subst e; exact ⟨rfl,rfl⟩
 . have hn : ¬ (⟨s.toArray⟩ : ByteArray).size = 0:=by rw [h]; exact fun h=>e (List.eq_nil_of_length_eq_zero h)
   rw [if_neg hn,if_neg e,if_neg e]; exact ⟨rfl,rfl⟩
theorem below_ext {w w1 w' : World} (hs : Sim w w1) (h : RowKit.Below w1.heap.size w1 w') : Ext [] w w':=by
 obtain ⟨k,rfl⟩:=hs
 exact ⟨h.os,h.tape,h.output,h.size,fun b hb _=>h.block b hb⟩
def cDec (a : List (SV U)) : Option (Q1 U):=match a with | [.str s]=>some ⟨[],[],.tup [.int .i32 (rune s),.int .i64 (decw s)]⟩ | _=>none
theorem cDec_ok (args : List (SV U)) (q : Q1 U) (h : cDec args = some q) : LendOK E0 37 args ⟨q.ob,q.hy,q.v,[]⟩:=by
 unfold cDec at h
 split at h
 . rename_i s
   cases h
   intro D w vs _ hg ha
   obtain ⟨v1,r1,rfl,h1,ha⟩:=Rep.tup_cons ha
   obtain rfl:=tup0_inv ha
   cases h1 with | str hl =>
   intro w1 hs
   have hT : Lib.Utf8Tabs 1 2 w1:=by obtain ⟨k,rfl⟩:=hs; exact hg.2.2.1
   refine Calls.mono (Tryz.utf8_DecodeRuneInString ⟨s.toArray⟩ w1 hT) fun e w2 ⟨h1,h2⟩=>?_
   rw [(decodeGo_eq s).1,(decodeGo_eq s).2] at h1
   refine ⟨_,w2,h1,Sim.refl _,?_,.tup1 (.int fun h=>by cases h) (.tup1 (cs:=[]) (.int fun _=>?_) .tup0),trivial⟩
   . exact below_ext hs h2
   . have:=dec.four s
     have e : (decw s : Int) <= 4:=by exact_mod_cast this
     exact ⟨by omega,by omega⟩
 . cases h
def cIx (a : List (SV U)) : Option (Q1 U):=match a with | [.str s,.str t]=>some ⟨[t.length = 1],[],.int .i64 (Lib.indexByte s (ix t 0))⟩ | _=>none
theorem cIx_ok (args : List (SV U)) (q : Q1 U) (h : cIx args = some q) (ho : allP q.ob) : LendOK E0 87 args ⟨q.ob,q.hy,q.v,[]⟩:=by
 unfold cIx at h
 split at h
 . rename_i s t
   cases h
   obtain ⟨c,rfl⟩ : ∃ c,t = [c]:=by
    have : t.length = 1:=ho.1
    match t,this with
    | [c],_=>exact ⟨c,rfl⟩
   refine lend_same fun D w vs hg ha=>?_
   obtain ⟨v1,r1,rfl,h1,ha⟩:=Rep.tup_cons ha
   obtain ⟨v2,r2,rfl,h2,ha⟩:=Rep.tup_cons ha
   obtain rfl:=tup0_inv ha
   cases h1 with | str hl =>
   cases h2 with | str hl2 =>
   refine ⟨.int .i64 (Lib.indexByte s c),.int fun _=>?_,trivial,fun w1 hs=>Tryz.stringslite_Index_one ⟨s.toArray⟩ c w1⟩
   have h1:=Lib.indexByte_ge s c
   have h2:=indexByte_lt s c
   exact ⟨by omega,by omega⟩
 . cases h
def cTr (a : List (SV U)) : Option (Q1 U):=match a with | [.str s,.str t]=>some ⟨[],[],.str (Lib.trimSuffix s t)⟩ | _=>none
theorem cTr_ok (args : List (SV U)) (q : Q1 U) (h : cTr args = some q) : LendOK E0 45 args ⟨q.ob,q.hy,q.v,[]⟩:=by
 unfold cTr at h
 split at h
 . rename_i s t
   cases h
   refine lend_same fun D w vs hg ha=>?_
   obtain ⟨v1,r1,rfl,h1,ha⟩:=Rep.tup_cons ha
   obtain ⟨v2,r2,rfl,h2,ha⟩:=Rep.tup_cons ha
   obtain rfl:=tup0_inv ha
   cases h1 with | str hl =>
   cases h2 with | str hl2 =>
   refine ⟨sv (Lib.trimSuffix s t),.str ?_,trivial,fun w1 hs=>Tryz.strings_TrimSuffix ⟨s.toArray⟩ ⟨t.toArray⟩ w1 (by rw [sv_size]; exact hl)⟩
   unfold Lib.trimSuffix
   split
   . rw [List.length_take]; omega
   . exact hl
 . cases h
end Go.Proofs.YtadgfmmmdhlljaaGreatDoor
end
section
namespace Go.Proofs.YtadgfmmmdhlljaaGreatDoor
open Go Go.Wk Go.Wl Go.Rx Go.Fo Go.Li Go.Co Go.Proofs Go.RowKit
theorem bd_info : ∃ j,Tryz.prog.info? 80 = some j /\ j.size = 2:=by
 obtain ⟨j,hj,h⟩:=Option.map_eq_some_iff.1 (show (Tryz.prog.info? 80).map (·.size) = some 2 by kernel_rfl)
 exact ⟨j,hj,h⟩
set_option maxHeartbeats 1000000 in
theorem bd_used (b : Nat) (w : World) (h0 : w.cell? ⟨b,0,none⟩ = some (.pointer (some ⟨b,0,none⟩))) :
  Calls Tryz.prog 63 #[.pointer (some ⟨b,0,none⟩)] w fun e w'=>e = .returned (.tuple #[]) /\ w' = w:=by
 obtain ⟨j,hj,_⟩:=bd_info
 go_enter Tryz.func63,Tryz.ntmps63
 go_wp2
 rw [Lib.run_neq_ptr_same w _ Tryz.underlying77 hj]
 go_wp2
 go_end0
 exact ⟨rfl,rfl⟩
set_option maxHeartbeats 1000000 in
theorem bd_fresh (b : Nat) (w : World) (h0 : w.cell? ⟨b,0,none⟩ = some (.pointer none)) (hsh : w.shape? b = some (80,2)) (hfz : w.frozen? ⟨b,0,none⟩ = false) :
  Calls Tryz.prog 63 #[.pointer (some ⟨b,0,none⟩)] w fun e w'=>e = .returned (.tuple #[]) /\ w' = w.setCell ⟨b,0,none⟩ (.pointer (some ⟨b,0,none⟩)):=by
 obtain ⟨j,hj,hjs⟩:=bd_info
 go_enter Tryz.func63,Tryz.ntmps63
 go_wp2
 rw [Lib.run_to_unsafe w ⟨b,0,none⟩ Tryz.underlying77 Tryz.underlying99 hj (by rw [hjs]; decide) hsh (Nat.zero_lt_succ 1)]
 simp only [Result.andThen]
 rw [Oper.upon_value]
 go_wp2
 rw [run_callFunc_extern Tryz.func86 (by kernel_rfl) (by kernel_rfl) (by kernel_rfl) (e:=Extern.AbiNoEscape.same) (by kernel_rfl)]
 rw [Lib.run_noEscape]
 simp only [Result.andThen]
 rw [Oper.upon_value]
 go_wp2
 rw [Lib.run_from_unsafe w ⟨b,0,none⟩ Tryz.underlying99 Tryz.underlying77 hj hsh (by kernel_rfl)]
 simp only [Result.andThen]
 rw [Oper.upon_value]
 go_wp2
 go_end0
 exact ⟨rfl,rfl⟩
theorem bd_cc (b : Nat) (p v : Value) (w : World) (hp : p = .pointer none ∨ p = .pointer (some ⟨b,0,none⟩)) (hb : w.heap[b]? = some (.cells #[p,v] 80 (0,0))) :
  Calls Tryz.prog 63 #[.pointer (some ⟨b,0,none⟩)] w fun e w'=>e = .returned (.tuple #[]) /\ w'.heap[b]? = some (.cells #[.pointer (some ⟨b,0,none⟩),v] 80 (0,0)) /\ Ext [b] w w':=by
 have ho : Own w b 80 [p,v]:=hb
 have h0 : w.cell? ⟨b,0,none⟩ = some p:=by rw [Own.cellv ho]; rfl
 rcases hp with rfl | rfl
 . refine Calls.mono (bd_fresh b w h0 (by simp [World.shape?,hb]) (by simp [World.frozen?,hb])) ?_
   rintro e w' ⟨rfl,rfl⟩
   obtain ⟨h1,h2,_⟩:=Own.setCell ho 0 (.pointer (some ⟨b,0,none⟩))
   exact ⟨rfl,h1,h2⟩
 . refine Calls.mono (bd_used b w h0) ?_
   rintro e w' ⟨rfl,rfl⟩
   exact ⟨rfl,hb,Ext.refl _ _⟩
theorem own_ne {b : Nat} {v : Value} {k : Nat} (h : v.ownBlock ≠ some b) (hk : v.ownBlock = some k) : k ≠ b:=fun e=>h (by rw [hk,e])
set_option maxHeartbeats 1000000 in
theorem bd_write (b : Nat) (x : Str) (s : Str) (w : World) (F : List Nat) (h : BldIs 80 5 b w x F) (hlen : x.length + s.length <= 140737488355328) :
  Calls Tryz.prog 38 #[.pointer (some ⟨b,0,none⟩),sv s] w fun e w'=>e = .returned (.tuple #[.int .i64 s.length,.nilIface]) /\ ∃ F',BldIs 80 5 b w' (x ++ s) F' /\ Turn w w' F F':=by
 obtain ⟨i0,hi,hz0,hz1,hz2⟩:=info_parts (P:=Tryz.prog) (e:=5) (z:=.int .u8 0) (size:=1) (bytes:=1) (by kernel_rfl)
 obtain ⟨p,v,hp,hb,hown,hne,hF⟩:=h
 have hss : (⟨s.toArray⟩ : ByteArray).size = s.length:=sv_size s
 unfold sv
 go_enter Tryz.func38,Tryz.ntmps38
 go_wp2_with (go_at_call 63; refine (bd_cc b p v _ hp hb).mono ?_)
 rintro e w1 ⟨rfl,hb1,x1⟩
 have hown1:=ownsRowF_stab hown x1 (fun k hk hm=>own_ne hne hk (List.mem_singleton.1 hm))
 have ho1 : Own w1 b 80 [.pointer (some ⟨b,0,none⟩),v]:=hb1
 have c0 : w1.cell? ⟨b,0,none⟩ = some (.pointer (some ⟨b,0,none⟩)):=by rw [Own.cellv ho1]; rfl
 have c1 : w1.cell? ⟨b,1,none⟩ = some v:=by rw [Own.cellv ho1]; rfl
 go_wp2_with (at_builtin; refine wpList_append_bld _ rfl _ _ 78 9 rfl 5 i0 Tryz.underlying78 Tryz.underlying9 hi hz0 hz1 hz2 _ _ _ rfl hown1 ⟨s.toArray⟩ rfl ?c3 ?c4 ?_)
 case c3=>rw [hss]; unfold maxLen; omega
 case c4=>rw [hss]; omega
 intro v' w2 hown' hgrow hnew
 have hlt : b < w1.heap.size:=Own.lt ho1
 have hb2 : w2.heap[b]? = some (.cells #[.pointer (some ⟨b,0,none⟩),v] 80 (0,0)):=by
  rw [hgrow.block b hlt (fun e=>hne e.symm)]
  exact hb1
 have ho2 : Own w2 b 80 [.pointer (some ⟨b,0,none⟩),v]:=hb2
 have d0 : w2.cell? ⟨b,0,none⟩ = some (.pointer (some ⟨b,0,none⟩)):=by rw [Own.cellv ho2]; rfl
 have d1 : w2.cell? ⟨b,1,none⟩ = some v:=by rw [Own.cellv ho2]; rfl
 have f1 : w2.frozen? ⟨b,1,none⟩ = false:=by simp [World.frozen?,hb2]
 have hvb : ∀ k,v'.ownBlock = some k -> v.ownBlock = some k ∨ w.heap.size <= k:=fun k hk=>(hnew k hk).imp id (fun h=>Nat.le_trans x1.size h)
 have hnb : v'.ownBlock ≠ some b:=fun e=>by
  rcases hvb b e with h | h
  . exact hne h
  . have:=(Own.lt (show Own w b 80 [p,v] from hb)); omega
 obtain ⟨ao,n',cap,rfl⟩ : ∃ ao n' cap,v' = .slice ao n' cap:=by
  rcases hown'.2 with ⟨hv,_⟩ | ⟨g,cap,cur,fz,hv,_⟩
  . exact ⟨_,_,_,hv⟩
  . exact ⟨_,_,_,hv⟩
 go_wp2
 go_ret2
 refine ⟨rfl,?_⟩
 obtain ⟨k1,k2,_⟩:=Own.setCell ho2 1 (.slice ao n' cap)
 have hown3:=ownsRowF_stab hown' k2 (fun k hk hm=>hnb (by rw [hk,List.mem_singleton.1 hm]))
 have hx : (x ++ s).length = x.length + (⟨s.toArray⟩ : ByteArray).size:=by rw [hss,List.length_append]
 refine bld_after hF (.inr rfl) k1 (by rw [hx,Lib.byteCells_append]; exact hown3) hnb ?_ hvb
 have e1:=Ext.ofGrown hgrow
 rw [hF]
 exact (x1.trans e1 (B:=bldF b v) (fun k hk=>.inl (by rw [List.mem_singleton.1 hk]; simp [bldF])) (fun k hk=>.inl (by simp [bldF]; right; simpa using hk))).trans k2 (fun k hk=>.inl hk) (fun k hk=>.inl (by rw [List.mem_singleton.1 hk]; simp [bldF]))
theorem ext_freeze {w : World} {g n : Nat} : Ext [g] w (w.freeze ⟨g,0,none⟩ n):=by
 unfold World.freeze
 split
 . exact Ext.refl _ _
 . exact ⟨rfl,rfl,rfl,by simp,fun k hk hm=>by
     simp only [Array.getElem?_modify]
     rw [if_neg (fun e=>hm (by simp [e]))]⟩
theorem ext_drew {w : World} {B : List Nat} : Ext B w w.drew:=⟨rfl,rfl,rfl,Nat.le_refl _,fun _ _ _=>rfl⟩
set_option maxHeartbeats 2000000 in
theorem bd_string (b : Nat) (x : Str) (w : World) (F : List Nat) (h : BldIs 80 5 b w x F) :
  Calls Tryz.prog 39 #[.pointer (some ⟨b,0,none⟩)] w fun e w'=>e = .returned (sv x) /\ ∃ F',BldIs 80 5 b w' x F' /\ Turn w w' F F':=by
 obtain ⟨p,v,hp,hb,hown,hne,hF⟩:=h
 unfold sv
 have done : ∀ w',w'.heap[b]? = some (.cells #[p,v] 80 (0,0)) -> w'.ownsRowF 0 5 1 v x.length (Lib.byteCells x) -> Ext F w w' -> ∃ F',BldIs 80 5 b w' x F' /\ Turn w w' F F':=fun w' h1 h2 h3=>bld_after hF hp h1 h2 hne h3 (fun k hk=>.inl hk)
 have hb' : ∀ (o : Nat),w.drew.cell? ⟨b,o,none⟩ = (#[p,v] : Array Value)[o]? := fun o=>by
  have : w.drew.heap[b]? = some (.cells #[p,v] 80 (0,0)):=hb
  simp [World.cell?,this]
 have hbl : b < w.heap.size:=Own.lt (show Own w b 80 [p,v] from hb)
 rcases hown.2 with ⟨rfl,h0⟩ | ⟨g,cap,cur,fz,rfl,hbg,hg,hfz,hnc,hcm,hcs,htake⟩
 . have hx : x = []:=List.eq_nil_of_length_eq_zero h0
   subst hx
   have c1 : w.drew.cell? ⟨b,1,none⟩ = some (.slice none 0 0):=hb' 1
   have hSD : (Builtin.unsafeSliceData_ #[78] 114 #[.slice none 0 0]).run Tryz.prog w.drew = .ok (.pointer none) w.drew:=rfl
   have hUS : ∀ (q : Option Addr) (W : World),(Builtin.unsafeString_ #[114,3] 9 #[.pointer q,.int .i64 0]).run Tryz.prog W = .ok (.string .empty) W:=fun q W=>Lib.run_unsafeString_none W _ _ _ q
   have fin:=done w.drew hb hown ext_drew
   go_enter Tryz.func39,Tryz.ntmps39
   go_wp2
   go_region
   all_goals (go_wp2; go_ret; exact ⟨rfl,fin⟩)
 . by_cases h0 : x = []
   . subst h0
     have hUS : ∀ (q : Option Addr) (W : World),(Builtin.unsafeString_ #[114,3] 9 #[.pointer q,.int .i64 0]).run Tryz.prog W = .ok (.string .empty) W:=fun q W=>Lib.run_unsafeString_none W _ _ _ q
     by_cases hc0 : cap = 0
     . subst hc0
       have c1 : w.drew.cell? ⟨b,1,none⟩ = some (.slice (some ⟨g,0,none⟩) 0 0):=hb' 1
       have hSD : (Builtin.unsafeSliceData_ #[78] 114 #[.slice (some ⟨g,0,none⟩) 0 0]).run Tryz.prog w.drew = .ok (.pointer (some ⟨w.drew.heap.size,0,none⟩)) (w.drew.alloc (.view ⟨g,0,none⟩ 5)) :=
        Lib.run_unsafeSliceData_zero w.drew _ _ 5 Tryz.underlying114 ⟨g,0,none⟩ 0 (5,cur.size) (by have hg' : w.drew.heap[g]? = some (.cells cur 5 fz):=hg; simp [World.shape?,hg'])
       have c2 : (w.drew.alloc (.view ⟨g,0,none⟩ 5)).cell? ⟨b,1,none⟩ = some (.slice (some ⟨g,0,none⟩) 0 0):=by
        have : (w.drew.alloc (.view ⟨g,0,none⟩ 5)).heap[b]? = _:=(alloc_old' w.drew _ b hbl).trans hb
        rw [Lib.cell_of_heap this]; rfl
       have c3 : (w.alloc (.view ⟨g,0,none⟩ 5)).drew.cell? ⟨b,1,none⟩ = some (.slice (some ⟨g,0,none⟩) 0 0):=c2
       have c0 : w.cell? ⟨b,1,none⟩ = some (.slice (some ⟨g,0,none⟩) 0 0):=c1
       have fin:=done (w.drew.alloc (.view ⟨g,0,none⟩ 5)) ((alloc_old' w.drew _ b hbl).trans hb) (ownsRowF_stab hown ((ext_drew (B:=[])).trans (ext_alloc (B:=[]) _) (fun k hk=>.inl hk) (fun k hk=>.inl hk)) (fun k _ hm=>by cases hm)) ((ext_drew (B:=F)).trans (ext_alloc (B:=F) _) (fun k hk=>.inl hk) (fun k hk=>.inl hk))
       go_enter Tryz.func39,Tryz.ntmps39
       go_wp2
       go_region
       all_goals (go_wp2; go_ret; exact ⟨rfl,fin⟩)
     . have c1 : w.drew.cell? ⟨b,1,none⟩ = some (.slice (some ⟨g,0,none⟩) 0 cap):=hb' 1
       have hSD : (Builtin.unsafeSliceData_ #[78] 114 #[.slice (some ⟨g,0,none⟩) 0 cap]).run Tryz.prog w.drew = .ok (.pointer (some ⟨g,0,none⟩)) w.drew:=Lib.run_unsafeSliceData_row _ _ _ _ _ _ hc0
       have fin:=done w.drew hb hown ext_drew
       clear hc0
       go_enter Tryz.func39,Tryz.ntmps39
       go_wp2
       go_region
       all_goals (go_wp2; go_ret; exact ⟨rfl,fin⟩)
   . have hl0 : x.length ≠ 0:=fun e=>h0 (List.eq_nil_of_length_eq_zero e)
     have hbl2 : (Lib.byteCells x).length = x.length:=Lib.byteCells_length x
     have c1 : w.drew.cell? ⟨b,1,none⟩ = some (.slice (some ⟨g,0,none⟩) x.length cap):=hb' 1
     have hSD : (Builtin.unsafeSliceData_ #[78] 114 #[.slice (some ⟨g,0,none⟩) x.length cap]).run Tryz.prog w.drew = .ok (.pointer (some ⟨g,0,none⟩)) w.drew:=Lib.run_unsafeSliceData_row _ _ _ _ _ _ (by omega)
     have hUS : (Builtin.unsafeString_ #[114,3] 9 #[.pointer (some ⟨g,0,none⟩),.int .i64 x.length]).run Tryz.prog w.drew = .ok (.string ⟨x.toArray⟩) (w.drew.freeze ⟨g,0,none⟩ x.length):=by
      refine Lib.run_unsafeString_row w.drew 114 3 9 5 Tryz.underlying114 (by kernel_rfl) g cur.size (by have hg' : w.drew.heap[g]? = some (.cells cur 5 fz):=hg; simp [World.shape?,hg']) x h0 (by omega) (by unfold maxLen at hcm; omega) ?_
      intro j y hy
      exact hown.cells (g:=g) rfl j (.int .u8 y.toNat) (by simp [Lib.byteCells,hy])
     have hA : Lib.BuilderAtF 80 5 0 b p (Lib.byteCells x) w.drew:=⟨Nat.zero_le _,_,hb,by rw [hbl2]; exact hown,hne⟩
     have hFz:=hA.froze (g:=g) (cap:=cap) (by rw [hbl2]; exact c1)
     rw [hbl2] at hFz
     have fin : ∃ F',BldIs 80 5 b (w.drew.freeze ⟨g,0,none⟩ x.length) x F' /\ Turn w (w.drew.freeze ⟨g,0,none⟩ x.length) F F':=by
      obtain ⟨_,v',hb2,hown2,hne2⟩:=hFz
      rw [hbl2] at hown2
      have hgb : g ≠ b:=fun e=>hne (by rw [e]; rfl)
      have hb3 : (w.drew.freeze ⟨g,0,none⟩ x.length).heap[b]? = w.drew.heap[b]? := (ext_freeze (w:=w.drew) (g:=g) (n:=x.length)).block b hbl (fun hm=>hgb (List.mem_singleton.1 hm).symm)
      have e1 : w.drew.heap[b]? = some (.cells #[p,.slice (some ⟨g,0,none⟩) x.length cap] 80 (0,0)):=hb
      rw [hb3,e1] at hb2
      cases hb2
      refine done _ (hb3.trans e1) hown2 ?_
      rw [hF]
      exact (ext_drew (B:=[g])).trans ext_freeze (fun k hk=>.inl (by simp [bldF,Value.ownBlock]; right; simpa using hk)) (fun k hk=>.inl (by simp [bldF,Value.ownBlock]; right; simpa using hk))
     go_enter Tryz.func39,Tryz.ntmps39
     go_wp2
     go_region
     all_goals (go_wp2; go_ret; exact ⟨rfl,fin⟩)
set_option maxHeartbeats 1000000 in
theorem bd_reset (b : Nat) (x : Str) (w : World) (F : List Nat) (h : BldIs 80 5 b w x F) :
  Calls Tryz.prog 43 #[.pointer (some ⟨b,0,none⟩)] w fun e w'=>e = .returned (.tuple #[]) /\ ∃ F',BldIs 80 5 b w' [] F' /\ Turn w w' F F':=by
 obtain ⟨p,v,hp,hb,hown,hne,hF⟩:=h
 have ho : Own w b 80 [p,v]:=hb
 obtain ⟨k1,x1,_⟩:=Own.setCell ho 0 (.pointer none)
 obtain ⟨k2,x2,_⟩:=Own.setCell k1 1 (.slice none 0 0)
 have c0 : w.cell? ⟨b,0,none⟩ = some p:=by rw [Own.cellv ho]; rfl
 have f0 : w.frozen? ⟨b,0,none⟩ = false:=by simp [World.frozen?,hb]
 have c1 : (w.setCell ⟨b,0,none⟩ (.pointer none)).cell? ⟨b,1,none⟩ = some v:=by rw [Own.cellv k1]; rfl
 have f1 : (w.setCell ⟨b,0,none⟩ (.pointer none)).frozen? ⟨b,1,none⟩ = false:=by
  have:=k1; unfold Own at this; simp [World.frozen?,this]
 have fin : ∃ F',BldIs 80 5 b ((w.setCell ⟨b,0,none⟩ (.pointer none)).setCell ⟨b,1,none⟩ (.slice none 0 0)) [] F' /\ Turn w ((w.setCell ⟨b,0,none⟩ (.pointer none)).setCell ⟨b,1,none⟩ (.slice none 0 0)) F F' :=
  ⟨[b],bld_zero k2,(x1.trans x2 (B:=F) (fun k hk=>.inl (by rw [hF,List.mem_singleton.1 hk]; simp [bldF])) (fun k hk=>.inl (by rw [hF,List.mem_singleton.1 hk]; simp [bldF]))),fun k hk=>.inl (by rw [hF,List.mem_singleton.1 hk]; simp [bldF])⟩
 go_enter Tryz.func43,Tryz.ntmps43
 go_wp2
 go_end0
 exact ⟨rfl,fin⟩
theorem bd_len (b : Nat) (x : Str) (w : World) (F : List Nat) (h : BldIs 80 5 b w x F) :
  Calls Tryz.prog 46 #[.pointer (some ⟨b,0,none⟩)] w fun e w'=>e = .returned (.int .i64 x.length) /\ w' = w:=by
 obtain ⟨p,v,hp,hb,hown,hne,hF⟩:=h
 have ho : Own w b 80 [p,v]:=hb
 obtain ⟨ao,cap,rfl⟩ : ∃ ao cap,v = .slice ao x.length cap:=by
  rcases hown.2 with ⟨hv,h0⟩ | ⟨g,cap,cur,fz,hv,_⟩
  . exact ⟨none,0,by rw [hv,h0]⟩
  . exact ⟨_,_,hv⟩
 have c1 : w.cell? ⟨b,1,none⟩ = some (.slice ao x.length cap):=by rw [Own.cellv ho]; rfl
 go_enter Tryz.func46,Tryz.ntmps46
 go_wp2
 go_ret
 exact ⟨rfl,rfl⟩
end Go.Proofs.YtadgfmmmdhlljaaGreatDoor
end
