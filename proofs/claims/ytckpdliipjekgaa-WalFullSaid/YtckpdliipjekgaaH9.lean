/- 20 texts, one behind the other. -/
import Derived.Test.YtckpdliipjekgaaH8
import Derived.Test.YtckpdliipjekgaaH7
import Derived.Test.YtckpdliipjekgaaH5
import Derived.Test.YtckpdliipjekgaaH4
import Derived.Test.YtckpdliipjekgaaRows
import Derived.ChangeSame
import Derived.ChangeVars
import Derived.JoinedOf
import Derived.RowKit
import Derived.RowKit2
import Derived.Carry
import Derived.ProofKit
set_option linter.unusedVariables false
set_option linter.unusedSimpArgs false
set_option maxRecDepth 100000
section
namespace Go.Proofs.Ytckpdliipjekgaa
open Go Go.Wk Go.Wl Go.Rx Go.Wa Go.Wa
theorem readN_laid {d : Dk} {F n : Int} {by_ : Str} (p : Pow d) (n0 : n = (by_.length : Int)) (f0 : 0 <= F) (hin : ∀ j : Nat,j < manyS n -> F + j < d.lasts.length)
  (hd : ∀ j : Nat,256 * j < by_.length -> (nowD d (F + j)).take (by_.length - 256 * j) = (by_.drop (256 * j)).take 256) :
  ∀ (k j : Nat) (b : Str),j + k = manyS n -> b.length = 256 * j -> b.take by_.length = by_.take (256 * j) -> ∃ B,readN d k (F + j) b = (B,.nil) /\ B.take by_.length = by_
 | 0,j,b,hk,hb,ht=>⟨b,rfl,by
   rw [ht,List.take_of_length_le]
   unfold manyS at hk; omega⟩
 | k + 1,j,b,hk,hb,ht=>by
  have hj : 256 * j < by_.length:=by unfold manyS at hk; omega
  have hr:=read_pow p (i:=F + j) (by omega) (hin j (by omega))
  have hz : (d.read (F + j)).2 = 0:=by rw [hr]
  have hl:=read_256 p.ok hz
  rw [hr] at hl
  have hl : (nowD d (F + j)).length = 256:=hl
  obtain ⟨B,h1,h2⟩:=readN_laid p n0 f0 hin hd k (j + 1) (b ++ nowD d (F + j)) (by omega) (by rw [List.length_append,hb,hl]; omega) (by
   rw [List.take_append,ht,hb,hd j hj,show 256 * (j + 1) = 256 * j + 256 by omega,List.take_add])
  refine ⟨B,?_,h2⟩
  unfold readN
  rw [if_pos hz,hr]
  have e : F + (j : Int) + 1 = F + ((j + 1 : Nat) : Int):=by omega
  rw [e]; exact h1
theorem hdA_pow {d : Dk} (p : Pow d) {a : Int} (h0 : 0 <= a) (h1 : a < d.lasts.length) : hdA d a = ((hdT (nowD d a) a).1,(hdT (nowD d a) a).2.1,(hdT (nowD d a) a).2.2,.nil):=by
 unfold hdA
 rw [read_pow p h0 h1,if_pos rfl]
theorem open_laid {g : Lg} {d : Dk} (r : Run g) (l : Laid g) (t2 : g.turn <= 1099511627776) (p : Pow d) (hl : d.lasts.length = g.d.lasts.length) (hn : ∀ i : Int,0 <= i -> i < g.d.lasts.length -> nowD d i = ix g.d.lasts i) :
  opnS d = (.nil,g.turn,g.half,g.bytes,g.recs):=by
 have t0:=r.t0
 have h6:=r.len
 have h0:=r.h0
 have h1:=r.h1
 have hr:=r.room
 obtain ⟨m1,m2,m3,_⟩:=mod_flip (t:=g.turn) (by omega)
 obtain ⟨f0,f1,f2⟩:=half_at r.pow.ok
 have f2:=f2 (by omega)
 have hH : halfS d = halfS g.d:=by unfold halfS; rw [hl]
 have hs : sizeG g = halfS g.d * 256:=rfl
 have hb : (g.bytes.length : Int) <= halfS g.d * 256:=by omega
 have hm : g.half * halfS g.d = 0 ∨ g.half * halfS g.d = halfS g.d:=by
  have hh' : g.half = 0 ∨ g.half = 1:=by omega
  rcases hh' with e | e
  . left; rw [e,Int.zero_mul]
  . right; rw [e,Int.one_mul]
 have a0:=hdA_pow p (a:=0) (by omega) (by omega)
 have a1:=hdA_pow p (a:=1) (by omega) (by omega)
 rw [hn 0 (by omega) (by omega)] at a0
 rw [hn 1 (by omega) (by omega)] at a1
 have hg:=hdT_head (t:=g.turn) (h:=g.half) (n:=(g.bytes.length : Int)) (a:=g.turn.tmod 2) t0 t2 rfl h0 h1 (by omega) (by omega)
 have ho:=l.other
 rw [<- l.hd] at hg
 have eH : opH d = (.nil,g.turn,g.half,(g.bytes.length : Int)):=by
  have e2 : opH d = (.nil,opH1 (opH1 (0,0,0) (hdT (ix g.d.lasts 0) 0)) (hdT (ix g.d.lasts 1) 1)):=by
   show opHf d 2 0 (0,0,0) = _
   unfold opHf
   rw [a0,if_neg (by simp)]
   unfold opHf
   rw [show (0 : Int) + 1 = 1 from rfl,a1,if_neg (by simp)]
   rfl
  rw [e2]
  have hc : g.turn.tmod 2 = 0 ∨ g.turn.tmod 2 = 1:=by omega
  rcases hc with e | e
  . rw [m1,e] at ho
    rw [e] at hg
    have ho : (hdT (ix g.d.lasts 1) 1).1 < g.turn:=ho
    rw [hg]
    have q1 : opH1 (0,0,0) (g.turn,g.half,(g.bytes.length : Int)) = (g.turn,g.half,(g.bytes.length : Int)):=by unfold opH1; rw [if_pos (show (0 : Int) < g.turn by omega)]
    rw [q1]
    unfold opH1
    rw [if_neg (show ¬ g.turn < (hdT (ix g.d.lasts 1) 1).1 by omega)]
  . rw [m1,e] at ho
    rw [e] at hg
    have ho : (hdT (ix g.d.lasts 0) 0).1 < g.turn:=ho
    rw [hg]
    have q1 : (opH1 (0,0,0) (hdT (ix g.d.lasts 0) 0)).1 < g.turn:=by
     unfold opH1
     split
     . exact ho
     . show (0 : Int) < g.turn; omega
    generalize opH1 (0,0,0) (hdT (ix g.d.lasts 0) 0) = P at q1
    unfold opH1
    rw [if_pos q1]
 obtain ⟨B,k1,k2⟩:=readN_laid (d:=d) (F:=2 + g.half * halfS g.d) (n:=(g.bytes.length : Int)) (by_:=g.bytes) p rfl (by omega) (fun j hj=>by unfold manyS at hj; omega) (fun j hj=>by
  rw [hn _ (by omega) (by omega)]; exact l.data j hj) (manyS (g.bytes.length : Int)) 0 [] (by omega) rfl (by rw [List.take_nil,Nat.mul_zero,List.take_zero])
 have k1 : readN d (manyS (g.bytes.length : Int)) (2 + g.half * halfS g.d) [] = (B,.nil):=by
  have e : 2 + g.half * halfS g.d + ((0 : Nat) : Int) = 2 + g.half * halfS g.d:=by omega
  rw [e] at k1; exact k1
 obtain ⟨s1,s2⟩:=scan_frames g.recs r.sr
 rw [<- r.by_] at s1 s2
 have et : B.take ((g.bytes.length : Int)).toNat = g.bytes:=k2
 unfold opnS
 rw [fitE_0 (by omega),if_neg (by simp)]
 unfold opn2
 rw [eH,if_neg (by simp)]
 unfold opn3
 dsimp only
 rw [hH,k1]
 dsimp only
 rw [et,s1,s2,if_neg (by omega),if_neg (by omega),if_neg (by simp),if_neg (by rw [List.length_nil]; omega)]
theorem zero_head : (hdT (List.replicate 256 0) 0).1 = 0:=by
 unfold hdT
 have e : getS ((List.replicate 256 (0 : UInt8)).take 8) = 0:=by
  rw [List.take_replicate]; rfl
 rw [e,if_pos (.inl (by decide))]
theorem pad_zero : padS (List.replicate 512 0) = List.replicate 256 0:=by
 unfold padS
 rw [List.take_replicate,List.length_replicate,show min 256 512 = 256 from rfl,show 256 - 512 = 0 from rfl,List.replicate_zero,List.append_nil]
theorem fmt_new5 {x : Dk} (p : Pow x) (h6 : 6 <= x.lasts.length) : ∃ y,fmtS x = (.nil,y) /\ y.lasts.length = x.lasts.length /\ Run ⟨1,0,[],[],[],false,y⟩ /\ Laid ⟨1,0,[],[],[],false,y⟩ /\ ix y.lasts 0 = List.replicate 256 0:=by
 have hz : (secs (List.replicate 512 (0 : UInt8))).length = 2:=by rw [secs_len,List.length_replicate]
 obtain ⟨k1,k2,k3,k4,k5⟩:=store_pow (secs (List.replicate 512 0)) (x:=x) (a:=0) p (by omega) (by rw [hz]; omega) (secs_256 _)
 have hs:=secs_head 1 0 0
 obtain ⟨j1,j2,j3,j4,j5⟩:=store_pow (secs (headS 1 0 0)) (x:=(storeS x 0 (secs (List.replicate 512 0))).2) (a:=1) k2 (by omega) (by rw [hs,List.length_singleton]; omega) (secs_256 _)
 have e1:=j5 1 (by omega) (by omega)
 rw [if_pos (by rw [hs,List.length_singleton]; omega)] at e1
 have e0:=j5 0 (by omega) (by omega)
 rw [if_neg (by omega)] at e0
 have e0' : nowD (storeS x 0 (secs (List.replicate 512 0))).2 0 = List.replicate 256 0:=by
  unfold nowD
  rw [k3]
  show ix (storeS x 0 (secs (List.replicate 512 0))).2.lasts 0 = _
  rw [k5 0 (by omega) (by omega),if_pos (by rw [hz]; omega),ix_get (by rw [hz]; decide)]
  have:=secs_ix (List.replicate 512 0) 0 (by rw [hz]; decide)
  rw [Nat.mul_zero,List.drop_zero,pad_zero] at this
  exact this
 refine ⟨_,?_,j4.trans k4,⟨j2,by show 6 <= (storeS _ _ _).2.lasts.length; omega,Int.le_refl 0,by show (0 : Int) <= 1; decide,Int.le_refl 1,rfl,ShL.nil,ShL.nil,rfl,?_⟩,⟨j3,?_,?_,fun j hj=>absurd hj (Nat.not_lt_zero _)⟩,?_⟩
 . unfold fmtS
   rw [fitE_0 h6,if_neg (by simp),if_neg (by rw [k1]; simp)]
   exact Prod.ext j1 rfl
 . obtain ⟨f0,_,_⟩:=half_at j2.ok
   show ((0 : Nat) : Int) + ((0 : Nat) : Int) <= halfS (storeS (storeS x 0 (secs (List.replicate 512 0))).2 1 (secs (headS 1 0 0))).2 * 256
   omega
 . show ix (storeS (storeS x 0 (secs (List.replicate 512 0))).2 1 (secs (headS 1 0 0))).2.lasts 1 = headS 1 0 0
   rw [e1]
   show ix (secs (headS 1 0 0)) 0 = _
   rw [hs]; rfl
 . show (hdT (ix (storeS (storeS x 0 (secs (List.replicate 512 0))).2 1 (secs (headS 1 0 0))).2.lasts 0) 0).1 < 1
   rw [e0,e0',zero_head]; decide
 . rw [e0]; exact e0'
theorem fmt_new {x : Dk} (p : Pow x) (h6 : 6 <= x.lasts.length) : ∃ y,fmtS x = (.nil,y) /\ y.lasts.length = x.lasts.length /\ Run ⟨1,0,[],[],[],false,y⟩ /\ Laid ⟨1,0,[],[],[],false,y⟩:=by
 obtain ⟨y,a,b,c,d,_⟩:=fmt_new5 p h6
 exact ⟨y,a,b,c,d⟩
theorem sync_laid {g : Lg} {y : Dk} (r : Run g) (l : Laid g) (t2 : g.turn <= 1099511627776) (q : Put g.d y (wroteF g.d g.turn g.half (g.bytes.length : Int) (g.bytes ++ framesS g.wait))) : Laid ⟨g.turn + 1,g.half,g.bytes ++ framesS g.wait,g.recs ++ g.wait,[],false,y⟩:=by
 have hr:=r.room
 have h6:=r.len
 obtain ⟨f0,f1,f2⟩:=half_at r.pow.ok
 have f2:=f2 (by omega)
 have hs : sizeG g = halfS g.d * 256:=rfl
 have hm : g.half * halfS g.d = 0 ∨ g.half * halfS g.d = halfS g.d:=by
  have h0:=r.h0
  have h1:=r.h1
  have hh' : g.half = 0 ∨ g.half = 1:=by omega
  rcases hh' with e | e
  . left; rw [e,Int.zero_mul]
  . right; rw [e,Int.one_mul]
 refine laid_write r l t2 r.h0 r.h1 (by omega) (by rw [List.length_append]; omega) (by rw [List.length_append]; omega) (fun j hj hc=>?_) q
 rw [List.length_append] at hj
 by_cases hlt : 256 * j + 256 <= g.bytes.length
 . have hd:=l.data j (by omega)
   have h256 : (ix g.d.lasts (2 + g.half * halfS g.d + (j : Int))).length = 256:=r.pow.ok.len _ (ix_memW (by omega) (by omega))
   rw [List.take_of_length_le (by omega)] at hd
   rw [List.take_of_length_le (by rw [List.length_append]; omega),hd,List.drop_append_of_le_length (by omega),List.take_append_of_le_length (by rw [List.length_drop]; omega)]
 . have hz : (framesS g.wait).length = 0:=by
     rcases hc with h | h
     . omega
     . rw [List.length_append] at h; omega
   have he:=List.eq_nil_of_length_eq_zero hz
   rw [he,List.append_nil]
   exact l.data j (by omega)
theorem comp_laid {g : Lg} {y : Dk} {ls : List Str} (r : Run g) (l : Laid g) (t2 : g.turn <= 1099511627776) (hl : ((framesS ls).length : Int) <= sizeG g) (q : Put g.d y (wroteF g.d g.turn (1 - g.half) 0 (framesS ls))) : Laid ⟨g.turn + 1,1 - g.half,framesS ls,ls,[],false,y⟩:=by
 have h0:=r.h0
 have h1:=r.h1
 exact laid_write r l t2 (by omega) (by omega) (by omega) (by omega) hl (fun j hj hc=>by omega) q
theorem open_new {g : Lg} (r : Run g) (l : Laid g) (t2 : g.turn <= 1099511627776) : opnS g.d = (.nil,g.turn,g.half,g.bytes,g.recs) :=
 open_laid r l t2 r.pow rfl fun i _ _=>by unfold nowD; rw [l.fresh]; rfl
end Go.Proofs.Ytckpdliipjekgaa
end
section
namespace Go.Proofs.Ytckpdliipjekgaa
open Go Go.Wk Go.Wl Go.Rx Go.Wa 
def anlog : Nat -> Ann:=fun | 8=>⟨31,fun _=>none,fun _=>none⟩ | _=>⟨0,fun _=>none,fun _=>none⟩
def Vlog (n : Int) (Q : Int -> Int -> Str -> List Str -> List Str -> Bool -> Dk -> Prop) : Prop :=
((1 : Int) <= n /\ n <= 8192 -> (Err.nil.nr ≠ 0 -> False) /\ (¬Err.nil.nr ≠ 0 -> (Dk.new n).Ok /\ ((fmtS (Dk.new n)).fst.nr ≠ 0 -> False) /\ (¬(fmtS (Dk.new n)).fst.nr ≠ 0 -> (fmtS (Dk.new n)).snd.Ok /\ (((opnS (fmtS (Dk.new n)).snd).fst = Err.nil -> False) -> ((opnS (fmtS (Dk.new n)).snd).fst.nr ≠ 0 -> False) /\ (¬(opnS (fmtS (Dk.new n)).snd).fst.nr ≠ 0 -> False)) /\ ((opnS (fmtS (Dk.new n)).snd).fst = Err.nil -> (Err.nil.nr ≠ 0 -> False) /\ (¬Err.nil.nr ≠ 0 -> Q (opnS (fmtS (Dk.new n)).snd).snd.fst (opnS (fmtS (Dk.new n)).snd).snd.snd.fst (opnS (fmtS (Dk.new n)).snd).snd.snd.snd.fst (opnS (fmtS (Dk.new n)).snd).snd.snd.snd.snd [] (decide (false = true)) (fmtS (Dk.new n)).snd))))) /\ (¬((1 : Int) <= n /\ n <= 8192) -> ((Err.no (2 : Int)).nr ≠ 0 -> False) /\ (¬(Err.no (2 : Int)).nr ≠ 0 -> ((0 : Int) = 0 -> (Err.no (1 : Int) ≠ Err.nil -> ((Err.no (1 : Int)).nr ≠ 0 -> False) /\ (¬(Err.no (1 : Int)).nr ≠ 0 -> ((0 : Int) = 0 -> (Err.no (1 : Int) ≠ Err.nil -> ((Err.no (1 : Int)).nr ≠ 0 -> False) /\ (¬(Err.no (1 : Int)).nr ≠ 0 -> False)) /\ (¬Err.no (1 : Int) ≠ Err.nil -> False)) /\ (¬(0 : Int) = 0 -> ((0 : Int) < 6 -> (Err.no (2 : Int) ≠ Err.nil -> ((Err.no (2 : Int)).nr ≠ 0 -> False) /\ (¬(Err.no (2 : Int)).nr ≠ 0 -> False)) /\ (¬Err.no (2 : Int) ≠ Err.nil -> False)) /\ (¬(0 : Int) < 6 -> (Err.nil ≠ Err.nil -> (Err.nil.nr ≠ 0 -> False) /\ (¬Err.nil.nr ≠ 0 -> False)) /\ (¬Err.nil ≠ Err.nil -> False))))) /\ (¬Err.no (1 : Int) ≠ Err.nil -> (0 : Int) <= 512 /\ (512 : Int) = 512 /\ (↑((some (1 : Nat)).getD (0 : Nat)) : Int) * 512 <= 140737488355328 /\ False)) /\ (¬(0 : Int) = 0 -> ((0 : Int) < 6 -> (Err.no (2 : Int) ≠ Err.nil -> ((Err.no (2 : Int)).nr ≠ 0 -> False) /\ (¬(Err.no (2 : Int)).nr ≠ 0 -> ((0 : Int) = 0 -> (Err.no (1 : Int) ≠ Err.nil -> ((Err.no (1 : Int)).nr ≠ 0 -> False) /\ (¬(Err.no (1 : Int)).nr ≠ 0 -> False)) /\ (¬Err.no (1 : Int) ≠ Err.nil -> False)) /\ (¬(0 : Int) = 0 -> ((0 : Int) < 6 -> (Err.no (2 : Int) ≠ Err.nil -> ((Err.no (2 : Int)).nr ≠ 0 -> False) /\ (¬(Err.no (2 : Int)).nr ≠ 0 -> False)) /\ (¬Err.no (2 : Int) ≠ Err.nil -> False)) /\ (¬(0 : Int) < 6 -> (Err.nil ≠ Err.nil -> (Err.nil.nr ≠ 0 -> False) /\ (¬Err.nil.nr ≠ 0 -> False)) /\ (¬Err.nil ≠ Err.nil -> False))))) /\ (¬Err.no (2 : Int) ≠ Err.nil -> (0 : Int) <= 512 /\ (512 : Int) = 512 /\ (↑((some (1 : Nat)).getD (0 : Nat)) : Int) * 512 <= 140737488355328 /\ False)) /\ (¬(0 : Int) < 6 -> (Err.nil ≠ Err.nil -> (Err.nil.nr ≠ 0 -> False) /\ (¬Err.nil.nr ≠ 0 -> ((0 : Int) = 0 -> (Err.no (1 : Int) ≠ Err.nil -> ((Err.no (1 : Int)).nr ≠ 0 -> False) /\ (¬(Err.no (1 : Int)).nr ≠ 0 -> False)) /\ (¬Err.no (1 : Int) ≠ Err.nil -> False)) /\ (¬(0 : Int) = 0 -> ((0 : Int) < 6 -> (Err.no (2 : Int) ≠ Err.nil -> ((Err.no (2 : Int)).nr ≠ 0 -> False) /\ (¬(Err.no (2 : Int)).nr ≠ 0 -> False)) /\ (¬Err.no (2 : Int) ≠ Err.nil -> False)) /\ (¬(0 : Int) < 6 -> (Err.nil ≠ Err.nil -> (Err.nil.nr ≠ 0 -> False) /\ (¬Err.nil.nr ≠ 0 -> False)) /\ (¬Err.nil ≠ Err.nil -> False))))) /\ (¬Err.nil ≠ Err.nil -> (0 : Int) <= 512 /\ (512 : Int) = 512 /\ (↑((some (1 : Nat)).getD (0 : Nat)) : Int) * 512 <= 140737488355328 /\ False)))))
theorem Vlog_eq {n : Int} {Q : Int -> Int -> Str -> List Str -> List Str -> Bool -> Dk -> Prop} : @Eq Prop (Vlog n Q) (vcFun (E:=Nsame) (inlHN Nsame Hopen anlog 3) (anlog 8) Try.f8 [.int .i64 n] [] [] 0 (endG Nsame [] 0 2 [[.tree [(0,1),(1,0)] [.own none 54 [.to 1,.v (.int .i64),.v (.int .i64),.v (.str),.v (.acc 9),.v (.acc 9),.v (.bool)],.ob none 0]]] ((Q,fun _ _ _ _ _ _ _=>(0 : Nat)),()))):=by kernel_rfl
theorem Vlog_ok {n : Int} {Q : Int -> Int -> Str -> List Str -> List Str -> Bool -> Dk -> Prop} (h : Vlog n Q) : vcFun (E:=Nsame) (inlHN Nsame Hopen anlog 3) (anlog 8) Try.f8 [.int .i64 n] [] [] 0 (endG Nsame [] 0 2 [[.tree [(0,1),(1,0)] [.own none 54 [.to 1,.v (.int .i64),.v (.int .i64),.v (.str),.v (.acc 9),.v (.acc 9),.v (.bool)],.ob none 0]]] ((Q,fun _ _ _ _ _ _ _=>(0 : Nat)),())):=by rw [<- Vlog_eq]; exact h
theorem plog (n : Int) (h6 : 6 <= n) (h8 : n <= 8192) : Vlog n (fun y0 y1 y2 y3 y4 y5 y6=>y0 = (1 : Int) /\ y1 = (0 : Int) /\ y2 = ([] : Str) /\ y3 = ([] : List Str) /\ y4 = ([] : List Str) /\ y5 = false /\ y6 = (fmtS (Dk.new n)).2):=by
 unfold Vlog
 have hN : (Dk.new n).lasts.length = n.toNat:=List.length_replicate
 have okn : (Dk.new n).Ok:=new_Ok (by omega) h8
 obtain ⟨y,e1,e2,r,l⟩:=fmt_new (x:=Dk.new n) ⟨okn,rfl,rfl⟩ (by omega)
 have eo : opnS y = (.nil,1,0,[],[]):=open_new r l (by show (1 : Int) <= 1099511627776; decide)
 rw [e1]
 refine ⟨fun _=>⟨fun h=>absurd rfl h,fun _=>⟨okn,fun h=>absurd rfl h,fun _=>⟨r.pow.ok,fun h=>(h (by show (opnS y).1 = .nil; rw [eo])).elim,fun _=>⟨fun h=>absurd rfl h,fun _=>?_⟩⟩⟩⟩,fun hn=>absurd ⟨by omega,h8⟩ hn⟩
 have e3 : opnS ((Err.nil,y) : Err × Dk).snd = (.nil,1,0,[],[]):=eo
 rw [e3]
 exact ⟨rfl,rfl,rfl,rfl,rfl,rfl,rfl⟩
noncomputable def flogs (n : Int) : FR U:=frOf Nsame [6 <= n,n <= 8192] [] 0 2 [.tree [(0,1),(1,0)] [.own none 54 [.to 1,.v (.int .i64),.v (.int .i64),.v (.str),.v (.acc 9),.v (.acc 9),.v (.bool)],.ob none 0]] ((((1 : Int),(0 : Int),([] : Str),([] : List Str),([] : List Str),false,()),(fmtS (Dk.new n)).2,()),())
noncomputable def flog : FC U:=⟨[],[],fun a its=>match a,its with | [.int .i64 n],[]=>some (flogs n) | _,_=>none⟩
theorem flog_ok (args : List (SV U)) (its : Items U) (r : FR U) (h : flog.C args its = some r) (ho : allP r.ob) : GenOK Try.prog U eT Gl 8 args its (2 * its.length) (fun k=>allP r.hy -> k r.v r.its r.n):=by
 unfold flog at h
 simp only at h
 split at h
 . rename_i n
   cases h
   exact fc_ok Nsame_ok (inlHN_ok Nsame_ok Hopen_ok anlog 3) Try.func8 (n:=2) rfl (vs:=[.tree [(0,1),(1,0)] [.own none 54 [.to 1,.v (.int .i64),.v (.int .i64),.v (.str),.v (.acc 9),.v (.acc 9),.v (.bool)],.ob none 0]]) (X:=((((1 : Int),(0 : Int),([] : Str),([] : List Str),([] : List Str),false,()),(fmtS (Dk.new n)).2,()),())) rfl (Vlog_ok (plog n ho.1 ho.2.1))
 . cases h
noncomputable def Nlog : Env:=(Nsame.addI 8 Try.f8).addX 8 flog
theorem Nlog_ok : EnvOK Nlog:=(Nsame_ok.addI Try.call8 Try.func8).addX Try.call8 flog_ok
def anars : Nat -> Ann:=fun | 22=>⟨9,fun _=>none,fun _=>none⟩ | _=>⟨0,fun _=>none,fun _=>none⟩
def Vars (a : Act) (Q : List Str -> Prop) : Prop :=
([a.S].length + a.More.length) * (some (16 : Nat)).getD (0 : Nat) <= 140737488355328 /\ Q ([a.S] ++ a.More)
theorem Vars_ok {a : Act} {Q : List Str -> Prop} (h : Vars a Q) : vcFun (E:=Nlog) (inlHN Nlog Hopen anars 2) (anars 22) Try.f22 [.agg [.int .i64 a.Kind,.str a.S,.sl (N:=U) 9 a.More,.int .i64 a.N,.int .i64 a.Cut,.sl (N:=U) 3 a.Kept]] [] [] 0 (resP Nlog [.acc 9] Q):=Eq.mp (show Vars a Q = vcFun (E:=Nlog) (inlHN Nlog Hopen anars 2) (anars 22) Try.f22 [.agg [.int .i64 a.Kind,.str a.S,.sl (N:=U) 9 a.More,.int .i64 a.N,.int .i64 a.Cut,.sl (N:=U) 3 a.Kept]] [] [] 0 (resP Nlog [.acc 9] Q) by kernel_rfl) h
theorem pars (a : Act) (h0 : a.More.length <= 1000000) : Vars a (fun y0=>y0 = (a.S :: a.More)):=by
 unfold Vars
 refine ⟨?_,rfl⟩
 show (1 + a.More.length) * 16 <= _
 omega
def carss (a : Act) (nx : Nat) : CR U:=⟨[List.length (α:=Str) a.More <= 1000000],[],.acc nx,[.ac 9 ((a.S :: a.More))]⟩
def cars (a : List (SV U)) (nx : Nat) : Option (CR U):=match a with | [.agg [.int .i64 a0,.str a1,.sl 9 a2,.int .i64 a3,.int .i64 a4,.sl 3 a5]]=>some (carss (⟨a0,a1,a2,a3,a4,a5⟩) nx) | _=>none
theorem cars_ok (args : List (SV U)) (nx : Nat) (c : CR U) (h : cars args nx = some c) (hp : args.all pureS = true) (ho : allP c.ob) : ConOK Nlog.P Nlog.N Nlog.T Nlog.G 22 args nx c:=by
 unfold cars at h
 split at h
 . rename_i a0 a1 a2 a3 a4 a5
   cases h
   exact con1 Nlog_ok (inlHN_ok Nlog_ok Hopen_ok anars 2) Try.func22 (k:=.acc 9) hp (Vars_ok (pars (⟨a0,a1,a2,a3,a4,a5⟩) ho.1))
 . cases h
noncomputable def Nars : Env:=Nlog.addC 22 cars
theorem Nars_ok : EnvOK Nars:=Nlog_ok.addC Try.call22 cars_ok
def anfew : Nat -> Ann:=fun | 21=>⟨81,fun | 3=>some ⟨[0],[.slot 3 (.int .i64),.slot 4 (.int .i64)]⟩ | 7=>some ⟨[0,4],[.slot 3 (.int .i64),.slot 5 (.int .i64)]⟩ | _=>none,fun _=>none⟩ | _=>⟨0,fun _=>none,fun _=>none⟩
def qfew0 (x : Int) (l : List Act) (x_1 : Int):=(x + bif false then max (↑(List.length (ix l x_1).S) : Int) (100000 : Int) else min (↑(List.length (ix l x_1).S) : Int) (100000 : Int)) + bif false then max (↑(ix l x_1).Kept.length : Int) (1000 : Int) else min (↑(ix l x_1).Kept.length : Int) (1000 : Int)
def Vfew (l : List Act) (Q : Bool -> Prop) : Prop :=
∃ (I : Int -> Int -> Prop),∃ (m : Int -> Int -> Nat),I (0 : Int) (0 : Int) /\ ∀ (x x_1 : Int),I x x_1 -> (x_1 < (↑l.length : Int) /\ x_1 <= 60 -> (0 : Int) <= x_1 /\ x_1 < (↑l.length : Int) /\ (in64 (ix l x_1).Kind -> in64 (ix l x_1).N -> in64 (ix l x_1).Cut -> in64 (x + bif false then max (↑(List.length (ix l x_1).S) : Int) (100000 : Int) else min (↑(List.length (ix l x_1).S) : Int) (100000 : Int)) /\ (0 : Int) <= x_1 /\ x_1 < (↑l.length : Int) /\ (in64 (ix l x_1).Kind -> in64 (ix l x_1).N -> in64 (ix l x_1).Cut -> in64 (qfew0 x l x_1) /\ (0 : Int) <= x_1 /\ x_1 < (↑l.length : Int) /\ (in64 (ix l x_1).Kind -> in64 (ix l x_1).N -> in64 (ix l x_1).Cut -> in64 ((qfew0 x l x_1) + bif false then max (↑(ix l x_1).More.length : Int) (1000 : Int) else min (↑(ix l x_1).More.length : Int) (1000 : Int)) /\ ∃ (I_1 : Int -> Int -> Prop),∃ (m_1 : Int -> Int -> Nat),I_1 ((qfew0 x l x_1) + bif false then max (↑(ix l x_1).More.length : Int) (1000 : Int) else min (↑(ix l x_1).More.length : Int) (1000 : Int)) (0 : Int) /\ ∀ (x_2 x_3 : Int),I_1 x_2 x_3 -> (0 : Int) <= x_1 /\ x_1 < (↑l.length : Int) /\ (in64 (ix l x_1).Kind -> in64 (ix l x_1).N -> in64 (ix l x_1).Cut -> (x_3 < (↑(ix l x_1).More.length : Int) /\ x_3 <= 50 -> (0 : Int) <= x_1 /\ x_1 < (↑l.length : Int) /\ (in64 (ix l x_1).Kind -> in64 (ix l x_1).N -> in64 (ix l x_1).Cut -> (0 : Int) <= x_3 /\ x_3 < (↑(ix l x_1).More.length : Int) /\ in64 (x_2 + bif false then max (↑(ix (ix l x_1).More x_3).length : Int) (100000 : Int) else min (↑(ix (ix l x_1).More x_3).length : Int) (100000 : Int)) /\ in64 (x_3 + 1) /\ I_1 (x_2 + bif false then max (↑(ix (ix l x_1).More x_3).length : Int) (100000 : Int) else min (↑(ix (ix l x_1).More x_3).length : Int) (100000 : Int)) (x_3 + 1) /\ m_1 (x_2 + bif false then max (↑(ix (ix l x_1).More x_3).length : Int) (100000 : Int) else min (↑(ix (ix l x_1).More x_3).length : Int) (100000 : Int)) (x_3 + 1) < m_1 x_2 x_3)) /\ (¬(x_3 < (↑(ix l x_1).More.length : Int) /\ x_3 <= 50) -> (¬(40000 : Int) < x_2 -> (0 : Int) <= x_1) /\ (¬(40000 : Int) < x_2 -> x_1 < (↑l.length : Int)) /\ ((¬(40000 : Int) < x_2 -> in64 (ix l x_1).Kind) -> (¬(40000 : Int) < x_2 -> in64 (ix l x_1).N) -> (¬(40000 : Int) < x_2 -> in64 (ix l x_1).Cut) -> ((40000 : Int) < x_2 ∨ (50 : Int) < (↑(ix l x_1).More.length : Int) -> Q false) /\ (¬((40000 : Int) < x_2 ∨ (50 : Int) < (↑(ix l x_1).More.length : Int)) -> in64 (x_1 + 1) /\ I x_2 (x_1 + 1) /\ m x_2 (x_1 + 1) < m x x_1)))))))) /\ (¬(x_1 < (↑l.length : Int) /\ x_1 <= 60) -> Q (decide ((↑l.length : Int) <= 60)))
theorem Vfew_ok {l : List Act} {Q : Bool -> Prop} (h : Vfew l Q) : vcFun (E:=Nars) (inlHN Nars Hopen anfew 2) (anfew 21) Try.f21 [.sl (N:=U) 46 l] [] [] 0 (resP Nars [.bool] Q):=Eq.mp (show Vfew l Q = vcFun (E:=Nars) (inlHN Nars Hopen anfew 2) (anfew 21) Try.f21 [.sl (N:=U) 46 l] [] [] 0 (resP Nars [.bool] Q) by kernel_rfl) h
set_option maxHeartbeats 1000000 in
theorem pfew (l : List Act)  : Vfew l (fun y0=>y0 = fewS l):=by
 unfold Vfew qfew0
 have hT : (l.take 61).length = min 61 l.length:=List.length_take
 have b0 : ∀ a b : Int,(bif false then max a b else min a b) = min a b:=fun _ _=>rfl
 refine ⟨fun x i=>0 <= i /\ i <= (l.take 61).length /\ 0 <= x /\ x <= 40000 /\ fewU x ((l.take 61).drop i.toNat) = fewU 0 (l.take 61),fun _ i=>(((l.take 61).length : Int) - i).toNat,⟨by omega,by omega,by omega,by omega,rfl⟩,?_⟩
 rintro x i ⟨i0,i1,x0,x1,hx⟩
 refine ⟨fun h=>?_,fun h=>?_⟩
 . have hi : i < (l.take 61).length:=by omega
   rw [drop_ix i0 hi,ix_take i0 (by omega) h.1,fewU,actU] at hx
   generalize ix l i = a at hx ⊢
   rw [b0,b0,b0]
   have hM : (a.More.take 51).length = min 51 a.More.length:=List.length_take
   refine ⟨i0,h.1,fun _ _ _=>⟨⟨by omega,by omega⟩,i0,h.1,fun _ _ _=>⟨⟨by omega,by omega⟩,i0,h.1,fun _ _ _=>⟨⟨by omega,by omega⟩,?_⟩⟩⟩⟩
   generalize hn : x + min (a.S.length : Int) 100000 + min (a.Kept.length : Int) 1000 + min (a.More.length : Int) 1000 = n at hx ⊢
   have n0 : 0 <= n /\ n <= 142000:=by omega
   refine ⟨fun y k=>0 <= k /\ k <= (a.More.take 51).length /\ 0 <= y /\ y <= 142000 + 100000 * k /\ moreU y ((a.More.take 51).drop k.toNat) = moreU n (a.More.take 51),fun _ k=>(((a.More.take 51).length : Int) - k).toNat,⟨by omega,by omega,by omega,by omega,rfl⟩,?_⟩
   rintro y k ⟨k0,k1,y0,y1,hy⟩
   refine ⟨i0,h.1,fun _ _ _=>⟨fun h2=>?_,fun h2=>?_⟩⟩
   . have hk : k < (a.More.take 51).length:=by omega
     rw [drop_ix k0 hk,ix_take k0 (by omega) h2.1,moreU] at hy
     rw [b0]
     exact ⟨i0,h.1,fun _ _ _=>⟨k0,h2.1,⟨by omega,by omega⟩,⟨by omega,by omega⟩,⟨by omega,by omega,by omega,by omega,hy⟩,by dsimp only; omega⟩⟩
   . rw [List.drop_of_length_le (by omega),moreU] at hy
     rw [<- hy] at hx
     refine ⟨fun _=>i0,fun _=>h.1,fun _ _ _=>⟨fun h3=>?_,fun h3=>?_⟩⟩
     . rw [if_pos h3] at hx
       unfold fewS
       rw [<- hx]; rfl
     . rw [if_neg h3] at hx
       exact ⟨⟨by omega,by omega⟩,⟨by omega,by omega,y0,by omega,by rw [show (i + 1).toNat = (i + 1).toNat from rfl]; exact hx⟩,by dsimp only; omega⟩
 . rw [List.drop_of_length_le (by omega),fewU] at hx
   unfold fewS
   rw [<- hx,if_pos rfl]
def cfew (a : List (SV U)) : Option (Q1 U):=match a with | [.sl 46 l]=>some ⟨[],[],blB (fewS l)⟩ | _=>none
theorem cfew_ok (args : List (SV U)) (q : Q1 U) (h : cfew args = some q) (ho : allP q.ob) : LendOK Nars 21 args ⟨q.ob,q.hy,q.v,[]⟩:=by
 unfold cfew at h
 split at h
 . rename_i l
   cases h
   exact lend1 Nars_ok (inlHN_ok Nars_ok Hopen_ok anfew 2) Try.func21 (k:=.bool) (x:=fewS l) trivial (Vfew_ok (pfew l )) 0
 . cases h
noncomputable def Nfew : Env:=Nars.addL 21 cfew
theorem Nfew_ok : EnvOK Nfew:=Nars_ok.addL Try.call21 cfew_ok
end Go.Proofs.Ytckpdliipjekgaa
end
section
namespace Go.Proofs.Ytckpdliipjekgaa
open Go Go.Wk Go.Wl Go.Rx Go.Wa Go.Wa
theorem half_w {w0 : World} {d : Nat} {x : Dk} {F : List Nat} (h : DkIs d w0 x F) (ok : x.Ok) :
  CallR Try.prog 44 [.pointer (some ⟨d,0,none⟩)] w0 (fun v w'=>v = .int .i64 (halfS x) /\ w' = w0):=by
 have h1:=ok.pos
 have h2:=ok.max
 obtain ⟨g1,g2,_⟩:=half_at ok
 refine Call1 Try.func44 rfl rfl rfl rfl ?_
 refine W_seq ?_
 refine W_region ?_
 refine S_assign rfl ?_
 refine WL_nil ?_
 refine W_seq ?_
 refine W_region ?_
 refine S_move rfl ?_
 refine S_callQ Try.call42 rfl (size_ok h ok) rfl ?_
 refine S_sub rfl rfl (by omega) rfl ?_
 refine S_quo rfl rfl (by decide) rfl ?_
 refine S_assign rfl ?_
 refine WL_nil ?_
 refine W_ret ?_
 have e : IntKind.i64.wrap (((x.lasts.length : Int) - 2).tdiv 2) = halfS x:=by
  show IntKind.i64.wrap (halfS x) = halfS x
  rw [wrap_at]; omega
 show Value.int .i64 (IntKind.i64.wrap (((x.lasts.length : Int) - 2).tdiv 2)) = .int .i64 (halfS x) /\ w0 = w0
 rw [e]
 exact ⟨rfl,rfl⟩
theorem size_w {w0 : World} {a d : Nat} {x : Dk} {F : List Nat} {cs : List Value} (h : DkIs d w0 x F) (ok : x.Ok) (ha : Own w0 a 54 cs) (hc : cs[0]? = some (.pointer (some ⟨d,0,none⟩))) :
  CallR Try.prog 26 [.pointer (some ⟨a,0,none⟩)] w0 (fun v w'=>v = .int .i64 (halfS x * 256) /\ w' = w0):=by
 obtain ⟨g1,g2,_⟩:=half_at ok
 refine Call1 Try.func26 rfl rfl rfl rfl ?_
 refine W_seq ?_
 refine W_region ?_
 refine S_assign rfl ?_
 refine WL_nil ?_
 refine W_seq ?_
 refine W_region ?_
 refine S_move rfl ?_
 refine S_nilCheck rfl rfl ?_
 refine S_fieldAddr Try.runUnderlying54 rfl Try.sizeOf23 rfl rfl ?_
 refine S_load1 Try.isAgg23 rfl (Own.at ha hc) rfl ?_
 refine S_callQ Try.call44 rfl (half_w h ok) rfl ?_
 refine S_mul rfl rfl (by omega) rfl ?_
 refine S_assign rfl ?_
 refine WL_nil ?_
 refine W_ret ?_
 show Value.int .i64 (halfS x * 256) = .int .i64 (halfS x * 256) /\ w0 = w0
 exact ⟨rfl,rfl⟩
def cRz (args : List (SV U)) (its : Items U) : Option (Q1 U):=match args with
 | [.ref i 0]=>(match lk its i with
  | some (.own 54 (.ref j 0 :: _))=>(match lk its j with
   | some (.ob 0 _ x)=>some ⟨[Dk.Ok x],[],.int .i64 (halfS x * 256)⟩
   | _=>none)
  | _=>none)
 | _=>none
theorem cRz_ok (args : List (SV U)) (its : Items U) (q : Q1 U) (h : cRz args its = some q) (ho : allP q.ob) : RocOK Try.prog U eT 26 args its q:=by
 unfold cRz at h
 split at h
 . rename_i i
   split at h
   . rename_i j r hi
     split at h
     . rename_i f x hj
       cases h
       intro ρ Z w vs hh ha
       obtain ⟨L,cs,hL,hbs,how,hr⟩:=hh _ _ hi
       obtain ⟨L2,Lf,hL2,hLf,hob⟩:=hh _ _ hj
       obtain ⟨v1,r1,rfl,h1,ha⟩:=Rep.tup_cons ha
       obtain rfl:=tup0_inv ha
       cases h1 with | ref hL' =>
       rw [hL] at hL'; cases hL'
       obtain ⟨v2,r2,rfl,h2,_,hr⟩:=RepL.cons_inv hr
       cases h2 with | ref hL' =>
       rw [hL2] at hL'; cases hL'
       have ok : x.Ok:=ho.1
       obtain ⟨g1,g2,_⟩:=half_at ok
       exact (size_w (show DkIs L2.b w x Lf.bs from hob) ok how rfl).mono fun v w' ⟨e1,e2⟩=>by
        subst e1; subst e2
        exact ⟨Ext.refl _ _,.int fun _=>⟨by omega,by omega⟩,trivial⟩
     . cases h
   . cases h
 . cases h
end Go.Proofs.Ytckpdliipjekgaa
end
section
namespace Go.Proofs.Ytckpdliipjekgaa
open Go Go.Wk Go.Wl Go.Rx Go.Wa 
noncomputable def NRz : Env:=Nfew.addR 26 cRz
theorem NRz_ok : EnvOK NRz:=Nfew_ok.addR Try.call26 cRz_ok
def anrm : Nat -> Ann:=fun | 10=>⟨26,fun _=>none,fun _=>none⟩ | _=>⟨0,fun _=>none,fun _=>none⟩
def Vrm (tn : Int) (hf : Int) (bt : Str) (rs : List Str) (wt : List Str) (pd : Prop) (dd : Decidable pd) (x : Dk) (Q : Int -> Int -> Int -> Str -> List Str -> List Str -> Bool -> Dk -> Prop) : Prop :=
x.Ok /\ in64 (halfS x * 256 - (↑(List.length bt) : Int)) /\ SmL wt /\ in64 (halfS x * 256 - (↑(List.length bt) : Int) - sizeS wt) /\ Q (halfS x * 256 - (↑(List.length bt) : Int) - sizeS wt) tn hf bt rs wt (decide pd) x
theorem Vrm_eq {tn : Int} {hf : Int} {bt : Str} {rs : List Str} {wt : List Str} {pd : Prop} {dd : Decidable pd} {x : Dk} {Q : Int -> Int -> Int -> Str -> List Str -> List Str -> Bool -> Dk -> Prop} : @Eq Prop (Vrm tn hf bt rs wt pd dd x Q) (vcFun (E:=NRz) (inlHN NRz Hopen anrm 3) (anrm 10) Try.f10 [.ref 0 0] [(0,.own 54 [.ref 1 0,.int .i64 tn,.int .i64 hf,.str bt,.acc 2,.acc 3,.bl pd dd]),(1,.ob (N:=U) 0 5 x),(2,.ac (N:=U) 9 rs),(3,.ac (N:=U) 9 wt)] [] 8 (endG NRz [(0,.own 54 [.ref 1 0,.int .i64 tn,.int .i64 hf,.str bt,.acc 2,.acc 3,.bl pd dd]),(1,.ob (N:=U) 0 5 x),(2,.ac (N:=U) 9 rs),(3,.ac (N:=U) 9 wt)] 8 1 [[.slot 0 (.int .i64),.tree [] [.own (some 200) 54 [.to 1,.v (.int .i64),.v (.int .i64),.v (.str),.v (.acc 9),.v (.acc 9),.v (.bool)],.ob (some 201) 0]]] ((Q,fun _ _ _ _ _ _ _ _=>(0 : Nat)),()))):=by kernel_rfl
theorem Vrm_ok {tn : Int} {hf : Int} {bt : Str} {rs : List Str} {wt : List Str} {pd : Prop} {dd : Decidable pd} {x : Dk} {Q : Int -> Int -> Int -> Str -> List Str -> List Str -> Bool -> Dk -> Prop} (h : Vrm tn hf bt rs wt pd dd x Q) : vcFun (E:=NRz) (inlHN NRz Hopen anrm 3) (anrm 10) Try.f10 [.ref 0 0] [(0,.own 54 [.ref 1 0,.int .i64 tn,.int .i64 hf,.str bt,.acc 2,.acc 3,.bl pd dd]),(1,.ob (N:=U) 0 5 x),(2,.ac (N:=U) 9 rs),(3,.ac (N:=U) 9 wt)] [] 8 (endG NRz [(0,.own 54 [.ref 1 0,.int .i64 tn,.int .i64 hf,.str bt,.acc 2,.acc 3,.bl pd dd]),(1,.ob (N:=U) 0 5 x),(2,.ac (N:=U) 9 rs),(3,.ac (N:=U) 9 wt)] 8 1 [[.slot 0 (.int .i64),.tree [] [.own (some 200) 54 [.to 1,.v (.int .i64),.v (.int .i64),.v (.str),.v (.acc 9),.v (.acc 9),.v (.bool)],.ob (some 201) 0]]] ((Q,fun _ _ _ _ _ _ _ _=>(0 : Nat)),())):=by rw [<- Vrm_eq]; exact h
theorem sizeU_bd : ∀ (l : List Str) (x : Int),(∀ s ∈ l,s.length <= 1000000) -> 0 <= x -> 0 <= sizeU x l /\ sizeU x l <= x + 1000007 * l.length
 | [],x,_,h0=>⟨h0,by show x <= x + 1000007 * ((0 : Nat) : Int); omega⟩
 | s :: r,x,h,h0=>by
  have hs:=h s (List.mem_cons_self ..)
  have h1:=sizeU_bd r (x + (7 + (s.length : Int))) (fun t ht=>h t (List.mem_cons_of_mem _ ht)) (by omega)
  rw [sizeU,List.length_cons]
  split <;> omega
set_option maxHeartbeats 4000000 in
theorem prm (tn : Int) (hf : Int) (bt : Str) (rs : List Str) (wt : List Str) (pd : Prop) (dd : Decidable pd) (x : Dk) (hb : LgB (⟨tn,hf,bt,rs,wt,decide pd,x⟩ : Lg)) : Vrm tn hf bt rs wt pd dd x (fun y0 y1 y2 y3 y4 y5 y6 y7=>y0 = (halfS x * 256 - (List.length (α:=UInt8) bt : Int) - sizeS wt) /\ y1 = tn /\ y2 = hf /\ y3 = bt /\ y4 = rs /\ y5 = wt /\ y6 = (decide pd) /\ y7 = x):=by
 unfold Vrm
 obtain ⟨ok,h0,h1,hb,t0,t1,hn,hw,hp⟩:=hb
 have ok : x.Ok:=ok
 have hb : bt.length <= 2000000:=hb
 have hw : SmL wt:=hw
 obtain ⟨g0,g1,_⟩:=half_at ok
 have hq : 0 <= sizeS wt /\ sizeS wt <= 1000007 * wt.length:=by
  have:=sizeU_bd wt 0 hw.2 (Int.le_refl 0)
  exact ⟨this.1,by have:=this.2; show sizeU 0 wt <= _; omega⟩
 have:=hw.1
 refine ⟨ok,⟨by omega,by omega⟩,hw,?_,rfl,rfl,rfl,rfl,rfl,rfl,rfl,rfl⟩
 generalize sizeS wt = z at hq
 exact ⟨by omega,by omega⟩
noncomputable def frms (tn : Int) (hf : Int) (bt : Str) (rs : List Str) (wt : List Str) (pd : Prop) (dd : Decidable pd) (x : Dk) : FR U:=frOf NRz [LgB (⟨tn,hf,bt,rs,wt,decide pd,x⟩ : Lg)] [(0,.own 54 [.ref 1 0,.int .i64 tn,.int .i64 hf,.str bt,.acc 2,.acc 3,.bl pd dd]),(1,.ob (N:=U) 0 5 x),(2,.ac (N:=U) 9 rs),(3,.ac (N:=U) 9 wt)] 8 1 [.slot 0 (.int .i64),.tree [] [.own (some 200) 54 [.to 1,.v (.int .i64),.v (.int .i64),.v (.str),.v (.acc 9),.v (.acc 9),.v (.bool)],.ob (some 201) 0]] ((halfS x * 256 - (List.length (α:=UInt8) bt : Int) - sizeS wt),((tn,hf,bt,rs,wt,(decide pd),()),x,()),())
noncomputable def frm : FC U:=⟨[],[],fun a its=>match a,its with | [.ref 0 0],[(0,.own 54 [.ref 1 0,.int .i64 tn,.int .i64 hf,.str bt,.acc 2,.acc 3,.bl pd dd]),(1,.ob 0 5 x),(2,.ac 9 rs),(3,.ac 9 wt)]=>some (frms tn hf bt rs wt pd dd x) | _,_=>none⟩
set_option maxHeartbeats 4000000 in
theorem frm_ok (args : List (SV U)) (its : Items U) (r : FR U) (h : frm.C args its = some r) (ho : allP r.ob) : GenOK Try.prog U eT Gl 10 args its (2 * its.length) (fun k=>allP r.hy -> k r.v r.its r.n):=by
 unfold frm at h
 simp only at h
 split at h
 . rename_i tn hf bt pd dd x rs wt
   cases h
   exact fc_ok NRz_ok (inlHN_ok NRz_ok Hopen_ok anrm 3) Try.func10 (n:=1) rfl (vs:=[.slot 0 (.int .i64),.tree [] [.own (some 200) 54 [.to 1,.v (.int .i64),.v (.int .i64),.v (.str),.v (.acc 9),.v (.acc 9),.v (.bool)],.ob (some 201) 0]]) (X:=((halfS x * 256 - (List.length (α:=UInt8) bt : Int) - sizeS wt),((tn,hf,bt,rs,wt,(decide pd),()),x,()),())) rfl (Vrm_ok (prm tn hf bt rs wt pd dd x ho.1))
 . cases h
noncomputable def Nrm : Env:=(NRz.addI 10 Try.f10).addX 10 frm
theorem Nrm_ok : EnvOK Nrm:=(NRz_ok.addI Try.call10 Try.func10).addX Try.call10 frm_ok
def anap : Nat -> Ann:=fun | 11=>⟨36,fun _=>none,fun _=>none⟩ | _=>⟨0,fun _=>none,fun _=>none⟩
def Vap (tn : Int) (hf : Int) (bt : Str) (rs : List Str) (wt : List Str) (pd : Prop) (dd : Decidable pd) (x : Dk) (l : List Str) (Q : Err -> Int -> Int -> Str -> List Str -> List Str -> Bool -> Dk -> Prop) : Prop :=
(pd -> (Err.no (9 : Int) ≠ Err.nil -> Q (Err.no (9 : Int)) tn hf bt rs wt (decide pd) x) /\ (¬Err.no (9 : Int) ≠ Err.nil -> SmL l /\ ((packE l).snd ≠ Err.nil -> Q (packE l).snd tn hf bt rs wt (decide pd) x) /\ (¬(packE l).snd ≠ Err.nil -> LgB (Lg.mk tn hf bt rs wt (decide pd) x) /\ (halfS x * 256 - (↑(List.length bt) : Int) - sizeS wt < (↑(List.length (packE l).fst) : Int) -> Q (Err.no (6 : Int)) tn hf bt rs wt (decide (decide pd = true)) x) /\ (¬halfS x * 256 - (↑(List.length bt) : Int) - sizeS wt < (↑(List.length (packE l).fst) : Int) -> (wt.length + l.length) * (some (16 : Nat)).getD (0 : Nat) <= 140737488355328 /\ Q Err.nil tn hf bt rs (wt ++ l) (decide (decide pd = true)) x)))) /\ (¬pd -> (Err.nil ≠ Err.nil -> Q Err.nil tn hf bt rs wt (decide pd) x) /\ (¬Err.nil ≠ Err.nil -> SmL l /\ ((packE l).snd ≠ Err.nil -> Q (packE l).snd tn hf bt rs wt (decide pd) x) /\ (¬(packE l).snd ≠ Err.nil -> LgB (Lg.mk tn hf bt rs wt (decide pd) x) /\ (halfS x * 256 - (↑(List.length bt) : Int) - sizeS wt < (↑(List.length (packE l).fst) : Int) -> Q (Err.no (6 : Int)) tn hf bt rs wt (decide (decide pd = true)) x) /\ (¬halfS x * 256 - (↑(List.length bt) : Int) - sizeS wt < (↑(List.length (packE l).fst) : Int) -> (wt.length + l.length) * (some (16 : Nat)).getD (0 : Nat) <= 140737488355328 /\ Q Err.nil tn hf bt rs (wt ++ l) (decide (decide pd = true)) x))))
theorem Vap_eq {tn : Int} {hf : Int} {bt : Str} {rs : List Str} {wt : List Str} {pd : Prop} {dd : Decidable pd} {x : Dk} {l : List Str} {Q : Err -> Int -> Int -> Str -> List Str -> List Str -> Bool -> Dk -> Prop} : @Eq Prop (Vap tn hf bt rs wt pd dd x l Q) (vcFun (E:=Nrm) (inlHN Nrm Hopen anap 3) (anap 11) Try.f11 [.ref 0 0,.sl (N:=U) 9 l] [(0,.own 54 [.ref 1 0,.int .i64 tn,.int .i64 hf,.str bt,.acc 2,.acc 3,.bl pd dd]),(1,.ob (N:=U) 0 5 x),(2,.ac (N:=U) 9 rs),(3,.ac (N:=U) 9 wt)] [] 8 (endG Nrm [(0,.own 54 [.ref 1 0,.int .i64 tn,.int .i64 hf,.str bt,.acc 2,.acc 3,.bl pd dd]),(1,.ob (N:=U) 0 5 x),(2,.ac (N:=U) 9 rs),(3,.ac (N:=U) 9 wt)] 8 1 [[.slot 0 (.err),.tree [] [.own (some 200) 54 [.to 1,.v (.int .i64),.v (.int .i64),.v (.str),.v (.acc 9),.v (.acc 9),.v (.bool)],.ob (some 201) 0]]] ((Q,fun _ _ _ _ _ _ _ _=>(0 : Nat)),()))):=by kernel_rfl
theorem Vap_ok {tn : Int} {hf : Int} {bt : Str} {rs : List Str} {wt : List Str} {pd : Prop} {dd : Decidable pd} {x : Dk} {l : List Str} {Q : Err -> Int -> Int -> Str -> List Str -> List Str -> Bool -> Dk -> Prop} (h : Vap tn hf bt rs wt pd dd x l Q) : vcFun (E:=Nrm) (inlHN Nrm Hopen anap 3) (anap 11) Try.f11 [.ref 0 0,.sl (N:=U) 9 l] [(0,.own 54 [.ref 1 0,.int .i64 tn,.int .i64 hf,.str bt,.acc 2,.acc 3,.bl pd dd]),(1,.ob (N:=U) 0 5 x),(2,.ac (N:=U) 9 rs),(3,.ac (N:=U) 9 wt)] [] 8 (endG Nrm [(0,.own 54 [.ref 1 0,.int .i64 tn,.int .i64 hf,.str bt,.acc 2,.acc 3,.bl pd dd]),(1,.ob (N:=U) 0 5 x),(2,.ac (N:=U) 9 rs),(3,.ac (N:=U) 9 wt)] 8 1 [[.slot 0 (.err),.tree [] [.own (some 200) 54 [.to 1,.v (.int .i64),.v (.int .i64),.v (.str),.v (.acc 9),.v (.acc 9),.v (.bool)],.ob (some 201) 0]]] ((Q,fun _ _ _ _ _ _ _ _=>(0 : Nat)),())):=by rw [<- Vap_eq]; exact h
set_option maxHeartbeats 1000000 in
theorem pap (tn : Int) (hf : Int) (bt : Str) (rs : List Str) (wt : List Str) (pd : Prop) (dd : Decidable pd) (x : Dk) (l : List Str) (hb : LgB (⟨tn,hf,bt,rs,wt,decide pd,x⟩ : Lg)) (hl : SmL l) : Vap tn hf bt rs wt pd dd x l (fun y0 y1 y2 y3 y4 y5 y6 y7=>y0 = (appS (⟨tn,hf,bt,rs,wt,decide pd,x⟩ : Lg) l).1 /\ y1 = ((appS (⟨tn,hf,bt,rs,wt,decide pd,x⟩ : Lg) l).2).turn /\ y2 = ((appS (⟨tn,hf,bt,rs,wt,decide pd,x⟩ : Lg) l).2).half /\ y3 = ((appS (⟨tn,hf,bt,rs,wt,decide pd,x⟩ : Lg) l).2).bytes /\ y4 = ((appS (⟨tn,hf,bt,rs,wt,decide pd,x⟩ : Lg) l).2).recs /\ y5 = ((appS (⟨tn,hf,bt,rs,wt,decide pd,x⟩ : Lg) l).2).wait /\ y6 = ((appS (⟨tn,hf,bt,rs,wt,decide pd,x⟩ : Lg) l).2).dead /\ y7 = ((appS (⟨tn,hf,bt,rs,wt,decide pd,x⟩ : Lg) l).2).d):=by
 unfold Vap appS
 have e9 : Err.no 9 ≠ Err.nil:=by simp
 have hn : rs.length + wt.length <= 1000000:=hb.n
 have hl0:=hl.1
 have e16 : (some 16).getD 0 = 16:=rfl
 have dd2 : decide (decide pd = true) = decide pd:=Bool.decide_eq_true
 refine ⟨fun hd=>⟨fun _=>?_,fun h=>absurd e9 h⟩,fun hd=>⟨fun h=>absurd rfl h,fun _=>⟨hl,fun h3=>?_,fun h3=>⟨hb,fun h4=>?_,fun h4=>⟨by rw [e16]; omega,?_⟩⟩⟩⟩⟩
 . rw [if_pos (show (⟨tn,hf,bt,rs,wt,decide pd,x⟩ : Lg).dead = true from decide_eq_true hd)]; exact ⟨rfl,rfl,rfl,rfl,rfl,rfl,rfl,rfl⟩
 . rw [if_neg (show ¬ (⟨tn,hf,bt,rs,wt,decide pd,x⟩ : Lg).dead = true from fun h=>hd (of_decide_eq_true h)),if_pos h3]; exact ⟨rfl,rfl,rfl,rfl,rfl,rfl,rfl,rfl⟩
 . rw [if_neg (show ¬ (⟨tn,hf,bt,rs,wt,decide pd,x⟩ : Lg).dead = true from fun h=>hd (of_decide_eq_true h)),if_neg h3,if_pos (show roomS ⟨tn,hf,bt,rs,wt,decide pd,x⟩ < ((packE l).1.length : Int) from h4)]; exact ⟨rfl,rfl,rfl,rfl,rfl,rfl,dd2,rfl⟩
 . rw [if_neg (show ¬ (⟨tn,hf,bt,rs,wt,decide pd,x⟩ : Lg).dead = true from fun h=>hd (of_decide_eq_true h)),if_neg h3,if_neg (show ¬ roomS ⟨tn,hf,bt,rs,wt,decide pd,x⟩ < ((packE l).1.length : Int) from h4)]; exact ⟨rfl,rfl,rfl,rfl,rfl,rfl,dd2,rfl⟩
noncomputable def faps (tn : Int) (hf : Int) (bt : Str) (rs : List Str) (wt : List Str) (pd : Prop) (dd : Decidable pd) (x : Dk) (l : List Str) : FR U:=frOf Nrm [LgB (⟨tn,hf,bt,rs,wt,decide pd,x⟩ : Lg),SmL l] [(0,.own 54 [.ref 1 0,.int .i64 tn,.int .i64 hf,.str bt,.acc 2,.acc 3,.bl pd dd]),(1,.ob (N:=U) 0 5 x),(2,.ac (N:=U) 9 rs),(3,.ac (N:=U) 9 wt)] 8 1 [.slot 0 (.err),.tree [] [.own (some 200) 54 [.to 1,.v (.int .i64),.v (.int .i64),.v (.str),.v (.acc 9),.v (.acc 9),.v (.bool)],.ob (some 201) 0]] ((appS (⟨tn,hf,bt,rs,wt,decide pd,x⟩ : Lg) l).1,((((appS (⟨tn,hf,bt,rs,wt,decide pd,x⟩ : Lg) l).2).turn,((appS (⟨tn,hf,bt,rs,wt,decide pd,x⟩ : Lg) l).2).half,((appS (⟨tn,hf,bt,rs,wt,decide pd,x⟩ : Lg) l).2).bytes,((appS (⟨tn,hf,bt,rs,wt,decide pd,x⟩ : Lg) l).2).recs,((appS (⟨tn,hf,bt,rs,wt,decide pd,x⟩ : Lg) l).2).wait,((appS (⟨tn,hf,bt,rs,wt,decide pd,x⟩ : Lg) l).2).dead,()),((appS (⟨tn,hf,bt,rs,wt,decide pd,x⟩ : Lg) l).2).d,()),())
noncomputable def fap : FC U:=⟨[1],[],fun a its=>match a,its with | [.ref 0 0,.sl 9 l],[(0,.own 54 [.ref 1 0,.int .i64 tn,.int .i64 hf,.str bt,.acc 2,.acc 3,.bl pd dd]),(1,.ob 0 5 x),(2,.ac 9 rs),(3,.ac 9 wt)]=>some (faps tn hf bt rs wt pd dd x l) | _,_=>none⟩
set_option maxHeartbeats 1000000 in
theorem fap_ok (args : List (SV U)) (its : Items U) (r : FR U) (h : fap.C args its = some r) (ho : allP r.ob) : GenOK Try.prog U eT Gl 11 args its (2 * its.length) (fun k=>allP r.hy -> k r.v r.its r.n):=by
 unfold fap at h
 simp only at h
 split at h
 . rename_i l tn hf bt pd dd x rs wt
   cases h
   exact fc_ok Nrm_ok (inlHN_ok Nrm_ok Hopen_ok anap 3) Try.func11 (n:=1) rfl (vs:=[.slot 0 (.err),.tree [] [.own (some 200) 54 [.to 1,.v (.int .i64),.v (.int .i64),.v (.str),.v (.acc 9),.v (.acc 9),.v (.bool)],.ob (some 201) 0]]) (X:=((appS (⟨tn,hf,bt,rs,wt,decide pd,x⟩ : Lg) l).1,((((appS (⟨tn,hf,bt,rs,wt,decide pd,x⟩ : Lg) l).2).turn,((appS (⟨tn,hf,bt,rs,wt,decide pd,x⟩ : Lg) l).2).half,((appS (⟨tn,hf,bt,rs,wt,decide pd,x⟩ : Lg) l).2).bytes,((appS (⟨tn,hf,bt,rs,wt,decide pd,x⟩ : Lg) l).2).recs,((appS (⟨tn,hf,bt,rs,wt,decide pd,x⟩ : Lg) l).2).wait,((appS (⟨tn,hf,bt,rs,wt,decide pd,x⟩ : Lg) l).2).dead,()),((appS (⟨tn,hf,bt,rs,wt,decide pd,x⟩ : Lg) l).2).d,()),())) rfl (Vap_ok (pap tn hf bt rs wt pd dd x l ho.1 ho.2.1))
 . cases h
noncomputable def Nap : Env:=(Nrm.addI 11 Try.f11).addX 11 fap
theorem Nap_ok : EnvOK Nap:=(Nrm_ok.addI Try.call11 Try.func11).addX Try.call11 fap_ok
noncomputable def gaps (tn : Int) (hf : Int) (bt : Str) (rs : List Str) (wt : List Str) (pd : Prop) (dd : Decidable pd) (x : Dk) (l : List Str) : PT U:=fun k=>cj [LgB (⟨tn,hf,bt,rs,wt,decide pd,x⟩ : Lg),SmL l] (∀ (e' : Err) (tn' : Int) (hf' : Int) (bt' : Str) (rs' : List Str) (wt' : List Str) (dd' : Bool) (x' : Dk),(e',(⟨tn',hf',bt',rs',wt',dd',x'⟩ : Lg)) = appS (⟨tn,hf,bt,rs,wt,decide pd,x⟩ : Lg) l -> outS Nrm [(0,.own 54 [.ref 1 0,.int .i64 tn,.int .i64 hf,.str bt,.acc 2,.acc 3,.bl pd dd]),(1,.ob (N:=U) 0 5 x),(2,.ac (N:=U) 9 rs),(3,.ac (N:=U) 9 wt)] 8 1 [[.slot 0 (.err),.tree [] [.own (some 200) 54 [.to 1,.v (.int .i64),.v (.int .i64),.v (.str),.v (.acc 9),.v (.acc 9),.v (.bool)],.ob (some 201) 0]]] (([],(e',((tn',hf',bt',rs',wt',dd',()),x',()),())),()) k)
noncomputable def gap : GD U:=⟨[1],[],fun a its=>match a,its with | [.ref 0 0,.sl 9 l],[(0,.own 54 [.ref 1 0,.int .i64 tn,.int .i64 hf,.str bt,.acc 2,.acc 3,.bl pd dd]),(1,.ob 0 5 x),(2,.ac 9 rs),(3,.ac 9 wt)]=>some (gaps tn hf bt rs wt pd dd x l) | _,_=>none⟩
set_option maxHeartbeats 4000000 in
theorem gap_ok (args : List (SV U)) (its : Items U) (S : PT U) (h : gap.C args its = some S) : GenOK Try.prog U eT Gl 11 args its (2 * its.length) S:=by
 unfold gap at h
 simp only at h
 split at h
 . rename_i l tn hf bt pd dd x rs wt
   cases h
   intro k hk
   obtain ⟨ho,hk⟩:=cj_ob hk
   exact gs_ok Nrm_ok (inlHN_ok Nrm_ok Hopen_ok anap 3) Try.func11 (n:=1) rfl (ss:=[[.slot 0 (.err),.tree [] [.own (some 200) 54 [.to 1,.v (.int .i64),.v (.int .i64),.v (.str),.v (.acc 9),.v (.acc 9),.v (.bool)],.ob (some 201) 0]]]) (R:=(([],((appS (⟨tn,hf,bt,rs,wt,decide pd,x⟩ : Lg) l).1,((((appS (⟨tn,hf,bt,rs,wt,decide pd,x⟩ : Lg) l).2).turn,((appS (⟨tn,hf,bt,rs,wt,decide pd,x⟩ : Lg) l).2).half,((appS (⟨tn,hf,bt,rs,wt,decide pd,x⟩ : Lg) l).2).bytes,((appS (⟨tn,hf,bt,rs,wt,decide pd,x⟩ : Lg) l).2).recs,((appS (⟨tn,hf,bt,rs,wt,decide pd,x⟩ : Lg) l).2).wait,((appS (⟨tn,hf,bt,rs,wt,decide pd,x⟩ : Lg) l).2).dead,()),((appS (⟨tn,hf,bt,rs,wt,decide pd,x⟩ : Lg) l).2).d,()),())),())) (obs:=[]) rfl (fun _=>Vap_ok (pap tn hf bt rs wt pd dd x l ho.1 ho.2.1)) k (hk (appS (⟨tn,hf,bt,rs,wt,decide pd,x⟩ : Lg) l).1 (appS (⟨tn,hf,bt,rs,wt,decide pd,x⟩ : Lg) l).2.turn (appS (⟨tn,hf,bt,rs,wt,decide pd,x⟩ : Lg) l).2.half (appS (⟨tn,hf,bt,rs,wt,decide pd,x⟩ : Lg) l).2.bytes (appS (⟨tn,hf,bt,rs,wt,decide pd,x⟩ : Lg) l).2.recs (appS (⟨tn,hf,bt,rs,wt,decide pd,x⟩ : Lg) l).2.wait (appS (⟨tn,hf,bt,rs,wt,decide pd,x⟩ : Lg) l).2.dead (appS (⟨tn,hf,bt,rs,wt,decide pd,x⟩ : Lg) l).2.d rfl)
 . cases h
noncomputable def gsys (tn : Int) (hf : Int) (bt : Str) (rs : List Str) (wt : List Str) (pd : Prop) (dd : Decidable pd) (x : Dk) : PT U:=fun k=>cj [LgB (⟨tn,hf,bt,rs,wt,decide pd,x⟩ : Lg)] (∀ (e' : Err) (tn' : Int) (hf' : Int) (bt' : Str) (rs' : List Str) (wt' : List Str) (dd' : Bool) (x' : Dk),(e',(⟨tn',hf',bt',rs',wt',dd',x'⟩ : Lg)) = syncS (⟨tn,hf,bt,rs,wt,decide pd,x⟩ : Lg) -> outS Nwr [(0,.own 54 [.ref 1 0,.int .i64 tn,.int .i64 hf,.str bt,.acc 2,.acc 3,.bl pd dd]),(1,.ob (N:=U) 0 5 x),(2,.ac (N:=U) 9 rs),(3,.ac (N:=U) 9 wt)] 8 1 [[.slot 0 (.err),.tree [] [.own (some 200) 54 [.to 1,.v (.int .i64),.v (.int .i64),.v (.str),.v (.acc 9),.v (.acc 9),.v (.bool)],.ob (some 201) 0]]] (([],(e',((tn',hf',bt',rs',wt',dd',()),x',()),())),()) k)
noncomputable def gsy : GD U:=⟨[],[],fun a its=>match a,its with | [.ref 0 0],[(0,.own 54 [.ref 1 0,.int .i64 tn,.int .i64 hf,.str bt,.acc 2,.acc 3,.bl pd dd]),(1,.ob 0 5 x),(2,.ac 9 rs),(3,.ac 9 wt)]=>some (gsys tn hf bt rs wt pd dd x) | _,_=>none⟩
set_option maxHeartbeats 4000000 in
theorem gsy_ok (args : List (SV U)) (its : Items U) (S : PT U) (h : gsy.C args its = some S) : GenOK Try.prog U eT Gl 14 args its (2 * its.length) S:=by
 unfold gsy at h
 simp only at h
 split at h
 . rename_i tn hf bt pd dd x rs wt
   cases h
   intro k hk
   obtain ⟨ho,hk⟩:=cj_ob hk
   exact gs_ok Nwr_ok (inlHN_ok Nwr_ok Hopen_ok ansy 3) Try.func14 (n:=1) rfl (ss:=[[.slot 0 (.err),.tree [] [.own (some 200) 54 [.to 1,.v (.int .i64),.v (.int .i64),.v (.str),.v (.acc 9),.v (.acc 9),.v (.bool)],.ob (some 201) 0]]]) (R:=(([],((syncS (⟨tn,hf,bt,rs,wt,decide pd,x⟩ : Lg)).1,((((syncS (⟨tn,hf,bt,rs,wt,decide pd,x⟩ : Lg)).2).turn,((syncS (⟨tn,hf,bt,rs,wt,decide pd,x⟩ : Lg)).2).half,((syncS (⟨tn,hf,bt,rs,wt,decide pd,x⟩ : Lg)).2).bytes,((syncS (⟨tn,hf,bt,rs,wt,decide pd,x⟩ : Lg)).2).recs,((syncS (⟨tn,hf,bt,rs,wt,decide pd,x⟩ : Lg)).2).wait,((syncS (⟨tn,hf,bt,rs,wt,decide pd,x⟩ : Lg)).2).dead,()),((syncS (⟨tn,hf,bt,rs,wt,decide pd,x⟩ : Lg)).2).d,()),())),())) (obs:=[]) rfl (fun _=>Vsy_ok (psy tn hf bt rs wt pd dd x ho.1)) k (hk (syncS (⟨tn,hf,bt,rs,wt,decide pd,x⟩ : Lg)).1 (syncS (⟨tn,hf,bt,rs,wt,decide pd,x⟩ : Lg)).2.turn (syncS (⟨tn,hf,bt,rs,wt,decide pd,x⟩ : Lg)).2.half (syncS (⟨tn,hf,bt,rs,wt,decide pd,x⟩ : Lg)).2.bytes (syncS (⟨tn,hf,bt,rs,wt,decide pd,x⟩ : Lg)).2.recs (syncS (⟨tn,hf,bt,rs,wt,decide pd,x⟩ : Lg)).2.wait (syncS (⟨tn,hf,bt,rs,wt,decide pd,x⟩ : Lg)).2.dead (syncS (⟨tn,hf,bt,rs,wt,decide pd,x⟩ : Lg)).2.d rfl)
 . cases h
noncomputable def gcos (tn : Int) (hf : Int) (bt : Str) (rs : List Str) (wt : List Str) (pd : Prop) (dd : Decidable pd) (x : Dk) (l : List Str) : PT U:=fun k=>cj [LgB (⟨tn,hf,bt,rs,wt,decide pd,x⟩ : Lg),SmL l] (∀ (e' : Err) (tn' : Int) (hf' : Int) (bt' : Str) (rs' : List Str) (wt' : List Str) (dd' : Bool) (x' : Dk),(e',(⟨tn',hf',bt',rs',wt',dd',x'⟩ : Lg)) = compS (⟨tn,hf,bt,rs,wt,decide pd,x⟩ : Lg) l -> outS Nsy [(0,.own 54 [.ref 1 0,.int .i64 tn,.int .i64 hf,.str bt,.acc 2,.acc 3,.bl pd dd]),(1,.ob (N:=U) 0 5 x),(2,.ac (N:=U) 9 rs),(3,.ac (N:=U) 9 wt)] 8 1 [[.slot 0 (.err),.tree [] [.own (some 200) 54 [.to 1,.v (.int .i64),.v (.int .i64),.v (.str),.v (.acc 9),.v (.acc 9),.v (.bool)],.ob (some 201) 0]]] (([],(e',((tn',hf',bt',rs',wt',dd',()),x',()),())),()) k)
noncomputable def gco : GD U:=⟨[1],[],fun a its=>match a,its with | [.ref 0 0,.sl 9 l],[(0,.own 54 [.ref 1 0,.int .i64 tn,.int .i64 hf,.str bt,.acc 2,.acc 3,.bl pd dd]),(1,.ob 0 5 x),(2,.ac 9 rs),(3,.ac 9 wt)]=>some (gcos tn hf bt rs wt pd dd x l) | _,_=>none⟩
set_option maxHeartbeats 4000000 in
theorem gco_ok (args : List (SV U)) (its : Items U) (S : PT U) (h : gco.C args its = some S) : GenOK Try.prog U eT Gl 17 args its (2 * its.length) S:=by
 unfold gco at h
 simp only at h
 split at h
 . rename_i l tn hf bt pd dd x rs wt
   cases h
   intro k hk
   obtain ⟨ho,hk⟩:=cj_ob hk
   exact gs_ok Nsy_ok (inlHN_ok Nsy_ok Hopen_ok anco 3) Try.func17 (n:=1) rfl (ss:=[[.slot 0 (.err),.tree [] [.own (some 200) 54 [.to 1,.v (.int .i64),.v (.int .i64),.v (.str),.v (.acc 9),.v (.acc 9),.v (.bool)],.ob (some 201) 0]]]) (R:=(([],((compS (⟨tn,hf,bt,rs,wt,decide pd,x⟩ : Lg) l).1,((((compS (⟨tn,hf,bt,rs,wt,decide pd,x⟩ : Lg) l).2).turn,((compS (⟨tn,hf,bt,rs,wt,decide pd,x⟩ : Lg) l).2).half,((compS (⟨tn,hf,bt,rs,wt,decide pd,x⟩ : Lg) l).2).bytes,((compS (⟨tn,hf,bt,rs,wt,decide pd,x⟩ : Lg) l).2).recs,((compS (⟨tn,hf,bt,rs,wt,decide pd,x⟩ : Lg) l).2).wait,((compS (⟨tn,hf,bt,rs,wt,decide pd,x⟩ : Lg) l).2).dead,()),((compS (⟨tn,hf,bt,rs,wt,decide pd,x⟩ : Lg) l).2).d,()),())),())) (obs:=[]) rfl (fun _=>Vco_ok (pco tn hf bt rs wt pd dd x l ho.1 ho.2.1)) k (hk (compS (⟨tn,hf,bt,rs,wt,decide pd,x⟩ : Lg) l).1 (compS (⟨tn,hf,bt,rs,wt,decide pd,x⟩ : Lg) l).2.turn (compS (⟨tn,hf,bt,rs,wt,decide pd,x⟩ : Lg) l).2.half (compS (⟨tn,hf,bt,rs,wt,decide pd,x⟩ : Lg) l).2.bytes (compS (⟨tn,hf,bt,rs,wt,decide pd,x⟩ : Lg) l).2.recs (compS (⟨tn,hf,bt,rs,wt,decide pd,x⟩ : Lg) l).2.wait (compS (⟨tn,hf,bt,rs,wt,decide pd,x⟩ : Lg) l).2.dead (compS (⟨tn,hf,bt,rs,wt,decide pd,x⟩ : Lg) l).2.d rfl)
 . cases h
noncomputable def glogs (n : Int) : PT U:=fun k=>cj [6 <= n,n <= 8192] (∀ (x' : Dk),x' = (fmtS (Dk.new n)).2 -> outS Nsame [] 0 2 [[.tree [(0,1),(1,0)] [.own none 54 [.to 1,.v (.int .i64),.v (.int .i64),.v (.str),.v (.acc 9),.v (.acc 9),.v (.bool)],.ob none 0]]] (([],((((1 : Int),(0 : Int),([] : Str),([] : List Str),([] : List Str),false,()),x',()),())),()) k)
noncomputable def glog : GD U:=⟨[],[],fun a its=>match a,its with | [.int .i64 n],[]=>some (glogs n) | _,_=>none⟩
set_option maxHeartbeats 4000000 in
theorem glog_ok (args : List (SV U)) (its : Items U) (S : PT U) (h : glog.C args its = some S) : GenOK Try.prog U eT Gl 8 args its (2 * its.length) S:=by
 unfold glog at h
 simp only at h
 split at h
 . rename_i n
   cases h
   intro k hk
   obtain ⟨ho,hk⟩:=cj_ob hk
   exact gs_ok Nsame_ok (inlHN_ok Nsame_ok Hopen_ok anlog 3) Try.func8 (n:=2) rfl (ss:=[[.tree [(0,1),(1,0)] [.own none 54 [.to 1,.v (.int .i64),.v (.int .i64),.v (.str),.v (.acc 9),.v (.acc 9),.v (.bool)],.ob none 0]]]) (R:=(([],((((1 : Int),(0 : Int),([] : Str),([] : List Str),([] : List Str),false,()),(fmtS (Dk.new n)).2,()),())),())) (obs:=[]) rfl (fun _=>Vlog_ok (plog n ho.1 ho.2.1)) k (hk _ rfl)
 . cases h
def hideF {α : Type} (l : List Nat) (f : Nat -> Option α) : Nat -> Option α:=fun k=>bif l.elem k then none else f k
theorem hideF_inv {α : Type} {l : List Nat} {f : Nat -> Option α} {k : Nat} {x : α} (h : hideF l f k = some x) : f k = some x:=by
 unfold hideF at h
 cases hb : l.elem k with
 | true=>rw [hb,cond_true] at h; cases h
 | false=>rw [hb,cond_false] at h; exact h
theorem hideF_some {α : Type} {l : List Nat} {f : Nat -> Option α} {k : Nat} (h : (hideF l f k).isSome = true) : (f k).isSome = true:=by
 obtain ⟨y,hy⟩:=Option.isSome_iff_exists.1 h
 rw [hideF_inv hy]; rfl
def hideE (E : Env) (l : List Nat) : Env:=⟨E.P,E.N,E.T,E.ty,E.zob,E.con,E.lend,E.obc,E.inl,E.G,E.wrc,E.rws,hideF l E.fnc,E.roc⟩
theorem hideE_ok {E : Env} (h : EnvOK E) (l : List Nat) : EnvOK (hideE E l) :=
 ⟨h.mixed,h.zob,h.call,h.inl,h.con,h.lend,h.obc,h.wrc,fun k hk=>h.callf k (hideF_some hk),fun k o args its r ho hr hob=>h.fnc k o args its r (hideF_inv ho) hr hob,h.callr,h.roc⟩
noncomputable def NL : Env:=hideE Nap [11,14,17,8]
theorem NL_ok : EnvOK NL:=hideE_ok Nap_ok [11,14,17,8]
noncomputable def HL : Nat -> Option (GD U):=addF 8 glog (addF 17 gco (addF 14 gsy (addF 11 gap (Hopen))))
theorem HL_ok : ∀ K o args its S,HL K = some o -> o.C args its = some S -> GenOK Try.prog U eT Gl K args its (2 * its.length) S:=addH_ok glog_ok (addH_ok gco_ok (addH_ok gsy_ok (addH_ok gap_ok (Hopen_ok))))
end Go.Proofs.Ytckpdliipjekgaa
end
section
namespace Go.Proofs.Ytckpdliipjekgaa
open Go Go.Wk Go.Wl Go.Rx Go.Wa Go.Wa
structure RunB (g : Lg) : Prop where
 ok : g.d.Ok
 len : 6 <= g.d.lasts.length
 h0 : 0 <= g.half
 h1 : g.half <= 1
 t0 : 1 <= g.turn
 sr : ShL g.recs
 by_ : g.bytes = framesS g.recs
 room : (g.bytes.length : Int) <= sizeG g
structure LaidB (g : Lg) : Prop where
 l : Laid g
 was : ∃ t h n : Int,0 <= t /\ t < g.turn /\ ix g.d.lasts ((g.turn + 1).tmod 2) = headS t h n
theorem Run.b {g : Lg} (r : Run g) : RunB g:=⟨r.pow.ok,r.len,r.h0,r.h1,r.t0,r.sr,r.by_,by have:=r.room; omega⟩
theorem RunB.run {g : Lg} {z : Dk} (r : RunB g) (p : Pow z) (hl : z.lasts.length = g.d.lasts.length) : Run ⟨g.turn,g.half,g.bytes,g.recs,[],false,z⟩ :=
 ⟨p,by rw [hl]; exact r.len,r.h0,r.h1,r.t0,rfl,ShL.nil,r.sr,r.by_,by
  have h:=r.room
  have e : sizeG ⟨g.turn,g.half,g.bytes,g.recs,[],false,z⟩ = sizeG g:=size_same hl
  rw [e]; show (g.bytes.length : Int) + ((0 : Nat) : Int) <= _; omega⟩
theorem RunB.half {g : Lg} (r : RunB g) {hh : Int} (h0 : 0 <= hh) (h1 : hh <= 1) : halfS g.d = ((g.d.lasts.length : Int) - 2) / 2 /\ 0 <= halfS g.d /\ (hh * halfS g.d = 0 /\ hh = 0 ∨ hh * halfS g.d = halfS g.d /\ hh = 1):=by
 obtain ⟨f0,f1,f2⟩:=half_at r.ok
 have hl:=r.len
 refine ⟨f2 (by omega),f0,?_⟩
 have hh' : hh = 0 ∨ hh = 1:=by omega
 rcases hh' with e | e
 . left; exact ⟨by rw [e,Int.zero_mul],e⟩
 . right; exact ⟨by rw [e,Int.one_mul],e⟩
structure Live (g : Lg) (n : Nat) : Prop where
 run : Run g
 laid : LaidB g
 len : g.d.lasts.length = n
theorem put_was {g g' : Lg} {hh th : Int} {by_ : Str} (r : Run g) (l : Laid g) (h0 : 0 <= hh) (h1 : hh <= 1) (h2 : 0 <= th) (q : Put g.d g'.d (wroteF g.d g.turn hh th by_)) (ht : g'.turn = g.turn + 1) : ∃ t h n : Int,0 <= t /\ t < g'.turn /\ ix g'.d.lasts ((g'.turn + 1).tmod 2) = headS t h n:=by
 have t0:=r.t0
 have hl:=r.len
 obtain ⟨m1,m2,m3,m4⟩:=mod_flip (t:=g.turn) (by omega)
 obtain ⟨f1,f0,fm⟩:=r.b.half h0 h1
 refine ⟨g.turn,g.half,(g.bytes.length : Int),by omega,by omega,?_⟩
 rw [ht,m4,q.at_ _ m2 (by omega)]
 unfold wroteF
 rw [if_neg (by omega), if_neg (by rintro ⟨_, h, _⟩; have : 0 <= th / 256 := by omega
                                   omega)]
 show nowD g.d (g.turn.tmod 2) = _
 unfold nowD
 rw [l.fresh]
 exact l.hd
theorem zero_headS : headS 0 0 0 = List.replicate 256 0:=by
 have e8 : leB 0 8 = List.replicate 8 0:=by decide
 have e1 : leB 0 1 = List.replicate 1 0:=by decide
 have e4 : leB 0 4 = List.replicate 4 0:=by decide
 unfold headS
 rw [e8,e1,e4]
 simp only [List.replicate_append_replicate]
theorem live_new {n : Int} (h6 : 6 <= n) (h8 : n <= 8192) : Live ⟨1,0,[],[],[],false,(fmtS (Dk.new n)).2⟩ n.toNat:=by
 have hN : (Dk.new n).lasts.length = n.toNat:=List.length_replicate
 have okn : (Dk.new n).Ok:=new_Ok (by omega) h8
 obtain ⟨y,e1,e2,r,l,z⟩:=fmt_new5 (x:=Dk.new n) ⟨okn,rfl,rfl⟩ (by omega)
 rw [e1]
 exact ⟨r,⟨l,0,0,0,Int.le_refl 0,by show (0 : Int) < 1; decide,by show ix y.lasts 0 = _; rw [z,zero_headS]⟩,e2.trans hN⟩
theorem Live.app {g : Lg} {n : Nat} (h : Live g n) (l : List Str) :
  (ShL l /\ ((framesS l).length : Int) <= roomS g /\ appS g l = (.nil,⟨g.turn,g.half,g.bytes,g.recs,g.wait ++ l,g.dead,g.d⟩) /\ Live ⟨g.turn,g.half,g.bytes,g.recs,g.wait ++ l,g.dead,g.d⟩ n) ∨
  ((¬ ShL l /\ appS g l = (.no 4,g)) ∨ (ShL l /\ roomS g < ((framesS l).length : Int) /\ appS g l = (.no 6,g))):=by
 by_cases hs : ShL l
 . by_cases hr : ((framesS l).length : Int) <= roomS g
   . obtain ⟨a,b⟩:=app_run h.run hs hr
     exact .inl ⟨hs,hr,a,b,⟨⟨h.laid.l.fresh,h.laid.l.hd,h.laid.l.other,h.laid.l.data⟩,h.laid.was⟩,h.len⟩
   . exact .inr (.inr ⟨hs,by omega,app_full h.run hs (by omega)⟩)
 . exact .inr (.inl ⟨hs,app_no h.run hs⟩)
theorem Live.sync {g : Lg} {n : Nat} (h : Live g n) (t2 : g.turn <= 1099511627776) :
  (g.wait = [] /\ syncS g = (.nil,g)) ∨ (g.wait ≠ [] /\ ∃ y,syncS g = (.nil,⟨g.turn + 1,g.half,g.bytes ++ framesS g.wait,g.recs ++ g.wait,[],false,y⟩) /\ Live ⟨g.turn + 1,g.half,g.bytes ++ framesS g.wait,g.recs ++ g.wait,[],false,y⟩ n):=by
 by_cases hw : g.wait = []
 . exact .inl ⟨hw,sync_none h.run hw⟩
 . obtain ⟨y,e,q,r⟩:=sync_run h.run hw
   have hl:=sync_laid h.run h.laid.l t2 q
   exact .inr ⟨hw,y,e,r,⟨hl,put_was (g':=⟨g.turn + 1,g.half,g.bytes ++ framesS g.wait,g.recs ++ g.wait,[],false,y⟩) h.run h.laid.l h.run.h0 h.run.h1 (by omega) q rfl⟩,q.len.trans h.len⟩
theorem Live.comp {g : Lg} {n : Nat} (h : Live g n) (t2 : g.turn <= 1099511627776) (l : List Str) :
  (ShL l /\ ((framesS l).length : Int) <= sizeG g /\ ∃ y,compS g l = (.nil,⟨g.turn + 1,1 - g.half,framesS l,l,[],false,y⟩) /\ Live ⟨g.turn + 1,1 - g.half,framesS l,l,[],false,y⟩ n) ∨ (¬ (ShL l /\ ((framesS l).length : Int) <= sizeG g) /\ (compS g l).1 ≠ .nil /\ (compS g l).2 = g):=by
 have h0:=h.run.h0
 have h1:=h.run.h1
 by_cases hs : ShL l /\ ((framesS l).length : Int) <= sizeG g
 . obtain ⟨y,e,q,r⟩:=comp_run h.run hs.1 hs.2
   have hl:=comp_laid h.run h.laid.l t2 hs.2 q
   exact .inl ⟨hs.1,hs.2,y,e,r,⟨hl,put_was (g':=⟨g.turn + 1,1 - g.half,framesS l,l,[],false,y⟩) h.run h.laid.l (by omega) (by omega) (Int.le_refl 0) q rfl⟩,q.len.trans h.len⟩
 . exact .inr ⟨hs,comp_no h.run hs⟩
theorem Live.lgB {g : Lg} {n : Nat} (h : Live g n) (t : g.turn <= 1099511627776) : LgB g:=h.run.lgB (by omega)
theorem Live.size {g : Lg} {n : Nat} (h : Live g n) : sizeG g = ((n : Int) - 2) / 2 * 256:=by
 have hl:=h.run.len
 obtain ⟨_,_,f2⟩:=half_at h.run.pow.ok
 unfold sizeG
 rw [f2 (by omega),h.len]
theorem Live.room {g : Lg} {n : Nat} (h : Live g n) : halfS g.d * 256 - (g.bytes.length : Int) - sizeS g.wait = ((n : Int) - 2) / 2 * 256 - (g.bytes.length : Int) - ((framesS g.wait).length : Int):=by
 have h1:=h.size
 have h2:=h.run.roomS
 rw [h1] at h2
 exact h2
theorem Live.recs {g : Lg} {n : Nat} (h : Live g n) : g.recs.length <= 1000000:=by
 obtain ⟨s0,s1⟩:=h.run.size
 have hr:=h.run.room
 have f1:=frames_len g.recs
 rw [<- h.run.by_] at f1
 omega
theorem nr_nil : Err.nr .nil = 0:=rfl
theorem nr_no {k : Int} (h0 : 1 <= k) (h1 : k <= 16) : Err.nr (.no k) = k:=by
 show (match Err.num (.no k) with | some n=>if 1 <= n /\ n <= 16 then n else -1 | none=>-1) = k
 show (if 1 <= k /\ k <= 16 then k else -1) = k
 rw [if_pos ⟨h0,h1⟩]
theorem frames_cl (r : Str) (t : List Str) : (framesS (r :: t)).length = 7 + r.length + (framesS t).length:=by
 have e : framesS (r :: t) = frameS r ++ framesS t:=by unfold framesS; rw [List.map_cons,List.flatten_cons]
 rw [e,List.length_append,frame_len]
theorem frames_nl : (framesS []).length = 0:=rfl
theorem shL_of {l : List Str} (h : l.all (fun s=>Nat.ble s.length 30000) = true) : ShL l:=fun s hs=>by
 have:=List.all_eq_true.1 h s hs
 exact Nat.le_of_ble_eq_true this
theorem smL_of {l : List Str} (h : ShL l) (hl : l.length <= 1000000) : SmL l:=⟨hl,fun s hs=>by have:=h s hs; omega⟩
theorem sameL_self (a : List Str) : sameL a a = true:=decide_eq_true rfl
end Go.Proofs.Ytckpdliipjekgaa
end
section
namespace Go.Proofs.Ytckpdliipjekgaa
open Go Go.Wk Go.Wl Go.Rx Go.Wa 
def anal : Nat -> Ann:=fun | 9=>⟨79,fun _=>none,fun _=>none⟩ | _=>⟨0,fun _=>none,fun _=>none⟩
def Val  (Q : Bool -> Prop) : Prop :=
(6 : Int) <= (10 : Int) /\
 (10 : Int) <= (8192 : Int) /\
  ∀ (x' : Dk),
   x' = (fmtS (Dk.new (10 : Int))).snd ->
    True ->
     LgB (Lg.mk (1 : Int) (0 : Int) [] [] [] (decide (false = true)) x') /\
      (halfS x' * (256 : Int) - (↑([] : List UInt8).length : Int) - sizeS [] ≠ (1024 : Int) -> Q false) /\
       (¬halfS x' * (256 : Int) - (↑([] : List UInt8).length : Int) - sizeS [] ≠ (1024 : Int) ->
        LgB (Lg.mk (1 : Int) (0 : Int) [] [] [] (decide (decide (false = true) = true)) x') /\
         SmL [[(97 : UInt8)]] /\
          ∀ (e' : Err) (tn' hf' : Int) (bt' : List UInt8) (rs' wt' : List (List UInt8)) (dd' : Bool) (x'_1 : Dk),
           (e',Lg.mk tn' hf' bt' rs' wt' dd' x'_1) = appS (Lg.mk (1 : Int) (0 : Int) [] [] [] (decide (decide (false = true) = true)) x') [[(97 : UInt8)]] ->
            True ->
             (e'.nr ≠ (0 : Int) -> Q false) /\
              (¬e'.nr ≠ (0 : Int) ->
               LgB (Lg.mk tn' hf' bt' rs' wt' (decide (dd' = true)) x'_1) /\
                (halfS x'_1 * (256 : Int) - (↑bt'.length : Int) - sizeS wt' ≠ (1016 : Int) -> Q false) /\
                 (¬halfS x'_1 * (256 : Int) - (↑bt'.length : Int) - sizeS wt' ≠ (1016 : Int) ->
                  ((↑wt'.length : Int) ≠ (1 : Int) -> Q false) /\
                   (¬(↑wt'.length : Int) ≠ (1 : Int) ->
                    rs'.length <= (1000000 : Nat) /\
                     ((↑rs'.length : Int) ≠ (0 : Int) -> Q false) /\
                      (¬(↑rs'.length : Int) ≠ (0 : Int) ->
                       LgB (Lg.mk tn' hf' bt' rs' wt' (decide (decide (decide (decide (dd' = true) = true) = true) = true)) x'_1) /\
                        ∀ (e' : Err) (tn'_1 hf'_1 : Int) (bt'_1 : List UInt8) (rs'_1 wt'_1 : List (List UInt8)) (dd'_1 : Bool) (x' : Dk),
                         (e',Lg.mk tn'_1 hf'_1 bt'_1 rs'_1 wt'_1 dd'_1 x') =
                           syncS (Lg.mk tn' hf' bt' rs' wt' (decide (decide (decide (decide (dd' = true) = true) = true) = true)) x'_1) ->
                          True ->
                           (e'.nr ≠ (0 : Int) -> Q false) /\
                            (¬e'.nr ≠ (0 : Int) ->
                             rs'_1.length <= (1000000 : Nat) /\
                              rs'_1.length <= (1000000 : Nat) /\
                               (sameL rs'_1 [[(97 : UInt8)]] = true /\ tn'_1 = (2 : Int) ->
                                 LgB (Lg.mk tn'_1 hf'_1 bt'_1 rs'_1 wt'_1 (decide (decide (decide (dd'_1 = true) = true) = true)) x') /\
                                  SmL [[(98 : UInt8)],[(99 : UInt8)]] /\
                                   ∀ (e' : Err) (tn' hf' : Int) (bt' : List UInt8) (rs' wt' : List (List UInt8)) (dd' : Bool) (x'_2 : Dk),
                                    (e',Lg.mk tn' hf' bt' rs' wt' dd' x'_2) =
                                      compS (Lg.mk tn'_1 hf'_1 bt'_1 rs'_1 wt'_1 (decide (decide (decide (dd'_1 = true) = true) = true)) x')
                                       [[(98 : UInt8)],[(99 : UInt8)]] ->
                                     True ->
                                      (e'.nr = (0 : Int) ->
                                        rs'.length <= (1000000 : Nat) /\
                                         rs'.length <= (1000000 : Nat) /\
                                          (sameL rs' [[(98 : UInt8)],[(99 : UInt8)]] = true ->
                                            LgB (Lg.mk tn' hf' bt' rs' wt' (decide (decide (dd' = true) = true)) x'_2) /\
                                             (halfS x'_2 * (256 : Int) - (↑bt'.length : Int) - sizeS wt' = (1008 : Int) -> Q (decide (tn' = (3 : Int)))) /\
                                              (¬halfS x'_2 * (256 : Int) - (↑bt'.length : Int) - sizeS wt' = (1008 : Int) -> Q false)) /\
                                           (¬sameL rs' [[(98 : UInt8)],[(99 : UInt8)]] = true -> Q false)) /\
                                       (¬e'.nr = (0 : Int) -> Q false)) /\
                                (¬(sameL rs'_1 [[(97 : UInt8)]] = true /\ tn'_1 = (2 : Int)) -> Q false)))))))
theorem Val_ok  {Q : Bool -> Prop} (h : Val  Q) : vcFun (E:=NL) (inlHN NL HL anal 2) (anal 9) Try.f9 [] [] [] 0 (resP NL [.bool] Q):=Eq.mp (show Val  Q = vcFun (E:=NL) (inlHN NL HL anal 2) (anal 9) Try.f9 [] [] [] 0 (resP NL [.bool] Q) by kernel_rfl) h
set_option maxHeartbeats 1000000 in
theorem pal   : Val  (fun y0=>y0 = true):=by
 unfold Val
 simp only [Bool.decide_eq_true]
 refine ⟨by decide,by decide,?_⟩
 rintro x rfl _
 have L0:=live_new (n:=10) (by decide) (by decide)
 generalize (fmtS (Dk.new 10)).2 = x at L0 ⊢
 have R0:=L0.room
 have s1 : ShL [[97]]:=shL_of rfl
 have s2 : ShL [[98],[99]]:=shL_of rfl
 refine ⟨L0.lgB (by show (1 : Int) <= _; decide),fun h=>absurd R0 h,fun _=>⟨L0.lgB (by show (1 : Int) <= _; decide),smL_of s1 (by decide),?_⟩⟩
 rintro e tn hf bt rs wt dd y he _
 rcases L0.app [[97]] with ⟨_,_,h1,L1⟩ | ⟨h,_⟩ | ⟨_,h,_⟩
 rotate_left
 . exact absurd s1 h
 . have R : roomS ⟨1,0,[],[],[],false,x⟩ = 1024:=R0
   rw [R,frames_cl,frames_nl] at h
   exact absurd h (by decide)
 rw [h1] at he
 simp only [Prod.mk.injEq,Lg.mk.injEq] at he
 obtain ⟨rfl,rfl,rfl,rfl,rfl,rfl,rfl,rfl⟩:=he
 have R1:=L1.room
 simp only [List.nil_append,frames_cl,frames_nl] at R1 L1 ⊢
 refine ⟨fun h=>absurd nr_nil h,fun _=>⟨L1.lgB (by show (1 : Int) <= _; decide),fun h=>absurd R1 h,fun _=>⟨fun h=>absurd rfl h,fun _=>⟨by decide,fun h=>absurd rfl h,fun _=>⟨L1.lgB (by show (1 : Int) <= _; decide),?_⟩⟩⟩⟩⟩
 rintro e tn hf bt rs wt dd y he _
 rcases L1.sync (by show (1 : Int) <= _; decide) with ⟨h,_⟩ | ⟨_,z,h2,L2⟩
 . cases h
 rw [h2] at he
 simp only [Prod.mk.injEq,Lg.mk.injEq] at he
 obtain ⟨rfl,rfl,rfl,rfl,rfl,rfl,rfl,rfl⟩:=he
 simp only [List.nil_append] at L2 ⊢
 refine ⟨fun h=>absurd nr_nil h,fun _=>⟨by decide,by decide,fun _=>⟨L2.lgB (by show (1 : Int) + 1 <= _; decide),smL_of s2 (by decide),?_⟩,fun h=>absurd ⟨sameL_self _,rfl⟩ h⟩⟩
 rintro e tn hf bt rs wt dd y he _
 rcases L2.comp (by show (1 : Int) + 1 <= _; decide) [[98],[99]] with ⟨_,_,z3,h3,L3⟩ | ⟨h,_⟩
 . rw [h3] at he
   simp only [Prod.mk.injEq,Lg.mk.injEq] at he
   obtain ⟨rfl,rfl,rfl,rfl,rfl,rfl,rfl,rfl⟩:=he
   have R3:=L3.room
   simp only [frames_cl,frames_nl] at R3
   refine ⟨fun _=>⟨by decide,by decide,fun _=>⟨L3.lgB (by show (1 : Int) + 1 + 1 <= _; decide),fun _=>rfl,fun h=>?_⟩,fun h=>absurd (sameL_self _) h⟩,fun h=>absurd nr_nil h⟩
   refine absurd ?_ h
   rw [show ((framesS [[98],[99]]).length : Int) = 16 by rw [frames_cl,frames_cl,frames_nl]; rfl]
   exact R3
 . refine absurd ⟨s2,?_⟩ h
   rw [L2.size,frames_cl,frames_cl,frames_nl]
   decide
def cal (a : List (SV U)) : Option (Q1 U):=match a with | []=>some ⟨[],[],blB true⟩ | _=>none
theorem cal_ok (args : List (SV U)) (q : Q1 U) (h : cal args = some q) (ho : allP q.ob) : LendOK NL 9 args ⟨q.ob,q.hy,q.v,[]⟩:=by
 unfold cal at h
 split at h
 . cases h
   exact lend1 NL_ok (inlHN_ok NL_ok HL_ok anal 2) Try.func9 (k:=.bool) (x:=true) trivial (Val_ok (pal  )) 0
 . cases h
noncomputable def Nal : Env:=NL.addL 9 cal
theorem Nal_ok : EnvOK Nal:=NL_ok.addL Try.call9 cal_ok
theorem nils_tup {ρ : Env1} {Z : Nat -> Prop} {w : World} {v : Value} {s : SV U} {t : Nat} (h : Rep U eT ρ Z w v (.tup [s,.nils])) : Rep U eT ρ Z w v (.tup [s,.sl t []]):=by
 generalize e : ([s,.nils] : List (SV U)) = l at h
 generalize e2 : SV.tup l = q at h
 cases h with
 | tup1 h hr =>
  cases e2; cases e
  refine .tup1 h ?_
  generalize e : ([.nils] : List (SV U)) = l at hr
  generalize e2 : SV.tup l = q at hr
  cases hr with
  | tup1 h hr=>cases e2; cases e; cases h; exact .tup1 (.sl dSlice_nil) hr
  | _=>cases e2 <;> cases e
 | _=>cases e2 <;> cases e
noncomputable def gcn : GD U:=⟨[1],[],fun a its=>match a,its with | [.ref 0 0,.nils],[(0,.own 54 [.ref 1 0,.int .i64 tn,.int .i64 hf,.str bt,.acc 2,.acc 3,.bl pd dd]),(1,.ob 0 5 x),(2,.ac 9 rs),(3,.ac 9 wt)]=>some (gcos tn hf bt rs wt pd dd x []) | a,its=>gco.C a its⟩
theorem gcn_ok (args : List (SV U)) (its : Items U) (S : PT U) (h : gcn.C args its = some S) : GenOK Try.prog U eT Gl 17 args its (2 * its.length) S:=by
 unfold gcn at h
 simp only at h
 split at h
 . rename_i tn hf bt pd dd x rs wt
   cases h
   intro k hk ρ Z w vs B h1 h2 h3 h4
   exact gco_ok [.ref 0 0,.sl (N:=U) 9 []] [(0,.own 54 [.ref 1 0,.int .i64 tn,.int .i64 hf,.str bt,.acc 2,.acc 3,.bl pd dd]),(1,.ob (N:=U) 0 5 x),(2,.ac (N:=U) 9 rs),(3,.ac (N:=U) 9 wt)] _ rfl k hk ρ Z w vs B h1 h2 h3 (nils_tup h4)
 . exact gco_ok _ _ _ h
noncomputable def HF : Nat -> Option (GD U):=addF 17 gcn (HL)
theorem HF_ok : ∀ K o args its S,HF K = some o -> o.C args its = some S -> GenOK Try.prog U eT Gl K args its (2 * its.length) S:=addH_ok gcn_ok (HL_ok)
end Go.Proofs.Ytckpdliipjekgaa
end
section
namespace Go.Proofs.Ytckpdliipjekgaa
open Go Go.Wk Go.Wl Go.Rx Go.Wa Go.Wa
theorem Live.syncE {g g' : Lg} {n : Nat} {e : Err} (h : Live g n) (t : g.turn <= 1099511627776) (he : (e,g') = syncS g) : e = .nil /\ Live g' n /\ g'.wait = [] /\ g'.recs = g.recs ++ g.wait /\ (g.wait = [] /\ g' = g ∨ g.wait ≠ [] /\ g'.turn = g.turn + 1):=by
 rcases h.sync t with ⟨hw,e1⟩ | ⟨hw,y,e1,L⟩
 . rw [e1] at he; cases he; exact ⟨rfl,h,hw,by rw [hw,List.append_nil],.inl ⟨hw,rfl⟩⟩
 . rw [e1] at he; cases he; exact ⟨rfl,L,rfl,rfl,.inr ⟨hw,rfl⟩⟩
theorem mod_rg {n b : Int} (h0 : 0 < b) (h1 : b <= 100000) : in64 (n.tmod b + b) /\ 0 <= (n.tmod b + b).tmod b /\ (n.tmod b + b).tmod b < b:=by
 have h2 : n.tmod b < b:=Int.tmod_lt_of_pos n h0
 have h3 : -b < n.tmod b:=Int.lt_tmod_of_pos n h0
 refine ⟨⟨by omega,by omega⟩,?_,Int.tmod_lt_of_pos _ h0⟩
 rw [Int.tmod_eq_emod_of_nonneg (by omega)]
 exact Int.emod_nonneg _ (by omega)
end Go.Proofs.Ytckpdliipjekgaa
end
section
namespace Go.Proofs.Ytckpdliipjekgaa
open Go Go.Wk Go.Wl Go.Rx Go.Wa 
def anlF : Nat -> Ann:=fun | 3=>⟨153,fun | 9=>some ⟨[6,7,35,36],[.slot 8 (.acc 9),.slot 37 (.int .i64),.tree [] [.own (some 6) 54 [.to 1,.v (.int .i64),.v (.int .i64),.v .str,.v (.acc 9),.v (.acc 9),.v .bool],.ob none 0]]⟩ | _=>none,fun _=>none⟩ | _=>⟨0,fun _=>none,fun _=>none⟩
def qlF0 (x : List (List UInt8)) (l : List Int) (x_1 : Int):=x ++ [List.replicate (((ix l x_1).tmod (601 : Int) + 601).tmod (601 : Int)).toNat (0 : UInt8),List.replicate (((ix l x_1).tmod (601 : Int) + 601).tmod (601 : Int)).toNat (0 : UInt8)]
def qlF1 (l : List Int) (x_1 : Int):=((ix l x_1).tmod (601 : Int) + 601).tmod (601 : Int)
def qlF2 (x_8 : Dk) (x_4 : List UInt8) (x_6 : List (List UInt8)):=halfS x_8 * 256 - (↑x_4.length : Int) - sizeS x_6 - 7
def VlF (n : Int) (l : List Int) (Q : Bool -> Prop) : Prop :=
(55 : Int) ≠ 0 /\ in64 (n.tmod (55 : Int) + 55) /\ (55 : Int) ≠ 0 /\ in64 ((6 : Int) + (n.tmod (55 : Int) + 55).tmod (55 : Int)) /\ (6 : Int) <= (6 : Int) + (n.tmod (55 : Int) + 55).tmod (55 : Int) /\ (6 : Int) + (n.tmod (55 : Int) + 55).tmod (55 : Int) <= 8192 /\ ∀ (x' : Dk),x' = (fmtS (Dk.new ((6 : Int) + (n.tmod (55 : Int) + 55).tmod (55 : Int)))).snd -> True -> (¬true = true -> Q false) /\ (¬¬true = true -> ((40 : Int) < (↑l.length : Int) -> Q true) /\ (¬(40 : Int) < (↑l.length : Int) -> LgB (Lg.mk (1 : Int) (0 : Int) [] [] [] (decide (false = true)) x') /\ ∃ (I : List (List UInt8) -> Int -> Int -> Int -> List UInt8 -> List (List UInt8) -> List (List UInt8) -> Bool -> Dk -> Prop),∃ (m : List (List UInt8) -> Int -> Int -> Int -> List UInt8 -> List (List UInt8) -> List (List UInt8) -> Bool -> Dk -> Nat),I [] (0 : Int) (1 : Int) (0 : Int) [] [] [] (decide (decide (false = true) = true)) x' /\ ∀ (x : List (List UInt8)) (x_1 x_2 x_3 : Int) (x_4 : List UInt8) (x_5 x_6 : List (List UInt8)) (x_7 : Bool) (x_8 : Dk),I x x_1 x_2 x_3 x_4 x_5 x_6 x_7 x_8 -> (x_1 < (↑l.length : Int) -> (0 : Int) <= x_1 /\ x_1 < (↑l.length : Int) /\ (in64 (ix l x_1) -> (601 : Int) ≠ 0 /\ in64 ((ix l x_1).tmod (601 : Int) + 601) /\ (601 : Int) ≠ 0 /\ (0 : Int) <= ((ix l x_1).tmod (601 : Int) + 601).tmod (601 : Int) /\ ((ix l x_1).tmod (601 : Int) + 601).tmod (601 : Int) = ((ix l x_1).tmod (601 : Int) + 601).tmod (601 : Int) /\ (↑((some (1 : Nat)).getD (0 : Nat)) : Int) * ((ix l x_1).tmod (601 : Int) + 601).tmod (601 : Int) <= 140737488355328 /\ LgB (Lg.mk x_2 x_3 x_4 x_5 x_6 (decide (x_7 = true)) x_8) /\ LgB (Lg.mk x_2 x_3 x_4 x_5 x_6 (decide (decide (x_7 = true) = true)) x_8) /\ SmL [List.replicate (qlF1 l x_1).toNat (0 : UInt8),List.replicate (qlF1 l x_1).toNat (0 : UInt8)] /\ ∀ (e' : Err) (tn' hf' : Int) (bt' : List UInt8) (rs' wt' : List (List UInt8)) (dd' : Bool) (x' : Dk),(e',Lg.mk tn' hf' bt' rs' wt' dd' x') = appS (Lg.mk x_2 x_3 x_4 x_5 x_6 (decide (decide (x_7 = true) = true)) x_8) [List.replicate (qlF1 l x_1).toNat (0 : UInt8),List.replicate (qlF1 l x_1).toNat (0 : UInt8)] -> True -> in64 ((2 : Int) * (↑(List.replicate (qlF1 l x_1).toNat (0 : UInt8)).length : Int)) /\ in64 ((14 : Int) + 2 * (↑(List.replicate (qlF1 l x_1).toNat (0 : UInt8)).length : Int)) /\ (¬(e'.nr = 0 ↔ (14 : Int) + 2 * (↑(List.replicate (qlF1 l x_1).toNat (0 : UInt8)).length : Int) <= halfS x_8 * 256 - (↑x_4.length : Int) - sizeS x_6) -> Q false) /\ (¬¬(e'.nr = 0 ↔ (14 : Int) + 2 * (↑(List.replicate (qlF1 l x_1).toNat (0 : UInt8)).length : Int) <= halfS x_8 * 256 - (↑x_4.length : Int) - sizeS x_6) -> (e'.nr ≠ 0 -> (e'.nr ≠ 6 -> Q false) /\ (¬e'.nr ≠ 6 -> LgB (Lg.mk tn' hf' bt' rs' wt' (decide (dd' = true)) x') /\ (halfS x' * 256 - (↑bt'.length : Int) - sizeS wt' ≠ halfS x_8 * 256 - (↑x_4.length : Int) - sizeS x_6 -> Q false) /\ (¬halfS x' * 256 - (↑bt'.length : Int) - sizeS wt' ≠ halfS x_8 * 256 - (↑x_4.length : Int) - sizeS x_6 -> (e'.nr = 0 -> (x.length + [List.replicate (qlF1 l x_1).toNat (0 : UInt8),List.replicate (qlF1 l x_1).toNat (0 : UInt8)].length) * (some (16 : Nat)).getD (0 : Nat) <= 140737488355328 /\ ((6 : Int) < (↑wt'.length : Int) -> LgB (Lg.mk tn' hf' bt' rs' wt' (decide (decide (decide (dd' = true) = true) = true)) x') /\ ∀ (e' : Err) (tn'_1 hf'_1 : Int) (bt'_1 : List UInt8) (rs'_1 wt'_1 : List (List UInt8)) (dd'_1 : Bool) (x'_1 : Dk),(e',Lg.mk tn'_1 hf'_1 bt'_1 rs'_1 wt'_1 dd'_1 x'_1) = syncS (Lg.mk tn' hf' bt' rs' wt' (decide (decide (decide (dd' = true) = true) = true)) x') -> True -> (e'.nr ≠ 0 -> Q false) /\ (¬e'.nr ≠ 0 -> in64 (x_1 + 1) /\ I (qlF0 x l x_1) (x_1 + 1) tn'_1 hf'_1 bt'_1 rs'_1 wt'_1 (decide (dd'_1 = true)) x'_1 /\ m (qlF0 x l x_1) (x_1 + 1) tn'_1 hf'_1 bt'_1 rs'_1 wt'_1 (decide (dd'_1 = true)) x'_1 < m x x_1 x_2 x_3 x_4 x_5 x_6 x_7 x_8)) /\ (¬(6 : Int) < (↑wt'.length : Int) -> in64 (x_1 + 1) /\ I (qlF0 x l x_1) (x_1 + 1) tn' hf' bt' rs' wt' (decide (decide (decide (dd' = true) = true) = true)) x' /\ m (qlF0 x l x_1) (x_1 + 1) tn' hf' bt' rs' wt' (decide (decide (decide (dd' = true) = true) = true)) x' < m x x_1 x_2 x_3 x_4 x_5 x_6 x_7 x_8)) /\ (¬e'.nr = 0 -> ((6 : Int) < (↑wt'.length : Int) -> LgB (Lg.mk tn' hf' bt' rs' wt' (decide (decide (decide (dd' = true) = true) = true)) x') /\ ∀ (e' : Err) (tn'_1 hf'_1 : Int) (bt'_1 : List UInt8) (rs'_1 wt'_1 : List (List UInt8)) (dd'_1 : Bool) (x'_1 : Dk),(e',Lg.mk tn'_1 hf'_1 bt'_1 rs'_1 wt'_1 dd'_1 x'_1) = syncS (Lg.mk tn' hf' bt' rs' wt' (decide (decide (decide (dd' = true) = true) = true)) x') -> True -> (e'.nr ≠ 0 -> Q false) /\ (¬e'.nr ≠ 0 -> in64 (x_1 + 1) /\ I x (x_1 + 1) tn'_1 hf'_1 bt'_1 rs'_1 wt'_1 (decide (dd'_1 = true)) x'_1 /\ m x (x_1 + 1) tn'_1 hf'_1 bt'_1 rs'_1 wt'_1 (decide (dd'_1 = true)) x'_1 < m x x_1 x_2 x_3 x_4 x_5 x_6 x_7 x_8)) /\ (¬(6 : Int) < (↑wt'.length : Int) -> in64 (x_1 + 1) /\ I x (x_1 + 1) tn' hf' bt' rs' wt' (decide (decide (decide (dd' = true) = true) = true)) x' /\ m x (x_1 + 1) tn' hf' bt' rs' wt' (decide (decide (decide (dd' = true) = true) = true)) x' < m x x_1 x_2 x_3 x_4 x_5 x_6 x_7 x_8))))) /\ (¬e'.nr ≠ 0 -> (e'.nr = 0 -> (x.length + [List.replicate (qlF1 l x_1).toNat (0 : UInt8),List.replicate (qlF1 l x_1).toNat (0 : UInt8)].length) * (some (16 : Nat)).getD (0 : Nat) <= 140737488355328 /\ ((6 : Int) < (↑wt'.length : Int) -> LgB (Lg.mk tn' hf' bt' rs' wt' (decide (decide (dd' = true) = true)) x') /\ ∀ (e' : Err) (tn'_1 hf'_1 : Int) (bt'_1 : List UInt8) (rs'_1 wt'_1 : List (List UInt8)) (dd'_1 : Bool) (x'_1 : Dk),(e',Lg.mk tn'_1 hf'_1 bt'_1 rs'_1 wt'_1 dd'_1 x'_1) = syncS (Lg.mk tn' hf' bt' rs' wt' (decide (decide (dd' = true) = true)) x') -> True -> (e'.nr ≠ 0 -> Q false) /\ (¬e'.nr ≠ 0 -> in64 (x_1 + 1) /\ I (qlF0 x l x_1) (x_1 + 1) tn'_1 hf'_1 bt'_1 rs'_1 wt'_1 (decide (dd'_1 = true)) x'_1 /\ m (qlF0 x l x_1) (x_1 + 1) tn'_1 hf'_1 bt'_1 rs'_1 wt'_1 (decide (dd'_1 = true)) x'_1 < m x x_1 x_2 x_3 x_4 x_5 x_6 x_7 x_8)) /\ (¬(6 : Int) < (↑wt'.length : Int) -> in64 (x_1 + 1) /\ I (qlF0 x l x_1) (x_1 + 1) tn' hf' bt' rs' wt' (decide (decide (dd' = true) = true)) x' /\ m (qlF0 x l x_1) (x_1 + 1) tn' hf' bt' rs' wt' (decide (decide (dd' = true) = true)) x' < m x x_1 x_2 x_3 x_4 x_5 x_6 x_7 x_8)) /\ (¬e'.nr = 0 -> ((6 : Int) < (↑wt'.length : Int) -> LgB (Lg.mk tn' hf' bt' rs' wt' (decide (decide (dd' = true) = true)) x') /\ ∀ (e' : Err) (tn'_1 hf'_1 : Int) (bt'_1 : List UInt8) (rs'_1 wt'_1 : List (List UInt8)) (dd'_1 : Bool) (x'_1 : Dk),(e',Lg.mk tn'_1 hf'_1 bt'_1 rs'_1 wt'_1 dd'_1 x'_1) = syncS (Lg.mk tn' hf' bt' rs' wt' (decide (decide (dd' = true) = true)) x') -> True -> (e'.nr ≠ 0 -> Q false) /\ (¬e'.nr ≠ 0 -> in64 (x_1 + 1) /\ I x (x_1 + 1) tn'_1 hf'_1 bt'_1 rs'_1 wt'_1 (decide (dd'_1 = true)) x'_1 /\ m x (x_1 + 1) tn'_1 hf'_1 bt'_1 rs'_1 wt'_1 (decide (dd'_1 = true)) x'_1 < m x x_1 x_2 x_3 x_4 x_5 x_6 x_7 x_8)) /\ (¬(6 : Int) < (↑wt'.length : Int) -> in64 (x_1 + 1) /\ I x (x_1 + 1) tn' hf' bt' rs' wt' (decide (decide (dd' = true) = true)) x' /\ m x (x_1 + 1) tn' hf' bt' rs' wt' (decide (decide (dd' = true) = true)) x' < m x x_1 x_2 x_3 x_4 x_5 x_6 x_7 x_8)))))) /\ (¬x_1 < (↑l.length : Int) -> LgB (Lg.mk x_2 x_3 x_4 x_5 x_6 (decide (x_7 = true)) x_8) /\ ((7 : Int) <= halfS x_8 * 256 - (↑x_4.length : Int) - sizeS x_6 -> LgB (Lg.mk x_2 x_3 x_4 x_5 x_6 (decide (decide (x_7 = true) = true)) x_8) /\ in64 (qlF2 x_8 x_4 x_6) /\ (0 : Int) <= halfS x_8 * 256 - (↑x_4.length : Int) - sizeS x_6 - 7 /\ halfS x_8 * 256 - (↑x_4.length : Int) - sizeS x_6 - 7 = halfS x_8 * 256 - (↑x_4.length : Int) - sizeS x_6 - 7 /\ (↑((some (1 : Nat)).getD (0 : Nat)) : Int) * (qlF2 x_8 x_4 x_6) <= 140737488355328 /\ ((↑(List.replicate (qlF2 x_8 x_4 x_6).toNat (0 : UInt8)).length : Int) <= 30000 -> LgB (Lg.mk x_2 x_3 x_4 x_5 x_6 (decide (decide (decide (x_7 = true) = true) = true)) x_8) /\ SmL [List.replicate (qlF2 x_8 x_4 x_6).toNat (0 : UInt8)] /\ ∀ (e' : Err) (tn' hf' : Int) (bt' : List UInt8) (rs' wt' : List (List UInt8)) (dd' : Bool) (x'_1 : Dk),(e',Lg.mk tn' hf' bt' rs' wt' dd' x'_1) = appS (Lg.mk x_2 x_3 x_4 x_5 x_6 (decide (decide (decide (x_7 = true) = true) = true)) x_8) [List.replicate (qlF2 x_8 x_4 x_6).toNat (0 : UInt8)] -> True -> (e'.nr ≠ 0 -> Q false) /\ (¬e'.nr ≠ 0 -> LgB (Lg.mk tn' hf' bt' rs' wt' (decide (dd' = true)) x'_1) /\ (halfS x'_1 * 256 - (↑bt'.length : Int) - sizeS wt' ≠ 0 -> Q false) /\ (¬halfS x'_1 * 256 - (↑bt'.length : Int) - sizeS wt' ≠ 0 -> (x.length + [List.replicate (qlF2 x_8 x_4 x_6).toNat (0 : UInt8)].length) * (some (16 : Nat)).getD (0 : Nat) <= 140737488355328 /\ LgB (Lg.mk tn' hf' bt' rs' wt' (decide (decide (dd' = true) = true)) x'_1) /\ ∀ (e' : Err) (tn'_1 hf'_1 : Int) (bt'_1 : List UInt8) (rs'_1 wt'_1 : List (List UInt8)) (dd'_1 : Bool) (x'_2 : Dk),(e',Lg.mk tn'_1 hf'_1 bt'_1 rs'_1 wt'_1 dd'_1 x'_2) = syncS (Lg.mk tn' hf' bt' rs' wt' (decide (decide (dd' = true) = true)) x'_1) -> True -> (e'.nr ≠ 0 -> Q false) /\ (¬e'.nr ≠ 0 -> rs'_1.length <= 1000000 /\ rs'_1.length <= 1000000 /\ (¬sameL rs'_1 (x ++ [List.replicate (qlF2 x_8 x_4 x_6).toNat (0 : UInt8)]) = true -> Q false) /\ (¬¬sameL rs'_1 (x ++ [List.replicate (qlF2 x_8 x_4 x_6).toNat (0 : UInt8)]) = true -> LgB (Lg.mk tn'_1 hf'_1 bt'_1 rs'_1 wt'_1 (decide (decide (dd'_1 = true) = true)) x'_2) /\ SmL [] /\ ∀ (e' : Err) (tn' hf' : Int) (bt' : List UInt8) (rs' wt' : List (List UInt8)) (dd' : Bool) (x'_3 : Dk),(e',Lg.mk tn' hf' bt' rs' wt' dd' x'_3) = compS (Lg.mk tn'_1 hf'_1 bt'_1 rs'_1 wt'_1 (decide (decide (dd'_1 = true) = true)) x'_2) [] -> True -> (e'.nr = 0 -> LgB (Lg.mk tn' hf' bt' rs' wt' (decide (dd' = true)) x'_3) /\ (halfS x'_3 * 256 - (↑bt'.length : Int) - sizeS wt' = halfS x' * 256 - (↑([] : List UInt8).length : Int) - sizeS [] -> rs'.length <= 1000000 /\ Q (decide ((↑rs'.length : Int) = 0))) /\ (¬halfS x'_3 * 256 - (↑bt'.length : Int) - sizeS wt' = halfS x' * 256 - (↑([] : List UInt8).length : Int) - sizeS [] -> Q false)) /\ (¬e'.nr = 0 -> Q false)))))) /\ (¬(↑(List.replicate (qlF2 x_8 x_4 x_6).toNat (0 : UInt8)).length : Int) <= 30000 -> (x.length + [List.replicate (qlF2 x_8 x_4 x_6).toNat (0 : UInt8)].length) * (some (16 : Nat)).getD (0 : Nat) <= 140737488355328 /\ LgB (Lg.mk x_2 x_3 x_4 x_5 x_6 (decide (decide (decide (x_7 = true) = true) = true)) x_8) /\ ∀ (e' : Err) (tn' hf' : Int) (bt' : List UInt8) (rs' wt' : List (List UInt8)) (dd' : Bool) (x'_1 : Dk),(e',Lg.mk tn' hf' bt' rs' wt' dd' x'_1) = syncS (Lg.mk x_2 x_3 x_4 x_5 x_6 (decide (decide (decide (x_7 = true) = true) = true)) x_8) -> True -> (e'.nr ≠ 0 -> Q false) /\ (¬e'.nr ≠ 0 -> rs'.length <= 1000000 /\ rs'.length <= 1000000 /\ (¬sameL rs' (x ++ [List.replicate (qlF2 x_8 x_4 x_6).toNat (0 : UInt8)]) = true -> Q false) /\ (¬¬sameL rs' (x ++ [List.replicate (qlF2 x_8 x_4 x_6).toNat (0 : UInt8)]) = true -> LgB (Lg.mk tn' hf' bt' rs' wt' (decide (decide (dd' = true) = true)) x'_1) /\ SmL [] /\ ∀ (e' : Err) (tn'_1 hf'_1 : Int) (bt'_1 : List UInt8) (rs'_1 wt'_1 : List (List UInt8)) (dd'_1 : Bool) (x'_2 : Dk),(e',Lg.mk tn'_1 hf'_1 bt'_1 rs'_1 wt'_1 dd'_1 x'_2) = compS (Lg.mk tn' hf' bt' rs' wt' (decide (decide (dd' = true) = true)) x'_1) [] -> True -> (e'.nr = 0 -> LgB (Lg.mk tn'_1 hf'_1 bt'_1 rs'_1 wt'_1 (decide (dd'_1 = true)) x'_2) /\ (halfS x'_2 * 256 - (↑bt'_1.length : Int) - sizeS wt'_1 = halfS x' * 256 - (↑([] : List UInt8).length : Int) - sizeS [] -> rs'_1.length <= 1000000 /\ Q (decide ((↑rs'_1.length : Int) = 0))) /\ (¬halfS x'_2 * 256 - (↑bt'_1.length : Int) - sizeS wt'_1 = halfS x' * 256 - (↑([] : List UInt8).length : Int) - sizeS [] -> Q false)) /\ (¬e'.nr = 0 -> Q false))))) /\ (¬(7 : Int) <= halfS x_8 * 256 - (↑x_4.length : Int) - sizeS x_6 -> LgB (Lg.mk x_2 x_3 x_4 x_5 x_6 (decide (decide (x_7 = true) = true)) x_8) /\ ∀ (e' : Err) (tn' hf' : Int) (bt' : List UInt8) (rs' wt' : List (List UInt8)) (dd' : Bool) (x'_1 : Dk),(e',Lg.mk tn' hf' bt' rs' wt' dd' x'_1) = syncS (Lg.mk x_2 x_3 x_4 x_5 x_6 (decide (decide (x_7 = true) = true)) x_8) -> True -> (e'.nr ≠ 0 -> Q false) /\ (¬e'.nr ≠ 0 -> rs'.length <= 1000000 /\ rs'.length <= 1000000 /\ (¬sameL rs' x = true -> Q false) /\ (¬¬sameL rs' x = true -> LgB (Lg.mk tn' hf' bt' rs' wt' (decide (decide (dd' = true) = true)) x'_1) /\ SmL [] /\ ∀ (e' : Err) (tn'_1 hf'_1 : Int) (bt'_1 : List UInt8) (rs'_1 wt'_1 : List (List UInt8)) (dd'_1 : Bool) (x'_2 : Dk),(e',Lg.mk tn'_1 hf'_1 bt'_1 rs'_1 wt'_1 dd'_1 x'_2) = compS (Lg.mk tn' hf' bt' rs' wt' (decide (decide (dd' = true) = true)) x'_1) [] -> True -> (e'.nr = 0 -> LgB (Lg.mk tn'_1 hf'_1 bt'_1 rs'_1 wt'_1 (decide (dd'_1 = true)) x'_2) /\ (halfS x'_2 * 256 - (↑bt'_1.length : Int) - sizeS wt'_1 = halfS x' * 256 - (↑([] : List UInt8).length : Int) - sizeS [] -> rs'_1.length <= 1000000 /\ Q (decide ((↑rs'_1.length : Int) = 0))) /\ (¬halfS x'_2 * 256 - (↑bt'_1.length : Int) - sizeS wt'_1 = halfS x' * 256 - (↑([] : List UInt8).length : Int) - sizeS [] -> Q false)) /\ (¬e'.nr = 0 -> Q false)))))))
theorem VlF_ok {n : Int} {l : List Int} {Q : Bool -> Prop} (h : VlF n l Q) : vcFun (E:=Nal) (inlHN Nal HF anlF 2) (anlF 3) Try.f3 [.int .i64 n,.sl (N:=U) 3 l] [] [] 0 (resP Nal [.bool] Q):=Eq.mp (show VlF n l Q = vcFun (E:=Nal) (inlHN Nal HF anlF 2) (anlF 3) Try.f3 [.int .i64 n,.sl (N:=U) 3 l] [] [] 0 (resP Nal [.bool] Q) by kernel_rfl) h
set_option maxHeartbeats 4000000 in
theorem plF (n : Int) (l : List Int)  : VlF n l (fun y0=>y0 = true):=by
 unfold VlF qlF2 qlF1 qlF0
 simp only [Bool.decide_eq_true]
 obtain ⟨m1,m2,m3⟩:=mod_rg (n:=n) (b:=55) (by decide) (by decide)
 generalize (n.tmod 55 + 55).tmod 55 = m at m2 m3 ⊢
 refine ⟨by decide,m1,by decide,⟨by omega,by omega⟩,by omega,by omega,?_⟩
 rintro x rfl _
 have L0:=live_new (n:=6 + m) (by omega) (by omega)
 generalize (fmtS (Dk.new (6 + m))).2 = x at L0 ⊢
 have R0:=L0.room
 refine ⟨fun h=>absurd trivial h,fun _=>⟨fun _=>trivial,fun h40=>⟨L0.lgB (show (1 : Int) <= _ by decide),?_⟩⟩⟩
 refine ⟨fun hv i tn hf bt rs wt dd y=>0 <= i /\ i <= l.length /\ tn <= 1 + i /\ hv = rs ++ wt /\ hv.length <= 2 * i /\ Live ⟨tn,hf,bt,rs,wt,dd,y⟩ (6 + m).toNat,fun _ i _ _ _ _ _ _ _=>((l.length : Int) - i).toNat,⟨Int.le_refl 0,by omega,by decide,rfl,by decide,L0⟩,?_⟩
 rintro hv0 i tn hf bt rs wt dd y ⟨i0,i1,ht,hv,hlen,L⟩
 have t0 : 1 <= tn:=L.run.t0
 have hB:=L.lgB (show tn <= _ by omega)
 have hR:=L.room
 have hrm : roomS ⟨tn,hf,bt,rs,wt,dd,y⟩ = halfS y * 256 - (bt.length : Int) - sizeS wt:=rfl
 have e1 : (((some 1).getD 0 : Nat) : Int) = 1:=rfl
 have e16 : (some 16).getD 0 = 16:=rfl
 rw [e1,e16]
 generalize halfS y * 256 - (bt.length : Int) - sizeS wt = R at hR hrm ⊢
 refine ⟨fun hi=>⟨i0,hi,fun _=>?_⟩,fun _=>⟨hB,fun h7=>?_,fun h7=>⟨hB,?_⟩⟩⟩
 . obtain ⟨q1,q2,q3⟩:=mod_rg (n:=ix l i) (b:=601) (by decide) (by decide)
   generalize ((ix l i).tmod 601 + 601).tmod 601 = q at q2 q3 ⊢
   have hrl : (List.replicate q.toNat (0 : UInt8)).length = q.toNat:=List.length_replicate
   generalize List.replicate q.toNat (0 : UInt8) = r at hrl ⊢
   have hs : ShL [r,r]:=fun s hs=>by simp only [List.mem_cons,List.not_mem_nil,or_false,or_self] at hs; rw [hs]; omega
   refine ⟨by decide,q1,by decide,q2,trivial,by omega,hB,hB,smL_of hs (by show 2 <= _; decide),?_⟩
   rintro e2 tn2 hf2 bt2 rs2 wt2 dd2 y2 he _
   refine ⟨⟨by omega,by omega⟩,⟨by omega,by omega⟩,?_⟩
   rcases L.app [r,r] with ⟨_,hle,h1,L2⟩ | ⟨h,_⟩ | ⟨_,hlt,h1⟩
   . rw [h1] at he
     simp only [Prod.mk.injEq,Lg.mk.injEq] at he
     obtain ⟨rfl,rfl,rfl,rfl,rfl,rfl,rfl,rfl⟩:=he
     rw [hrm,frames_cl,frames_cl,frames_nl] at hle
     refine ⟨fun h=>absurd ⟨fun _=>by omega,fun _=>nr_nil⟩ h,fun _=>⟨fun h=>absurd nr_nil h,fun _=>⟨fun _=>⟨by show (hv0.length + 2) * 16 <= _; omega,fun _=>⟨L2.lgB (show tn2 <= _ by omega),?_⟩,fun _=>⟨⟨by omega,by omega⟩,⟨by omega,by omega,by omega,by rw [hv,List.append_assoc],by rw [List.length_append]; show ((hv0.length + 2 : Nat) : Int) <= _; omega,L2⟩,by dsimp only; omega⟩⟩,fun h=>absurd nr_nil h⟩⟩⟩
     rintro e3 tn3 hf3 bt3 rs3 wt3 dd3 y3 he3 _
     obtain ⟨en,L3,w3,r3,ec3⟩:=L2.syncE (show tn2 <= _ by omega) he3
     have w3 : wt3 = []:=w3
     have et3 : tn3 <= tn2 + 1:=by
      rcases ec3 with ⟨_,e1⟩ | ⟨_,e1⟩
      . have e1 : tn3 = tn2:=congrArg Lg.turn e1
        omega
      . exact Int.le_of_eq e1
     refine ⟨fun h=>absurd (by rw [en]; rfl) h,fun _=>⟨⟨by omega,by omega⟩,⟨by omega,by omega,by omega,?_,?_,L3⟩,by dsimp only; omega⟩⟩
     . rw [w3,List.append_nil,hv]; first | exact r3.symm | exact (List.append_assoc _ _ _).trans r3.symm
     . first | (rw [List.length_append]; show ((hv0.length + 2 : Nat) : Int) <= _; omega) | omega
   . exact absurd hs h
   . rw [h1] at he
     simp only [Prod.mk.injEq,Lg.mk.injEq] at he
     obtain ⟨rfl,rfl,rfl,rfl,rfl,rfl,rfl,rfl⟩:=he
     have L2:=L
     have n6 : (Err.no 6).nr = 6:=nr_no (by decide) (by decide)
     rw [hrm,frames_cl,frames_cl,frames_nl] at hlt
     have hRR : halfS y2 * 256 - (bt2.length : Int) - sizeS wt2 = R:=hrm
     rw [n6,hRR]
     refine ⟨fun h=>absurd ⟨fun h=>absurd h (by decide),fun h=>by omega⟩ h,fun _=>⟨fun _=>⟨fun h=>absurd rfl h,fun _=>⟨hB,fun h=>absurd rfl h,fun _=>⟨fun h=>absurd h (by decide),fun _=>⟨fun _=>⟨hB,?_⟩,fun _=>⟨⟨by omega,by omega⟩,⟨by omega,by omega,by omega,hv,by omega,L2⟩,by dsimp only; omega⟩⟩⟩⟩⟩,fun h=>absurd (by decide) h⟩⟩
     rintro e3 tn3 hf3 bt3 rs3 wt3 dd3 y3 he3 _
     obtain ⟨en,L3,w3,r3,ec3⟩:=L2.syncE (show tn2 <= _ by omega) he3
     have w3 : wt3 = []:=w3
     have et3 : tn3 <= tn2 + 1:=by
      rcases ec3 with ⟨_,e1⟩ | ⟨_,e1⟩
      . have e1 : tn3 = tn2:=congrArg Lg.turn e1
        omega
      . exact Int.le_of_eq e1
     refine ⟨fun h=>absurd (by rw [en]; rfl) h,fun _=>⟨⟨by omega,by omega⟩,⟨by omega,by omega,by omega,?_,?_,L3⟩,by dsimp only; omega⟩⟩
     . rw [w3,List.append_nil,hv]; first | exact r3.symm | exact (List.append_assoc _ _ _).trans r3.symm
     . first | (rw [List.length_append]; show ((hv0.length + 2 : Nat) : Int) <= _; omega) | omega
 . have hR8 : R <= 7424:=by
     have e : (((6 + m).toNat : Nat) : Int) = 6 + m:=by omega
     rw [e] at hR
     omega
   have hrl : (List.replicate (R - 7).toNat (0 : UInt8)).length = (R - 7).toNat:=List.length_replicate
   generalize List.replicate (R - 7).toNat (0 : UInt8) = r at hrl ⊢
   have hs : ShL [r]:=fun s hs=>by simp only [List.mem_cons,List.not_mem_nil,or_false] at hs; rw [hs]; omega
   refine ⟨hB,⟨by omega,by omega⟩,by omega,trivial,by omega,fun _=>⟨hB,smL_of hs (by show 1 <= _; decide),?_⟩,fun h=>absurd (by omega) h⟩
   rintro e2 tn2 hf2 bt2 rs2 wt2 dd2 y2 he _
   rcases L.app [r] with ⟨_,hle,h1,L2⟩ | ⟨h,_⟩ | ⟨_,hlt,h1⟩
   . rw [h1] at he
     simp only [Prod.mk.injEq,Lg.mk.injEq] at he
     obtain ⟨rfl,rfl,rfl,rfl,rfl,rfl,rfl,rfl⟩:=he
     have hR2:=L2.room
     have hB2:=L2.lgB (show tn2 <= _ by omega)
     have z0 : halfS y2 * 256 - (bt2.length : Int) - sizeS (wt ++ [r]) = 0:=by
      rw [hR2]
      show _ - (bt2.length : Int) - ((framesS (wt ++ [r])).length : Int) = 0
      rw [frames_app,List.length_append,frames_cl,frames_nl]
      have hR : R = _ - (bt2.length : Int) - ((framesS wt).length : Int):=hR
      omega
     refine ⟨fun h=>absurd nr_nil h,fun _=>⟨hB2,fun h=>absurd z0 h,fun _=>⟨by show (hv0.length + 1) * 16 <= _; omega,hB2,?_⟩⟩⟩
     rintro e3 tn3 hf3 bt3 rs3 wt3 dd3 y3 he3 _
     obtain ⟨en,L3,w3,r3,ec3⟩:=L2.syncE (show tn2 <= _ by omega) he3
     have w3 : wt3 = []:=w3
     have et3 : tn3 <= tn2 + 1:=by
      rcases ec3 with ⟨_,e1⟩ | ⟨_,e1⟩
      . have e1 : tn3 = tn2:=congrArg Lg.turn e1
        omega
      . exact Int.le_of_eq e1
     refine ⟨fun h=>absurd (by rw [en]; rfl) h,fun _=>⟨L3.recs,L3.recs,fun h=>absurd ?_ h,fun _=>⟨L3.lgB (show tn3 <= _ by omega),⟨Nat.zero_le _,fun _ h=>by cases h⟩,?_⟩⟩⟩
     . have r3 : rs3 = _:=r3
       rw [r3,hv]
       first | exact sameL_self _ | (rw [List.append_assoc]; exact sameL_self _)
     rintro e4 tn4 hf4 bt4 rs4 wt4 dd4 y4 he4 _
     rcases L3.comp (show tn3 <= _ by omega) [] with ⟨_,_,z4,e4',L4⟩ | ⟨h,_⟩
     . rw [e4'] at he4
       simp only [Prod.mk.injEq,Lg.mk.injEq] at he4
       obtain ⟨rfl,rfl,rfl,rfl,rfl,rfl,rfl,rfl⟩:=he4
       have R4:=L4.room
       exact ⟨fun _=>⟨L4.lgB (show tn3 + 1 <= _ by omega),fun _=>⟨L4.recs,rfl⟩,fun h=>absurd (R4.trans R0.symm) h⟩,fun h=>absurd nr_nil h⟩
     . exact absurd ⟨ShL.nil,by rw [frames_nl]; exact L3.run.size.1⟩ h
   . exact absurd hs h
   . rw [hrm,frames_cl,frames_nl] at hlt
     omega
 rintro e3 tn3 hf3 bt3 rs3 wt3 dd3 y3 he3 _
 obtain ⟨en,L3,w3,r3,ec3⟩:=L.syncE (show tn <= _ by omega) he3
 have w3 : wt3 = []:=w3
 have et3 : tn3 <= tn + 1:=by
  rcases ec3 with ⟨_,e1⟩ | ⟨_,e1⟩
  . have e1 : tn3 = tn:=congrArg Lg.turn e1
    omega
  . exact Int.le_of_eq e1
 refine ⟨fun h=>absurd (by rw [en]; rfl) h,fun _=>⟨L3.recs,L3.recs,fun h=>absurd ?_ h,fun _=>⟨L3.lgB (show tn3 <= _ by omega),⟨Nat.zero_le _,fun _ h=>by cases h⟩,?_⟩⟩⟩
 . have r3 : rs3 = _:=r3
   rw [r3,hv]
   first | exact sameL_self _ | (rw [List.append_assoc]; exact sameL_self _)
 rintro e4 tn4 hf4 bt4 rs4 wt4 dd4 y4 he4 _
 rcases L3.comp (show tn3 <= _ by omega) [] with ⟨_,_,z4,e4',L4⟩ | ⟨h,_⟩
 . rw [e4'] at he4
   simp only [Prod.mk.injEq,Lg.mk.injEq] at he4
   obtain ⟨rfl,rfl,rfl,rfl,rfl,rfl,rfl,rfl⟩:=he4
   have R4:=L4.room
   exact ⟨fun _=>⟨L4.lgB (show tn3 + 1 <= _ by omega),fun _=>⟨L4.recs,rfl⟩,fun h=>absurd (R4.trans R0.symm) h⟩,fun h=>absurd nr_nil h⟩
 . exact absurd ⟨ShL.nil,by rw [frames_nl]; exact L3.run.size.1⟩ h
def clF (a : List (SV U)) : Option (Q1 U):=match a with | [.int .i64 n,.sl 3 l]=>some ⟨[],[],blB true⟩ | _=>none
theorem clF_ok (args : List (SV U)) (q : Q1 U) (h : clF args = some q) (ho : allP q.ob) : LendOK Nal 3 args ⟨q.ob,q.hy,q.v,[]⟩:=by
 unfold clF at h
 split at h
 . rename_i n l
   cases h
   exact lend1 Nal_ok (inlHN_ok Nal_ok HF_ok anlF 2) Try.func3 (k:=.bool) (x:=true) trivial (VlF_ok (plF n l )) 0
 . cases h
end Go.Proofs.Ytckpdliipjekgaa
end
section
namespace Go.Proofs.Ytckpdliipjekgaa
open Go Go.Wk Go.Wl Go.Rx Go.RowKit Go.ChangeShapes Go.WideShapes Go.Wa
theorem laid0 : laidOutB Try.prog = true:=by kernel_rfl
theorem own0 : ownKnob Try.prog.godebug = none:=by kernel_rfl
theorem read0 {P : Program} {ts : List TypeId} (h : (ts.all fun t=>P.readableRec t && decide (t < P.types.size)) = true) : ∀ t ∈ ts,P.readableRec t = true /\ t < P.types.size:=fun t ht=>by
 have:=List.all_eq_true.1 h t ht
 rw [Bool.and_eq_true,decide_eq_true_eq] at this
 exact this
theorem rep_I {W : World} {v : Value} {y : List Int} (h : (dSlice dInt).rd (fun _=>True) W [v] y) : Rep U eT (fun _=>none) (fun b=>b < W.heap.size) W v (.sl (N:=U) 3 y):=.sl (Rd.weak _ h fun _ _ hb=>hb)
theorem bool_true {Z : Nat -> Prop} {W : World} {v : Value} (h : Rep U eT (fun _=>none) Z W v (blB true)) : v = .bool true:=by
 cases h with | bl=>rfl
end Go.Proofs.Ytckpdliipjekgaa
end
