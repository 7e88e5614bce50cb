/- Disks: walks, printed by program, and their plain law. -/
import Derived.Test.YtdgcgifigkfeaaaA5
namespace Go.Proofs.Ytdgcgifigkfeaaa
open Go Go.Wk Go.Wl Classical
theorem wrong0_ok {w0 : World} {d : Nat} {x : Dk} {F : List Nat} (h : DkIs d w0 x F) (ok : x.Ok) : CallR Try.prog 36 [.pointer (some ⟨d, 0, none⟩), .int .i64 0] w0 (fun v w' => v = .int .i64 0 ∧ w' = w0) := by
  have e : x.wrong 0 = 0 := by have := ok.pos; simp only [Dk.wrong]; rw [if_neg (by omega)]
  have := wrong_ok h ok 0
  rwa [e] at this
theorem dirty_nil {w0 : World} :
    CallR Try.prog 18 [.pointer none] w0 (fun v w' => v = .slice none 0 0 ∧ w' = w0) := by
  refine Call1 Try.func18 rfl rfl rfl rfl ?_
  refine W_seq ?_
  refine W_region ?_
  refine S_assign rfl ?_
  refine WL_nil ?_
  refine W_seq ?_
  refine W_region ?_
  refine S_assign rfl ?_
  refine WL_nil ?_
  refine W_seq ?_
  refine W_seq ?_
  refine W_region ?_
  refine S_move rfl ?_
  refine S_neqP0 Try.runUnderlying23 rfl rfl ?_
  refine WL_nil ?_
  refine W_cond_false rfl ?_
  refine W_skip ?_
  refine W_seq ?_
  refine W_region ?_
  refine S_move rfl ?_
  refine S_call Try.call34 rfl (sort_nil) rfl ?_
  rintro _ _ ⟨-, rfl⟩
  refine WL_nil ?_
  refine W_seq ?_
  refine W_region ?_
  refine S_move rfl ?_
  refine S_assign rfl ?_
  refine WL_nil ?_
  refine W_ret ?_
  show (Value.slice none 0 0) = .slice none 0 0 ∧ w0 = w0
  exact ⟨rfl, rfl⟩
theorem flush_ok {w0 : World} {d : Nat} {x : Dk} {F : List Nat} (h : DkIs d w0 x F) (ok : x.Ok) :
    CallR Try.prog 23 [.pointer (some ⟨d, 0, none⟩)] w0 (fun v w' => v = errv 64 x.flush.1 ∧ ∃ F', DkIs d w' x.flush.2 F' ∧ Turn w0 w' F F') := by
  have hs0 := Sep.one (o := obDk d) (Z := fun _ => False) h (fun _ h => h.elim) (fun _ _ h => h)
  refine Call1 Try.func23 rfl rfl rfl rfl ?_
  refine W_seq ?_
  refine W_region ?_
  refine S_assign rfl ?_
  refine WL_nil ?_
  refine W_seq ?_
  refine W_seq ?_
  refine W_region ?_
  refine S_move rfl ?_
  refine S_move rfl ?_
  refine S_callQ Try.call36 rfl (wrong0_ok (hs0.at 0 rfl) ok) rfl ?_
  have hz5 := act_ok (hs0.at 0 rfl) ok 0
  refine S_callE Try.call37 rfl hz5 rfl ?_
  rintro w1 ⟨F2, h3, t4⟩
  have hs6 : Sep F w0 (fun _ => False) w1 [iOb (obDk d) ((x.act 0).2) F2 F] := hs0.turn 0 rfl h3 t4
  refine S_assign rfl ?_
  refine WL_nil ?_
  refine W_seq ?_
  refine W_region ?_
  refine S_move rfl ?_
  refine S_neqE (Te := 64) (e := (x.act 0).1) Try.runUnderlying25 rfl rfl ?_
  refine WL_nil ?_
  refine W_cond rfl (fun h8 => ?_) (fun h8 => ?_)
  ·
    have p9 := of_decide_eq_true h8
    refine W_seq ?_
    refine W_region ?_
    refine S_move rfl ?_
    refine S_assign rfl ?_
    refine WL_nil ?_
    refine W_ret ?_
    show (errv 64 ((x.act 0).1)) = errv 64 x.flush.1 ∧ ∃ F', DkIs d w1 x.flush.2 F' ∧ Turn w0 w1 F F'
    rw [flush_err ‹_›]
    exact ⟨rfl, _, hs6.at 0 rfl, hs6.ext, fun b hb => (hs6.org 0 rfl b hb)⟩
  ·
    have p10 := of_decide_eq_false h8
    have hz : (x.act 0).1 = 0 := Classical.not_not.1 p10
    refine W_skip ?_
    refine W_seq ?_
    refine W_seq ?_
    refine W_region ?_
    refine S_move rfl ?_
    have hz18 := dirty_ok (hs6.at 0 rfl) (act_Ok ok 0)
    refine S_call3 Try.call18 rfl hz18 rfl ?_
    rintro A11 cap12 bs13 w14 ⟨ha15, e16, hf17⟩
    have hs19 : Sep F w0 (fun _ => False) w14 [iAc dInt (.slice A11 (((x.act 0).2).dirty.length) cap12) (((x.act 0).2).dirty) bs13 [], iOb (obDk d) ((x.act 0).2) F2 F] := hs6.madeAc e16 ha15 hf17
    refine S_len Try.runUnderlying37 rfl rfl ?_
    have ⟨A20, cap21, bm22, bs23, hs24⟩ := Sep.openDk (hs19.pick [1, 0] rfl (by decide) rfl)
    refine S_move rfl ?_
    refine WL_nil ?_
    refine W_block ?_
    refine W_loopE (fun m f w => ∃ (i : Int) (la : List Str) (fr : List (Int × Str)), m = (((x.act 0).2.dirty.length : Int) - i).toNat ∧ (0 ≤ i) ∧ (i ≤ (x.act 0).2.dirty.length) ∧ ((la, fr) = ((x.act 0).2.dirty.take i.toNat).foldl flushStep ((x.act 0).2.lasts, (x.act 0).2.fresh)) ∧ (∀ j s, aget fr j = some s → s.length = 256) ∧ Sep F w0 (fun _ => False) w [iOwn d 68 [.slice A20 (((x.act 0).2).lasts.length) cap21, .map (some bm22), .int .i64 (((x.act 0).2).left), .bool (((x.act 0).2).off)] F, iMap kInt bm22 (emap (fun s => av s) fr) F, iAc (dArr 256) (.slice A20 (((x.act 0).2).lasts.length) cap21) la bs23 F, iAc dInt (.slice A11 (((x.act 0).2).dirty.length) cap12) (((x.act 0).2).dirty) bs13 []] ∧ Live f [(0, .pointer (some ⟨d, 0, none⟩)), (14, .slice A11 (((x.act 0).2).dirty.length) cap12), (15, .int .i64 (((x.act 0).2).dirty.length : Int)), (16, .int .i64 i)]) ?_ ?_
    · exact ⟨_, 0, _, _, rfl, (by omega), (by omega), rfl, (fun j s hs => (aget_flen (act_Ok ok 0) hs).1), hs24, ⟨rfl, rfl, rfl, rfl, trivial⟩⟩
    ·
      rintro _ f27 w25 ⟨i, la, fr, rfl, q30, q31, q32, q33, hs28, hl29⟩
      refine W_live hl29 ?_
      intro g34
      have hdl := dirty_len (act_Ok ok 0)
      refine W_seq ?_
      refine W_region ?_
      refine S_lss rfl rfl rfl ?_
      refine WL_nil ?_
      refine W_seq ?_
      refine W_cond rfl (fun h35 => ?_) (fun h35 => ?_)
      ·
        have p36 := of_decide_eq_true h35
        refine W_skip ?_
        refine W_seq ?_
        refine W_block ?_
        refine W_seq ?_
        refine W_region ?_
        refine Z_indexAc (hs28.at 3 rfl) Try.runUnderlying37 Try.sizeOf3 rfl rfl (show (0 : Int) ≤ i from by omega) (show i < ((((x.act 0).2).dirty.length : Nat) : Int) from by omega) rfl ?_
        have o40 := cell_ac (q := (Int.toNat i) * 1) (sz := 1) (o := 0) (hs28.at 3 rfl) (Sub.self _) rfl (Nat.add_zero _).symm (show (0 : Int) ≤ i from by omega) (show i < ((((x.act 0).2).dirty.length : Nat) : Int) from by omega)
        obtain ⟨c37, hc38, hr39⟩ := o40
        obtain ⟨rfl, r41⟩ := hr39
        have ⟨r42, r43⟩ := r41
        refine Z_load Try.isAgg3 rfl hc38 rfl ?_
        refine S_assign rfl ?_
        have hdi := dirty_in (act_Ok ok 0) (i := i) (by omega) (by omega)
        refine WL_nil ?_
        refine W_seq ?_
        refine W_live (L := [(0, .pointer (some ⟨d, 0, none⟩)), (5, .int .i64 (ix (((x.act 0).2).dirty) i)), (14, .slice A11 (((x.act 0).2).dirty.length) cap12), (15, .int .i64 (((x.act 0).2).dirty.length : Int)), (16, .int .i64 i)]) ⟨rfl, rfl, rfl, rfl, rfl, trivial⟩ ?_
        intro g44
        refine W_region_J (fun dN vL w => Sep F w0 (fun _ => False) w [iOwn d 68 [.slice A20 (((x.act 0).2).lasts.length) cap21, .map (some bm22), .int .i64 (((x.act 0).2).left), .bool (((x.act 0).2).off)] F, iMap kInt bm22 (emap (fun s => av s) fr) F, (bif dN 12 then (iAc (dArr 256) (.slice A20 (((x.act 0).2).lasts.length) cap21) (List.set la (Int.toNat (ix (((x.act 0).2).dirty) i)) ((aget fr (ix (((x.act 0).2).dirty) i)).getD (List.replicate 256 (0 : UInt8)))) bs23 F) else (iAc (dArr 256) (.slice A20 (((x.act 0).2).lasts.length) cap21) la bs23 F)), iAc dInt (.slice A11 (((x.act 0).2).dirty.length) cap12) (((x.act 0).2).dirty) bs13 []] ∧ (dN 0 = true → vL 0 = .pointer (some ⟨d, 0, none⟩)) ∧ (dN 1 = true → vL 1 = .pointer (some ⟨d, 0, none⟩)) ∧ (dN 2 = true → vL 2 = .pointer (some ⟨d, 0, none⟩)) ∧ (dN 3 = true → vL 3 = .slice A20 (((x.act 0).2).lasts.length) cap21) ∧ (dN 4 = true → vL 4 = .int .i64 (ix (((x.act 0).2).dirty) i)) ∧ (dN 5 = true → vL 5 = .pointer (some ⟨d, 0, none⟩)) ∧ (dN 6 = true → vL 6 = .pointer (some ⟨d, 0, none⟩)) ∧ (dN 7 = true → vL 7 = .pointer (some ⟨d, 1, none⟩)) ∧ (dN 8 = true → vL 8 = .map (some bm22)) ∧ (dN 9 = true → vL 9 = .int .i64 (ix (((x.act 0).2).dirty) i)) ∧ (dN 10 = true → vL 10 = av ((aget fr (ix (((x.act 0).2).dirty) i)).getD (List.replicate 256 (0 : UInt8)))) ∧ (dN 11 = true → vL 11 = .pointer (some (eA A20 ((Int.toNat (ix (((x.act 0).2).dirty) i)) * 256)))) ∧ True) [20, 21, 22, 23, 24, 25, 26, 27, 28, 29, 30, 31] rfl (by decide +kernel) _ rfl ?_ ?_ ?_
        · exact fun V => ⟨hs28, (fun h => by cases h), (fun h => by cases h), (fun h => by cases h), (fun h => by cases h), (fun h => by cases h), (fun h => by cases h), (fun h => by cases h), (fun h => by cases h), (fun h => by cases h), (fun h => by cases h), (fun h => by cases h), (fun h => by cases h), trivial⟩
        · refine (.cons ?_ (.cons ?_ (.cons ?_ (.cons ?_ (.cons ?_ (.cons ?_ (.cons ?_ (.cons ?_ (.cons ?_ (.cons ?_ (.cons ?_ (.cons ?_ (.cons ?_ .nil)))))))))))))
          ·
            rintro dN vL g48 w49 ⟨hs50, v56, v57, v58, v59, v60, v61, v62, v63, v64, v65, v66, v67, _⟩ hD51 hd52 hu53 hg54 hk55
            have e68 : dN 12 = false := hu53 12 (by decide +kernel)
            rw [e68] at hs50
            have hs69 : Sep F w0 (fun _ => False) w49 [iOwn d 68 [.slice A20 (((x.act 0).2).lasts.length) cap21, .map (some bm22), .int .i64 (((x.act 0).2).left), .bool (((x.act 0).2).off)] F, iMap kInt bm22 (emap (fun s => av s) fr) F, iAc (dArr 256) (.slice A20 (((x.act 0).2).lasts.length) cap21) la bs23 F, iAc dInt (.slice A11 (((x.act 0).2).dirty.length) cap12) (((x.act 0).2).dirty) bs13 []] := hs50
            refine WL_at (L := [(0, .pointer (some ⟨d, 0, none⟩))]) ⟨(hk55 0 (by decide +kernel)), trivial⟩ ?_
            refine S_move rfl ?_
            have hs70 : Sep F w0 (fun _ => False) w49 [iOwn d 68 [.slice A20 (((x.act 0).2).lasts.length) cap21, .map (some bm22), .int .i64 (((x.act 0).2).left), .bool (((x.act 0).2).off)] F, iMap kInt bm22 (emap (fun s => av s) fr) F, (bif dN 12 then (iAc (dArr 256) (.slice A20 (((x.act 0).2).lasts.length) cap21) (List.set la (Int.toNat (ix (((x.act 0).2).dirty) i)) ((aget fr (ix (((x.act 0).2).dirty) i)).getD (List.replicate 256 (0 : UInt8)))) bs23 F) else (iAc (dArr 256) (.slice A20 (((x.act 0).2).lasts.length) cap21) la bs23 F)), iAc dInt (.slice A11 (((x.act 0).2).dirty.length) cap12) (((x.act 0).2).dirty) bs13 []] := by rw [e68]; exact hs69
            exact WL_nil ⟨rfl, _, rfl, hs70, (fun _ => rfl), v57, v58, v59, v60, v61, v62, v63, v64, v65, v66, v67, trivial⟩
          ·
            rintro dN vL g71 w72 ⟨hs73, v79, v80, v81, v82, v83, v84, v85, v86, v87, v88, v89, v90, _⟩ hD74 hd75 hu76 hg77 hk78
            have e91 : dN 0 = true := hd75 0 (by decide +kernel)
            have e92 : dN 12 = false := hu76 12 (by decide +kernel)
            rw [e92] at hs73
            have hs93 : Sep F w0 (fun _ => False) w72 [iOwn d 68 [.slice A20 (((x.act 0).2).lasts.length) cap21, .map (some bm22), .int .i64 (((x.act 0).2).left), .bool (((x.act 0).2).off)] F, iMap kInt bm22 (emap (fun s => av s) fr) F, iAc (dArr 256) (.slice A20 (((x.act 0).2).lasts.length) cap21) la bs23 F, iAc dInt (.slice A11 (((x.act 0).2).dirty.length) cap12) (((x.act 0).2).dirty) bs13 []] := hs73
            refine WL_at (L := [(20, .pointer (some ⟨d, 0, none⟩))]) ⟨((hg77 0 20 e91 rfl).trans (v79 e91)), trivial⟩ ?_
            refine S_nilCheck rfl rfl ?_
            have hs94 : Sep F w0 (fun _ => False) w72 [iOwn d 68 [.slice A20 (((x.act 0).2).lasts.length) cap21, .map (some bm22), .int .i64 (((x.act 0).2).left), .bool (((x.act 0).2).off)] F, iMap kInt bm22 (emap (fun s => av s) fr) F, (bif dN 12 then (iAc (dArr 256) (.slice A20 (((x.act 0).2).lasts.length) cap21) (List.set la (Int.toNat (ix (((x.act 0).2).dirty) i)) ((aget fr (ix (((x.act 0).2).dirty) i)).getD (List.replicate 256 (0 : UInt8)))) bs23 F) else (iAc (dArr 256) (.slice A20 (((x.act 0).2).lasts.length) cap21) la bs23 F)), iAc dInt (.slice A11 (((x.act 0).2).dirty.length) cap12) (((x.act 0).2).dirty) bs13 []] := by rw [e92]; exact hs93
            exact WL_nil ⟨rfl, _, rfl, hs94, v79, (fun _ => rfl), v81, v82, v83, v84, v85, v86, v87, v88, v89, v90, trivial⟩
          ·
            rintro dN vL g95 w96 ⟨hs97, v103, v104, v105, v106, v107, v108, v109, v110, v111, v112, v113, v114, _⟩ hD98 hd99 hu100 hg101 hk102
            have e115 : dN 1 = true := hd99 1 (by decide +kernel)
            have e116 : dN 12 = false := hu100 12 (by decide +kernel)
            rw [e116] at hs97
            have hs117 : Sep F w0 (fun _ => False) w96 [iOwn d 68 [.slice A20 (((x.act 0).2).lasts.length) cap21, .map (some bm22), .int .i64 (((x.act 0).2).left), .bool (((x.act 0).2).off)] F, iMap kInt bm22 (emap (fun s => av s) fr) F, iAc (dArr 256) (.slice A20 (((x.act 0).2).lasts.length) cap21) la bs23 F, iAc dInt (.slice A11 (((x.act 0).2).dirty.length) cap12) (((x.act 0).2).dirty) bs13 []] := hs97
            refine WL_at (L := [(21, .pointer (some ⟨d, 0, none⟩))]) ⟨((hg101 1 21 e115 rfl).trans (v104 e115)), trivial⟩ ?_
            refine S_fieldAddr Try.runUnderlying68 rfl Try.sizeOf65 rfl rfl ?_
            have hs118 : Sep F w0 (fun _ => False) w96 [iOwn d 68 [.slice A20 (((x.act 0).2).lasts.length) cap21, .map (some bm22), .int .i64 (((x.act 0).2).left), .bool (((x.act 0).2).off)] F, iMap kInt bm22 (emap (fun s => av s) fr) F, (bif dN 12 then (iAc (dArr 256) (.slice A20 (((x.act 0).2).lasts.length) cap21) (List.set la (Int.toNat (ix (((x.act 0).2).dirty) i)) ((aget fr (ix (((x.act 0).2).dirty) i)).getD (List.replicate 256 (0 : UInt8)))) bs23 F) else (iAc (dArr 256) (.slice A20 (((x.act 0).2).lasts.length) cap21) la bs23 F)), iAc dInt (.slice A11 (((x.act 0).2).dirty.length) cap12) (((x.act 0).2).dirty) bs13 []] := by rw [e116]; exact hs117
            exact WL_nil ⟨rfl, _, rfl, hs118, v103, v104, (fun _ => rfl), v106, v107, v108, v109, v110, v111, v112, v113, v114, trivial⟩
          ·
            rintro dN vL g119 w120 ⟨hs121, v127, v128, v129, v130, v131, v132, v133, v134, v135, v136, v137, v138, _⟩ hD122 hd123 hu124 hg125 hk126
            have e139 : dN 2 = true := hd123 2 (by decide +kernel)
            have e140 : dN 12 = false := hu124 12 (by decide +kernel)
            rw [e140] at hs121
            have hs141 : Sep F w0 (fun _ => False) w120 [iOwn d 68 [.slice A20 (((x.act 0).2).lasts.length) cap21, .map (some bm22), .int .i64 (((x.act 0).2).left), .bool (((x.act 0).2).off)] F, iMap kInt bm22 (emap (fun s => av s) fr) F, iAc (dArr 256) (.slice A20 (((x.act 0).2).lasts.length) cap21) la bs23 F, iAc dInt (.slice A11 (((x.act 0).2).dirty.length) cap12) (((x.act 0).2).dirty) bs13 []] := hs121
            refine WL_at (L := [(22, .pointer (some ⟨d, 0, none⟩))]) ⟨((hg125 2 22 e139 rfl).trans (v129 e139)), trivial⟩ ?_
            refine S_load1 Try.isAgg65 rfl (Own.at (hs141.at 0 rfl) rfl) rfl ?_
            have hs142 : Sep F w0 (fun _ => False) w120 [iOwn d 68 [.slice A20 (((x.act 0).2).lasts.length) cap21, .map (some bm22), .int .i64 (((x.act 0).2).left), .bool (((x.act 0).2).off)] F, iMap kInt bm22 (emap (fun s => av s) fr) F, (bif dN 12 then (iAc (dArr 256) (.slice A20 (((x.act 0).2).lasts.length) cap21) (List.set la (Int.toNat (ix (((x.act 0).2).dirty) i)) ((aget fr (ix (((x.act 0).2).dirty) i)).getD (List.replicate 256 (0 : UInt8)))) bs23 F) else (iAc (dArr 256) (.slice A20 (((x.act 0).2).lasts.length) cap21) la bs23 F)), iAc dInt (.slice A11 (((x.act 0).2).dirty.length) cap12) (((x.act 0).2).dirty) bs13 []] := by rw [e140]; exact hs141
            exact WL_nil ⟨rfl, _, rfl, hs142, v127, v128, v129, (fun _ => rfl), v131, v132, v133, v134, v135, v136, v137, v138, trivial⟩
          ·
            rintro dN vL g143 w144 ⟨hs145, v151, v152, v153, v154, v155, v156, v157, v158, v159, v160, v161, v162, _⟩ hD146 hd147 hu148 hg149 hk150
            have e163 : dN 12 = false := hu148 12 (by decide +kernel)
            rw [e163] at hs145
            have hs164 : Sep F w0 (fun _ => False) w144 [iOwn d 68 [.slice A20 (((x.act 0).2).lasts.length) cap21, .map (some bm22), .int .i64 (((x.act 0).2).left), .bool (((x.act 0).2).off)] F, iMap kInt bm22 (emap (fun s => av s) fr) F, iAc (dArr 256) (.slice A20 (((x.act 0).2).lasts.length) cap21) la bs23 F, iAc dInt (.slice A11 (((x.act 0).2).dirty.length) cap12) (((x.act 0).2).dirty) bs13 []] := hs145
            refine WL_at (L := [(5, .int .i64 (ix (((x.act 0).2).dirty) i))]) ⟨(hk150 5 (by decide +kernel)), trivial⟩ ?_
            refine S_move rfl ?_
            have hs165 : Sep F w0 (fun _ => False) w144 [iOwn d 68 [.slice A20 (((x.act 0).2).lasts.length) cap21, .map (some bm22), .int .i64 (((x.act 0).2).left), .bool (((x.act 0).2).off)] F, iMap kInt bm22 (emap (fun s => av s) fr) F, (bif dN 12 then (iAc (dArr 256) (.slice A20 (((x.act 0).2).lasts.length) cap21) (List.set la (Int.toNat (ix (((x.act 0).2).dirty) i)) ((aget fr (ix (((x.act 0).2).dirty) i)).getD (List.replicate 256 (0 : UInt8)))) bs23 F) else (iAc (dArr 256) (.slice A20 (((x.act 0).2).lasts.length) cap21) la bs23 F)), iAc dInt (.slice A11 (((x.act 0).2).dirty.length) cap12) (((x.act 0).2).dirty) bs13 []] := by rw [e163]; exact hs164
            exact WL_nil ⟨rfl, _, rfl, hs165, v151, v152, v153, v154, (fun _ => rfl), v156, v157, v158, v159, v160, v161, v162, trivial⟩
          ·
            rintro dN vL g166 w167 ⟨hs168, v174, v175, v176, v177, v178, v179, v180, v181, v182, v183, v184, v185, _⟩ hD169 hd170 hu171 hg172 hk173
            have e186 : dN 12 = false := hu171 12 (by decide +kernel)
            rw [e186] at hs168
            have hs187 : Sep F w0 (fun _ => False) w167 [iOwn d 68 [.slice A20 (((x.act 0).2).lasts.length) cap21, .map (some bm22), .int .i64 (((x.act 0).2).left), .bool (((x.act 0).2).off)] F, iMap kInt bm22 (emap (fun s => av s) fr) F, iAc (dArr 256) (.slice A20 (((x.act 0).2).lasts.length) cap21) la bs23 F, iAc dInt (.slice A11 (((x.act 0).2).dirty.length) cap12) (((x.act 0).2).dirty) bs13 []] := hs168
            refine WL_at (L := [(0, .pointer (some ⟨d, 0, none⟩))]) ⟨(hk173 0 (by decide +kernel)), trivial⟩ ?_
            refine S_move rfl ?_
            have hs188 : Sep F w0 (fun _ => False) w167 [iOwn d 68 [.slice A20 (((x.act 0).2).lasts.length) cap21, .map (some bm22), .int .i64 (((x.act 0).2).left), .bool (((x.act 0).2).off)] F, iMap kInt bm22 (emap (fun s => av s) fr) F, (bif dN 12 then (iAc (dArr 256) (.slice A20 (((x.act 0).2).lasts.length) cap21) (List.set la (Int.toNat (ix (((x.act 0).2).dirty) i)) ((aget fr (ix (((x.act 0).2).dirty) i)).getD (List.replicate 256 (0 : UInt8)))) bs23 F) else (iAc (dArr 256) (.slice A20 (((x.act 0).2).lasts.length) cap21) la bs23 F)), iAc dInt (.slice A11 (((x.act 0).2).dirty.length) cap12) (((x.act 0).2).dirty) bs13 []] := by rw [e186]; exact hs187
            exact WL_nil ⟨rfl, _, rfl, hs188, v174, v175, v176, v177, v178, (fun _ => rfl), v180, v181, v182, v183, v184, v185, trivial⟩
          ·
            rintro dN vL g189 w190 ⟨hs191, v197, v198, v199, v200, v201, v202, v203, v204, v205, v206, v207, v208, _⟩ hD192 hd193 hu194 hg195 hk196
            have e209 : dN 5 = true := hd193 5 (by decide +kernel)
            have e210 : dN 12 = false := hu194 12 (by decide +kernel)
            rw [e210] at hs191
            have hs211 : Sep F w0 (fun _ => False) w190 [iOwn d 68 [.slice A20 (((x.act 0).2).lasts.length) cap21, .map (some bm22), .int .i64 (((x.act 0).2).left), .bool (((x.act 0).2).off)] F, iMap kInt bm22 (emap (fun s => av s) fr) F, iAc (dArr 256) (.slice A20 (((x.act 0).2).lasts.length) cap21) la bs23 F, iAc dInt (.slice A11 (((x.act 0).2).dirty.length) cap12) (((x.act 0).2).dirty) bs13 []] := hs191
            refine WL_at (L := [(25, .pointer (some ⟨d, 0, none⟩))]) ⟨((hg195 5 25 e209 rfl).trans (v202 e209)), trivial⟩ ?_
            refine S_nilCheck rfl rfl ?_
            have hs212 : Sep F w0 (fun _ => False) w190 [iOwn d 68 [.slice A20 (((x.act 0).2).lasts.length) cap21, .map (some bm22), .int .i64 (((x.act 0).2).left), .bool (((x.act 0).2).off)] F, iMap kInt bm22 (emap (fun s => av s) fr) F, (bif dN 12 then (iAc (dArr 256) (.slice A20 (((x.act 0).2).lasts.length) cap21) (List.set la (Int.toNat (ix (((x.act 0).2).dirty) i)) ((aget fr (ix (((x.act 0).2).dirty) i)).getD (List.replicate 256 (0 : UInt8)))) bs23 F) else (iAc (dArr 256) (.slice A20 (((x.act 0).2).lasts.length) cap21) la bs23 F)), iAc dInt (.slice A11 (((x.act 0).2).dirty.length) cap12) (((x.act 0).2).dirty) bs13 []] := by rw [e210]; exact hs211
            exact WL_nil ⟨rfl, _, rfl, hs212, v197, v198, v199, v200, v201, v202, (fun _ => rfl), v204, v205, v206, v207, v208, trivial⟩
          ·
            rintro dN vL g213 w214 ⟨hs215, v221, v222, v223, v224, v225, v226, v227, v228, v229, v230, v231, v232, _⟩ hD216 hd217 hu218 hg219 hk220
            have e233 : dN 6 = true := hd217 6 (by decide +kernel)
            have e234 : dN 12 = false := hu218 12 (by decide +kernel)
            rw [e234] at hs215
            have hs235 : Sep F w0 (fun _ => False) w214 [iOwn d 68 [.slice A20 (((x.act 0).2).lasts.length) cap21, .map (some bm22), .int .i64 (((x.act 0).2).left), .bool (((x.act 0).2).off)] F, iMap kInt bm22 (emap (fun s => av s) fr) F, iAc (dArr 256) (.slice A20 (((x.act 0).2).lasts.length) cap21) la bs23 F, iAc dInt (.slice A11 (((x.act 0).2).dirty.length) cap12) (((x.act 0).2).dirty) bs13 []] := hs215
            refine WL_at (L := [(26, .pointer (some ⟨d, 0, none⟩))]) ⟨((hg219 6 26 e233 rfl).trans (v227 e233)), trivial⟩ ?_
            refine S_fieldAddr Try.runUnderlying68 rfl Try.sizeOf66 rfl rfl ?_
            have hs236 : Sep F w0 (fun _ => False) w214 [iOwn d 68 [.slice A20 (((x.act 0).2).lasts.length) cap21, .map (some bm22), .int .i64 (((x.act 0).2).left), .bool (((x.act 0).2).off)] F, iMap kInt bm22 (emap (fun s => av s) fr) F, (bif dN 12 then (iAc (dArr 256) (.slice A20 (((x.act 0).2).lasts.length) cap21) (List.set la (Int.toNat (ix (((x.act 0).2).dirty) i)) ((aget fr (ix (((x.act 0).2).dirty) i)).getD (List.replicate 256 (0 : UInt8)))) bs23 F) else (iAc (dArr 256) (.slice A20 (((x.act 0).2).lasts.length) cap21) la bs23 F)), iAc dInt (.slice A11 (((x.act 0).2).dirty.length) cap12) (((x.act 0).2).dirty) bs13 []] := by rw [e234]; exact hs235
            exact WL_nil ⟨rfl, _, rfl, hs236, v221, v222, v223, v224, v225, v226, v227, (fun _ => rfl), v229, v230, v231, v232, trivial⟩
          ·
            rintro dN vL g237 w238 ⟨hs239, v245, v246, v247, v248, v249, v250, v251, v252, v253, v254, v255, v256, _⟩ hD240 hd241 hu242 hg243 hk244
            have e257 : dN 7 = true := hd241 7 (by decide +kernel)
            have e258 : dN 12 = false := hu242 12 (by decide +kernel)
            rw [e258] at hs239
            have hs259 : Sep F w0 (fun _ => False) w238 [iOwn d 68 [.slice A20 (((x.act 0).2).lasts.length) cap21, .map (some bm22), .int .i64 (((x.act 0).2).left), .bool (((x.act 0).2).off)] F, iMap kInt bm22 (emap (fun s => av s) fr) F, iAc (dArr 256) (.slice A20 (((x.act 0).2).lasts.length) cap21) la bs23 F, iAc dInt (.slice A11 (((x.act 0).2).dirty.length) cap12) (((x.act 0).2).dirty) bs13 []] := hs239
            refine WL_at (L := [(27, .pointer (some ⟨d, 1, none⟩))]) ⟨((hg243 7 27 e257 rfl).trans (v252 e257)), trivial⟩ ?_
            refine S_load1 Try.isAgg66 rfl (Own.at (hs259.at 0 rfl) rfl) rfl ?_
            have hs260 : Sep F w0 (fun _ => False) w238 [iOwn d 68 [.slice A20 (((x.act 0).2).lasts.length) cap21, .map (some bm22), .int .i64 (((x.act 0).2).left), .bool (((x.act 0).2).off)] F, iMap kInt bm22 (emap (fun s => av s) fr) F, (bif dN 12 then (iAc (dArr 256) (.slice A20 (((x.act 0).2).lasts.length) cap21) (List.set la (Int.toNat (ix (((x.act 0).2).dirty) i)) ((aget fr (ix (((x.act 0).2).dirty) i)).getD (List.replicate 256 (0 : UInt8)))) bs23 F) else (iAc (dArr 256) (.slice A20 (((x.act 0).2).lasts.length) cap21) la bs23 F)), iAc dInt (.slice A11 (((x.act 0).2).dirty.length) cap12) (((x.act 0).2).dirty) bs13 []] := by rw [e258]; exact hs259
            exact WL_nil ⟨rfl, _, rfl, hs260, v245, v246, v247, v248, v249, v250, v251, v252, (fun _ => rfl), v254, v255, v256, trivial⟩
          ·
            rintro dN vL g261 w262 ⟨hs263, v269, v270, v271, v272, v273, v274, v275, v276, v277, v278, v279, v280, _⟩ hD264 hd265 hu266 hg267 hk268
            have e281 : dN 12 = false := hu266 12 (by decide +kernel)
            rw [e281] at hs263
            have hs282 : Sep F w0 (fun _ => False) w262 [iOwn d 68 [.slice A20 (((x.act 0).2).lasts.length) cap21, .map (some bm22), .int .i64 (((x.act 0).2).left), .bool (((x.act 0).2).off)] F, iMap kInt bm22 (emap (fun s => av s) fr) F, iAc (dArr 256) (.slice A20 (((x.act 0).2).lasts.length) cap21) la bs23 F, iAc dInt (.slice A11 (((x.act 0).2).dirty.length) cap12) (((x.act 0).2).dirty) bs13 []] := hs263
            refine WL_at (L := [(5, .int .i64 (ix (((x.act 0).2).dirty) i))]) ⟨(hk268 5 (by decide +kernel)), trivial⟩ ?_
            refine S_move rfl ?_
            have hs283 : Sep F w0 (fun _ => False) w262 [iOwn d 68 [.slice A20 (((x.act 0).2).lasts.length) cap21, .map (some bm22), .int .i64 (((x.act 0).2).left), .bool (((x.act 0).2).off)] F, iMap kInt bm22 (emap (fun s => av s) fr) F, (bif dN 12 then (iAc (dArr 256) (.slice A20 (((x.act 0).2).lasts.length) cap21) (List.set la (Int.toNat (ix (((x.act 0).2).dirty) i)) ((aget fr (ix (((x.act 0).2).dirty) i)).getD (List.replicate 256 (0 : UInt8)))) bs23 F) else (iAc (dArr 256) (.slice A20 (((x.act 0).2).lasts.length) cap21) la bs23 F)), iAc dInt (.slice A11 (((x.act 0).2).dirty.length) cap12) (((x.act 0).2).dirty) bs13 []] := by rw [e281]; exact hs282
            exact WL_nil ⟨rfl, _, rfl, hs283, v269, v270, v271, v272, v273, v274, v275, v276, v277, (fun _ => rfl), v279, v280, trivial⟩
          ·
            rintro dN vL g284 w285 ⟨hs286, v292, v293, v294, v295, v296, v297, v298, v299, v300, v301, v302, v303, _⟩ hD287 hd288 hu289 hg290 hk291
            have e304 : dN 8 = true := hd288 8 (by decide +kernel)
            have e305 : dN 9 = true := hd288 9 (by decide +kernel)
            have e306 : dN 12 = false := hu289 12 (by decide +kernel)
            rw [e306] at hs286
            have hs307 : Sep F w0 (fun _ => False) w285 [iOwn d 68 [.slice A20 (((x.act 0).2).lasts.length) cap21, .map (some bm22), .int .i64 (((x.act 0).2).left), .bool (((x.act 0).2).off)] F, iMap kInt bm22 (emap (fun s => av s) fr) F, iAc (dArr 256) (.slice A20 (((x.act 0).2).lasts.length) cap21) la bs23 F, iAc dInt (.slice A11 (((x.act 0).2).dirty.length) cap12) (((x.act 0).2).dirty) bs13 []] := hs286
            refine WL_at (L := [(28, .map (some bm22)), (29, .int .i64 (ix (((x.act 0).2).dirty) i))]) ⟨((hg290 8 28 e304 rfl).trans (v300 e304)), ((hg290 9 29 e305 rfl).trans (v301 e305)), trivial⟩ ?_
            refine Z_lookup (z0 := (List.replicate 256 (0 : UInt8))) (hs307.at 1 rfl) Try.runUnderlying66 Try.runUnderlying3 Try.zeroValue78 zero78 rfl rfl rfl ?_
            have hs308 : Sep F w0 (fun _ => False) w285 [iOwn d 68 [.slice A20 (((x.act 0).2).lasts.length) cap21, .map (some bm22), .int .i64 (((x.act 0).2).left), .bool (((x.act 0).2).off)] F, iMap kInt bm22 (emap (fun s => av s) fr) F, (bif dN 12 then (iAc (dArr 256) (.slice A20 (((x.act 0).2).lasts.length) cap21) (List.set la (Int.toNat (ix (((x.act 0).2).dirty) i)) ((aget fr (ix (((x.act 0).2).dirty) i)).getD (List.replicate 256 (0 : UInt8)))) bs23 F) else (iAc (dArr 256) (.slice A20 (((x.act 0).2).lasts.length) cap21) la bs23 F)), iAc dInt (.slice A11 (((x.act 0).2).dirty.length) cap12) (((x.act 0).2).dirty) bs13 []] := by rw [e306]; exact hs307
            exact WL_nil ⟨rfl, _, rfl, hs308, v292, v293, v294, v295, v296, v297, v298, v299, v300, v301, (fun _ => rfl), v303, trivial⟩
          ·
            rintro dN vL g309 w310 ⟨hs311, v317, v318, v319, v320, v321, v322, v323, v324, v325, v326, v327, v328, _⟩ hD312 hd313 hu314 hg315 hk316
            have e329 : dN 3 = true := hd313 3 (by decide +kernel)
            have e330 : dN 4 = true := hd313 4 (by decide +kernel)
            have e331 : dN 12 = false := hu314 12 (by decide +kernel)
            rw [e331] at hs311
            have hs332 : Sep F w0 (fun _ => False) w310 [iOwn d 68 [.slice A20 (((x.act 0).2).lasts.length) cap21, .map (some bm22), .int .i64 (((x.act 0).2).left), .bool (((x.act 0).2).off)] F, iMap kInt bm22 (emap (fun s => av s) fr) F, iAc (dArr 256) (.slice A20 (((x.act 0).2).lasts.length) cap21) la bs23 F, iAc dInt (.slice A11 (((x.act 0).2).dirty.length) cap12) (((x.act 0).2).dirty) bs13 []] := hs311
            refine WL_at (L := [(23, .slice A20 (((x.act 0).2).lasts.length) cap21), (24, .int .i64 (ix (((x.act 0).2).dirty) i))]) ⟨((hg315 3 23 e329 rfl).trans (v320 e329)), ((hg315 4 24 e330 rfl).trans (v321 e330)), trivial⟩ ?_
            refine Z_indexAc (hs332.at 2 rfl) Try.runUnderlying65 Try.sizeOf78 rfl rfl (show (0 : Int) ≤ (ix (((x.act 0).2).dirty) i) from hdi.1) (show (ix (((x.act 0).2).dirty) i) < ((((x.act 0).2).lasts.length : Nat) : Int) from hdi.2) rfl ?_
            have hs333 : Sep F w0 (fun _ => False) w310 [iOwn d 68 [.slice A20 (((x.act 0).2).lasts.length) cap21, .map (some bm22), .int .i64 (((x.act 0).2).left), .bool (((x.act 0).2).off)] F, iMap kInt bm22 (emap (fun s => av s) fr) F, (bif dN 12 then (iAc (dArr 256) (.slice A20 (((x.act 0).2).lasts.length) cap21) (List.set la (Int.toNat (ix (((x.act 0).2).dirty) i)) ((aget fr (ix (((x.act 0).2).dirty) i)).getD (List.replicate 256 (0 : UInt8)))) bs23 F) else (iAc (dArr 256) (.slice A20 (((x.act 0).2).lasts.length) cap21) la bs23 F)), iAc dInt (.slice A11 (((x.act 0).2).dirty.length) cap12) (((x.act 0).2).dirty) bs13 []] := by rw [e331]; exact hs332
            exact WL_nil ⟨rfl, _, rfl, hs333, v317, v318, v319, v320, v321, v322, v323, v324, v325, v326, v327, (fun _ => rfl), trivial⟩
          ·
            rintro dN vL g334 w335 ⟨hs336, v342, v343, v344, v345, v346, v347, v348, v349, v350, v351, v352, v353, _⟩ hD337 hd338 hu339 hg340 hk341
            have e354 : dN 10 = true := hd338 10 (by decide +kernel)
            have e355 : dN 11 = true := hd338 11 (by decide +kernel)
            have e356 : dN 12 = false := hD337
            rw [e356] at hs336
            have hs357 : Sep F w0 (fun _ => False) w335 [iOwn d 68 [.slice A20 (((x.act 0).2).lasts.length) cap21, .map (some bm22), .int .i64 (((x.act 0).2).left), .bool (((x.act 0).2).off)] F, iMap kInt bm22 (emap (fun s => av s) fr) F, iAc (dArr 256) (.slice A20 (((x.act 0).2).lasts.length) cap21) la bs23 F, iAc dInt (.slice A11 (((x.act 0).2).dirty.length) cap12) (((x.act 0).2).dirty) bs13 []] := hs336
            refine WL_at (L := [(30, av ((aget fr (ix (((x.act 0).2).dirty) i)).getD (List.replicate 256 (0 : UInt8)))), (31, .pointer (some (eA A20 ((Int.toNat (ix (((x.act 0).2).dirty) i)) * 256))))]) ⟨((hg340 10 30 e354 rfl).trans (v352 e354)), ((hg340 11 31 e355 rfl).trans (v353 e355)), trivial⟩ ?_
            refine Z_storeEl (o := 0) (sz := 256) hs357 2 rfl Try.sizeOf78 rfl rfl (Nat.add_zero _).symm (av_cells _) (by rw [List.length_map]; exact (flens_getD q33 (ix (x.act 0).2.dirty i))) (show (0 : Int) ≤ (ix (((x.act 0).2).dirty) i) from hdi.1) (show (ix (((x.act 0).2).dirty) i) < ((((x.act 0).2).lasts.length : Nat) : Int) from hdi.2) (fun c0 _ hc => dArr_splice (flens_getD q33 (ix (x.act 0).2.dirty i)) c0 hc) (bv_plain _) ?_
            intro w358 hs359
            have hs359 : Sep F w0 (fun _ => False) w358 [iOwn d 68 [.slice A20 (((x.act 0).2).lasts.length) cap21, .map (some bm22), .int .i64 (((x.act 0).2).left), .bool (((x.act 0).2).off)] F, iMap kInt bm22 (emap (fun s => av s) fr) F, iAc (dArr 256) (.slice A20 (((x.act 0).2).lasts.length) cap21) (List.set la (Int.toNat (ix (((x.act 0).2).dirty) i)) ((aget fr (ix (((x.act 0).2).dirty) i)).getD (List.replicate 256 (0 : UInt8)))) bs23 F, iAc dInt (.slice A11 (((x.act 0).2).dirty.length) cap12) (((x.act 0).2).dirty) bs13 []] := hs359
            have hs360 : Sep F w0 (fun _ => False) w358 [iOwn d 68 [.slice A20 (((x.act 0).2).lasts.length) cap21, .map (some bm22), .int .i64 (((x.act 0).2).left), .bool (((x.act 0).2).off)] F, iMap kInt bm22 (emap (fun s => av s) fr) F, iAc (dArr 256) (.slice A20 (((x.act 0).2).lasts.length) cap21) (List.set la (Int.toNat (ix (((x.act 0).2).dirty) i)) ((aget fr (ix (((x.act 0).2).dirty) i)).getD (List.replicate 256 (0 : UInt8)))) bs23 F, iAc dInt (.slice A11 (((x.act 0).2).dirty.length) cap12) (((x.act 0).2).dirty) bs13 []] := by exact hs359
            exact WL_nil ⟨rfl, undef, rfl, hs360, v342, v343, v344, v345, v346, v347, v348, v349, v350, v351, v352, v353, trivial⟩
        ·
          rintro dN vL g361 w362 ha364 ⟨hs363, v367, v368, v369, v370, v371, v372, v373, v374, v375, v376, v377, v378, _⟩ hg365 hk366
          rw [ha364 12 rfl] at hs363
          have hs379 : Sep F w0 (fun _ => False) w362 [iOwn d 68 [.slice A20 (((x.act 0).2).lasts.length) cap21, .map (some bm22), .int .i64 (((x.act 0).2).left), .bool (((x.act 0).2).off)] F, iMap kInt bm22 (emap (fun s => av s) fr) F, iAc (dArr 256) (.slice A20 (((x.act 0).2).lasts.length) cap21) (List.set la (Int.toNat (ix (((x.act 0).2).dirty) i)) ((aget fr (ix (((x.act 0).2).dirty) i)).getD (List.replicate 256 (0 : UInt8)))) bs23 F, iAc dInt (.slice A11 (((x.act 0).2).dirty.length) cap12) (((x.act 0).2).dirty) bs13 []] := hs363
          refine ⟨[(0, .pointer (some ⟨d, 0, none⟩)), (5, .int .i64 (ix (((x.act 0).2).dirty) i)), (14, .slice A11 (((x.act 0).2).dirty.length) cap12), (15, .int .i64 (((x.act 0).2).dirty.length : Int)), (16, .int .i64 i)], ⟨(hk366 0 rfl), (hk366 5 rfl), (hk366 14 rfl), (hk366 15 rfl), (hk366 16 rfl), trivial⟩, fun g380 => ?_⟩
          refine W_region ?_
          refine S_move rfl ?_
          refine S_nilCheck rfl rfl ?_
          refine S_fieldAddr Try.runUnderlying68 rfl Try.sizeOf66 rfl rfl ?_
          refine S_load1 Try.isAgg66 rfl (Own.at (hs379.at 0 rfl) rfl) rfl ?_
          refine S_move rfl ?_
          refine Z_delete hs379 1 rfl Try.runUnderlying66 Try.runUnderlying3 rfl rfl ?_
          intro w381 hs382
          have hs382 : Sep F w0 (fun _ => False) w381 [iOwn d 68 [.slice A20 (((x.act 0).2).lasts.length) cap21, .map (some bm22), .int .i64 (((x.act 0).2).left), .bool (((x.act 0).2).off)] F, iMap kInt bm22 (emap (fun s => av s) (adel fr (ix (((x.act 0).2).dirty) i))) F, iAc (dArr 256) (.slice A20 (((x.act 0).2).lasts.length) cap21) (List.set la (Int.toNat (ix (((x.act 0).2).dirty) i)) ((aget fr (ix (((x.act 0).2).dirty) i)).getD (List.replicate 256 (0 : UInt8)))) bs23 F, iAc dInt (.slice A11 (((x.act 0).2).dirty.length) cap12) (((x.act 0).2).dirty) bs13 []] := hs382
          refine WL_nil ?_
          refine W_region ?_
          refine S_add rfl rfl (by omega) rfl ?_
          skip
          refine S_move rfl ?_
          refine WL_nil ?_
          exact ⟨_, (by omega), i + 1, List.set la (Int.toNat (ix (((x.act 0).2).dirty) i)) ((aget fr (ix (((x.act 0).2).dirty) i)).getD (List.replicate 256 (0 : UInt8))), adel fr (ix (((x.act 0).2).dirty) i), rfl, (by omega), (by omega), (flush_step q32 q30 (by omega)), (flens_del q33), hs382, ⟨rfl, rfl, rfl, rfl, trivial⟩⟩
      ·
        have p383 := of_decide_eq_false h35
        refine W_exit ?_
        refine W_seq ?_
        refine W_region ?_
        refine S_assign rfl ?_
        refine WL_nil ?_
        refine W_ret ?_
        show (Value.nilIface) = errv 64 x.flush.1 ∧ ∃ F', DkIs d w25 x.flush.2 F' ∧ Turn w0 w25 F F'
        have hc := (DkIs.close hs28 (Ac.bs1 (hs28.at 2 rfl)))
        rw [flush_fine hz (la := la) (fr := fr) (by rw [q32, List.take_of_length_le (by omega)])]
        exact ⟨errv_0, _, hc⟩
end Go.Proofs.Ytdgcgifigkfeaaa
