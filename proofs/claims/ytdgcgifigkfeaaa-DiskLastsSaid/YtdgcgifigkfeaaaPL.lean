/- Disks: walks, printed by program, and their plain law. -/
import Derived.Test.YtdgcgifigkfeaaaM6
import Derived.Test.YtdgcgifigkfeaaaL3
namespace Go.Proofs.Ytdgcgifigkfeaaa
open Go Go.Wk Go.Wl Classical
set_option linter.unusedVariables false
set_option linter.unusedSimpArgs false

theorem play_bad {w0 : World} {D : Nat → Prop} {A : Option Addr} {cap : Nat} {l : List Act} (h : (dSlice dAct).rd D w0 [.slice A l.length cap] l) {n : Int} (hn : n < 1 ∨ 8192 < n) :
    CallR Try.prog 22 [.int .i64 n, .slice A l.length cap] w0 (fun v w' => (∃ _u : Unit, v = .pointer none ∧ Ext [] w0 w') ∨ ∃ p : Nat × Dk × List Nat, v = .pointer (some ⟨p.1, 0, none⟩) ∧ (DkIs p.1 w' p.2.1 p.2.2 ∧ p.2.1.Ok ∧ (p.2.1.lasts.length : Int) = n ∧ Ext [] w0 w' ∧ ∀ b ∈ p.2.2, w0.heap.size ≤ b)) := by
  have hs0 := (Sep.nil (B0 := []) (w0 := w0) (Z := fun b => D b ∧ b < w0.heap.size) (fun _ h => h.2)).fact (t := iData (dSlice dAct) [.slice A l.length cap] l) ((dSlice dAct).weak h (fun b h1 h2 => ⟨h1, h2⟩)) sData rfl rfl
  have hll := dSlice_len h
  refine Call1 Try.func22 rfl rfl rfl rfl ?_
  refine W_seq ?_
  refine W_region ?_
  refine S_assign rfl ?_
  refine WL_nil ?_
  refine W_seq ?_
  refine W_region ?_
  refine S_move rfl ?_
  refine S_callQ Try.call9 rfl (new_bad (n := n) hn) rfl ?_
  refine S_move rfl ?_
  refine S_extract rfl rfl rfl ?_
  refine S_extract rfl rfl rfl ?_
  refine S_assign rfl ?_
  refine S_assign rfl ?_
  refine WL_nil ?_
  refine W_seq ?_
  refine W_seq ?_
  refine W_region ?_
  refine S_move rfl ?_
  refine S_callQ Try.call11 rfl (no_okI (z := 2) (by decide) (by decide)) rfl ?_
  refine S_neq rfl rfl rfl ?_
  refine WL_conv (congrArg Value.bool (decide_eq_true (by decide))) ?_
  refine S_move rfl ?_
  refine WL_off rfl rfl rfl rfl ?_
  refine WL_off rfl rfl rfl rfl ?_
  refine WL_off rfl rfl rfl rfl ?_
  refine S_pick_t rfl rfl ?_
  refine WL_nil ?_
  refine W_cond_true rfl ?_
  refine W_seq ?_
  refine W_live (L := []) trivial ?_
  intro g1
  refine W_region ?_
  refine S_assign rfl ?_
  refine WL_nil ?_
  refine W_ret ?_
  show (∃ _u : Unit, (Value.pointer none) = .pointer none ∧ Ext [] w0 w0) ∨ ∃ p : Nat × Dk × List Nat, (Value.pointer none) = .pointer (some ⟨p.1, 0, none⟩) ∧ (DkIs p.1 w0 p.2.1 p.2.2 ∧ p.2.1.Ok ∧ (p.2.1.lasts.length : Int) = n ∧ Ext [] w0 w0 ∧ ∀ b ∈ p.2.2, w0.heap.size ≤ b)
  exact .inl ⟨(), rfl, hs0.ext⟩
set_option maxHeartbeats 8000000 in
theorem play_good {w0 : World} {D : Nat → Prop} {A : Option Addr} {cap : Nat} {l : List Act} (h : (dSlice dAct).rd D w0 [.slice A l.length cap] l) {n : Int} (h0 : 1 ≤ n) (h1 : n ≤ 8192) :
    CallR Try.prog 22 [.int .i64 n, .slice A l.length cap] w0 (fun v w' => (∃ _u : Unit, v = .pointer none ∧ Ext [] w0 w') ∨ ∃ p : Nat × Dk × List Nat, v = .pointer (some ⟨p.1, 0, none⟩) ∧ (DkIs p.1 w' p.2.1 p.2.2 ∧ p.2.1.Ok ∧ (p.2.1.lasts.length : Int) = n ∧ Ext [] w0 w' ∧ ∀ b ∈ p.2.2, w0.heap.size ≤ b)) := by
  have hs0 := (Sep.nil (B0 := []) (w0 := w0) (Z := fun b => D b ∧ b < w0.heap.size) (fun _ h => h.2)).fact (t := iData (dSlice dAct) [.slice A l.length cap] l) ((dSlice dAct).weak h (fun b h1 h2 => ⟨h1, h2⟩)) sData rfl rfl
  have hll := dSlice_len h
  refine Call1 Try.func22 rfl rfl rfl rfl ?_
  refine W_seq ?_
  refine W_region ?_
  refine S_assign rfl ?_
  refine WL_nil ?_
  refine W_seq ?_
  refine W_region ?_
  refine S_move rfl ?_
  have hz7 := new_ok (w0 := w0) (n := n) h0 h1
  refine S_call2 Try.call9 rfl hz7 rfl ?_
  rintro d1 F2 w3 ⟨h4, e5, hf6⟩
  have hs8 : Sep [] w0 (fun b => D b ∧ b < w0.heap.size) w3 [iOb (obDk d1) (Dk.new n) F2 [], iData (dSlice dAct) [.slice A l.length cap] l] := hs0.made (o := obDk d1) e5 h4 hf6
  refine S_move rfl ?_
  refine S_extract rfl rfl rfl ?_
  refine S_extract rfl rfl rfl ?_
  refine S_assign rfl ?_
  refine S_assign rfl ?_
  refine WL_nil ?_
  refine W_seq ?_
  refine W_seq ?_
  refine W_region ?_
  refine S_move rfl ?_
  refine S_callQ Try.call11 rfl no_ok0 rfl ?_
  refine S_neq rfl rfl rfl ?_
  refine WL_conv (congrArg Value.bool (decide_eq_false (by simp))) ?_
  refine S_move rfl ?_
  refine WL_on rfl rfl rfl ?_
  refine S_move rfl ?_
  refine WL_on rfl rfl rfl ?_
  refine S_call1 Try.call13 rfl (few_ok (hs8.at 1 rfl)) rfl ?_
  rintro p9 _ ⟨hp11, rfl⟩
  refine WL_on rfl rfl rfl ?_
  refine S_not rfl rfl ?_
  refine S_pick_f rfl rfl ?_
  refine WL_nil ?_
  refine W_cond rfl (fun h12 => ?_) (fun h12 => ?_)
  ·
    have h13 := h12
    simp only [lrnN] at h13
    have p14 := h13
    try simp only [lrn] at p14
    refine W_seq ?_
    refine W_live (L := []) trivial ?_
    intro g15
    refine W_region ?_
    refine S_assign rfl ?_
    refine WL_nil ?_
    refine W_ret ?_
    show (∃ _u : Unit, (Value.pointer none) = .pointer none ∧ Ext [] w0 w3) ∨ ∃ p : Nat × Dk × List Nat, (Value.pointer none) = .pointer (some ⟨p.1, 0, none⟩) ∧ (DkIs p.1 w3 p.2.1 p.2.2 ∧ p.2.1.Ok ∧ (p.2.1.lasts.length : Int) = n ∧ Ext [] w0 w3 ∧ ∀ b ∈ p.2.2, w0.heap.size ≤ b)
    exact .inl ⟨(), rfl, hs8.ext⟩
  ·
    have h16 := h12
    simp only [lrnN] at h16
    have p17 := h16
    try simp only [lrn] at p17
    refine W_skip ?_
    refine W_seq ?_
    refine W_seq ?_
    refine W_live (L := [(1, .slice A l.length cap), (5, .pointer (some ⟨d1, 0, none⟩))]) ⟨rfl, rfl, trivial⟩ ?_
    intro g18
    refine W_region ?_
    refine S_move rfl ?_
    refine S_len Try.runUnderlying22 rfl rfl ?_
    refine S_move rfl ?_
    refine WL_nil ?_
    refine W_block ?_
    refine W_loopE (fun m f w => ∃ (i : Int) (bd : Nat) (x : Dk) (F19 : List Nat), m = ((l.length : Int) - i).toNat ∧ (0 ≤ i) ∧ (i ≤ l.length) ∧ (x.Ok) ∧ ((x.lasts.length : Int) = n) ∧ Sep [] w0 (fun b => D b ∧ b < w0.heap.size) w [iOb (obDk bd) x F19 [], iData (dSlice dAct) [.slice A l.length cap] l] ∧ Live f [(5, .pointer (some ⟨bd, 0, none⟩)), (22, .slice A l.length cap), (23, .int .i64 (l.length : Int)), (24, .int .i64 i)]) ?_ ?_
    · exact ⟨_, 0, _, (Dk.new n), _, rfl, (by omega), (by omega), (new_Ok h0 h1), (by show ((List.replicate n.toNat _).length : Int) = n; rw [List.length_replicate]; omega), hs8, ⟨rfl, rfl, rfl, rfl, trivial⟩⟩
    ·
      rintro _ f22 w20 ⟨i, bd, x, F19, rfl, q25, q26, q27, q28, hs23, hl24⟩
      refine W_live hl24 ?_
      intro g29
      skip
      refine W_seq ?_
      refine W_region ?_
      refine S_lss rfl rfl rfl ?_
      refine WL_nil ?_
      refine W_seq ?_
      refine W_cond rfl (fun h30 => ?_) (fun h30 => ?_)
      ·
        have p31 := of_decide_eq_true h30
        refine W_skip ?_
        refine W_seq ?_
        refine W_block ?_
        refine W_seq ?_
        refine W_region ?_
        refine Z_index (hs23.at 1 rfl) Try.runUnderlying22 Try.sizeOf39 rfl rfl rfl (show (0 : Int) ≤ i from by omega) (show i < ((l.length : Nat) : Int) from by omega) rfl ?_
        have o35 := cell_ix (q := (Int.toNat i) * 5) (sz := 5) (o := 0) (hs23.at 1 rfl) (Sub.self _) rfl (Nat.add_zero _).symm (show (0 : Int) ≤ i from by omega) (show i < ((l.length : Nat) : Int) from by omega)
        obtain ⟨c32, hc33, hr34⟩ := o35
        have o49 := dAct_open hr34
        obtain ⟨A45, cap46, rfl, ⟨r37, r38⟩, ⟨r40, r41⟩, ⟨r43, r44⟩, h47⟩ := o49
        refine Z_loadAgg Try.isAgg39 Try.sizeOf39 rfl rfl hc33 rfl ?_
        have l50 := dSlice_len h47
        have hs51 : Sep [] w0 (fun b => D b ∧ b < w0.heap.size) w20 [iData (dSlice dInt) [.slice A45 (ix l i).Kept.length cap46] ((ix l i).Kept), iOb (obDk bd) x F19 [], iData (dSlice dAct) [.slice A l.length cap] l] := hs23.fact h47 sData rfl rfl
        refine Z_alloc hs51 Try.zeroValue39 rfl ?_
        intro b52 w53 hs54
        have hs54 : Sep [] w0 (fun b => D b ∧ b < w0.heap.size) w53 [iOwn b52 39 [.int .i64 0, .int .i64 0, .int .i64 0, .int .u8 0, .slice none 0 0] [], iData (dSlice dInt) [.slice A45 (ix l i).Kept.length cap46] ((ix l i).Kept), iOb (obDk bd) x F19 [], iData (dSlice dAct) [.slice A l.length cap] l] := hs54
        refine Z_store hs54 0 rfl Try.sizeOf39 rfl rfl rfl (Nat.le_of_ble_eq_true rfl) rfl ?_
        intro w55 hs56
        have hs56 : Sep [] w0 (fun b => D b ∧ b < w0.heap.size) w55 [iOwn b52 39 [.int .i64 ((ix l i).Kind), .int .i64 ((ix l i).At), .int .i64 ((ix l i).N), bv ((ix l i).By), .slice A45 ((ix l i).Kept.length) cap46] [], iData (dSlice dInt) [.slice A45 (ix l i).Kept.length cap46] ((ix l i).Kept), iOb (obDk bd) x F19 [], iData (dSlice dAct) [.slice A l.length cap] l] := hs56
        refine WL_nil ?_
        refine W_seq ?_
        refine W_seq ?_
        refine W_region ?_
        refine S_fieldAddr Try.runUnderlying39 rfl Try.sizeOf3 rfl rfl ?_
        refine S_load1 Try.isAgg3 rfl (Own.at (hs56.at 0 rfl) rfl) rfl ?_
        refine WL_nil ?_
        refine W_block ?_
        refine W_seq ?_
        refine W_region ?_
        refine S_eql rfl rfl rfl ?_
        refine S_assign rfl ?_
        refine WL_nil ?_
        refine W_cond rfl (fun h57 => ?_) (fun h57 => ?_)
        ·
          have p58 := of_decide_eq_true h57
          refine W_live (L := [(5, .pointer (some ⟨bd, 0, none⟩)), (8, .pointer (some ⟨b52, 0, none⟩)), (22, .slice A l.length cap), (23, .int .i64 (l.length : Int)), (24, .int .i64 i)]) ⟨rfl, rfl, rfl, rfl, rfl, trivial⟩ ?_
          intro g59
          refine W_region_J (fun dN vL w => ∃ (A60 : Option Addr) (cap61 : Nat) (bs62 : List Nat) (F70 : List Nat), Sep [] w0 (fun b => D b ∧ b < w0.heap.size) w [(bif dN 4 then (iAc dByte (.slice A60 ((ix l i).bytes.length) cap61) ((ix l i).bytes) bs62 []) else iNil), iOwn b52 39 [.int .i64 ((ix l i).Kind), .int .i64 ((ix l i).At), .int .i64 ((ix l i).N), bv ((ix l i).By), .slice A45 ((ix l i).Kept.length) cap46] [], iData (dSlice dInt) [.slice A45 (ix l i).Kept.length cap46] ((ix l i).Kept), (bif dN 5 then (iOb (obDk bd) ((x.write ((ix l i).At) ((ix l i).bytes)).2) F70 []) else (iOb (obDk bd) x F19 [])), iData (dSlice dAct) [.slice A l.length cap] l] ∧ (dN 0 = true → vL 0 = .pointer (some ⟨bd, 0, none⟩)) ∧ (dN 1 = true → vL 1 = .pointer (some ⟨b52, 1, none⟩)) ∧ (dN 2 = true → vL 2 = .int .i64 ((ix l i).At)) ∧ (dN 3 = true → vL 3 = .agg #[.int .i64 ((ix l i).Kind), .int .i64 ((ix l i).At), .int .i64 ((ix l i).N), bv ((ix l i).By), .slice A45 ((ix l i).Kept.length) cap46]) ∧ (dN 4 = true → vL 4 = .slice A60 ((ix l i).bytes.length) cap61) ∧ (dN 5 = true → vL 5 = errv 64 ((x.write ((ix l i).At) ((ix l i).bytes)).1)) ∧ True) [32, 33, 34, 35, 36, 37] rfl (by decide +kernel) _ rfl ?_ ?_ ?_
          · exact fun V => ⟨none, 0, [], [], (Sep.nilA hs56), (fun h => by cases h), (fun h => by cases h), (fun h => by cases h), (fun h => by cases h), (fun h => by cases h), (fun h => by cases h), trivial⟩
          · refine (.cons ?_ (.cons ?_ (.cons ?_ (.cons ?_ (.cons ?_ (.cons ?_ .nil))))))
            ·
              rintro dN vL g77 w78 ⟨A60, cap61, bs62, F70, hs79, v85, v86, v87, v88, v89, v90, _⟩ hD80 hd81 hu82 hg83 hk84
              have e91 : dN 5 = false := hu82 5 (by decide +kernel)
              rw [e91] at hs79
              have hs92 : Sep [] w0 (fun b => D b ∧ b < w0.heap.size) w78 [(bif dN 4 then (iAc dByte (.slice A60 ((ix l i).bytes.length) cap61) ((ix l i).bytes) bs62 []) else iNil), iOwn b52 39 [.int .i64 ((ix l i).Kind), .int .i64 ((ix l i).At), .int .i64 ((ix l i).N), bv ((ix l i).By), .slice A45 ((ix l i).Kept.length) cap46] [], iData (dSlice dInt) [.slice A45 (ix l i).Kept.length cap46] ((ix l i).Kept), iOb (obDk bd) x F19 [], iData (dSlice dAct) [.slice A l.length cap] l] := hs79
              refine WL_at (L := [(5, .pointer (some ⟨bd, 0, none⟩))]) ⟨(hk84 5 (by decide +kernel)), trivial⟩ ?_
              refine S_move rfl ?_
              have hs93 : Sep [] w0 (fun b => D b ∧ b < w0.heap.size) w78 [(bif dN 4 then (iAc dByte (.slice A60 ((ix l i).bytes.length) cap61) ((ix l i).bytes) bs62 []) else iNil), iOwn b52 39 [.int .i64 ((ix l i).Kind), .int .i64 ((ix l i).At), .int .i64 ((ix l i).N), bv ((ix l i).By), .slice A45 ((ix l i).Kept.length) cap46] [], iData (dSlice dInt) [.slice A45 (ix l i).Kept.length cap46] ((ix l i).Kept), (bif dN 5 then (iOb (obDk bd) ((x.write ((ix l i).At) ((ix l i).bytes)).2) F70 []) else (iOb (obDk bd) x F19 [])), iData (dSlice dAct) [.slice A l.length cap] l] := by rw [e91]; exact hs92
              exact WL_nil ⟨rfl, _, rfl, A60, cap61, bs62, F70, hs93, (fun _ => rfl), v86, v87, v88, v89, v90, trivial⟩
            ·
              rintro dN vL g94 w95 ⟨A60, cap61, bs62, F70, hs96, v102, v103, v104, v105, v106, v107, _⟩ hD97 hd98 hu99 hg100 hk101
              have e108 : dN 5 = false := hu99 5 (by decide +kernel)
              rw [e108] at hs96
              have hs109 : Sep [] w0 (fun b => D b ∧ b < w0.heap.size) w95 [(bif dN 4 then (iAc dByte (.slice A60 ((ix l i).bytes.length) cap61) ((ix l i).bytes) bs62 []) else iNil), iOwn b52 39 [.int .i64 ((ix l i).Kind), .int .i64 ((ix l i).At), .int .i64 ((ix l i).N), bv ((ix l i).By), .slice A45 ((ix l i).Kept.length) cap46] [], iData (dSlice dInt) [.slice A45 (ix l i).Kept.length cap46] ((ix l i).Kept), iOb (obDk bd) x F19 [], iData (dSlice dAct) [.slice A l.length cap] l] := hs96
              refine WL_at (L := [(8, .pointer (some ⟨b52, 0, none⟩))]) ⟨(hk101 8 (by decide +kernel)), trivial⟩ ?_
              refine S_fieldAddr Try.runUnderlying39 rfl Try.sizeOf3 rfl rfl ?_
              have hs110 : Sep [] w0 (fun b => D b ∧ b < w0.heap.size) w95 [(bif dN 4 then (iAc dByte (.slice A60 ((ix l i).bytes.length) cap61) ((ix l i).bytes) bs62 []) else iNil), iOwn b52 39 [.int .i64 ((ix l i).Kind), .int .i64 ((ix l i).At), .int .i64 ((ix l i).N), bv ((ix l i).By), .slice A45 ((ix l i).Kept.length) cap46] [], iData (dSlice dInt) [.slice A45 (ix l i).Kept.length cap46] ((ix l i).Kept), (bif dN 5 then (iOb (obDk bd) ((x.write ((ix l i).At) ((ix l i).bytes)).2) F70 []) else (iOb (obDk bd) x F19 [])), iData (dSlice dAct) [.slice A l.length cap] l] := by rw [e108]; exact hs109
              exact WL_nil ⟨rfl, _, rfl, A60, cap61, bs62, F70, hs110, v102, (fun _ => rfl), v104, v105, v106, v107, trivial⟩
            ·
              rintro dN vL g111 w112 ⟨A60, cap61, bs62, F70, hs113, v119, v120, v121, v122, v123, v124, _⟩ hD114 hd115 hu116 hg117 hk118
              have e125 : dN 1 = true := hd115 1 (by decide +kernel)
              have e126 : dN 5 = false := hu116 5 (by decide +kernel)
              rw [e126] at hs113
              have hs127 : Sep [] w0 (fun b => D b ∧ b < w0.heap.size) w112 [(bif dN 4 then (iAc dByte (.slice A60 ((ix l i).bytes.length) cap61) ((ix l i).bytes) bs62 []) else iNil), iOwn b52 39 [.int .i64 ((ix l i).Kind), .int .i64 ((ix l i).At), .int .i64 ((ix l i).N), bv ((ix l i).By), .slice A45 ((ix l i).Kept.length) cap46] [], iData (dSlice dInt) [.slice A45 (ix l i).Kept.length cap46] ((ix l i).Kept), iOb (obDk bd) x F19 [], iData (dSlice dAct) [.slice A l.length cap] l] := hs113
              refine WL_at (L := [(33, .pointer (some ⟨b52, 1, none⟩))]) ⟨((hg117 1 33 e125 rfl).trans (v120 e125)), trivial⟩ ?_
              refine S_load1 Try.isAgg3 rfl (Own.at (hs127.at 1 rfl) rfl) rfl ?_
              have hs128 : Sep [] w0 (fun b => D b ∧ b < w0.heap.size) w112 [(bif dN 4 then (iAc dByte (.slice A60 ((ix l i).bytes.length) cap61) ((ix l i).bytes) bs62 []) else iNil), iOwn b52 39 [.int .i64 ((ix l i).Kind), .int .i64 ((ix l i).At), .int .i64 ((ix l i).N), bv ((ix l i).By), .slice A45 ((ix l i).Kept.length) cap46] [], iData (dSlice dInt) [.slice A45 (ix l i).Kept.length cap46] ((ix l i).Kept), (bif dN 5 then (iOb (obDk bd) ((x.write ((ix l i).At) ((ix l i).bytes)).2) F70 []) else (iOb (obDk bd) x F19 [])), iData (dSlice dAct) [.slice A l.length cap] l] := by rw [e126]; exact hs127
              exact WL_nil ⟨rfl, _, rfl, A60, cap61, bs62, F70, hs128, v119, v120, (fun _ => rfl), v122, v123, v124, trivial⟩
            ·
              rintro dN vL g129 w130 ⟨A60, cap61, bs62, F70, hs131, v137, v138, v139, v140, v141, v142, _⟩ hD132 hd133 hu134 hg135 hk136
              have e143 : dN 4 = false := hu134 4 (by decide +kernel)
              have e144 : dN 5 = false := hu134 5 (by decide +kernel)
              rw [e143, e144] at hs131
              have hs145 : Sep [] w0 (fun b => D b ∧ b < w0.heap.size) w130 [iNil, iOwn b52 39 [.int .i64 ((ix l i).Kind), .int .i64 ((ix l i).At), .int .i64 ((ix l i).N), bv ((ix l i).By), .slice A45 ((ix l i).Kept.length) cap46] [], iData (dSlice dInt) [.slice A45 (ix l i).Kept.length cap46] ((ix l i).Kept), iOb (obDk bd) x F19 [], iData (dSlice dAct) [.slice A l.length cap] l] := hs131
              refine WL_at (L := [(8, .pointer (some ⟨b52, 0, none⟩))]) ⟨(hk136 8 (by decide +kernel)), trivial⟩ ?_
              refine S_loadAgg Try.isAgg39 Try.sizeOf39 rfl rfl (Own.cells (hs145.at 1 rfl) 0 [.int .i64 ((ix l i).Kind), .int .i64 ((ix l i).At), .int .i64 ((ix l i).N), bv ((ix l i).By), .slice A45 ((ix l i).Kept.length) cap46] _ rfl) rfl ?_
              have hs146 : Sep [] w0 (fun b => D b ∧ b < w0.heap.size) w130 [(bif dN 4 then (iAc dByte (.slice A60 ((ix l i).bytes.length) cap61) ((ix l i).bytes) bs62 []) else iNil), iOwn b52 39 [.int .i64 ((ix l i).Kind), .int .i64 ((ix l i).At), .int .i64 ((ix l i).N), bv ((ix l i).By), .slice A45 ((ix l i).Kept.length) cap46] [], iData (dSlice dInt) [.slice A45 (ix l i).Kept.length cap46] ((ix l i).Kept), (bif dN 5 then (iOb (obDk bd) ((x.write ((ix l i).At) ((ix l i).bytes)).2) F70 []) else (iOb (obDk bd) x F19 [])), iData (dSlice dAct) [.slice A l.length cap] l] := by rw [e143, e144]; exact hs145
              exact WL_nil ⟨rfl, _, rfl, A60, cap61, bs62, F70, hs146, v137, v138, v139, (fun _ => rfl), v141, v142, trivial⟩
            ·
              rintro dN vL g147 w148 ⟨A60, cap61, bs62, F70, hs149, v155, v156, v157, v158, v159, v160, _⟩ hD150 hd151 hu152 hg153 hk154
              have e161 : dN 3 = true := hd151 3 (by decide +kernel)
              have e162 : dN 4 = false := hD150
              have e163 : dN 5 = false := hu152 5 (by decide +kernel)
              rw [e162, e163] at hs149
              have hs164 : Sep [] w0 (fun b => D b ∧ b < w0.heap.size) w148 [iNil, iOwn b52 39 [.int .i64 ((ix l i).Kind), .int .i64 ((ix l i).At), .int .i64 ((ix l i).N), bv ((ix l i).By), .slice A45 ((ix l i).Kept.length) cap46] [], iData (dSlice dInt) [.slice A45 (ix l i).Kept.length cap46] ((ix l i).Kept), iOb (obDk bd) x F19 [], iData (dSlice dAct) [.slice A l.length cap] l] := hs149
              refine WL_at (L := [(35, .agg #[.int .i64 ((ix l i).Kind), .int .i64 ((ix l i).At), .int .i64 ((ix l i).N), bv ((ix l i).By), .slice A45 ((ix l i).Kept.length) cap46])]) ⟨((hg153 3 35 e161 rfl).trans (v158 e161)), trivial⟩ ?_
              have hz172 := bytes_ok (w0 := w148) (A := A45) (cap := cap46) (ix l i)
              refine S_call3 Try.call29 rfl hz172 rfl ?_
              rintro A165 cap166 bs167 w168 ⟨ha169, e170, hf171⟩
              have hs173 : Sep [] w0 (fun b => D b ∧ b < w0.heap.size) w168 [iAc dByte (.slice A165 ((ix l i).bytes.length) cap166) ((ix l i).bytes) bs167 [], iNil, iOwn b52 39 [.int .i64 ((ix l i).Kind), .int .i64 ((ix l i).At), .int .i64 ((ix l i).N), bv ((ix l i).By), .slice A45 ((ix l i).Kept.length) cap46] [], iData (dSlice dInt) [.slice A45 (ix l i).Kept.length cap46] ((ix l i).Kept), iOb (obDk bd) x F19 [], iData (dSlice dAct) [.slice A l.length cap] l] := hs164.madeAc e170 ha169 hf171
              have hs174 : Sep [] w0 (fun b => D b ∧ b < w0.heap.size) w168 [iAc dByte (.slice A165 ((ix l i).bytes.length) cap166) ((ix l i).bytes) bs167 [], iOwn b52 39 [.int .i64 ((ix l i).Kind), .int .i64 ((ix l i).At), .int .i64 ((ix l i).N), bv ((ix l i).By), .slice A45 ((ix l i).Kept.length) cap46] [], iData (dSlice dInt) [.slice A45 (ix l i).Kept.length cap46] ((ix l i).Kept), (bif dN 5 then (iOb (obDk bd) ((x.write ((ix l i).At) ((ix l i).bytes)).2) F70 []) else (iOb (obDk bd) x F19 [])), iData (dSlice dAct) [.slice A l.length cap] l] := by rw [e163]; exact (hs173.pick [0, 2, 3, 4, 5] rfl (by decide) rfl)
              exact WL_nil ⟨rfl, _, rfl, A165, cap166, bs167, F70, hs174, v155, v156, v157, v158, (fun _ => rfl), v160, trivial⟩
            ·
              rintro dN vL g175 w176 ⟨A60, cap61, bs62, F70, hs177, v183, v184, v185, v186, v187, v188, _⟩ hD178 hd179 hu180 hg181 hk182
              have e189 : dN 0 = true := hd179 0 (by decide +kernel)
              have e190 : dN 2 = true := hd179 2 (by decide +kernel)
              have e191 : dN 4 = true := hd179 4 (by decide +kernel)
              have e192 : dN 5 = false := hD178
              rw [e191, e192] at hs177
              have hs193 : Sep [] w0 (fun b => D b ∧ b < w0.heap.size) w176 [iAc dByte (.slice A60 ((ix l i).bytes.length) cap61) ((ix l i).bytes) bs62 [], iOwn b52 39 [.int .i64 ((ix l i).Kind), .int .i64 ((ix l i).At), .int .i64 ((ix l i).N), bv ((ix l i).By), .slice A45 ((ix l i).Kept.length) cap46] [], iData (dSlice dInt) [.slice A45 (ix l i).Kept.length cap46] ((ix l i).Kept), iOb (obDk bd) x F19 [], iData (dSlice dAct) [.slice A l.length cap] l] := hs177
              refine WL_at (L := [(32, .pointer (some ⟨bd, 0, none⟩)), (34, .int .i64 ((ix l i).At)), (36, .slice A60 ((ix l i).bytes.length) cap61)]) ⟨((hg181 0 32 e189 rfl).trans (v183 e189)), ((hg181 2 34 e190 rfl).trans (v185 e190)), ((hg181 4 36 e191 rfl).trans (v187 e191)), trivial⟩ ?_
              have hz198 := write_okn (hs193.at 3 rfl) q27 (fun b hb h => h.elim (hs193.nz 3 rfl b hb) (hs193.ap 3 0 rfl rfl rfl b hb)) (Ac.rd (hs193.at 0 rfl) (by have := bytes_len (ix l i); omega)) ((ix l i).At)
              refine S_callE Try.call25 rfl hz198 rfl ?_
              rintro w194 ⟨F195, h196, t197⟩
              have hs199 : Sep [] w0 (fun b => D b ∧ b < w0.heap.size) w194 [iAc dByte (.slice A60 ((ix l i).bytes.length) cap61) ((ix l i).bytes) bs62 [], iOwn b52 39 [.int .i64 ((ix l i).Kind), .int .i64 ((ix l i).At), .int .i64 ((ix l i).N), bv ((ix l i).By), .slice A45 ((ix l i).Kept.length) cap46] [], iData (dSlice dInt) [.slice A45 (ix l i).Kept.length cap46] ((ix l i).Kept), iOb (obDk bd) ((x.write ((ix l i).At) ((ix l i).bytes)).2) F195 [], iData (dSlice dAct) [.slice A l.length cap] l] := hs193.turn 3 rfl h196 t197
              have hs201 : Sep [] w0 (fun b => D b ∧ b < w0.heap.size) w194 [(bif dN 4 then (iAc dByte (.slice A60 ((ix l i).bytes.length) cap61) ((ix l i).bytes) bs62 []) else iNil), iOwn b52 39 [.int .i64 ((ix l i).Kind), .int .i64 ((ix l i).At), .int .i64 ((ix l i).N), bv ((ix l i).By), .slice A45 ((ix l i).Kept.length) cap46] [], iData (dSlice dInt) [.slice A45 (ix l i).Kept.length cap46] ((ix l i).Kept), iOb (obDk bd) ((x.write ((ix l i).At) ((ix l i).bytes)).2) F195 [], iData (dSlice dAct) [.slice A l.length cap] l] := by rw [e191]; exact hs199
              exact WL_nil ⟨rfl, _, rfl, A60, cap61, bs62, F195, hs201, v183, v184, v185, v186, v187, (fun _ => rfl), trivial⟩
          ·
            rintro dN vL g202 w203 ha205 ⟨A60, cap61, bs62, F70, hs204, v208, v209, v210, v211, v212, v213, _⟩ hg206 hk207
            rw [ha205 4 rfl, ha205 5 rfl] at hs204
            have hs214 : Sep [] w0 (fun b => D b ∧ b < w0.heap.size) w203 [iAc dByte (.slice A60 ((ix l i).bytes.length) cap61) ((ix l i).bytes) bs62 [], iOwn b52 39 [.int .i64 ((ix l i).Kind), .int .i64 ((ix l i).At), .int .i64 ((ix l i).N), bv ((ix l i).By), .slice A45 ((ix l i).Kept.length) cap46] [], iData (dSlice dInt) [.slice A45 (ix l i).Kept.length cap46] ((ix l i).Kept), iOb (obDk bd) ((x.write ((ix l i).At) ((ix l i).bytes)).2) F70 [], iData (dSlice dAct) [.slice A l.length cap] l] := hs204
            refine ⟨[(5, .pointer (some ⟨bd, 0, none⟩)), (22, .slice A l.length cap), (23, .int .i64 (l.length : Int)), (24, .int .i64 i)], ⟨(hk207 5 rfl), (hk207 22 rfl), (hk207 23 rfl), (hk207 24 rfl), trivial⟩, fun g215 => ?_⟩
            refine W_seq ?_
            refine W_region ?_
            refine S_move rfl ?_
            refine S_eqlP Try.runUnderlying23 rfl rfl ?_
            refine WL_nil ?_
            refine W_cond_false rfl ?_
            refine W_skip ?_
            refine W_region ?_
            refine S_add rfl rfl (by omega) rfl ?_
            refine S_move rfl ?_
            refine WL_nil ?_
            exact ⟨_, (by omega), i + 1, _, (x.write ((ix l i).At) ((ix l i).bytes)).2, _, rfl, (by omega), (by omega), (write_Ok q27 ((ix l i).At) ((ix l i).bytes)), (by first | assumption | (simp only [write_len, flush_len ‹Dk.Ok x›, crash_len ‹Dk.Ok x›, show ∀ z, (Dk.limit x z).lasts = x.lasts from fun _ => rfl]; assumption)), (hs214.pick [3, 4] rfl (by decide) rfl), ⟨rfl, rfl, rfl, rfl, trivial⟩⟩
        ·
          have p216 := of_decide_eq_false h57
          refine W_seq ?_
          refine W_region ?_
          refine S_eql rfl rfl rfl ?_
          refine S_assign rfl ?_
          refine WL_nil ?_
          refine W_cond rfl (fun h217 => ?_) (fun h217 => ?_)
          ·
            have p218 := of_decide_eq_true h217
            refine W_region ?_
            refine S_move rfl ?_
            have hz223 := flush_ok (hs56.at 2 rfl) q27
            refine S_callE Try.call23 rfl hz223 rfl ?_
            rintro w219 ⟨F220, h221, t222⟩
            have hs224 : Sep [] w0 (fun b => D b ∧ b < w0.heap.size) w219 [iOwn b52 39 [.int .i64 ((ix l i).Kind), .int .i64 ((ix l i).At), .int .i64 ((ix l i).N), bv ((ix l i).By), .slice A45 ((ix l i).Kept.length) cap46] [], iData (dSlice dInt) [.slice A45 (ix l i).Kept.length cap46] ((ix l i).Kept), iOb (obDk bd) x.flush.2 F220 [], iData (dSlice dAct) [.slice A l.length cap] l] := hs56.turn 2 rfl h221 t222
            refine WL_nil ?_
            refine W_seq ?_
            refine W_live (L := [(5, .pointer (some ⟨bd, 0, none⟩)), (22, .slice A l.length cap), (23, .int .i64 (l.length : Int)), (24, .int .i64 i)]) ⟨rfl, rfl, rfl, rfl, trivial⟩ ?_
            intro g226
            refine W_region ?_
            refine S_move rfl ?_
            refine S_eqlP Try.runUnderlying23 rfl rfl ?_
            refine WL_nil ?_
            refine W_cond_false rfl ?_
            refine W_skip ?_
            refine W_region ?_
            refine S_add rfl rfl (by omega) rfl ?_
            refine S_move rfl ?_
            refine WL_nil ?_
            exact ⟨_, (by omega), i + 1, _, x.flush.2, _, rfl, (by omega), (by omega), (flush_Ok q27), (by first | assumption | (simp only [write_len, flush_len ‹Dk.Ok x›, crash_len ‹Dk.Ok x›, show ∀ z, (Dk.limit x z).lasts = x.lasts from fun _ => rfl]; assumption)), (hs224.pick [2, 3] rfl (by decide) rfl), ⟨rfl, rfl, rfl, rfl, trivial⟩⟩
          ·
            have p227 := of_decide_eq_false h217
            refine W_seq ?_
            refine W_region ?_
            refine S_eql rfl rfl rfl ?_
            refine S_assign rfl ?_
            refine WL_nil ?_
            refine W_cond rfl (fun h228 => ?_) (fun h228 => ?_)
            ·
              have p229 := of_decide_eq_true h228
              refine W_live (L := [(5, .pointer (some ⟨bd, 0, none⟩)), (8, .pointer (some ⟨b52, 0, none⟩)), (22, .slice A l.length cap), (23, .int .i64 (l.length : Int)), (24, .int .i64 i)]) ⟨rfl, rfl, rfl, rfl, rfl, trivial⟩ ?_
              intro g230
              refine W_region ?_
              refine S_move rfl ?_
              refine S_fieldAddr Try.runUnderlying39 rfl Try.sizeOf3 rfl rfl ?_
              refine S_load1 Try.isAgg3 rfl (Own.at (hs56.at 0 rfl) rfl) rfl ?_
              have hz235 := limit_ok (hs56.at 2 rfl) q27 ((ix l i).N)
              refine S_call Try.call27 rfl hz235 rfl ?_
              rintro _ w231 ⟨F232, h233, t234⟩
              have hs236 : Sep [] w0 (fun b => D b ∧ b < w0.heap.size) w231 [iOwn b52 39 [.int .i64 ((ix l i).Kind), .int .i64 ((ix l i).At), .int .i64 ((ix l i).N), bv ((ix l i).By), .slice A45 ((ix l i).Kept.length) cap46] [], iData (dSlice dInt) [.slice A45 (ix l i).Kept.length cap46] ((ix l i).Kept), iOb (obDk bd) (x.limit ((ix l i).N)) F232 [], iData (dSlice dAct) [.slice A l.length cap] l] := hs56.turn 2 rfl h233 t234
              refine WL_nil ?_
              refine W_seq ?_
              refine W_region ?_
              refine S_move rfl ?_
              refine S_eqlP Try.runUnderlying23 rfl rfl ?_
              refine WL_nil ?_
              refine W_cond_false rfl ?_
              refine W_skip ?_
              refine W_region ?_
              refine S_add rfl rfl (by omega) rfl ?_
              refine S_move rfl ?_
              refine WL_nil ?_
              exact ⟨_, (by omega), i + 1, _, x.limit ((ix l i).N), _, rfl, (by omega), (by omega), (limit_Ok q27 (n := (ix l i).N) (by simp only [InI]; omega)), (by first | assumption | (simp only [write_len, flush_len ‹Dk.Ok x›, crash_len ‹Dk.Ok x›, show ∀ z, (Dk.limit x z).lasts = x.lasts from fun _ => rfl]; assumption)), (hs236.pick [2, 3] rfl (by decide) rfl), ⟨rfl, rfl, rfl, rfl, trivial⟩⟩
            ·
              have p238 := of_decide_eq_false h228
              refine W_seq ?_
              refine W_live (L := [(5, .pointer (some ⟨bd, 0, none⟩)), (8, .pointer (some ⟨b52, 0, none⟩)), (22, .slice A l.length cap), (23, .int .i64 (l.length : Int)), (24, .int .i64 i), (29, .int .i64 ((ix l i).Kind))]) ⟨rfl, rfl, rfl, rfl, rfl, rfl, trivial⟩ ?_
              intro g239
              refine W_region ?_
              refine S_eql rfl rfl rfl ?_
              refine S_assign rfl ?_
              refine WL_nil ?_
              refine W_cond rfl (fun h240 => ?_) (fun h240 => ?_)
              ·
                have p241 := of_decide_eq_true h240
                refine W_region ?_
                refine S_move rfl ?_
                refine S_fieldAddr Try.runUnderlying39 rfl Try.sizeOf3 rfl rfl ?_
                refine S_load1 Try.isAgg3 rfl (Own.at (hs56.at 0 rfl) rfl) rfl ?_
                refine S_fieldAddr Try.runUnderlying39 rfl Try.sizeOf3 rfl rfl ?_
                refine S_load1 Try.isAgg3 rfl (Own.at (hs56.at 0 rfl) rfl) rfl ?_
                refine S_fieldAddr Try.runUnderlying39 rfl Try.sizeOf37 rfl rfl ?_
                refine S_load1 Try.isAgg37 rfl (Own.at (hs56.at 0 rfl) rfl) rfl ?_
                have hz248 := crash_okn  (kept := (ix l i).Kept) (hs56.at 2 rfl) q27 (hs56.at 1 rfl) ((ix l i).At) ((ix l i).N)
                refine S_call2 Try.call24 rfl hz248 rfl ?_
                rintro d242 F243 w244 ⟨h245, e246, hf247⟩
                have hs249 : Sep [] w0 (fun b => D b ∧ b < w0.heap.size) w244 [iOb (obDk d242) (x.crash ((ix l i).At) ((ix l i).N) ((ix l i).Kept)) F243 [], iOwn b52 39 [.int .i64 ((ix l i).Kind), .int .i64 ((ix l i).At), .int .i64 ((ix l i).N), bv ((ix l i).By), .slice A45 ((ix l i).Kept.length) cap46] [], iData (dSlice dInt) [.slice A45 (ix l i).Kept.length cap46] ((ix l i).Kept), iOb (obDk bd) x F19 [], iData (dSlice dAct) [.slice A l.length cap] l] := hs56.made (o := obDk d242) e246 h245 hf247
                refine S_assign rfl ?_
                refine WL_nil ?_
                refine W_seq ?_
                refine W_live (L := [(5, .pointer (some ⟨d242, 0, none⟩)), (22, .slice A l.length cap), (23, .int .i64 (l.length : Int)), (24, .int .i64 i)]) ⟨rfl, rfl, rfl, rfl, trivial⟩ ?_
                intro g250
                refine W_region ?_
                refine S_move rfl ?_
                refine S_eqlP Try.runUnderlying23 rfl rfl ?_
                refine WL_nil ?_
                refine W_cond_false rfl ?_
                refine W_skip ?_
                refine W_region ?_
                refine S_add rfl rfl (by omega) rfl ?_
                refine S_move rfl ?_
                refine WL_nil ?_
                exact ⟨_, (by omega), i + 1, _, x.crash ((ix l i).At) ((ix l i).N) ((ix l i).Kept), _, rfl, (by omega), (by omega), (crash_Ok q27 ((ix l i).At) ((ix l i).N) ((ix l i).Kept)), (by first | assumption | (simp only [write_len, flush_len ‹Dk.Ok x›, crash_len ‹Dk.Ok x›, show ∀ z, (Dk.limit x z).lasts = x.lasts from fun _ => rfl]; assumption)), (hs249.pick [0, 4] rfl (by decide) rfl), ⟨rfl, rfl, rfl, rfl, trivial⟩⟩
              ·
                have p251 := of_decide_eq_false h240
                refine W_skip ?_
                refine W_seq ?_
                refine W_region ?_
                refine S_move rfl ?_
                refine S_eqlP Try.runUnderlying23 rfl rfl ?_
                refine WL_nil ?_
                refine W_cond_false rfl ?_
                refine W_skip ?_
                refine W_region ?_
                refine S_add rfl rfl (by omega) rfl ?_
                refine S_move rfl ?_
                refine WL_nil ?_
                exact ⟨_, (by omega), i + 1, _, x, _, rfl, (by omega), (by omega), q27, (by first | assumption | (simp only [write_len, flush_len ‹Dk.Ok x›, crash_len ‹Dk.Ok x›, show ∀ z, (Dk.limit x z).lasts = x.lasts from fun _ => rfl]; assumption)), (hs56.pick [2, 3] rfl (by decide) rfl), ⟨rfl, rfl, rfl, rfl, trivial⟩⟩
      ·
        have p252 := of_decide_eq_false h30
        refine W_exit ?_
        refine W_seq ?_
        refine W_region ?_
        refine S_move rfl ?_
        refine S_assign rfl ?_
        refine WL_nil ?_
        refine W_ret ?_
        show (∃ _u : Unit, (Value.pointer (some ⟨bd, 0, none⟩)) = .pointer none ∧ Ext [] w0 w20) ∨ ∃ p : Nat × Dk × List Nat, (Value.pointer (some ⟨bd, 0, none⟩)) = .pointer (some ⟨p.1, 0, none⟩) ∧ (DkIs p.1 w20 p.2.1 p.2.2 ∧ p.2.1.Ok ∧ (p.2.1.lasts.length : Int) = n ∧ Ext [] w0 w20 ∧ ∀ b ∈ p.2.2, w0.heap.size ≤ b)
        exact .inr ⟨(bd, x, F19), rfl, hs23.at 0 rfl, q27, by show ((x).lasts.length : Int) = n; exact q28, hs23.ext, fun b hb => (hs23.org 0 rfl b hb).elim (fun h => by cases h) id⟩
theorem play_ok {w0 : World} {D : Nat → Prop} {A : Option Addr} {cap : Nat} {l : List Act} (h : (dSlice dAct).rd D w0 [.slice A l.length cap] l) {n : Int} : CallR Try.prog 22 [.int .i64 n, .slice A l.length cap] w0 (fun v w' => (∃ _u : Unit, v = .pointer none ∧ Ext [] w0 w') ∨ ∃ p : Nat × Dk × List Nat, v = .pointer (some ⟨p.1, 0, none⟩) ∧ (DkIs p.1 w' p.2.1 p.2.2 ∧ p.2.1.Ok ∧ (p.2.1.lasts.length : Int) = n ∧ Ext [] w0 w' ∧ ∀ b ∈ p.2.2, w0.heap.size ≤ b)) := by
  by_cases hn : n < 1 ∨ 8192 < n
  · exact play_bad h hn
  · exact play_good h (by omega) (by omega)
end Go.Proofs.Ytdgcgifigkfeaaa
