/- Disks: walks, printed by program, and their plain law. -/
import Derived.Test.YtdgcgifigkfeaaaA2
namespace Go.Proofs.Ytdgcgifigkfeaaa
open Go Go.Wk Go.Wl Classical
theorem write_ok {w0 : World} {d : Nat} {x : Dk} {F : List Nat} (h : DkIs d w0 x F) (ok : x.Ok) {D : Nat → Prop} (hD : ∀ b ∈ F, ¬ D b) {A : Option Addr} {cap : Nat} {s : Str} (hb : (dSlice dByte).rd D w0 [.slice A s.length cap] s) (at_ : Int) :
    CallR Try.prog 25 [.pointer (some ⟨d, 0, none⟩), .int .i64 at_, .slice A s.length cap] w0 (fun v w' => v = errv 64 (x.write at_ s).1 ∧ ∃ F', DkIs d w' (x.write at_ s).2 F' ∧ Turn w0 w' F F') := by
  have hs1 := Sep.one (o := obDk d) (Z := fun b => D b ∧ b < w0.heap.size) h (fun _ h => h.2) (fun b hb h => hD b hb h.1)
  have hs0 := hs1.fact (t := iData (dSlice dByte) [.slice A s.length cap] s) ((dSlice dByte).weak hb (fun b h1 h2 => ⟨h1, h2⟩)) sData rfl rfl
  have hsl := dSlice_len hb
  have hw1 : x.wrong at_ ≠ 1 := by simp only [Dk.wrong]; split <;> omega
  refine Call1 Try.func25 rfl rfl rfl rfl ?_
  refine W_seq ?_
  refine W_region ?_
  refine S_assign rfl ?_
  refine WL_nil ?_
  refine W_seq ?_
  refine W_region ?_
  refine S_move rfl ?_
  refine S_move rfl ?_
  refine S_callQ Try.call36 rfl (wrong_ok (hs0.at 1 rfl) ok at_) rfl ?_
  refine S_assign rfl ?_
  refine WL_nil ?_
  refine W_seq ?_
  refine W_seq ?_
  refine W_region ?_
  refine S_move rfl ?_
  refine S_neq rfl rfl rfl ?_
  refine S_move rfl ?_
  refine WL_split (dj := 14) rfl (fun h1 => ?_) (fun h1 => ?_)
  ·
    have p2 := of_decide_eq_true h1
    refine WL_on rfl rfl (bT h1) ?_
    refine S_move rfl ?_
    refine WL_on rfl rfl (bT h1) ?_
    refine S_len Try.runUnderlying47 rfl rfl ?_
    refine WL_on rfl rfl (bT h1) ?_
    refine S_neq rfl rfl rfl ?_
    refine S_pick_t (bT h1) rfl ?_
    refine WL_nil ?_
    refine W_cond rfl (fun h3 => ?_) (fun h3 => ?_)
    ·
      have p4 := of_decide_eq_true h3
      refine W_live (L := [(0, .pointer (some ⟨d, 0, none⟩)), (1, .int .i64 at_), (2, .slice A s.length cap)]) ⟨rfl, rfl, rfl, trivial⟩ ?_
      intro g5
      refine W_region ?_
      refine S_assign rfl ?_
      refine WL_nil ?_
      refine W_seq ?_
      refine W_seq ?_
      refine W_region ?_
      refine S_move rfl ?_
      refine S_move rfl ?_
      have hz10 := act_ok (hs0.at 1 rfl) ok 2
      refine S_callE Try.call37 rfl hz10 rfl ?_
      rintro w6 ⟨F7, h8, t9⟩
      have hs11 : Sep F w0 (fun b => D b ∧ b < w0.heap.size) w6 [iData (dSlice dByte) [.slice A s.length cap] s, iOb (obDk d) ((x.act 2).2) F7 F] := hs0.turn 1 rfl h8 t9
      refine S_assign rfl ?_
      refine WL_nil ?_
      refine W_seq ?_
      refine W_region ?_
      refine S_move rfl ?_
      refine S_neqE (Te := 64) (e := (x.act 2).1) Try.runUnderlying25 rfl rfl ?_
      refine WL_nil ?_
      refine W_cond rfl (fun h13 => ?_) (fun h13 => ?_)
      ·
        have p14 := of_decide_eq_true h13
        refine W_seq ?_
        refine W_region ?_
        refine S_move rfl ?_
        refine S_assign rfl ?_
        refine WL_nil ?_
        refine W_ret ?_
        show (errv 64 ((x.act 2).1)) = errv 64 (x.write at_ s).1 ∧ ∃ F', DkIs d w6 (x.write at_ s).2 F' ∧ Turn w0 w6 F F'
        rw [write_err (wr := 2) (by split <;> omega) (by assumption)]
        exact ⟨rfl, _, hs11.at 1 rfl, hs11.ext, fun b hb => (hs11.org 1 rfl b hb)⟩
      ·
        have p15 := of_decide_eq_false h13
        have hz := act_zero (Classical.not_not.1 p15)
        refine W_skip ?_
        refine W_seq ?_
        have ⟨A16, cap17, bm18, bs19, hs20⟩ := Sep.openDk (hs11.pick [1, 0] rfl (by decide) rfl)
        refine W_live (L := [(0, .pointer (some ⟨d, 0, none⟩)), (1, .int .i64 at_), (2, .slice A s.length cap)]) ⟨rfl, rfl, rfl, trivial⟩ ?_
        intro g21
        refine W_region_J (fun dN vL w => Sep F w0 (fun b => D b ∧ b < w0.heap.size) w [iOwn d 68 [.slice A16 (((x.act 2).2).lasts.length) cap17, .map (some bm18), .int .i64 (((x.act 2).2).left), .bool (((x.act 2).2).off)] F, (bif dN 8 then (iMap kInt bm18 (emap (fun s => av s) (aput (((x.act 2).2).fresh) at_ (List.take 256 s))) F) else (iMap kInt bm18 (emap (fun s => av s) (((x.act 2).2).fresh)) F)), iAc (dArr 256) (.slice A16 (((x.act 2).2).lasts.length) cap17) (((x.act 2).2).lasts) bs19 F, iData (dSlice dByte) [.slice A s.length cap] s] ∧ (dN 0 = true → vL 0 = .pointer (some ⟨d, 0, none⟩)) ∧ (dN 1 = true → vL 1 = .pointer (some ⟨d, 0, none⟩)) ∧ (dN 2 = true → vL 2 = .pointer (some ⟨d, 1, none⟩)) ∧ (dN 3 = true → vL 3 = .map (some bm18)) ∧ (dN 4 = true → vL 4 = .int .i64 at_) ∧ (dN 5 = true → vL 5 = .slice A s.length cap) ∧ (dN 6 = true → vL 6 = .pointer A) ∧ (dN 7 = true → vL 7 = av (List.take 256 s)) ∧ True) [25, 26, 27, 28, 29, 30, 31, 32] rfl (by decide +kernel) _ rfl ?_ ?_ ?_
        · exact fun V => ⟨hs20, (fun h => by cases h), (fun h => by cases h), (fun h => by cases h), (fun h => by cases h), (fun h => by cases h), (fun h => by cases h), (fun h => by cases h), (fun h => by cases h), trivial⟩
        · refine (.cons ?_ (.cons ?_ (.cons ?_ (.cons ?_ (.cons ?_ (.cons ?_ (.cons ?_ (.cons ?_ (.cons ?_ .nil)))))))))
          ·
            rintro dN vL g25 w26 ⟨hs27, v33, v34, v35, v36, v37, v38, v39, v40, _⟩ hD28 hd29 hu30 hg31 hk32
            have e41 : dN 8 = false := hu30 8 (by decide +kernel)
            rw [e41] at hs27
            have hs42 : Sep F w0 (fun b => D b ∧ b < w0.heap.size) w26 [iOwn d 68 [.slice A16 (((x.act 2).2).lasts.length) cap17, .map (some bm18), .int .i64 (((x.act 2).2).left), .bool (((x.act 2).2).off)] F, iMap kInt bm18 (emap (fun s => av s) (((x.act 2).2).fresh)) F, iAc (dArr 256) (.slice A16 (((x.act 2).2).lasts.length) cap17) (((x.act 2).2).lasts) bs19 F, iData (dSlice dByte) [.slice A s.length cap] s] := hs27
            refine WL_at (L := [(0, .pointer (some ⟨d, 0, none⟩))]) ⟨(hk32 0 (by decide +kernel)), trivial⟩ ?_
            refine S_move rfl ?_
            have hs43 : Sep F w0 (fun b => D b ∧ b < w0.heap.size) w26 [iOwn d 68 [.slice A16 (((x.act 2).2).lasts.length) cap17, .map (some bm18), .int .i64 (((x.act 2).2).left), .bool (((x.act 2).2).off)] F, (bif dN 8 then (iMap kInt bm18 (emap (fun s => av s) (aput (((x.act 2).2).fresh) at_ (List.take 256 s))) F) else (iMap kInt bm18 (emap (fun s => av s) (((x.act 2).2).fresh)) F)), iAc (dArr 256) (.slice A16 (((x.act 2).2).lasts.length) cap17) (((x.act 2).2).lasts) bs19 F, iData (dSlice dByte) [.slice A s.length cap] s] := by rw [e41]; exact hs42
            exact WL_nil ⟨rfl, _, rfl, hs43, (fun _ => rfl), v34, v35, v36, v37, v38, v39, v40, trivial⟩
          ·
            rintro dN vL g44 w45 ⟨hs46, v52, v53, v54, v55, v56, v57, v58, v59, _⟩ hD47 hd48 hu49 hg50 hk51
            have e60 : dN 0 = true := hd48 0 (by decide +kernel)
            have e61 : dN 8 = false := hu49 8 (by decide +kernel)
            rw [e61] at hs46
            have hs62 : Sep F w0 (fun b => D b ∧ b < w0.heap.size) w45 [iOwn d 68 [.slice A16 (((x.act 2).2).lasts.length) cap17, .map (some bm18), .int .i64 (((x.act 2).2).left), .bool (((x.act 2).2).off)] F, iMap kInt bm18 (emap (fun s => av s) (((x.act 2).2).fresh)) F, iAc (dArr 256) (.slice A16 (((x.act 2).2).lasts.length) cap17) (((x.act 2).2).lasts) bs19 F, iData (dSlice dByte) [.slice A s.length cap] s] := hs46
            refine WL_at (L := [(25, .pointer (some ⟨d, 0, none⟩))]) ⟨((hg50 0 25 e60 rfl).trans (v52 e60)), trivial⟩ ?_
            refine S_nilCheck rfl rfl ?_
            have hs63 : Sep F w0 (fun b => D b ∧ b < w0.heap.size) w45 [iOwn d 68 [.slice A16 (((x.act 2).2).lasts.length) cap17, .map (some bm18), .int .i64 (((x.act 2).2).left), .bool (((x.act 2).2).off)] F, (bif dN 8 then (iMap kInt bm18 (emap (fun s => av s) (aput (((x.act 2).2).fresh) at_ (List.take 256 s))) F) else (iMap kInt bm18 (emap (fun s => av s) (((x.act 2).2).fresh)) F)), iAc (dArr 256) (.slice A16 (((x.act 2).2).lasts.length) cap17) (((x.act 2).2).lasts) bs19 F, iData (dSlice dByte) [.slice A s.length cap] s] := by rw [e61]; exact hs62
            exact WL_nil ⟨rfl, _, rfl, hs63, v52, (fun _ => rfl), v54, v55, v56, v57, v58, v59, trivial⟩
          ·
            rintro dN vL g64 w65 ⟨hs66, v72, v73, v74, v75, v76, v77, v78, v79, _⟩ hD67 hd68 hu69 hg70 hk71
            have e80 : dN 1 = true := hd68 1 (by decide +kernel)
            have e81 : dN 8 = false := hu69 8 (by decide +kernel)
            rw [e81] at hs66
            have hs82 : Sep F w0 (fun b => D b ∧ b < w0.heap.size) w65 [iOwn d 68 [.slice A16 (((x.act 2).2).lasts.length) cap17, .map (some bm18), .int .i64 (((x.act 2).2).left), .bool (((x.act 2).2).off)] F, iMap kInt bm18 (emap (fun s => av s) (((x.act 2).2).fresh)) F, iAc (dArr 256) (.slice A16 (((x.act 2).2).lasts.length) cap17) (((x.act 2).2).lasts) bs19 F, iData (dSlice dByte) [.slice A s.length cap] s] := hs66
            refine WL_at (L := [(26, .pointer (some ⟨d, 0, none⟩))]) ⟨((hg70 1 26 e80 rfl).trans (v73 e80)), trivial⟩ ?_
            refine S_fieldAddr Try.runUnderlying68 rfl Try.sizeOf66 rfl rfl ?_
            have hs83 : Sep F w0 (fun b => D b ∧ b < w0.heap.size) w65 [iOwn d 68 [.slice A16 (((x.act 2).2).lasts.length) cap17, .map (some bm18), .int .i64 (((x.act 2).2).left), .bool (((x.act 2).2).off)] F, (bif dN 8 then (iMap kInt bm18 (emap (fun s => av s) (aput (((x.act 2).2).fresh) at_ (List.take 256 s))) F) else (iMap kInt bm18 (emap (fun s => av s) (((x.act 2).2).fresh)) F)), iAc (dArr 256) (.slice A16 (((x.act 2).2).lasts.length) cap17) (((x.act 2).2).lasts) bs19 F, iData (dSlice dByte) [.slice A s.length cap] s] := by rw [e81]; exact hs82
            exact WL_nil ⟨rfl, _, rfl, hs83, v72, v73, (fun _ => rfl), v75, v76, v77, v78, v79, trivial⟩
          ·
            rintro dN vL g84 w85 ⟨hs86, v92, v93, v94, v95, v96, v97, v98, v99, _⟩ hD87 hd88 hu89 hg90 hk91
            have e100 : dN 2 = true := hd88 2 (by decide +kernel)
            have e101 : dN 8 = false := hu89 8 (by decide +kernel)
            rw [e101] at hs86
            have hs102 : Sep F w0 (fun b => D b ∧ b < w0.heap.size) w85 [iOwn d 68 [.slice A16 (((x.act 2).2).lasts.length) cap17, .map (some bm18), .int .i64 (((x.act 2).2).left), .bool (((x.act 2).2).off)] F, iMap kInt bm18 (emap (fun s => av s) (((x.act 2).2).fresh)) F, iAc (dArr 256) (.slice A16 (((x.act 2).2).lasts.length) cap17) (((x.act 2).2).lasts) bs19 F, iData (dSlice dByte) [.slice A s.length cap] s] := hs86
            refine WL_at (L := [(27, .pointer (some ⟨d, 1, none⟩))]) ⟨((hg90 2 27 e100 rfl).trans (v94 e100)), trivial⟩ ?_
            refine S_load1 Try.isAgg66 rfl (Own.at (hs102.at 0 rfl) rfl) rfl ?_
            have hs103 : Sep F w0 (fun b => D b ∧ b < w0.heap.size) w85 [iOwn d 68 [.slice A16 (((x.act 2).2).lasts.length) cap17, .map (some bm18), .int .i64 (((x.act 2).2).left), .bool (((x.act 2).2).off)] F, (bif dN 8 then (iMap kInt bm18 (emap (fun s => av s) (aput (((x.act 2).2).fresh) at_ (List.take 256 s))) F) else (iMap kInt bm18 (emap (fun s => av s) (((x.act 2).2).fresh)) F)), iAc (dArr 256) (.slice A16 (((x.act 2).2).lasts.length) cap17) (((x.act 2).2).lasts) bs19 F, iData (dSlice dByte) [.slice A s.length cap] s] := by rw [e101]; exact hs102
            exact WL_nil ⟨rfl, _, rfl, hs103, v92, v93, v94, (fun _ => rfl), v96, v97, v98, v99, trivial⟩
          ·
            rintro dN vL g104 w105 ⟨hs106, v112, v113, v114, v115, v116, v117, v118, v119, _⟩ hD107 hd108 hu109 hg110 hk111
            have e120 : dN 8 = false := hu109 8 (by decide +kernel)
            rw [e120] at hs106
            have hs121 : Sep F w0 (fun b => D b ∧ b < w0.heap.size) w105 [iOwn d 68 [.slice A16 (((x.act 2).2).lasts.length) cap17, .map (some bm18), .int .i64 (((x.act 2).2).left), .bool (((x.act 2).2).off)] F, iMap kInt bm18 (emap (fun s => av s) (((x.act 2).2).fresh)) F, iAc (dArr 256) (.slice A16 (((x.act 2).2).lasts.length) cap17) (((x.act 2).2).lasts) bs19 F, iData (dSlice dByte) [.slice A s.length cap] s] := hs106
            refine WL_at (L := [(1, .int .i64 at_)]) ⟨(hk111 1 (by decide +kernel)), trivial⟩ ?_
            refine S_move rfl ?_
            have hs122 : Sep F w0 (fun b => D b ∧ b < w0.heap.size) w105 [iOwn d 68 [.slice A16 (((x.act 2).2).lasts.length) cap17, .map (some bm18), .int .i64 (((x.act 2).2).left), .bool (((x.act 2).2).off)] F, (bif dN 8 then (iMap kInt bm18 (emap (fun s => av s) (aput (((x.act 2).2).fresh) at_ (List.take 256 s))) F) else (iMap kInt bm18 (emap (fun s => av s) (((x.act 2).2).fresh)) F)), iAc (dArr 256) (.slice A16 (((x.act 2).2).lasts.length) cap17) (((x.act 2).2).lasts) bs19 F, iData (dSlice dByte) [.slice A s.length cap] s] := by rw [e120]; exact hs121
            exact WL_nil ⟨rfl, _, rfl, hs122, v112, v113, v114, v115, (fun _ => rfl), v117, v118, v119, trivial⟩
          ·
            rintro dN vL g123 w124 ⟨hs125, v131, v132, v133, v134, v135, v136, v137, v138, _⟩ hD126 hd127 hu128 hg129 hk130
            have e139 : dN 8 = false := hu128 8 (by decide +kernel)
            rw [e139] at hs125
            have hs140 : Sep F w0 (fun b => D b ∧ b < w0.heap.size) w124 [iOwn d 68 [.slice A16 (((x.act 2).2).lasts.length) cap17, .map (some bm18), .int .i64 (((x.act 2).2).left), .bool (((x.act 2).2).off)] F, iMap kInt bm18 (emap (fun s => av s) (((x.act 2).2).fresh)) F, iAc (dArr 256) (.slice A16 (((x.act 2).2).lasts.length) cap17) (((x.act 2).2).lasts) bs19 F, iData (dSlice dByte) [.slice A s.length cap] s] := hs125
            refine WL_at (L := [(2, .slice A s.length cap)]) ⟨(hk130 2 (by decide +kernel)), trivial⟩ ?_
            refine S_move rfl ?_
            have hs141 : Sep F w0 (fun b => D b ∧ b < w0.heap.size) w124 [iOwn d 68 [.slice A16 (((x.act 2).2).lasts.length) cap17, .map (some bm18), .int .i64 (((x.act 2).2).left), .bool (((x.act 2).2).off)] F, (bif dN 8 then (iMap kInt bm18 (emap (fun s => av s) (aput (((x.act 2).2).fresh) at_ (List.take 256 s))) F) else (iMap kInt bm18 (emap (fun s => av s) (((x.act 2).2).fresh)) F)), iAc (dArr 256) (.slice A16 (((x.act 2).2).lasts.length) cap17) (((x.act 2).2).lasts) bs19 F, iData (dSlice dByte) [.slice A s.length cap] s] := by rw [e139]; exact hs140
            exact WL_nil ⟨rfl, _, rfl, hs141, v131, v132, v133, v134, v135, (fun _ => rfl), v137, v138, trivial⟩
          ·
            rintro dN vL g142 w143 ⟨hs144, v150, v151, v152, v153, v154, v155, v156, v157, _⟩ hD145 hd146 hu147 hg148 hk149
            have e158 : dN 5 = true := hd146 5 (by decide +kernel)
            have e159 : dN 8 = false := hu147 8 (by decide +kernel)
            rw [e159] at hs144
            have hs160 : Sep F w0 (fun b => D b ∧ b < w0.heap.size) w143 [iOwn d 68 [.slice A16 (((x.act 2).2).lasts.length) cap17, .map (some bm18), .int .i64 (((x.act 2).2).left), .bool (((x.act 2).2).off)] F, iMap kInt bm18 (emap (fun s => av s) (((x.act 2).2).fresh)) F, iAc (dArr 256) (.slice A16 (((x.act 2).2).lasts.length) cap17) (((x.act 2).2).lasts) bs19 F, iData (dSlice dByte) [.slice A s.length cap] s] := hs144
            refine WL_at (L := [(30, .slice A s.length cap)]) ⟨((hg148 5 30 e158 rfl).trans (v155 e158)), trivial⟩ ?_
            refine S_arrPtr Try.runUnderlying78 rfl (show 256 ≤ s.length from by omega) rfl ?_
            have hs161 : Sep F w0 (fun b => D b ∧ b < w0.heap.size) w143 [iOwn d 68 [.slice A16 (((x.act 2).2).lasts.length) cap17, .map (some bm18), .int .i64 (((x.act 2).2).left), .bool (((x.act 2).2).off)] F, (bif dN 8 then (iMap kInt bm18 (emap (fun s => av s) (aput (((x.act 2).2).fresh) at_ (List.take 256 s))) F) else (iMap kInt bm18 (emap (fun s => av s) (((x.act 2).2).fresh)) F)), iAc (dArr 256) (.slice A16 (((x.act 2).2).lasts.length) cap17) (((x.act 2).2).lasts) bs19 F, iData (dSlice dByte) [.slice A s.length cap] s] := by rw [e159]; exact hs160
            exact WL_nil ⟨rfl, _, rfl, hs161, v150, v151, v152, v153, v154, v155, (fun _ => rfl), v157, trivial⟩
          ·
            rintro dN vL g162 w163 ⟨hs164, v170, v171, v172, v173, v174, v175, v176, v177, _⟩ hD165 hd166 hu167 hg168 hk169
            have e178 : dN 6 = true := hd166 6 (by decide +kernel)
            have e179 : dN 8 = false := hu167 8 (by decide +kernel)
            rw [e179] at hs164
            have hs180 : Sep F w0 (fun b => D b ∧ b < w0.heap.size) w163 [iOwn d 68 [.slice A16 (((x.act 2).2).lasts.length) cap17, .map (some bm18), .int .i64 (((x.act 2).2).left), .bool (((x.act 2).2).off)] F, iMap kInt bm18 (emap (fun s => av s) (((x.act 2).2).fresh)) F, iAc (dArr 256) (.slice A16 (((x.act 2).2).lasts.length) cap17) (((x.act 2).2).lasts) bs19 F, iData (dSlice dByte) [.slice A s.length cap] s] := hs164
            refine WL_at (L := [(31, .pointer A)]) ⟨((hg168 6 31 e178 rfl).trans (v176 e178)), trivial⟩ ?_
            refine S_loadArr Try.isAgg78 Try.sizeOf78 (hs180.at 3 rfl) (show 256 ≤ s.length from by omega) (by decide) rfl rfl ?_
            have hs181 : Sep F w0 (fun b => D b ∧ b < w0.heap.size) w163 [iOwn d 68 [.slice A16 (((x.act 2).2).lasts.length) cap17, .map (some bm18), .int .i64 (((x.act 2).2).left), .bool (((x.act 2).2).off)] F, (bif dN 8 then (iMap kInt bm18 (emap (fun s => av s) (aput (((x.act 2).2).fresh) at_ (List.take 256 s))) F) else (iMap kInt bm18 (emap (fun s => av s) (((x.act 2).2).fresh)) F)), iAc (dArr 256) (.slice A16 (((x.act 2).2).lasts.length) cap17) (((x.act 2).2).lasts) bs19 F, iData (dSlice dByte) [.slice A s.length cap] s] := by rw [e179]; exact hs180
            exact WL_nil ⟨rfl, _, rfl, hs181, v170, v171, v172, v173, v174, v175, v176, (fun _ => rfl), trivial⟩
          ·
            rintro dN vL g182 w183 ⟨hs184, v190, v191, v192, v193, v194, v195, v196, v197, _⟩ hD185 hd186 hu187 hg188 hk189
            have e198 : dN 3 = true := hd186 3 (by decide +kernel)
            have e199 : dN 4 = true := hd186 4 (by decide +kernel)
            have e200 : dN 7 = true := hd186 7 (by decide +kernel)
            have e201 : dN 8 = false := hD185
            rw [e201] at hs184
            have hs202 : Sep F w0 (fun b => D b ∧ b < w0.heap.size) w183 [iOwn d 68 [.slice A16 (((x.act 2).2).lasts.length) cap17, .map (some bm18), .int .i64 (((x.act 2).2).left), .bool (((x.act 2).2).off)] F, iMap kInt bm18 (emap (fun s => av s) (((x.act 2).2).fresh)) F, iAc (dArr 256) (.slice A16 (((x.act 2).2).lasts.length) cap17) (((x.act 2).2).lasts) bs19 F, iData (dSlice dByte) [.slice A s.length cap] s] := hs184
            refine WL_at (L := [(28, .map (some bm18)), (29, .int .i64 at_), (32, av (List.take 256 s))]) ⟨((hg188 3 28 e198 rfl).trans (v193 e198)), ((hg188 4 29 e199 rfl).trans (v194 e199)), ((hg188 7 32 e200 rfl).trans (v197 e200)), trivial⟩ ?_
            refine Z_mapUpdate (vv := List.take 256 s) hs202 1 rfl Try.runUnderlying66 Try.runUnderlying3 rfl rfl rfl ?_
            intro w203 hs204
            have hs204 : Sep F w0 (fun b => D b ∧ b < w0.heap.size) w203 [iOwn d 68 [.slice A16 (((x.act 2).2).lasts.length) cap17, .map (some bm18), .int .i64 (((x.act 2).2).left), .bool (((x.act 2).2).off)] F, iMap kInt bm18 (emap (fun s => av s) (aput (((x.act 2).2).fresh) at_ (List.take 256 s))) F, iAc (dArr 256) (.slice A16 (((x.act 2).2).lasts.length) cap17) (((x.act 2).2).lasts) bs19 F, iData (dSlice dByte) [.slice A s.length cap] s] := hs204
            have hs205 : Sep F w0 (fun b => D b ∧ b < w0.heap.size) w203 [iOwn d 68 [.slice A16 (((x.act 2).2).lasts.length) cap17, .map (some bm18), .int .i64 (((x.act 2).2).left), .bool (((x.act 2).2).off)] F, iMap kInt bm18 (emap (fun s => av s) (aput (((x.act 2).2).fresh) at_ (List.take 256 s))) F, iAc (dArr 256) (.slice A16 (((x.act 2).2).lasts.length) cap17) (((x.act 2).2).lasts) bs19 F, iData (dSlice dByte) [.slice A s.length cap] s] := by exact hs204
            exact WL_nil ⟨rfl, undef, rfl, hs205, v190, v191, v192, v193, v194, v195, v196, v197, trivial⟩
        ·
          rintro dN vL g206 w207 ha209 ⟨hs208, v212, v213, v214, v215, v216, v217, v218, v219, _⟩ hg210 hk211
          rw [ha209 8 rfl] at hs208
          have hs220 : Sep F w0 (fun b => D b ∧ b < w0.heap.size) w207 [iOwn d 68 [.slice A16 (((x.act 2).2).lasts.length) cap17, .map (some bm18), .int .i64 (((x.act 2).2).left), .bool (((x.act 2).2).off)] F, iMap kInt bm18 (emap (fun s => av s) (aput (((x.act 2).2).fresh) at_ (List.take 256 s))) F, iAc (dArr 256) (.slice A16 (((x.act 2).2).lasts.length) cap17) (((x.act 2).2).lasts) bs19 F, iData (dSlice dByte) [.slice A s.length cap] s] := hs208
          refine ⟨[], trivial, fun g221 => ?_⟩
          refine W_seq ?_
          refine W_region ?_
          refine S_assign rfl ?_
          refine WL_nil ?_
          refine W_ret ?_
          show (Value.nilIface) = errv 64 (x.write at_ s).1 ∧ ∃ F', DkIs d w207 (x.write at_ s).2 F' ∧ Turn w0 w207 F F'
          first | (exfalso; omega) | (have hz' := Classical.not_not.1 ‹¬ _ ≠ (0 : Int)›; have hc := (DkIs.close hs220 (Ac.bs1 (hs220.at 2 rfl))); rw [List.take_of_length_le (by omega)] at hc; rw [write_fine rfl (by rw [if_neg (by omega)]; exact hz'), if_neg (by omega)]; exact ⟨(by first | rfl | exact errv_ne (by decide) | exact errv_0), _, hc⟩)
    ·
      have p222 := of_decide_eq_false h3
      refine W_skip ?_
      refine W_seq ?_
      refine W_seq ?_
      refine W_live (L := [(0, .pointer (some ⟨d, 0, none⟩)), (1, .int .i64 at_), (2, .slice A s.length cap), (7, .int .i64 (x.wrong at_))]) ⟨rfl, rfl, rfl, rfl, trivial⟩ ?_
      intro g223
      refine W_region ?_
      refine S_move rfl ?_
      refine S_move rfl ?_
      have hz228 := act_ok (hs0.at 1 rfl) ok (x.wrong at_)
      refine S_callE Try.call37 rfl hz228 rfl ?_
      rintro w224 ⟨F225, h226, t227⟩
      have hs229 : Sep F w0 (fun b => D b ∧ b < w0.heap.size) w224 [iData (dSlice dByte) [.slice A s.length cap] s, iOb (obDk d) ((x.act (x.wrong at_)).2) F225 F] := hs0.turn 1 rfl h226 t227
      refine S_assign rfl ?_
      refine WL_nil ?_
      refine W_seq ?_
      refine W_region ?_
      refine S_move rfl ?_
      refine S_neqE (Te := 64) (e := (x.act (x.wrong at_)).1) Try.runUnderlying25 rfl rfl ?_
      refine WL_nil ?_
      refine W_cond rfl (fun h231 => ?_) (fun h231 => ?_)
      ·
        have p232 := of_decide_eq_true h231
        refine W_seq ?_
        refine W_region ?_
        refine S_move rfl ?_
        refine S_assign rfl ?_
        refine WL_nil ?_
        refine W_ret ?_
        show (errv 64 ((x.act (x.wrong at_)).1)) = errv 64 (x.write at_ s).1 ∧ ∃ F', DkIs d w224 (x.write at_ s).2 F' ∧ Turn w0 w224 F F'
        rw [write_err (wr := (x.wrong at_)) (by split <;> omega) (by assumption)]
        exact ⟨rfl, _, hs229.at 1 rfl, hs229.ext, fun b hb => (hs229.org 1 rfl b hb)⟩
      ·
        have p233 := of_decide_eq_false h231
        have hz := act_zero (Classical.not_not.1 p233)
        refine W_skip ?_
        refine W_seq ?_
        have ⟨A234, cap235, bm236, bs237, hs238⟩ := Sep.openDk (hs229.pick [1, 0] rfl (by decide) rfl)
        refine W_live (L := [(0, .pointer (some ⟨d, 0, none⟩)), (1, .int .i64 at_), (2, .slice A s.length cap)]) ⟨rfl, rfl, rfl, trivial⟩ ?_
        intro g239
        refine W_region_J (fun dN vL w => Sep F w0 (fun b => D b ∧ b < w0.heap.size) w [iOwn d 68 [.slice A234 (((x.act (x.wrong at_)).2).lasts.length) cap235, .map (some bm236), .int .i64 (((x.act (x.wrong at_)).2).left), .bool (((x.act (x.wrong at_)).2).off)] F, (bif dN 8 then (iMap kInt bm236 (emap (fun s => av s) (aput (((x.act (x.wrong at_)).2).fresh) at_ (List.take 256 s))) F) else (iMap kInt bm236 (emap (fun s => av s) (((x.act (x.wrong at_)).2).fresh)) F)), iAc (dArr 256) (.slice A234 (((x.act (x.wrong at_)).2).lasts.length) cap235) (((x.act (x.wrong at_)).2).lasts) bs237 F, iData (dSlice dByte) [.slice A s.length cap] s] ∧ (dN 0 = true → vL 0 = .pointer (some ⟨d, 0, none⟩)) ∧ (dN 1 = true → vL 1 = .pointer (some ⟨d, 0, none⟩)) ∧ (dN 2 = true → vL 2 = .pointer (some ⟨d, 1, none⟩)) ∧ (dN 3 = true → vL 3 = .map (some bm236)) ∧ (dN 4 = true → vL 4 = .int .i64 at_) ∧ (dN 5 = true → vL 5 = .slice A s.length cap) ∧ (dN 6 = true → vL 6 = .pointer A) ∧ (dN 7 = true → vL 7 = av (List.take 256 s)) ∧ True) [25, 26, 27, 28, 29, 30, 31, 32] rfl (by decide +kernel) _ rfl ?_ ?_ ?_
        · exact fun V => ⟨hs238, (fun h => by cases h), (fun h => by cases h), (fun h => by cases h), (fun h => by cases h), (fun h => by cases h), (fun h => by cases h), (fun h => by cases h), (fun h => by cases h), trivial⟩
        · refine (.cons ?_ (.cons ?_ (.cons ?_ (.cons ?_ (.cons ?_ (.cons ?_ (.cons ?_ (.cons ?_ (.cons ?_ .nil)))))))))
          ·
            rintro dN vL g243 w244 ⟨hs245, v251, v252, v253, v254, v255, v256, v257, v258, _⟩ hD246 hd247 hu248 hg249 hk250
            have e259 : dN 8 = false := hu248 8 (by decide +kernel)
            rw [e259] at hs245
            have hs260 : Sep F w0 (fun b => D b ∧ b < w0.heap.size) w244 [iOwn d 68 [.slice A234 (((x.act (x.wrong at_)).2).lasts.length) cap235, .map (some bm236), .int .i64 (((x.act (x.wrong at_)).2).left), .bool (((x.act (x.wrong at_)).2).off)] F, iMap kInt bm236 (emap (fun s => av s) (((x.act (x.wrong at_)).2).fresh)) F, iAc (dArr 256) (.slice A234 (((x.act (x.wrong at_)).2).lasts.length) cap235) (((x.act (x.wrong at_)).2).lasts) bs237 F, iData (dSlice dByte) [.slice A s.length cap] s] := hs245
            refine WL_at (L := [(0, .pointer (some ⟨d, 0, none⟩))]) ⟨(hk250 0 (by decide +kernel)), trivial⟩ ?_
            refine S_move rfl ?_
            have hs261 : Sep F w0 (fun b => D b ∧ b < w0.heap.size) w244 [iOwn d 68 [.slice A234 (((x.act (x.wrong at_)).2).lasts.length) cap235, .map (some bm236), .int .i64 (((x.act (x.wrong at_)).2).left), .bool (((x.act (x.wrong at_)).2).off)] F, (bif dN 8 then (iMap kInt bm236 (emap (fun s => av s) (aput (((x.act (x.wrong at_)).2).fresh) at_ (List.take 256 s))) F) else (iMap kInt bm236 (emap (fun s => av s) (((x.act (x.wrong at_)).2).fresh)) F)), iAc (dArr 256) (.slice A234 (((x.act (x.wrong at_)).2).lasts.length) cap235) (((x.act (x.wrong at_)).2).lasts) bs237 F, iData (dSlice dByte) [.slice A s.length cap] s] := by rw [e259]; exact hs260
            exact WL_nil ⟨rfl, _, rfl, hs261, (fun _ => rfl), v252, v253, v254, v255, v256, v257, v258, trivial⟩
          ·
            rintro dN vL g262 w263 ⟨hs264, v270, v271, v272, v273, v274, v275, v276, v277, _⟩ hD265 hd266 hu267 hg268 hk269
            have e278 : dN 0 = true := hd266 0 (by decide +kernel)
            have e279 : dN 8 = false := hu267 8 (by decide +kernel)
            rw [e279] at hs264
            have hs280 : Sep F w0 (fun b => D b ∧ b < w0.heap.size) w263 [iOwn d 68 [.slice A234 (((x.act (x.wrong at_)).2).lasts.length) cap235, .map (some bm236), .int .i64 (((x.act (x.wrong at_)).2).left), .bool (((x.act (x.wrong at_)).2).off)] F, iMap kInt bm236 (emap (fun s => av s) (((x.act (x.wrong at_)).2).fresh)) F, iAc (dArr 256) (.slice A234 (((x.act (x.wrong at_)).2).lasts.length) cap235) (((x.act (x.wrong at_)).2).lasts) bs237 F, iData (dSlice dByte) [.slice A s.length cap] s] := hs264
            refine WL_at (L := [(25, .pointer (some ⟨d, 0, none⟩))]) ⟨((hg268 0 25 e278 rfl).trans (v270 e278)), trivial⟩ ?_
            refine S_nilCheck rfl rfl ?_
            have hs281 : Sep F w0 (fun b => D b ∧ b < w0.heap.size) w263 [iOwn d 68 [.slice A234 (((x.act (x.wrong at_)).2).lasts.length) cap235, .map (some bm236), .int .i64 (((x.act (x.wrong at_)).2).left), .bool (((x.act (x.wrong at_)).2).off)] F, (bif dN 8 then (iMap kInt bm236 (emap (fun s => av s) (aput (((x.act (x.wrong at_)).2).fresh) at_ (List.take 256 s))) F) else (iMap kInt bm236 (emap (fun s => av s) (((x.act (x.wrong at_)).2).fresh)) F)), iAc (dArr 256) (.slice A234 (((x.act (x.wrong at_)).2).lasts.length) cap235) (((x.act (x.wrong at_)).2).lasts) bs237 F, iData (dSlice dByte) [.slice A s.length cap] s] := by rw [e279]; exact hs280
            exact WL_nil ⟨rfl, _, rfl, hs281, v270, (fun _ => rfl), v272, v273, v274, v275, v276, v277, trivial⟩
          ·
            rintro dN vL g282 w283 ⟨hs284, v290, v291, v292, v293, v294, v295, v296, v297, _⟩ hD285 hd286 hu287 hg288 hk289
            have e298 : dN 1 = true := hd286 1 (by decide +kernel)
            have e299 : dN 8 = false := hu287 8 (by decide +kernel)
            rw [e299] at hs284
            have hs300 : Sep F w0 (fun b => D b ∧ b < w0.heap.size) w283 [iOwn d 68 [.slice A234 (((x.act (x.wrong at_)).2).lasts.length) cap235, .map (some bm236), .int .i64 (((x.act (x.wrong at_)).2).left), .bool (((x.act (x.wrong at_)).2).off)] F, iMap kInt bm236 (emap (fun s => av s) (((x.act (x.wrong at_)).2).fresh)) F, iAc (dArr 256) (.slice A234 (((x.act (x.wrong at_)).2).lasts.length) cap235) (((x.act (x.wrong at_)).2).lasts) bs237 F, iData (dSlice dByte) [.slice A s.length cap] s] := hs284
            refine WL_at (L := [(26, .pointer (some ⟨d, 0, none⟩))]) ⟨((hg288 1 26 e298 rfl).trans (v291 e298)), trivial⟩ ?_
            refine S_fieldAddr Try.runUnderlying68 rfl Try.sizeOf66 rfl rfl ?_
            have hs301 : Sep F w0 (fun b => D b ∧ b < w0.heap.size) w283 [iOwn d 68 [.slice A234 (((x.act (x.wrong at_)).2).lasts.length) cap235, .map (some bm236), .int .i64 (((x.act (x.wrong at_)).2).left), .bool (((x.act (x.wrong at_)).2).off)] F, (bif dN 8 then (iMap kInt bm236 (emap (fun s => av s) (aput (((x.act (x.wrong at_)).2).fresh) at_ (List.take 256 s))) F) else (iMap kInt bm236 (emap (fun s => av s) (((x.act (x.wrong at_)).2).fresh)) F)), iAc (dArr 256) (.slice A234 (((x.act (x.wrong at_)).2).lasts.length) cap235) (((x.act (x.wrong at_)).2).lasts) bs237 F, iData (dSlice dByte) [.slice A s.length cap] s] := by rw [e299]; exact hs300
            exact WL_nil ⟨rfl, _, rfl, hs301, v290, v291, (fun _ => rfl), v293, v294, v295, v296, v297, trivial⟩
          ·
            rintro dN vL g302 w303 ⟨hs304, v310, v311, v312, v313, v314, v315, v316, v317, _⟩ hD305 hd306 hu307 hg308 hk309
            have e318 : dN 2 = true := hd306 2 (by decide +kernel)
            have e319 : dN 8 = false := hu307 8 (by decide +kernel)
            rw [e319] at hs304
            have hs320 : Sep F w0 (fun b => D b ∧ b < w0.heap.size) w303 [iOwn d 68 [.slice A234 (((x.act (x.wrong at_)).2).lasts.length) cap235, .map (some bm236), .int .i64 (((x.act (x.wrong at_)).2).left), .bool (((x.act (x.wrong at_)).2).off)] F, iMap kInt bm236 (emap (fun s => av s) (((x.act (x.wrong at_)).2).fresh)) F, iAc (dArr 256) (.slice A234 (((x.act (x.wrong at_)).2).lasts.length) cap235) (((x.act (x.wrong at_)).2).lasts) bs237 F, iData (dSlice dByte) [.slice A s.length cap] s] := hs304
            refine WL_at (L := [(27, .pointer (some ⟨d, 1, none⟩))]) ⟨((hg308 2 27 e318 rfl).trans (v312 e318)), trivial⟩ ?_
            refine S_load1 Try.isAgg66 rfl (Own.at (hs320.at 0 rfl) rfl) rfl ?_
            have hs321 : Sep F w0 (fun b => D b ∧ b < w0.heap.size) w303 [iOwn d 68 [.slice A234 (((x.act (x.wrong at_)).2).lasts.length) cap235, .map (some bm236), .int .i64 (((x.act (x.wrong at_)).2).left), .bool (((x.act (x.wrong at_)).2).off)] F, (bif dN 8 then (iMap kInt bm236 (emap (fun s => av s) (aput (((x.act (x.wrong at_)).2).fresh) at_ (List.take 256 s))) F) else (iMap kInt bm236 (emap (fun s => av s) (((x.act (x.wrong at_)).2).fresh)) F)), iAc (dArr 256) (.slice A234 (((x.act (x.wrong at_)).2).lasts.length) cap235) (((x.act (x.wrong at_)).2).lasts) bs237 F, iData (dSlice dByte) [.slice A s.length cap] s] := by rw [e319]; exact hs320
            exact WL_nil ⟨rfl, _, rfl, hs321, v310, v311, v312, (fun _ => rfl), v314, v315, v316, v317, trivial⟩
          ·
            rintro dN vL g322 w323 ⟨hs324, v330, v331, v332, v333, v334, v335, v336, v337, _⟩ hD325 hd326 hu327 hg328 hk329
            have e338 : dN 8 = false := hu327 8 (by decide +kernel)
            rw [e338] at hs324
            have hs339 : Sep F w0 (fun b => D b ∧ b < w0.heap.size) w323 [iOwn d 68 [.slice A234 (((x.act (x.wrong at_)).2).lasts.length) cap235, .map (some bm236), .int .i64 (((x.act (x.wrong at_)).2).left), .bool (((x.act (x.wrong at_)).2).off)] F, iMap kInt bm236 (emap (fun s => av s) (((x.act (x.wrong at_)).2).fresh)) F, iAc (dArr 256) (.slice A234 (((x.act (x.wrong at_)).2).lasts.length) cap235) (((x.act (x.wrong at_)).2).lasts) bs237 F, iData (dSlice dByte) [.slice A s.length cap] s] := hs324
            refine WL_at (L := [(1, .int .i64 at_)]) ⟨(hk329 1 (by decide +kernel)), trivial⟩ ?_
            refine S_move rfl ?_
            have hs340 : Sep F w0 (fun b => D b ∧ b < w0.heap.size) w323 [iOwn d 68 [.slice A234 (((x.act (x.wrong at_)).2).lasts.length) cap235, .map (some bm236), .int .i64 (((x.act (x.wrong at_)).2).left), .bool (((x.act (x.wrong at_)).2).off)] F, (bif dN 8 then (iMap kInt bm236 (emap (fun s => av s) (aput (((x.act (x.wrong at_)).2).fresh) at_ (List.take 256 s))) F) else (iMap kInt bm236 (emap (fun s => av s) (((x.act (x.wrong at_)).2).fresh)) F)), iAc (dArr 256) (.slice A234 (((x.act (x.wrong at_)).2).lasts.length) cap235) (((x.act (x.wrong at_)).2).lasts) bs237 F, iData (dSlice dByte) [.slice A s.length cap] s] := by rw [e338]; exact hs339
            exact WL_nil ⟨rfl, _, rfl, hs340, v330, v331, v332, v333, (fun _ => rfl), v335, v336, v337, trivial⟩
          ·
            rintro dN vL g341 w342 ⟨hs343, v349, v350, v351, v352, v353, v354, v355, v356, _⟩ hD344 hd345 hu346 hg347 hk348
            have e357 : dN 8 = false := hu346 8 (by decide +kernel)
            rw [e357] at hs343
            have hs358 : Sep F w0 (fun b => D b ∧ b < w0.heap.size) w342 [iOwn d 68 [.slice A234 (((x.act (x.wrong at_)).2).lasts.length) cap235, .map (some bm236), .int .i64 (((x.act (x.wrong at_)).2).left), .bool (((x.act (x.wrong at_)).2).off)] F, iMap kInt bm236 (emap (fun s => av s) (((x.act (x.wrong at_)).2).fresh)) F, iAc (dArr 256) (.slice A234 (((x.act (x.wrong at_)).2).lasts.length) cap235) (((x.act (x.wrong at_)).2).lasts) bs237 F, iData (dSlice dByte) [.slice A s.length cap] s] := hs343
            refine WL_at (L := [(2, .slice A s.length cap)]) ⟨(hk348 2 (by decide +kernel)), trivial⟩ ?_
            refine S_move rfl ?_
            have hs359 : Sep F w0 (fun b => D b ∧ b < w0.heap.size) w342 [iOwn d 68 [.slice A234 (((x.act (x.wrong at_)).2).lasts.length) cap235, .map (some bm236), .int .i64 (((x.act (x.wrong at_)).2).left), .bool (((x.act (x.wrong at_)).2).off)] F, (bif dN 8 then (iMap kInt bm236 (emap (fun s => av s) (aput (((x.act (x.wrong at_)).2).fresh) at_ (List.take 256 s))) F) else (iMap kInt bm236 (emap (fun s => av s) (((x.act (x.wrong at_)).2).fresh)) F)), iAc (dArr 256) (.slice A234 (((x.act (x.wrong at_)).2).lasts.length) cap235) (((x.act (x.wrong at_)).2).lasts) bs237 F, iData (dSlice dByte) [.slice A s.length cap] s] := by rw [e357]; exact hs358
            exact WL_nil ⟨rfl, _, rfl, hs359, v349, v350, v351, v352, v353, (fun _ => rfl), v355, v356, trivial⟩
          ·
            rintro dN vL g360 w361 ⟨hs362, v368, v369, v370, v371, v372, v373, v374, v375, _⟩ hD363 hd364 hu365 hg366 hk367
            have e376 : dN 5 = true := hd364 5 (by decide +kernel)
            have e377 : dN 8 = false := hu365 8 (by decide +kernel)
            rw [e377] at hs362
            have hs378 : Sep F w0 (fun b => D b ∧ b < w0.heap.size) w361 [iOwn d 68 [.slice A234 (((x.act (x.wrong at_)).2).lasts.length) cap235, .map (some bm236), .int .i64 (((x.act (x.wrong at_)).2).left), .bool (((x.act (x.wrong at_)).2).off)] F, iMap kInt bm236 (emap (fun s => av s) (((x.act (x.wrong at_)).2).fresh)) F, iAc (dArr 256) (.slice A234 (((x.act (x.wrong at_)).2).lasts.length) cap235) (((x.act (x.wrong at_)).2).lasts) bs237 F, iData (dSlice dByte) [.slice A s.length cap] s] := hs362
            refine WL_at (L := [(30, .slice A s.length cap)]) ⟨((hg366 5 30 e376 rfl).trans (v373 e376)), trivial⟩ ?_
            refine S_arrPtr Try.runUnderlying78 rfl (show 256 ≤ s.length from by omega) rfl ?_
            have hs379 : Sep F w0 (fun b => D b ∧ b < w0.heap.size) w361 [iOwn d 68 [.slice A234 (((x.act (x.wrong at_)).2).lasts.length) cap235, .map (some bm236), .int .i64 (((x.act (x.wrong at_)).2).left), .bool (((x.act (x.wrong at_)).2).off)] F, (bif dN 8 then (iMap kInt bm236 (emap (fun s => av s) (aput (((x.act (x.wrong at_)).2).fresh) at_ (List.take 256 s))) F) else (iMap kInt bm236 (emap (fun s => av s) (((x.act (x.wrong at_)).2).fresh)) F)), iAc (dArr 256) (.slice A234 (((x.act (x.wrong at_)).2).lasts.length) cap235) (((x.act (x.wrong at_)).2).lasts) bs237 F, iData (dSlice dByte) [.slice A s.length cap] s] := by rw [e377]; exact hs378
            exact WL_nil ⟨rfl, _, rfl, hs379, v368, v369, v370, v371, v372, v373, (fun _ => rfl), v375, trivial⟩
          ·
            rintro dN vL g380 w381 ⟨hs382, v388, v389, v390, v391, v392, v393, v394, v395, _⟩ hD383 hd384 hu385 hg386 hk387
            have e396 : dN 6 = true := hd384 6 (by decide +kernel)
            have e397 : dN 8 = false := hu385 8 (by decide +kernel)
            rw [e397] at hs382
            have hs398 : Sep F w0 (fun b => D b ∧ b < w0.heap.size) w381 [iOwn d 68 [.slice A234 (((x.act (x.wrong at_)).2).lasts.length) cap235, .map (some bm236), .int .i64 (((x.act (x.wrong at_)).2).left), .bool (((x.act (x.wrong at_)).2).off)] F, iMap kInt bm236 (emap (fun s => av s) (((x.act (x.wrong at_)).2).fresh)) F, iAc (dArr 256) (.slice A234 (((x.act (x.wrong at_)).2).lasts.length) cap235) (((x.act (x.wrong at_)).2).lasts) bs237 F, iData (dSlice dByte) [.slice A s.length cap] s] := hs382
            refine WL_at (L := [(31, .pointer A)]) ⟨((hg386 6 31 e396 rfl).trans (v394 e396)), trivial⟩ ?_
            refine S_loadArr Try.isAgg78 Try.sizeOf78 (hs398.at 3 rfl) (show 256 ≤ s.length from by omega) (by decide) rfl rfl ?_
            have hs399 : Sep F w0 (fun b => D b ∧ b < w0.heap.size) w381 [iOwn d 68 [.slice A234 (((x.act (x.wrong at_)).2).lasts.length) cap235, .map (some bm236), .int .i64 (((x.act (x.wrong at_)).2).left), .bool (((x.act (x.wrong at_)).2).off)] F, (bif dN 8 then (iMap kInt bm236 (emap (fun s => av s) (aput (((x.act (x.wrong at_)).2).fresh) at_ (List.take 256 s))) F) else (iMap kInt bm236 (emap (fun s => av s) (((x.act (x.wrong at_)).2).fresh)) F)), iAc (dArr 256) (.slice A234 (((x.act (x.wrong at_)).2).lasts.length) cap235) (((x.act (x.wrong at_)).2).lasts) bs237 F, iData (dSlice dByte) [.slice A s.length cap] s] := by rw [e397]; exact hs398
            exact WL_nil ⟨rfl, _, rfl, hs399, v388, v389, v390, v391, v392, v393, v394, (fun _ => rfl), trivial⟩
          ·
            rintro dN vL g400 w401 ⟨hs402, v408, v409, v410, v411, v412, v413, v414, v415, _⟩ hD403 hd404 hu405 hg406 hk407
            have e416 : dN 3 = true := hd404 3 (by decide +kernel)
            have e417 : dN 4 = true := hd404 4 (by decide +kernel)
            have e418 : dN 7 = true := hd404 7 (by decide +kernel)
            have e419 : dN 8 = false := hD403
            rw [e419] at hs402
            have hs420 : Sep F w0 (fun b => D b ∧ b < w0.heap.size) w401 [iOwn d 68 [.slice A234 (((x.act (x.wrong at_)).2).lasts.length) cap235, .map (some bm236), .int .i64 (((x.act (x.wrong at_)).2).left), .bool (((x.act (x.wrong at_)).2).off)] F, iMap kInt bm236 (emap (fun s => av s) (((x.act (x.wrong at_)).2).fresh)) F, iAc (dArr 256) (.slice A234 (((x.act (x.wrong at_)).2).lasts.length) cap235) (((x.act (x.wrong at_)).2).lasts) bs237 F, iData (dSlice dByte) [.slice A s.length cap] s] := hs402
            refine WL_at (L := [(28, .map (some bm236)), (29, .int .i64 at_), (32, av (List.take 256 s))]) ⟨((hg406 3 28 e416 rfl).trans (v411 e416)), ((hg406 4 29 e417 rfl).trans (v412 e417)), ((hg406 7 32 e418 rfl).trans (v415 e418)), trivial⟩ ?_
            refine Z_mapUpdate (vv := List.take 256 s) hs420 1 rfl Try.runUnderlying66 Try.runUnderlying3 rfl rfl rfl ?_
            intro w421 hs422
            have hs422 : Sep F w0 (fun b => D b ∧ b < w0.heap.size) w421 [iOwn d 68 [.slice A234 (((x.act (x.wrong at_)).2).lasts.length) cap235, .map (some bm236), .int .i64 (((x.act (x.wrong at_)).2).left), .bool (((x.act (x.wrong at_)).2).off)] F, iMap kInt bm236 (emap (fun s => av s) (aput (((x.act (x.wrong at_)).2).fresh) at_ (List.take 256 s))) F, iAc (dArr 256) (.slice A234 (((x.act (x.wrong at_)).2).lasts.length) cap235) (((x.act (x.wrong at_)).2).lasts) bs237 F, iData (dSlice dByte) [.slice A s.length cap] s] := hs422
            have hs423 : Sep F w0 (fun b => D b ∧ b < w0.heap.size) w421 [iOwn d 68 [.slice A234 (((x.act (x.wrong at_)).2).lasts.length) cap235, .map (some bm236), .int .i64 (((x.act (x.wrong at_)).2).left), .bool (((x.act (x.wrong at_)).2).off)] F, iMap kInt bm236 (emap (fun s => av s) (aput (((x.act (x.wrong at_)).2).fresh) at_ (List.take 256 s))) F, iAc (dArr 256) (.slice A234 (((x.act (x.wrong at_)).2).lasts.length) cap235) (((x.act (x.wrong at_)).2).lasts) bs237 F, iData (dSlice dByte) [.slice A s.length cap] s] := by exact hs422
            exact WL_nil ⟨rfl, undef, rfl, hs423, v408, v409, v410, v411, v412, v413, v414, v415, trivial⟩
        ·
          rintro dN vL g424 w425 ha427 ⟨hs426, v430, v431, v432, v433, v434, v435, v436, v437, _⟩ hg428 hk429
          rw [ha427 8 rfl] at hs426
          have hs438 : Sep F w0 (fun b => D b ∧ b < w0.heap.size) w425 [iOwn d 68 [.slice A234 (((x.act (x.wrong at_)).2).lasts.length) cap235, .map (some bm236), .int .i64 (((x.act (x.wrong at_)).2).left), .bool (((x.act (x.wrong at_)).2).off)] F, iMap kInt bm236 (emap (fun s => av s) (aput (((x.act (x.wrong at_)).2).fresh) at_ (List.take 256 s))) F, iAc (dArr 256) (.slice A234 (((x.act (x.wrong at_)).2).lasts.length) cap235) (((x.act (x.wrong at_)).2).lasts) bs237 F, iData (dSlice dByte) [.slice A s.length cap] s] := hs426
          refine ⟨[], trivial, fun g439 => ?_⟩
          refine W_seq ?_
          refine W_region ?_
          refine S_assign rfl ?_
          refine WL_nil ?_
          refine W_ret ?_
          show (Value.nilIface) = errv 64 (x.write at_ s).1 ∧ ∃ F', DkIs d w425 (x.write at_ s).2 F' ∧ Turn w0 w425 F F'
          first | (exfalso; omega) | (have hz' := Classical.not_not.1 ‹¬ _ ≠ (0 : Int)›; have hc := (DkIs.close hs438 (Ac.bs1 (hs438.at 2 rfl))); rw [List.take_of_length_le (by omega)] at hc; rw [write_fine rfl (by rw [if_neg (by omega)]; exact hz'), if_neg (by omega)]; exact ⟨(by first | rfl | exact errv_ne (by decide) | exact errv_0), _, hc⟩)
  ·
    have p440 := of_decide_eq_false h1
    refine WL_off rfl rfl rfl (bF h1) ?_
    refine WL_off rfl rfl rfl (bF h1) ?_
    refine WL_off rfl rfl rfl (bF h1) ?_
    refine S_pick_f (bF h1) rfl ?_
    refine WL_nil ?_
    refine W_cond_false rfl ?_
    refine W_skip ?_
    refine W_seq ?_
    refine W_seq ?_
    refine W_live (L := [(0, .pointer (some ⟨d, 0, none⟩)), (1, .int .i64 at_), (2, .slice A s.length cap), (7, .int .i64 (x.wrong at_))]) ⟨rfl, rfl, rfl, rfl, trivial⟩ ?_
    intro g441
    refine W_region ?_
    refine S_move rfl ?_
    refine S_move rfl ?_
    have hz446 := act_ok (hs0.at 1 rfl) ok (x.wrong at_)
    refine S_callE Try.call37 rfl hz446 rfl ?_
    rintro w442 ⟨F443, h444, t445⟩
    have hs447 : Sep F w0 (fun b => D b ∧ b < w0.heap.size) w442 [iData (dSlice dByte) [.slice A s.length cap] s, iOb (obDk d) ((x.act (x.wrong at_)).2) F443 F] := hs0.turn 1 rfl h444 t445
    refine S_assign rfl ?_
    refine WL_nil ?_
    refine W_seq ?_
    refine W_region ?_
    refine S_move rfl ?_
    refine S_neqE (Te := 64) (e := (x.act (x.wrong at_)).1) Try.runUnderlying25 rfl rfl ?_
    refine WL_nil ?_
    refine W_cond rfl (fun h449 => ?_) (fun h449 => ?_)
    ·
      have p450 := of_decide_eq_true h449
      refine W_seq ?_
      refine W_region ?_
      refine S_move rfl ?_
      refine S_assign rfl ?_
      refine WL_nil ?_
      refine W_ret ?_
      show (errv 64 ((x.act (x.wrong at_)).1)) = errv 64 (x.write at_ s).1 ∧ ∃ F', DkIs d w442 (x.write at_ s).2 F' ∧ Turn w0 w442 F F'
      rw [write_err (wr := (x.wrong at_)) (by split <;> omega) (by assumption)]
      exact ⟨rfl, _, hs447.at 1 rfl, hs447.ext, fun b hb => (hs447.org 1 rfl b hb)⟩
    ·
      have p451 := of_decide_eq_false h449
      have hz := act_zero (Classical.not_not.1 p451)
      refine W_skip ?_
      refine W_seq ?_
      have ⟨A452, cap453, bm454, bs455, hs456⟩ := Sep.openDk (hs447.pick [1, 0] rfl (by decide) rfl)
      refine W_live (L := [(0, .pointer (some ⟨d, 0, none⟩)), (1, .int .i64 at_), (2, .slice A s.length cap)]) ⟨rfl, rfl, rfl, trivial⟩ ?_
      intro g457
      refine W_region_J (fun dN vL w => Sep F w0 (fun b => D b ∧ b < w0.heap.size) w [iOwn d 68 [.slice A452 (((x.act (x.wrong at_)).2).lasts.length) cap453, .map (some bm454), .int .i64 (((x.act (x.wrong at_)).2).left), .bool (((x.act (x.wrong at_)).2).off)] F, (bif dN 8 then (iMap kInt bm454 (emap (fun s => av s) (aput (((x.act (x.wrong at_)).2).fresh) at_ (List.take 256 s))) F) else (iMap kInt bm454 (emap (fun s => av s) (((x.act (x.wrong at_)).2).fresh)) F)), iAc (dArr 256) (.slice A452 (((x.act (x.wrong at_)).2).lasts.length) cap453) (((x.act (x.wrong at_)).2).lasts) bs455 F, iData (dSlice dByte) [.slice A s.length cap] s] ∧ (dN 0 = true → vL 0 = .pointer (some ⟨d, 0, none⟩)) ∧ (dN 1 = true → vL 1 = .pointer (some ⟨d, 0, none⟩)) ∧ (dN 2 = true → vL 2 = .pointer (some ⟨d, 1, none⟩)) ∧ (dN 3 = true → vL 3 = .map (some bm454)) ∧ (dN 4 = true → vL 4 = .int .i64 at_) ∧ (dN 5 = true → vL 5 = .slice A s.length cap) ∧ (dN 6 = true → vL 6 = .pointer A) ∧ (dN 7 = true → vL 7 = av (List.take 256 s)) ∧ True) [25, 26, 27, 28, 29, 30, 31, 32] rfl (by decide +kernel) _ rfl ?_ ?_ ?_
      · exact fun V => ⟨hs456, (fun h => by cases h), (fun h => by cases h), (fun h => by cases h), (fun h => by cases h), (fun h => by cases h), (fun h => by cases h), (fun h => by cases h), (fun h => by cases h), trivial⟩
      · refine (.cons ?_ (.cons ?_ (.cons ?_ (.cons ?_ (.cons ?_ (.cons ?_ (.cons ?_ (.cons ?_ (.cons ?_ .nil)))))))))
        ·
          rintro dN vL g461 w462 ⟨hs463, v469, v470, v471, v472, v473, v474, v475, v476, _⟩ hD464 hd465 hu466 hg467 hk468
          have e477 : dN 8 = false := hu466 8 (by decide +kernel)
          rw [e477] at hs463
          have hs478 : Sep F w0 (fun b => D b ∧ b < w0.heap.size) w462 [iOwn d 68 [.slice A452 (((x.act (x.wrong at_)).2).lasts.length) cap453, .map (some bm454), .int .i64 (((x.act (x.wrong at_)).2).left), .bool (((x.act (x.wrong at_)).2).off)] F, iMap kInt bm454 (emap (fun s => av s) (((x.act (x.wrong at_)).2).fresh)) F, iAc (dArr 256) (.slice A452 (((x.act (x.wrong at_)).2).lasts.length) cap453) (((x.act (x.wrong at_)).2).lasts) bs455 F, iData (dSlice dByte) [.slice A s.length cap] s] := hs463
          refine WL_at (L := [(0, .pointer (some ⟨d, 0, none⟩))]) ⟨(hk468 0 (by decide +kernel)), trivial⟩ ?_
          refine S_move rfl ?_
          have hs479 : Sep F w0 (fun b => D b ∧ b < w0.heap.size) w462 [iOwn d 68 [.slice A452 (((x.act (x.wrong at_)).2).lasts.length) cap453, .map (some bm454), .int .i64 (((x.act (x.wrong at_)).2).left), .bool (((x.act (x.wrong at_)).2).off)] F, (bif dN 8 then (iMap kInt bm454 (emap (fun s => av s) (aput (((x.act (x.wrong at_)).2).fresh) at_ (List.take 256 s))) F) else (iMap kInt bm454 (emap (fun s => av s) (((x.act (x.wrong at_)).2).fresh)) F)), iAc (dArr 256) (.slice A452 (((x.act (x.wrong at_)).2).lasts.length) cap453) (((x.act (x.wrong at_)).2).lasts) bs455 F, iData (dSlice dByte) [.slice A s.length cap] s] := by rw [e477]; exact hs478
          exact WL_nil ⟨rfl, _, rfl, hs479, (fun _ => rfl), v470, v471, v472, v473, v474, v475, v476, trivial⟩
        ·
          rintro dN vL g480 w481 ⟨hs482, v488, v489, v490, v491, v492, v493, v494, v495, _⟩ hD483 hd484 hu485 hg486 hk487
          have e496 : dN 0 = true := hd484 0 (by decide +kernel)
          have e497 : dN 8 = false := hu485 8 (by decide +kernel)
          rw [e497] at hs482
          have hs498 : Sep F w0 (fun b => D b ∧ b < w0.heap.size) w481 [iOwn d 68 [.slice A452 (((x.act (x.wrong at_)).2).lasts.length) cap453, .map (some bm454), .int .i64 (((x.act (x.wrong at_)).2).left), .bool (((x.act (x.wrong at_)).2).off)] F, iMap kInt bm454 (emap (fun s => av s) (((x.act (x.wrong at_)).2).fresh)) F, iAc (dArr 256) (.slice A452 (((x.act (x.wrong at_)).2).lasts.length) cap453) (((x.act (x.wrong at_)).2).lasts) bs455 F, iData (dSlice dByte) [.slice A s.length cap] s] := hs482
          refine WL_at (L := [(25, .pointer (some ⟨d, 0, none⟩))]) ⟨((hg486 0 25 e496 rfl).trans (v488 e496)), trivial⟩ ?_
          refine S_nilCheck rfl rfl ?_
          have hs499 : Sep F w0 (fun b => D b ∧ b < w0.heap.size) w481 [iOwn d 68 [.slice A452 (((x.act (x.wrong at_)).2).lasts.length) cap453, .map (some bm454), .int .i64 (((x.act (x.wrong at_)).2).left), .bool (((x.act (x.wrong at_)).2).off)] F, (bif dN 8 then (iMap kInt bm454 (emap (fun s => av s) (aput (((x.act (x.wrong at_)).2).fresh) at_ (List.take 256 s))) F) else (iMap kInt bm454 (emap (fun s => av s) (((x.act (x.wrong at_)).2).fresh)) F)), iAc (dArr 256) (.slice A452 (((x.act (x.wrong at_)).2).lasts.length) cap453) (((x.act (x.wrong at_)).2).lasts) bs455 F, iData (dSlice dByte) [.slice A s.length cap] s] := by rw [e497]; exact hs498
          exact WL_nil ⟨rfl, _, rfl, hs499, v488, (fun _ => rfl), v490, v491, v492, v493, v494, v495, trivial⟩
        ·
          rintro dN vL g500 w501 ⟨hs502, v508, v509, v510, v511, v512, v513, v514, v515, _⟩ hD503 hd504 hu505 hg506 hk507
          have e516 : dN 1 = true := hd504 1 (by decide +kernel)
          have e517 : dN 8 = false := hu505 8 (by decide +kernel)
          rw [e517] at hs502
          have hs518 : Sep F w0 (fun b => D b ∧ b < w0.heap.size) w501 [iOwn d 68 [.slice A452 (((x.act (x.wrong at_)).2).lasts.length) cap453, .map (some bm454), .int .i64 (((x.act (x.wrong at_)).2).left), .bool (((x.act (x.wrong at_)).2).off)] F, iMap kInt bm454 (emap (fun s => av s) (((x.act (x.wrong at_)).2).fresh)) F, iAc (dArr 256) (.slice A452 (((x.act (x.wrong at_)).2).lasts.length) cap453) (((x.act (x.wrong at_)).2).lasts) bs455 F, iData (dSlice dByte) [.slice A s.length cap] s] := hs502
          refine WL_at (L := [(26, .pointer (some ⟨d, 0, none⟩))]) ⟨((hg506 1 26 e516 rfl).trans (v509 e516)), trivial⟩ ?_
          refine S_fieldAddr Try.runUnderlying68 rfl Try.sizeOf66 rfl rfl ?_
          have hs519 : Sep F w0 (fun b => D b ∧ b < w0.heap.size) w501 [iOwn d 68 [.slice A452 (((x.act (x.wrong at_)).2).lasts.length) cap453, .map (some bm454), .int .i64 (((x.act (x.wrong at_)).2).left), .bool (((x.act (x.wrong at_)).2).off)] F, (bif dN 8 then (iMap kInt bm454 (emap (fun s => av s) (aput (((x.act (x.wrong at_)).2).fresh) at_ (List.take 256 s))) F) else (iMap kInt bm454 (emap (fun s => av s) (((x.act (x.wrong at_)).2).fresh)) F)), iAc (dArr 256) (.slice A452 (((x.act (x.wrong at_)).2).lasts.length) cap453) (((x.act (x.wrong at_)).2).lasts) bs455 F, iData (dSlice dByte) [.slice A s.length cap] s] := by rw [e517]; exact hs518
          exact WL_nil ⟨rfl, _, rfl, hs519, v508, v509, (fun _ => rfl), v511, v512, v513, v514, v515, trivial⟩
        ·
          rintro dN vL g520 w521 ⟨hs522, v528, v529, v530, v531, v532, v533, v534, v535, _⟩ hD523 hd524 hu525 hg526 hk527
          have e536 : dN 2 = true := hd524 2 (by decide +kernel)
          have e537 : dN 8 = false := hu525 8 (by decide +kernel)
          rw [e537] at hs522
          have hs538 : Sep F w0 (fun b => D b ∧ b < w0.heap.size) w521 [iOwn d 68 [.slice A452 (((x.act (x.wrong at_)).2).lasts.length) cap453, .map (some bm454), .int .i64 (((x.act (x.wrong at_)).2).left), .bool (((x.act (x.wrong at_)).2).off)] F, iMap kInt bm454 (emap (fun s => av s) (((x.act (x.wrong at_)).2).fresh)) F, iAc (dArr 256) (.slice A452 (((x.act (x.wrong at_)).2).lasts.length) cap453) (((x.act (x.wrong at_)).2).lasts) bs455 F, iData (dSlice dByte) [.slice A s.length cap] s] := hs522
          refine WL_at (L := [(27, .pointer (some ⟨d, 1, none⟩))]) ⟨((hg526 2 27 e536 rfl).trans (v530 e536)), trivial⟩ ?_
          refine S_load1 Try.isAgg66 rfl (Own.at (hs538.at 0 rfl) rfl) rfl ?_
          have hs539 : Sep F w0 (fun b => D b ∧ b < w0.heap.size) w521 [iOwn d 68 [.slice A452 (((x.act (x.wrong at_)).2).lasts.length) cap453, .map (some bm454), .int .i64 (((x.act (x.wrong at_)).2).left), .bool (((x.act (x.wrong at_)).2).off)] F, (bif dN 8 then (iMap kInt bm454 (emap (fun s => av s) (aput (((x.act (x.wrong at_)).2).fresh) at_ (List.take 256 s))) F) else (iMap kInt bm454 (emap (fun s => av s) (((x.act (x.wrong at_)).2).fresh)) F)), iAc (dArr 256) (.slice A452 (((x.act (x.wrong at_)).2).lasts.length) cap453) (((x.act (x.wrong at_)).2).lasts) bs455 F, iData (dSlice dByte) [.slice A s.length cap] s] := by rw [e537]; exact hs538
          exact WL_nil ⟨rfl, _, rfl, hs539, v528, v529, v530, (fun _ => rfl), v532, v533, v534, v535, trivial⟩
        ·
          rintro dN vL g540 w541 ⟨hs542, v548, v549, v550, v551, v552, v553, v554, v555, _⟩ hD543 hd544 hu545 hg546 hk547
          have e556 : dN 8 = false := hu545 8 (by decide +kernel)
          rw [e556] at hs542
          have hs557 : Sep F w0 (fun b => D b ∧ b < w0.heap.size) w541 [iOwn d 68 [.slice A452 (((x.act (x.wrong at_)).2).lasts.length) cap453, .map (some bm454), .int .i64 (((x.act (x.wrong at_)).2).left), .bool (((x.act (x.wrong at_)).2).off)] F, iMap kInt bm454 (emap (fun s => av s) (((x.act (x.wrong at_)).2).fresh)) F, iAc (dArr 256) (.slice A452 (((x.act (x.wrong at_)).2).lasts.length) cap453) (((x.act (x.wrong at_)).2).lasts) bs455 F, iData (dSlice dByte) [.slice A s.length cap] s] := hs542
          refine WL_at (L := [(1, .int .i64 at_)]) ⟨(hk547 1 (by decide +kernel)), trivial⟩ ?_
          refine S_move rfl ?_
          have hs558 : Sep F w0 (fun b => D b ∧ b < w0.heap.size) w541 [iOwn d 68 [.slice A452 (((x.act (x.wrong at_)).2).lasts.length) cap453, .map (some bm454), .int .i64 (((x.act (x.wrong at_)).2).left), .bool (((x.act (x.wrong at_)).2).off)] F, (bif dN 8 then (iMap kInt bm454 (emap (fun s => av s) (aput (((x.act (x.wrong at_)).2).fresh) at_ (List.take 256 s))) F) else (iMap kInt bm454 (emap (fun s => av s) (((x.act (x.wrong at_)).2).fresh)) F)), iAc (dArr 256) (.slice A452 (((x.act (x.wrong at_)).2).lasts.length) cap453) (((x.act (x.wrong at_)).2).lasts) bs455 F, iData (dSlice dByte) [.slice A s.length cap] s] := by rw [e556]; exact hs557
          exact WL_nil ⟨rfl, _, rfl, hs558, v548, v549, v550, v551, (fun _ => rfl), v553, v554, v555, trivial⟩
        ·
          rintro dN vL g559 w560 ⟨hs561, v567, v568, v569, v570, v571, v572, v573, v574, _⟩ hD562 hd563 hu564 hg565 hk566
          have e575 : dN 8 = false := hu564 8 (by decide +kernel)
          rw [e575] at hs561
          have hs576 : Sep F w0 (fun b => D b ∧ b < w0.heap.size) w560 [iOwn d 68 [.slice A452 (((x.act (x.wrong at_)).2).lasts.length) cap453, .map (some bm454), .int .i64 (((x.act (x.wrong at_)).2).left), .bool (((x.act (x.wrong at_)).2).off)] F, iMap kInt bm454 (emap (fun s => av s) (((x.act (x.wrong at_)).2).fresh)) F, iAc (dArr 256) (.slice A452 (((x.act (x.wrong at_)).2).lasts.length) cap453) (((x.act (x.wrong at_)).2).lasts) bs455 F, iData (dSlice dByte) [.slice A s.length cap] s] := hs561
          refine WL_at (L := [(2, .slice A s.length cap)]) ⟨(hk566 2 (by decide +kernel)), trivial⟩ ?_
          refine S_move rfl ?_
          have hs577 : Sep F w0 (fun b => D b ∧ b < w0.heap.size) w560 [iOwn d 68 [.slice A452 (((x.act (x.wrong at_)).2).lasts.length) cap453, .map (some bm454), .int .i64 (((x.act (x.wrong at_)).2).left), .bool (((x.act (x.wrong at_)).2).off)] F, (bif dN 8 then (iMap kInt bm454 (emap (fun s => av s) (aput (((x.act (x.wrong at_)).2).fresh) at_ (List.take 256 s))) F) else (iMap kInt bm454 (emap (fun s => av s) (((x.act (x.wrong at_)).2).fresh)) F)), iAc (dArr 256) (.slice A452 (((x.act (x.wrong at_)).2).lasts.length) cap453) (((x.act (x.wrong at_)).2).lasts) bs455 F, iData (dSlice dByte) [.slice A s.length cap] s] := by rw [e575]; exact hs576
          exact WL_nil ⟨rfl, _, rfl, hs577, v567, v568, v569, v570, v571, (fun _ => rfl), v573, v574, trivial⟩
        ·
          rintro dN vL g578 w579 ⟨hs580, v586, v587, v588, v589, v590, v591, v592, v593, _⟩ hD581 hd582 hu583 hg584 hk585
          have e594 : dN 5 = true := hd582 5 (by decide +kernel)
          have e595 : dN 8 = false := hu583 8 (by decide +kernel)
          rw [e595] at hs580
          have hs596 : Sep F w0 (fun b => D b ∧ b < w0.heap.size) w579 [iOwn d 68 [.slice A452 (((x.act (x.wrong at_)).2).lasts.length) cap453, .map (some bm454), .int .i64 (((x.act (x.wrong at_)).2).left), .bool (((x.act (x.wrong at_)).2).off)] F, iMap kInt bm454 (emap (fun s => av s) (((x.act (x.wrong at_)).2).fresh)) F, iAc (dArr 256) (.slice A452 (((x.act (x.wrong at_)).2).lasts.length) cap453) (((x.act (x.wrong at_)).2).lasts) bs455 F, iData (dSlice dByte) [.slice A s.length cap] s] := hs580
          refine WL_at (L := [(30, .slice A s.length cap)]) ⟨((hg584 5 30 e594 rfl).trans (v591 e594)), trivial⟩ ?_
          refine S_arrPtr Try.runUnderlying78 rfl (show 256 ≤ s.length from by omega) rfl ?_
          have hs597 : Sep F w0 (fun b => D b ∧ b < w0.heap.size) w579 [iOwn d 68 [.slice A452 (((x.act (x.wrong at_)).2).lasts.length) cap453, .map (some bm454), .int .i64 (((x.act (x.wrong at_)).2).left), .bool (((x.act (x.wrong at_)).2).off)] F, (bif dN 8 then (iMap kInt bm454 (emap (fun s => av s) (aput (((x.act (x.wrong at_)).2).fresh) at_ (List.take 256 s))) F) else (iMap kInt bm454 (emap (fun s => av s) (((x.act (x.wrong at_)).2).fresh)) F)), iAc (dArr 256) (.slice A452 (((x.act (x.wrong at_)).2).lasts.length) cap453) (((x.act (x.wrong at_)).2).lasts) bs455 F, iData (dSlice dByte) [.slice A s.length cap] s] := by rw [e595]; exact hs596
          exact WL_nil ⟨rfl, _, rfl, hs597, v586, v587, v588, v589, v590, v591, (fun _ => rfl), v593, trivial⟩
        ·
          rintro dN vL g598 w599 ⟨hs600, v606, v607, v608, v609, v610, v611, v612, v613, _⟩ hD601 hd602 hu603 hg604 hk605
          have e614 : dN 6 = true := hd602 6 (by decide +kernel)
          have e615 : dN 8 = false := hu603 8 (by decide +kernel)
          rw [e615] at hs600
          have hs616 : Sep F w0 (fun b => D b ∧ b < w0.heap.size) w599 [iOwn d 68 [.slice A452 (((x.act (x.wrong at_)).2).lasts.length) cap453, .map (some bm454), .int .i64 (((x.act (x.wrong at_)).2).left), .bool (((x.act (x.wrong at_)).2).off)] F, iMap kInt bm454 (emap (fun s => av s) (((x.act (x.wrong at_)).2).fresh)) F, iAc (dArr 256) (.slice A452 (((x.act (x.wrong at_)).2).lasts.length) cap453) (((x.act (x.wrong at_)).2).lasts) bs455 F, iData (dSlice dByte) [.slice A s.length cap] s] := hs600
          refine WL_at (L := [(31, .pointer A)]) ⟨((hg604 6 31 e614 rfl).trans (v612 e614)), trivial⟩ ?_
          refine S_loadArr Try.isAgg78 Try.sizeOf78 (hs616.at 3 rfl) (show 256 ≤ s.length from by omega) (by decide) rfl rfl ?_
          have hs617 : Sep F w0 (fun b => D b ∧ b < w0.heap.size) w599 [iOwn d 68 [.slice A452 (((x.act (x.wrong at_)).2).lasts.length) cap453, .map (some bm454), .int .i64 (((x.act (x.wrong at_)).2).left), .bool (((x.act (x.wrong at_)).2).off)] F, (bif dN 8 then (iMap kInt bm454 (emap (fun s => av s) (aput (((x.act (x.wrong at_)).2).fresh) at_ (List.take 256 s))) F) else (iMap kInt bm454 (emap (fun s => av s) (((x.act (x.wrong at_)).2).fresh)) F)), iAc (dArr 256) (.slice A452 (((x.act (x.wrong at_)).2).lasts.length) cap453) (((x.act (x.wrong at_)).2).lasts) bs455 F, iData (dSlice dByte) [.slice A s.length cap] s] := by rw [e615]; exact hs616
          exact WL_nil ⟨rfl, _, rfl, hs617, v606, v607, v608, v609, v610, v611, v612, (fun _ => rfl), trivial⟩
        ·
          rintro dN vL g618 w619 ⟨hs620, v626, v627, v628, v629, v630, v631, v632, v633, _⟩ hD621 hd622 hu623 hg624 hk625
          have e634 : dN 3 = true := hd622 3 (by decide +kernel)
          have e635 : dN 4 = true := hd622 4 (by decide +kernel)
          have e636 : dN 7 = true := hd622 7 (by decide +kernel)
          have e637 : dN 8 = false := hD621
          rw [e637] at hs620
          have hs638 : Sep F w0 (fun b => D b ∧ b < w0.heap.size) w619 [iOwn d 68 [.slice A452 (((x.act (x.wrong at_)).2).lasts.length) cap453, .map (some bm454), .int .i64 (((x.act (x.wrong at_)).2).left), .bool (((x.act (x.wrong at_)).2).off)] F, iMap kInt bm454 (emap (fun s => av s) (((x.act (x.wrong at_)).2).fresh)) F, iAc (dArr 256) (.slice A452 (((x.act (x.wrong at_)).2).lasts.length) cap453) (((x.act (x.wrong at_)).2).lasts) bs455 F, iData (dSlice dByte) [.slice A s.length cap] s] := hs620
          refine WL_at (L := [(28, .map (some bm454)), (29, .int .i64 at_), (32, av (List.take 256 s))]) ⟨((hg624 3 28 e634 rfl).trans (v629 e634)), ((hg624 4 29 e635 rfl).trans (v630 e635)), ((hg624 7 32 e636 rfl).trans (v633 e636)), trivial⟩ ?_
          refine Z_mapUpdate (vv := List.take 256 s) hs638 1 rfl Try.runUnderlying66 Try.runUnderlying3 rfl rfl rfl ?_
          intro w639 hs640
          have hs640 : Sep F w0 (fun b => D b ∧ b < w0.heap.size) w639 [iOwn d 68 [.slice A452 (((x.act (x.wrong at_)).2).lasts.length) cap453, .map (some bm454), .int .i64 (((x.act (x.wrong at_)).2).left), .bool (((x.act (x.wrong at_)).2).off)] F, iMap kInt bm454 (emap (fun s => av s) (aput (((x.act (x.wrong at_)).2).fresh) at_ (List.take 256 s))) F, iAc (dArr 256) (.slice A452 (((x.act (x.wrong at_)).2).lasts.length) cap453) (((x.act (x.wrong at_)).2).lasts) bs455 F, iData (dSlice dByte) [.slice A s.length cap] s] := hs640
          have hs641 : Sep F w0 (fun b => D b ∧ b < w0.heap.size) w639 [iOwn d 68 [.slice A452 (((x.act (x.wrong at_)).2).lasts.length) cap453, .map (some bm454), .int .i64 (((x.act (x.wrong at_)).2).left), .bool (((x.act (x.wrong at_)).2).off)] F, iMap kInt bm454 (emap (fun s => av s) (aput (((x.act (x.wrong at_)).2).fresh) at_ (List.take 256 s))) F, iAc (dArr 256) (.slice A452 (((x.act (x.wrong at_)).2).lasts.length) cap453) (((x.act (x.wrong at_)).2).lasts) bs455 F, iData (dSlice dByte) [.slice A s.length cap] s] := by exact hs640
          exact WL_nil ⟨rfl, undef, rfl, hs641, v626, v627, v628, v629, v630, v631, v632, v633, trivial⟩
      ·
        rintro dN vL g642 w643 ha645 ⟨hs644, v648, v649, v650, v651, v652, v653, v654, v655, _⟩ hg646 hk647
        rw [ha645 8 rfl] at hs644
        have hs656 : Sep F w0 (fun b => D b ∧ b < w0.heap.size) w643 [iOwn d 68 [.slice A452 (((x.act (x.wrong at_)).2).lasts.length) cap453, .map (some bm454), .int .i64 (((x.act (x.wrong at_)).2).left), .bool (((x.act (x.wrong at_)).2).off)] F, iMap kInt bm454 (emap (fun s => av s) (aput (((x.act (x.wrong at_)).2).fresh) at_ (List.take 256 s))) F, iAc (dArr 256) (.slice A452 (((x.act (x.wrong at_)).2).lasts.length) cap453) (((x.act (x.wrong at_)).2).lasts) bs455 F, iData (dSlice dByte) [.slice A s.length cap] s] := hs644
        refine ⟨[], trivial, fun g657 => ?_⟩
        refine W_seq ?_
        refine W_region ?_
        refine S_assign rfl ?_
        refine WL_nil ?_
        refine W_ret ?_
        show (Value.nilIface) = errv 64 (x.write at_ s).1 ∧ ∃ F', DkIs d w643 (x.write at_ s).2 F' ∧ Turn w0 w643 F F'
        first | (exfalso; omega) | (have hz' := Classical.not_not.1 ‹¬ _ ≠ (0 : Int)›; have hc := (DkIs.close hs656 (Ac.bs1 (hs656.at 2 rfl))); rw [List.take_of_length_le (by omega)] at hc; rw [write_fine rfl (by rw [if_neg (by omega)]; exact hz'), if_neg (by omega)]; exact ⟨(by first | rfl | exact errv_ne (by decide) | exact errv_0), _, hc⟩)
end Go.Proofs.Ytdgcgifigkfeaaa
