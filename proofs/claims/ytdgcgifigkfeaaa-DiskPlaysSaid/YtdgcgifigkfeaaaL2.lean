/- Disks: walks, printed by program, and their plain law. -/
import Derived.Test.YtdgcgifigkfeaaaX
namespace Go.Proofs.Ytdgcgifigkfeaaa
open Go Go.Wk Go.Wl Classical
set_option maxHeartbeats 4000000 in
theorem do_ok {w0 : World} {bx : Nat} {p : Bk} {F : List Nat} (h : BkIs bx w0 p F) (a : Act) {A : Option Addr} {cap : Nat} {D : Nat → Prop} (hD : ∀ b ∈ F, ¬ D b) (hk : (dSlice dInt).rd D w0 [.slice A a.Kept.length cap] a.Kept) (okd : p.d.Ok) (okr : p.r.Ok) (hc : p.r.At.length < 1000000) (rel : Rel p.d p.r) (hN : InI a.N) :
    CallR Try.prog 14 [.pointer (some ⟨bx, 0, none⟩), .agg #[.int .i64 a.Kind, .int .i64 a.At, .int .i64 a.N, bv a.By, .slice A a.Kept.length cap]] w0 (fun v w' => v = .bool true ∧ ∃ F', BkIs bx w' (p.act a) F' ∧ Turn w0 w' F F') := by
  have hs1 := Sep.one (o := obBk bx) (Z := fun b => D b ∧ b < w0.heap.size) h (fun _ h => h.2) (fun b hb h => hD b hb h.1)
  obtain ⟨b_d, F_d, b_r, F_r, hs2⟩ := Sep.openBk hs1
  have hs0 := hs2.fact (t := iData (dSlice dInt) [.slice A a.Kept.length cap] a.Kept) ((dSlice dInt).weak hk (fun b h1 h2 => ⟨h1, h2⟩)) sData rfl rfl
  have hkl := dSlice_len hk
  have hbl := bytes_len a
  refine Call1 Try.func14 rfl rfl rfl rfl ?_
  refine W_seq ?_
  refine W_region ?_
  refine Z_box hs0 rfl ?_
  intro b1 w2 hs3
  have hs3 : Sep F w0 (fun b => D b ∧ b < w0.heap.size) w2 [iOwn b1 39 [.int .i64 a.Kind, .int .i64 a.At, .int .i64 a.N, bv a.By, .slice A a.Kept.length cap] [], iData (dSlice dInt) [.slice A a.Kept.length cap] a.Kept, iOwn bx 36 [.pointer (some ⟨b_d, 0, none⟩), .pointer (some ⟨b_r, 0, none⟩)] F, iOb (obDk b_d) p.d F_d F, iOb (obRk b_r) p.r F_r F] := hs3
  refine S_assign rfl ?_
  refine WL_nil ?_
  refine W_seq ?_
  refine W_seq ?_
  refine W_region ?_
  refine S_fieldAddr Try.runUnderlying39 rfl Try.sizeOf3 rfl rfl ?_
  refine S_load1 Try.isAgg3 rfl (Own.at (hs3.at 0 rfl) rfl) rfl ?_
  refine WL_nil ?_
  refine W_block ?_
  refine W_seq ?_
  refine W_region ?_
  refine S_eql rfl rfl rfl ?_
  refine S_assign rfl ?_
  refine WL_nil ?_
  refine W_cond rfl (fun h4 => ?_) (fun h4 => ?_)
  ·
    have p5 := of_decide_eq_true h4
    refine W_seq ?_
    refine W_live (L := [(0, .pointer (some ⟨bx, 0, none⟩)), (3, .pointer (some ⟨b1, 0, none⟩))]) ⟨rfl, rfl, trivial⟩ ?_
    intro g6
    refine W_region_J (fun dN vL w => ∃ (A7 : Option Addr) (cap8 : Nat) (bs9 : List Nat) (F17 : List Nat) (A24 : Option Addr) (cap25 : Nat) (bs26 : List Nat) (F34 : List Nat), Sep F w0 (fun b => D b ∧ b < w0.heap.size) w [(bif dN 17 then (iAc dByte (.slice A24 a.bytes.length cap25) a.bytes bs26 []) else iNil), (bif dN 7 then (iAc dByte (.slice A7 a.bytes.length cap8) a.bytes bs9 []) else iNil), iOwn b1 39 [.int .i64 a.Kind, .int .i64 a.At, .int .i64 a.N, bv a.By, .slice A a.Kept.length cap] [], iData (dSlice dInt) [.slice A a.Kept.length cap] a.Kept, iOwn bx 36 [.pointer (some ⟨b_d, 0, none⟩), .pointer (some ⟨b_r, 0, none⟩)] F, (bif dN 8 then (iOb (obDk b_d) ((p.d.write a.At a.bytes).2) F17 F) else (iOb (obDk b_d) p.d F_d F)), (bif dN 19 then (iOb (obRk b_r) ((p.r.write a.At a.bytes).2) F34 F) else (iOb (obRk b_r) p.r F_r F))] ∧ (dN 0 = true → vL 0 = .pointer (some ⟨bx, 0, none⟩)) ∧ (dN 1 = true → vL 1 = .pointer (some ⟨bx, 0, none⟩)) ∧ (dN 2 = true → vL 2 = .pointer (some ⟨bx, 0, none⟩)) ∧ (dN 3 = true → vL 3 = .pointer (some ⟨b_d, 0, none⟩)) ∧ (dN 4 = true → vL 4 = .pointer (some ⟨b1, 1, none⟩)) ∧ (dN 5 = true → vL 5 = .int .i64 a.At) ∧ (dN 6 = true → vL 6 = .agg #[.int .i64 a.Kind, .int .i64 a.At, .int .i64 a.N, bv a.By, .slice A a.Kept.length cap]) ∧ (dN 7 = true → vL 7 = .slice A7 a.bytes.length cap8) ∧ (dN 8 = true → vL 8 = errv 64 ((p.d.write a.At a.bytes).1)) ∧ (dN 9 = true → vL 9 = .int .i64 ((p.d.write a.At a.bytes).1)) ∧ (dN 10 = true → vL 10 = .pointer (some ⟨bx, 0, none⟩)) ∧ (dN 11 = true → vL 11 = .pointer (some ⟨bx, 0, none⟩)) ∧ (dN 12 = true → vL 12 = .pointer (some ⟨bx, 1, none⟩)) ∧ (dN 13 = true → vL 13 = .pointer (some ⟨b_r, 0, none⟩)) ∧ (dN 14 = true → vL 14 = .pointer (some ⟨b1, 1, none⟩)) ∧ (dN 15 = true → vL 15 = .int .i64 a.At) ∧ (dN 16 = true → vL 16 = .agg #[.int .i64 a.Kind, .int .i64 a.At, .int .i64 a.N, bv a.By, .slice A a.Kept.length cap]) ∧ (dN 17 = true → vL 17 = .slice A24 a.bytes.length cap25) ∧ (dN 18 = true → vL 18 = sv a.bytes) ∧ (dN 19 = true → vL 19 = .int .i64 ((p.r.write a.At a.bytes).1)) ∧ (dN 20 = true → vL 20 = .bool true) ∧ (dN 21 = true → vL 21 = .bool true) ∧ True) [4, 13, 14, 15, 16, 17, 18, 19, 20, 21, 22, 23, 24, 25, 26, 27, 28, 29, 30, 31, 32, 33] rfl (by decide +kernel) _ rfl ?_ ?_ ?_
    · exact fun V => ⟨none, 0, [], [], none, 0, [], [], (Sep.nilA (Sep.nilA hs3)), (fun h => by cases h), (fun h => by cases h), (fun h => by cases h), (fun h => by cases h), (fun h => by cases h), (fun h => by cases h), (fun h => by cases h), (fun h => by cases h), (fun h => by cases h), (fun h => by cases h), (fun h => by cases h), (fun h => by cases h), (fun h => by cases h), (fun h => by cases h), (fun h => by cases h), (fun h => by cases h), (fun h => by cases h), (fun h => by cases h), (fun h => by cases h), (fun h => by cases h), (fun h => by cases h), (fun h => by cases h), trivial⟩
    · refine (.cons ?_ (.cons ?_ (.cons ?_ (.cons ?_ (.cons ?_ (.cons ?_ (.cons ?_ (.cons ?_ (.cons ?_ (.cons ?_ (.cons ?_ (.cons ?_ (.cons ?_ (.cons ?_ (.cons ?_ (.cons ?_ (.cons ?_ (.cons ?_ (.cons ?_ (.cons ?_ (.cons ?_ (.cons ?_ .nil))))))))))))))))))))))
      ·
        rintro dN vL g41 w42 ⟨A7, cap8, bs9, F17, A24, cap25, bs26, F34, hs43, v49, v50, v51, v52, v53, v54, v55, v56, v57, v58, v59, v60, v61, v62, v63, v64, v65, v66, v67, v68, v69, v70, _⟩ hD44 hd45 hu46 hg47 hk48
        have e71 : dN 8 = false := hu46 8 (by decide +kernel)
        have e72 : dN 17 = false := hu46 17 (by decide +kernel)
        have e73 : dN 19 = false := hu46 19 (by decide +kernel)
        rw [e71, e72, e73] at hs43
        have hs74 : Sep F w0 (fun b => D b ∧ b < w0.heap.size) w42 [iNil, (bif dN 7 then (iAc dByte (.slice A7 a.bytes.length cap8) a.bytes bs9 []) else iNil), iOwn b1 39 [.int .i64 a.Kind, .int .i64 a.At, .int .i64 a.N, bv a.By, .slice A a.Kept.length cap] [], iData (dSlice dInt) [.slice A a.Kept.length cap] a.Kept, iOwn bx 36 [.pointer (some ⟨b_d, 0, none⟩), .pointer (some ⟨b_r, 0, none⟩)] F, iOb (obDk b_d) p.d F_d F, iOb (obRk b_r) p.r F_r F] := hs43
        refine WL_at (L := [(0, .pointer (some ⟨bx, 0, none⟩))]) ⟨(hk48 0 (by decide +kernel)), trivial⟩ ?_
        refine S_move rfl ?_
        have hs75 : Sep F w0 (fun b => D b ∧ b < w0.heap.size) w42 [(bif dN 17 then (iAc dByte (.slice A24 a.bytes.length cap25) a.bytes bs26 []) else iNil), (bif dN 7 then (iAc dByte (.slice A7 a.bytes.length cap8) a.bytes bs9 []) else iNil), iOwn b1 39 [.int .i64 a.Kind, .int .i64 a.At, .int .i64 a.N, bv a.By, .slice A a.Kept.length cap] [], iData (dSlice dInt) [.slice A a.Kept.length cap] a.Kept, iOwn bx 36 [.pointer (some ⟨b_d, 0, none⟩), .pointer (some ⟨b_r, 0, none⟩)] F, (bif dN 8 then (iOb (obDk b_d) ((p.d.write a.At a.bytes).2) F17 F) else (iOb (obDk b_d) p.d F_d F)), (bif dN 19 then (iOb (obRk b_r) ((p.r.write a.At a.bytes).2) F34 F) else (iOb (obRk b_r) p.r F_r F))] := by rw [e71, e72, e73]; exact hs74
        exact WL_nil ⟨rfl, _, rfl, A7, cap8, bs9, F17, A24, cap25, bs26, F34, hs75, (fun _ => rfl), v50, v51, v52, v53, v54, v55, v56, v57, v58, v59, v60, v61, v62, v63, v64, v65, v66, v67, v68, v69, v70, trivial⟩
      ·
        rintro dN vL g76 w77 ⟨A7, cap8, bs9, F17, A24, cap25, bs26, F34, hs78, v84, v85, v86, v87, v88, v89, v90, v91, v92, v93, v94, v95, v96, v97, v98, v99, v100, v101, v102, v103, v104, v105, _⟩ hD79 hd80 hu81 hg82 hk83
        have e106 : dN 0 = true := hd80 0 (by decide +kernel)
        have e107 : dN 8 = false := hu81 8 (by decide +kernel)
        have e108 : dN 17 = false := hu81 17 (by decide +kernel)
        have e109 : dN 19 = false := hu81 19 (by decide +kernel)
        rw [e107, e108, e109] at hs78
        have hs110 : Sep F w0 (fun b => D b ∧ b < w0.heap.size) w77 [iNil, (bif dN 7 then (iAc dByte (.slice A7 a.bytes.length cap8) a.bytes bs9 []) else iNil), iOwn b1 39 [.int .i64 a.Kind, .int .i64 a.At, .int .i64 a.N, bv a.By, .slice A a.Kept.length cap] [], iData (dSlice dInt) [.slice A a.Kept.length cap] a.Kept, iOwn bx 36 [.pointer (some ⟨b_d, 0, none⟩), .pointer (some ⟨b_r, 0, none⟩)] F, iOb (obDk b_d) p.d F_d F, iOb (obRk b_r) p.r F_r F] := hs78
        refine WL_at (L := [(13, .pointer (some ⟨bx, 0, none⟩))]) ⟨((hg82 0 13 e106 rfl).trans (v84 e106)), trivial⟩ ?_
        refine S_nilCheck rfl rfl ?_
        have hs111 : Sep F w0 (fun b => D b ∧ b < w0.heap.size) w77 [(bif dN 17 then (iAc dByte (.slice A24 a.bytes.length cap25) a.bytes bs26 []) else iNil), (bif dN 7 then (iAc dByte (.slice A7 a.bytes.length cap8) a.bytes bs9 []) else iNil), iOwn b1 39 [.int .i64 a.Kind, .int .i64 a.At, .int .i64 a.N, bv a.By, .slice A a.Kept.length cap] [], iData (dSlice dInt) [.slice A a.Kept.length cap] a.Kept, iOwn bx 36 [.pointer (some ⟨b_d, 0, none⟩), .pointer (some ⟨b_r, 0, none⟩)] F, (bif dN 8 then (iOb (obDk b_d) ((p.d.write a.At a.bytes).2) F17 F) else (iOb (obDk b_d) p.d F_d F)), (bif dN 19 then (iOb (obRk b_r) ((p.r.write a.At a.bytes).2) F34 F) else (iOb (obRk b_r) p.r F_r F))] := by rw [e107, e108, e109]; exact hs110
        exact WL_nil ⟨rfl, _, rfl, A7, cap8, bs9, F17, A24, cap25, bs26, F34, hs111, v84, (fun _ => rfl), v86, v87, v88, v89, v90, v91, v92, v93, v94, v95, v96, v97, v98, v99, v100, v101, v102, v103, v104, v105, trivial⟩
      ·
        rintro dN vL g112 w113 ⟨A7, cap8, bs9, F17, A24, cap25, bs26, F34, hs114, v120, v121, v122, v123, v124, v125, v126, v127, v128, v129, v130, v131, v132, v133, v134, v135, v136, v137, v138, v139, v140, v141, _⟩ hD115 hd116 hu117 hg118 hk119
        have e142 : dN 1 = true := hd116 1 (by decide +kernel)
        have e143 : dN 8 = false := hu117 8 (by decide +kernel)
        have e144 : dN 17 = false := hu117 17 (by decide +kernel)
        have e145 : dN 19 = false := hu117 19 (by decide +kernel)
        rw [e143, e144, e145] at hs114
        have hs146 : Sep F w0 (fun b => D b ∧ b < w0.heap.size) w113 [iNil, (bif dN 7 then (iAc dByte (.slice A7 a.bytes.length cap8) a.bytes bs9 []) else iNil), iOwn b1 39 [.int .i64 a.Kind, .int .i64 a.At, .int .i64 a.N, bv a.By, .slice A a.Kept.length cap] [], iData (dSlice dInt) [.slice A a.Kept.length cap] a.Kept, iOwn bx 36 [.pointer (some ⟨b_d, 0, none⟩), .pointer (some ⟨b_r, 0, none⟩)] F, iOb (obDk b_d) p.d F_d F, iOb (obRk b_r) p.r F_r F] := hs114
        refine WL_at (L := [(14, .pointer (some ⟨bx, 0, none⟩))]) ⟨((hg118 1 14 e142 rfl).trans (v121 e142)), trivial⟩ ?_
        refine S_fieldAddr Try.runUnderlying36 rfl Try.sizeOf23 rfl rfl ?_
        have hs147 : Sep F w0 (fun b => D b ∧ b < w0.heap.size) w113 [(bif dN 17 then (iAc dByte (.slice A24 a.bytes.length cap25) a.bytes bs26 []) else iNil), (bif dN 7 then (iAc dByte (.slice A7 a.bytes.length cap8) a.bytes bs9 []) else iNil), iOwn b1 39 [.int .i64 a.Kind, .int .i64 a.At, .int .i64 a.N, bv a.By, .slice A a.Kept.length cap] [], iData (dSlice dInt) [.slice A a.Kept.length cap] a.Kept, iOwn bx 36 [.pointer (some ⟨b_d, 0, none⟩), .pointer (some ⟨b_r, 0, none⟩)] F, (bif dN 8 then (iOb (obDk b_d) ((p.d.write a.At a.bytes).2) F17 F) else (iOb (obDk b_d) p.d F_d F)), (bif dN 19 then (iOb (obRk b_r) ((p.r.write a.At a.bytes).2) F34 F) else (iOb (obRk b_r) p.r F_r F))] := by rw [e143, e144, e145]; exact hs146
        exact WL_nil ⟨rfl, _, rfl, A7, cap8, bs9, F17, A24, cap25, bs26, F34, hs147, v120, v121, (fun _ => rfl), v123, v124, v125, v126, v127, v128, v129, v130, v131, v132, v133, v134, v135, v136, v137, v138, v139, v140, v141, trivial⟩
      ·
        rintro dN vL g148 w149 ⟨A7, cap8, bs9, F17, A24, cap25, bs26, F34, hs150, v156, v157, v158, v159, v160, v161, v162, v163, v164, v165, v166, v167, v168, v169, v170, v171, v172, v173, v174, v175, v176, v177, _⟩ hD151 hd152 hu153 hg154 hk155
        have e178 : dN 2 = true := hd152 2 (by decide +kernel)
        have e179 : dN 8 = false := hu153 8 (by decide +kernel)
        have e180 : dN 17 = false := hu153 17 (by decide +kernel)
        have e181 : dN 19 = false := hu153 19 (by decide +kernel)
        rw [e179, e180, e181] at hs150
        have hs182 : Sep F w0 (fun b => D b ∧ b < w0.heap.size) w149 [iNil, (bif dN 7 then (iAc dByte (.slice A7 a.bytes.length cap8) a.bytes bs9 []) else iNil), iOwn b1 39 [.int .i64 a.Kind, .int .i64 a.At, .int .i64 a.N, bv a.By, .slice A a.Kept.length cap] [], iData (dSlice dInt) [.slice A a.Kept.length cap] a.Kept, iOwn bx 36 [.pointer (some ⟨b_d, 0, none⟩), .pointer (some ⟨b_r, 0, none⟩)] F, iOb (obDk b_d) p.d F_d F, iOb (obRk b_r) p.r F_r F] := hs150
        refine WL_at (L := [(15, .pointer (some ⟨bx, 0, none⟩))]) ⟨((hg154 2 15 e178 rfl).trans (v158 e178)), trivial⟩ ?_
        refine S_load1 Try.isAgg23 rfl (Own.at (hs182.at 4 rfl) rfl) rfl ?_
        have hs183 : Sep F w0 (fun b => D b ∧ b < w0.heap.size) w149 [(bif dN 17 then (iAc dByte (.slice A24 a.bytes.length cap25) a.bytes bs26 []) else iNil), (bif dN 7 then (iAc dByte (.slice A7 a.bytes.length cap8) a.bytes bs9 []) else iNil), iOwn b1 39 [.int .i64 a.Kind, .int .i64 a.At, .int .i64 a.N, bv a.By, .slice A a.Kept.length cap] [], iData (dSlice dInt) [.slice A a.Kept.length cap] a.Kept, iOwn bx 36 [.pointer (some ⟨b_d, 0, none⟩), .pointer (some ⟨b_r, 0, none⟩)] F, (bif dN 8 then (iOb (obDk b_d) ((p.d.write a.At a.bytes).2) F17 F) else (iOb (obDk b_d) p.d F_d F)), (bif dN 19 then (iOb (obRk b_r) ((p.r.write a.At a.bytes).2) F34 F) else (iOb (obRk b_r) p.r F_r F))] := by rw [e179, e180, e181]; exact hs182
        exact WL_nil ⟨rfl, _, rfl, A7, cap8, bs9, F17, A24, cap25, bs26, F34, hs183, v156, v157, v158, (fun _ => rfl), v160, v161, v162, v163, v164, v165, v166, v167, v168, v169, v170, v171, v172, v173, v174, v175, v176, v177, trivial⟩
      ·
        rintro dN vL g184 w185 ⟨A7, cap8, bs9, F17, A24, cap25, bs26, F34, hs186, v192, v193, v194, v195, v196, v197, v198, v199, v200, v201, v202, v203, v204, v205, v206, v207, v208, v209, v210, v211, v212, v213, _⟩ hD187 hd188 hu189 hg190 hk191
        have e214 : dN 8 = false := hu189 8 (by decide +kernel)
        have e215 : dN 17 = false := hu189 17 (by decide +kernel)
        have e216 : dN 19 = false := hu189 19 (by decide +kernel)
        rw [e214, e215, e216] at hs186
        have hs217 : Sep F w0 (fun b => D b ∧ b < w0.heap.size) w185 [iNil, (bif dN 7 then (iAc dByte (.slice A7 a.bytes.length cap8) a.bytes bs9 []) else iNil), iOwn b1 39 [.int .i64 a.Kind, .int .i64 a.At, .int .i64 a.N, bv a.By, .slice A a.Kept.length cap] [], iData (dSlice dInt) [.slice A a.Kept.length cap] a.Kept, iOwn bx 36 [.pointer (some ⟨b_d, 0, none⟩), .pointer (some ⟨b_r, 0, none⟩)] F, iOb (obDk b_d) p.d F_d F, iOb (obRk b_r) p.r F_r F] := hs186
        refine WL_at (L := [(3, .pointer (some ⟨b1, 0, none⟩))]) ⟨(hk191 3 (by decide +kernel)), trivial⟩ ?_
        refine S_fieldAddr Try.runUnderlying39 rfl Try.sizeOf3 rfl rfl ?_
        have hs218 : Sep F w0 (fun b => D b ∧ b < w0.heap.size) w185 [(bif dN 17 then (iAc dByte (.slice A24 a.bytes.length cap25) a.bytes bs26 []) else iNil), (bif dN 7 then (iAc dByte (.slice A7 a.bytes.length cap8) a.bytes bs9 []) else iNil), iOwn b1 39 [.int .i64 a.Kind, .int .i64 a.At, .int .i64 a.N, bv a.By, .slice A a.Kept.length cap] [], iData (dSlice dInt) [.slice A a.Kept.length cap] a.Kept, iOwn bx 36 [.pointer (some ⟨b_d, 0, none⟩), .pointer (some ⟨b_r, 0, none⟩)] F, (bif dN 8 then (iOb (obDk b_d) ((p.d.write a.At a.bytes).2) F17 F) else (iOb (obDk b_d) p.d F_d F)), (bif dN 19 then (iOb (obRk b_r) ((p.r.write a.At a.bytes).2) F34 F) else (iOb (obRk b_r) p.r F_r F))] := by rw [e214, e215, e216]; exact hs217
        exact WL_nil ⟨rfl, _, rfl, A7, cap8, bs9, F17, A24, cap25, bs26, F34, hs218, v192, v193, v194, v195, (fun _ => rfl), v197, v198, v199, v200, v201, v202, v203, v204, v205, v206, v207, v208, v209, v210, v211, v212, v213, trivial⟩
      ·
        rintro dN vL g219 w220 ⟨A7, cap8, bs9, F17, A24, cap25, bs26, F34, hs221, v227, v228, v229, v230, v231, v232, v233, v234, v235, v236, v237, v238, v239, v240, v241, v242, v243, v244, v245, v246, v247, v248, _⟩ hD222 hd223 hu224 hg225 hk226
        have e249 : dN 4 = true := hd223 4 (by decide +kernel)
        have e250 : dN 8 = false := hu224 8 (by decide +kernel)
        have e251 : dN 17 = false := hu224 17 (by decide +kernel)
        have e252 : dN 19 = false := hu224 19 (by decide +kernel)
        rw [e250, e251, e252] at hs221
        have hs253 : Sep F w0 (fun b => D b ∧ b < w0.heap.size) w220 [iNil, (bif dN 7 then (iAc dByte (.slice A7 a.bytes.length cap8) a.bytes bs9 []) else iNil), iOwn b1 39 [.int .i64 a.Kind, .int .i64 a.At, .int .i64 a.N, bv a.By, .slice A a.Kept.length cap] [], iData (dSlice dInt) [.slice A a.Kept.length cap] a.Kept, iOwn bx 36 [.pointer (some ⟨b_d, 0, none⟩), .pointer (some ⟨b_r, 0, none⟩)] F, iOb (obDk b_d) p.d F_d F, iOb (obRk b_r) p.r F_r F] := hs221
        refine WL_at (L := [(17, .pointer (some ⟨b1, 1, none⟩))]) ⟨((hg225 4 17 e249 rfl).trans (v231 e249)), trivial⟩ ?_
        refine S_load1 Try.isAgg3 rfl (Own.at (hs253.at 2 rfl) rfl) rfl ?_
        have hs254 : Sep F w0 (fun b => D b ∧ b < w0.heap.size) w220 [(bif dN 17 then (iAc dByte (.slice A24 a.bytes.length cap25) a.bytes bs26 []) else iNil), (bif dN 7 then (iAc dByte (.slice A7 a.bytes.length cap8) a.bytes bs9 []) else iNil), iOwn b1 39 [.int .i64 a.Kind, .int .i64 a.At, .int .i64 a.N, bv a.By, .slice A a.Kept.length cap] [], iData (dSlice dInt) [.slice A a.Kept.length cap] a.Kept, iOwn bx 36 [.pointer (some ⟨b_d, 0, none⟩), .pointer (some ⟨b_r, 0, none⟩)] F, (bif dN 8 then (iOb (obDk b_d) ((p.d.write a.At a.bytes).2) F17 F) else (iOb (obDk b_d) p.d F_d F)), (bif dN 19 then (iOb (obRk b_r) ((p.r.write a.At a.bytes).2) F34 F) else (iOb (obRk b_r) p.r F_r F))] := by rw [e250, e251, e252]; exact hs253
        exact WL_nil ⟨rfl, _, rfl, A7, cap8, bs9, F17, A24, cap25, bs26, F34, hs254, v227, v228, v229, v230, v231, (fun _ => rfl), v233, v234, v235, v236, v237, v238, v239, v240, v241, v242, v243, v244, v245, v246, v247, v248, trivial⟩
      ·
        rintro dN vL g255 w256 ⟨A7, cap8, bs9, F17, A24, cap25, bs26, F34, hs257, v263, v264, v265, v266, v267, v268, v269, v270, v271, v272, v273, v274, v275, v276, v277, v278, v279, v280, v281, v282, v283, v284, _⟩ hD258 hd259 hu260 hg261 hk262
        have e285 : dN 7 = false := hu260 7 (by decide +kernel)
        have e286 : dN 8 = false := hu260 8 (by decide +kernel)
        have e287 : dN 17 = false := hu260 17 (by decide +kernel)
        have e288 : dN 19 = false := hu260 19 (by decide +kernel)
        rw [e286, e287, e288, e285] at hs257
        have hs289 : Sep F w0 (fun b => D b ∧ b < w0.heap.size) w256 [iNil, iNil, iOwn b1 39 [.int .i64 a.Kind, .int .i64 a.At, .int .i64 a.N, bv a.By, .slice A a.Kept.length cap] [], iData (dSlice dInt) [.slice A a.Kept.length cap] a.Kept, iOwn bx 36 [.pointer (some ⟨b_d, 0, none⟩), .pointer (some ⟨b_r, 0, none⟩)] F, iOb (obDk b_d) p.d F_d F, iOb (obRk b_r) p.r F_r F] := hs257
        refine WL_at (L := [(3, .pointer (some ⟨b1, 0, none⟩))]) ⟨(hk262 3 (by decide +kernel)), trivial⟩ ?_
        refine S_loadAgg Try.isAgg39 Try.sizeOf39 rfl rfl (Own.cells (hs289.at 2 rfl) 0 [.int .i64 a.Kind, .int .i64 a.At, .int .i64 a.N, bv a.By, .slice A a.Kept.length cap] _ rfl) rfl ?_
        have hs290 : Sep F w0 (fun b => D b ∧ b < w0.heap.size) w256 [(bif dN 17 then (iAc dByte (.slice A24 a.bytes.length cap25) a.bytes bs26 []) else iNil), (bif dN 7 then (iAc dByte (.slice A7 a.bytes.length cap8) a.bytes bs9 []) else iNil), iOwn b1 39 [.int .i64 a.Kind, .int .i64 a.At, .int .i64 a.N, bv a.By, .slice A a.Kept.length cap] [], iData (dSlice dInt) [.slice A a.Kept.length cap] a.Kept, iOwn bx 36 [.pointer (some ⟨b_d, 0, none⟩), .pointer (some ⟨b_r, 0, none⟩)] F, (bif dN 8 then (iOb (obDk b_d) ((p.d.write a.At a.bytes).2) F17 F) else (iOb (obDk b_d) p.d F_d F)), (bif dN 19 then (iOb (obRk b_r) ((p.r.write a.At a.bytes).2) F34 F) else (iOb (obRk b_r) p.r F_r F))] := by rw [e286, e287, e288, e285]; exact hs289
        exact WL_nil ⟨rfl, _, rfl, A7, cap8, bs9, F17, A24, cap25, bs26, F34, hs290, v263, v264, v265, v266, v267, v268, (fun _ => rfl), v270, v271, v272, v273, v274, v275, v276, v277, v278, v279, v280, v281, v282, v283, v284, trivial⟩
      ·
        rintro dN vL g291 w292 ⟨A7, cap8, bs9, F17, A24, cap25, bs26, F34, hs293, v299, v300, v301, v302, v303, v304, v305, v306, v307, v308, v309, v310, v311, v312, v313, v314, v315, v316, v317, v318, v319, v320, _⟩ hD294 hd295 hu296 hg297 hk298
        have e321 : dN 6 = true := hd295 6 (by decide +kernel)
        have e322 : dN 7 = false := hD294
        have e323 : dN 8 = false := hu296 8 (by decide +kernel)
        have e324 : dN 17 = false := hu296 17 (by decide +kernel)
        have e325 : dN 19 = false := hu296 19 (by decide +kernel)
        rw [e323, e324, e325, e322] at hs293
        have hs326 : Sep F w0 (fun b => D b ∧ b < w0.heap.size) w292 [iNil, iNil, iOwn b1 39 [.int .i64 a.Kind, .int .i64 a.At, .int .i64 a.N, bv a.By, .slice A a.Kept.length cap] [], iData (dSlice dInt) [.slice A a.Kept.length cap] a.Kept, iOwn bx 36 [.pointer (some ⟨b_d, 0, none⟩), .pointer (some ⟨b_r, 0, none⟩)] F, iOb (obDk b_d) p.d F_d F, iOb (obRk b_r) p.r F_r F] := hs293
        refine WL_at (L := [(19, .agg #[.int .i64 a.Kind, .int .i64 a.At, .int .i64 a.N, bv a.By, .slice A a.Kept.length cap])]) ⟨((hg297 6 19 e321 rfl).trans (v305 e321)), trivial⟩ ?_
        have hz334 := bytes_ok (w0 := w292) (A := A) (cap := cap) a
        refine S_call3 Try.call29 rfl hz334 rfl ?_
        rintro A327 cap328 bs329 w330 ⟨ha331, e332, hf333⟩
        have hs335 : Sep F w0 (fun b => D b ∧ b < w0.heap.size) w330 [iAc dByte (.slice A327 a.bytes.length cap328) a.bytes bs329 [], iNil, iNil, iOwn b1 39 [.int .i64 a.Kind, .int .i64 a.At, .int .i64 a.N, bv a.By, .slice A a.Kept.length cap] [], iData (dSlice dInt) [.slice A a.Kept.length cap] a.Kept, iOwn bx 36 [.pointer (some ⟨b_d, 0, none⟩), .pointer (some ⟨b_r, 0, none⟩)] F, iOb (obDk b_d) p.d F_d F, iOb (obRk b_r) p.r F_r F] := hs326.madeAc e332 ha331 hf333
        have hs336 : Sep F w0 (fun b => D b ∧ b < w0.heap.size) w330 [(bif dN 17 then (iAc dByte (.slice A24 a.bytes.length cap25) a.bytes bs26 []) else iNil), iAc dByte (.slice A327 a.bytes.length cap328) a.bytes bs329 [], iOwn b1 39 [.int .i64 a.Kind, .int .i64 a.At, .int .i64 a.N, bv a.By, .slice A a.Kept.length cap] [], iData (dSlice dInt) [.slice A a.Kept.length cap] a.Kept, iOwn bx 36 [.pointer (some ⟨b_d, 0, none⟩), .pointer (some ⟨b_r, 0, none⟩)] F, (bif dN 8 then (iOb (obDk b_d) ((p.d.write a.At a.bytes).2) F17 F) else (iOb (obDk b_d) p.d F_d F)), (bif dN 19 then (iOb (obRk b_r) ((p.r.write a.At a.bytes).2) F34 F) else (iOb (obRk b_r) p.r F_r F))] := by rw [e323, e324, e325]; exact (hs335.pick [1, 0, 3, 4, 5, 6, 7] rfl (by decide) rfl)
        exact WL_nil ⟨rfl, _, rfl, A327, cap328, bs329, F17, A24, cap25, bs26, F34, hs336, v299, v300, v301, v302, v303, v304, v305, (fun _ => rfl), v307, v308, v309, v310, v311, v312, v313, v314, v315, v316, v317, v318, v319, v320, trivial⟩
      ·
        rintro dN vL g337 w338 ⟨A7, cap8, bs9, F17, A24, cap25, bs26, F34, hs339, v345, v346, v347, v348, v349, v350, v351, v352, v353, v354, v355, v356, v357, v358, v359, v360, v361, v362, v363, v364, v365, v366, _⟩ hD340 hd341 hu342 hg343 hk344
        have e367 : dN 3 = true := hd341 3 (by decide +kernel)
        have e368 : dN 5 = true := hd341 5 (by decide +kernel)
        have e369 : dN 7 = true := hd341 7 (by decide +kernel)
        have e370 : dN 8 = false := hD340
        have e371 : dN 17 = false := hu342 17 (by decide +kernel)
        have e372 : dN 19 = false := hu342 19 (by decide +kernel)
        rw [e370, e371, e372, e369] at hs339
        have hs373 : Sep F w0 (fun b => D b ∧ b < w0.heap.size) w338 [iNil, iAc dByte (.slice A7 a.bytes.length cap8) a.bytes bs9 [], iOwn b1 39 [.int .i64 a.Kind, .int .i64 a.At, .int .i64 a.N, bv a.By, .slice A a.Kept.length cap] [], iData (dSlice dInt) [.slice A a.Kept.length cap] a.Kept, iOwn bx 36 [.pointer (some ⟨b_d, 0, none⟩), .pointer (some ⟨b_r, 0, none⟩)] F, iOb (obDk b_d) p.d F_d F, iOb (obRk b_r) p.r F_r F] := hs339
        refine WL_at (L := [(16, .pointer (some ⟨b_d, 0, none⟩)), (18, .int .i64 a.At), (20, .slice A7 a.bytes.length cap8)]) ⟨((hg343 3 16 e367 rfl).trans (v348 e367)), ((hg343 5 18 e368 rfl).trans (v350 e368)), ((hg343 7 20 e369 rfl).trans (v352 e369)), trivial⟩ ?_
        have hz378 := write_okn (hs373.at 5 rfl) okd (fun b hb h => h.elim (hs373.nz 5 rfl b hb) (hs373.ap 5 1 rfl rfl rfl b hb)) (Ac.rd (hs373.at 1 rfl) (by omega)) a.At
        refine S_callE Try.call25 rfl hz378 rfl ?_
        rintro w374 ⟨F375, h376, t377⟩
        have hs379 : Sep F w0 (fun b => D b ∧ b < w0.heap.size) w374 [iNil, iAc dByte (.slice A7 a.bytes.length cap8) a.bytes bs9 [], iOwn b1 39 [.int .i64 a.Kind, .int .i64 a.At, .int .i64 a.N, bv a.By, .slice A a.Kept.length cap] [], iData (dSlice dInt) [.slice A a.Kept.length cap] a.Kept, iOwn bx 36 [.pointer (some ⟨b_d, 0, none⟩), .pointer (some ⟨b_r, 0, none⟩)] F, iOb (obDk b_d) ((p.d.write a.At a.bytes).2) F375 F, iOb (obRk b_r) p.r F_r F] := hs373.turn 5 rfl h376 t377
        have hs381 : Sep F w0 (fun b => D b ∧ b < w0.heap.size) w374 [(bif dN 17 then (iAc dByte (.slice A24 a.bytes.length cap25) a.bytes bs26 []) else iNil), (bif dN 7 then (iAc dByte (.slice A7 a.bytes.length cap8) a.bytes bs9 []) else iNil), iOwn b1 39 [.int .i64 a.Kind, .int .i64 a.At, .int .i64 a.N, bv a.By, .slice A a.Kept.length cap] [], iData (dSlice dInt) [.slice A a.Kept.length cap] a.Kept, iOwn bx 36 [.pointer (some ⟨b_d, 0, none⟩), .pointer (some ⟨b_r, 0, none⟩)] F, iOb (obDk b_d) ((p.d.write a.At a.bytes).2) F375 F, (bif dN 19 then (iOb (obRk b_r) ((p.r.write a.At a.bytes).2) F34 F) else (iOb (obRk b_r) p.r F_r F))] := by rw [e371, e372, e369]; exact hs379
        exact WL_nil ⟨rfl, _, rfl, A7, cap8, bs9, F375, A24, cap25, bs26, F34, hs381, v345, v346, v347, v348, v349, v350, v351, v352, (fun _ => rfl), v354, v355, v356, v357, v358, v359, v360, v361, v362, v363, v364, v365, v366, trivial⟩
      ·
        rintro dN vL g382 w383 ⟨A7, cap8, bs9, F17, A24, cap25, bs26, F34, hs384, v390, v391, v392, v393, v394, v395, v396, v397, v398, v399, v400, v401, v402, v403, v404, v405, v406, v407, v408, v409, v410, v411, _⟩ hD385 hd386 hu387 hg388 hk389
        have e412 : dN 7 = true := hd386 7 (by decide +kernel)
        have e413 : dN 8 = true := hd386 8 (by decide +kernel)
        have e414 : dN 17 = false := hu387 17 (by decide +kernel)
        have e415 : dN 19 = false := hu387 19 (by decide +kernel)
        rw [e413, e414, e415, e412] at hs384
        have hs416 : Sep F w0 (fun b => D b ∧ b < w0.heap.size) w383 [iNil, iAc dByte (.slice A7 a.bytes.length cap8) a.bytes bs9 [], iOwn b1 39 [.int .i64 a.Kind, .int .i64 a.At, .int .i64 a.N, bv a.By, .slice A a.Kept.length cap] [], iData (dSlice dInt) [.slice A a.Kept.length cap] a.Kept, iOwn bx 36 [.pointer (some ⟨b_d, 0, none⟩), .pointer (some ⟨b_r, 0, none⟩)] F, iOb (obDk b_d) ((p.d.write a.At a.bytes).2) F17 F, iOb (obRk b_r) p.r F_r F] := hs384
        refine WL_at (L := [(21, errv 64 ((p.d.write a.At a.bytes).1))]) ⟨((hg388 8 21 e413 rfl).trans (v398 e413)), trivial⟩ ?_
        have hr417 : 0 ≤ ((p.d.write a.At a.bytes).1 : Int) ∧ ((p.d.write a.At a.bytes).1 : Int) ≤ 16 := (by first | exact write_range _ _ | exact flush_range | exact read_range _ | decide)
        refine S_callQ Try.call11 rfl (no_ok hr417.1 hr417.2) rfl ?_
        have hs418 : Sep F w0 (fun b => D b ∧ b < w0.heap.size) w383 [(bif dN 17 then (iAc dByte (.slice A24 a.bytes.length cap25) a.bytes bs26 []) else iNil), (bif dN 7 then (iAc dByte (.slice A7 a.bytes.length cap8) a.bytes bs9 []) else iNil), iOwn b1 39 [.int .i64 a.Kind, .int .i64 a.At, .int .i64 a.N, bv a.By, .slice A a.Kept.length cap] [], iData (dSlice dInt) [.slice A a.Kept.length cap] a.Kept, iOwn bx 36 [.pointer (some ⟨b_d, 0, none⟩), .pointer (some ⟨b_r, 0, none⟩)] F, (bif dN 8 then (iOb (obDk b_d) ((p.d.write a.At a.bytes).2) F17 F) else (iOb (obDk b_d) p.d F_d F)), (bif dN 19 then (iOb (obRk b_r) ((p.r.write a.At a.bytes).2) F34 F) else (iOb (obRk b_r) p.r F_r F))] := by rw [e413, e414, e415, e412]; exact hs416
        exact WL_nil ⟨rfl, _, rfl, A7, cap8, bs9, F17, A24, cap25, bs26, F34, hs418, v390, v391, v392, v393, v394, v395, v396, v397, v398, (fun _ => rfl), v400, v401, v402, v403, v404, v405, v406, v407, v408, v409, v410, v411, trivial⟩
      ·
        rintro dN vL g419 w420 ⟨A7, cap8, bs9, F17, A24, cap25, bs26, F34, hs421, v427, v428, v429, v430, v431, v432, v433, v434, v435, v436, v437, v438, v439, v440, v441, v442, v443, v444, v445, v446, v447, v448, _⟩ hD422 hd423 hu424 hg425 hk426
        have e449 : dN 19 = false := hu424 19 (by decide +kernel)
        rw [e449] at hs421
        have hs450 : Sep F w0 (fun b => D b ∧ b < w0.heap.size) w420 [(bif dN 17 then (iAc dByte (.slice A24 a.bytes.length cap25) a.bytes bs26 []) else iNil), (bif dN 7 then (iAc dByte (.slice A7 a.bytes.length cap8) a.bytes bs9 []) else iNil), iOwn b1 39 [.int .i64 a.Kind, .int .i64 a.At, .int .i64 a.N, bv a.By, .slice A a.Kept.length cap] [], iData (dSlice dInt) [.slice A a.Kept.length cap] a.Kept, iOwn bx 36 [.pointer (some ⟨b_d, 0, none⟩), .pointer (some ⟨b_r, 0, none⟩)] F, (bif dN 8 then (iOb (obDk b_d) ((p.d.write a.At a.bytes).2) F17 F) else (iOb (obDk b_d) p.d F_d F)), iOb (obRk b_r) p.r F_r F] := hs421
        refine WL_at (L := [(0, .pointer (some ⟨bx, 0, none⟩))]) ⟨(hk426 0 (by decide +kernel)), trivial⟩ ?_
        refine S_move rfl ?_
        have hs451 : Sep F w0 (fun b => D b ∧ b < w0.heap.size) w420 [(bif dN 17 then (iAc dByte (.slice A24 a.bytes.length cap25) a.bytes bs26 []) else iNil), (bif dN 7 then (iAc dByte (.slice A7 a.bytes.length cap8) a.bytes bs9 []) else iNil), iOwn b1 39 [.int .i64 a.Kind, .int .i64 a.At, .int .i64 a.N, bv a.By, .slice A a.Kept.length cap] [], iData (dSlice dInt) [.slice A a.Kept.length cap] a.Kept, iOwn bx 36 [.pointer (some ⟨b_d, 0, none⟩), .pointer (some ⟨b_r, 0, none⟩)] F, (bif dN 8 then (iOb (obDk b_d) ((p.d.write a.At a.bytes).2) F17 F) else (iOb (obDk b_d) p.d F_d F)), (bif dN 19 then (iOb (obRk b_r) ((p.r.write a.At a.bytes).2) F34 F) else (iOb (obRk b_r) p.r F_r F))] := by rw [e449]; exact hs450
        exact WL_nil ⟨rfl, _, rfl, A7, cap8, bs9, F17, A24, cap25, bs26, F34, hs451, v427, v428, v429, v430, v431, v432, v433, v434, v435, v436, (fun _ => rfl), v438, v439, v440, v441, v442, v443, v444, v445, v446, v447, v448, trivial⟩
      ·
        rintro dN vL g452 w453 ⟨A7, cap8, bs9, F17, A24, cap25, bs26, F34, hs454, v460, v461, v462, v463, v464, v465, v466, v467, v468, v469, v470, v471, v472, v473, v474, v475, v476, v477, v478, v479, v480, v481, _⟩ hD455 hd456 hu457 hg458 hk459
        have e482 : dN 10 = true := hd456 10 (by decide +kernel)
        have e483 : dN 19 = false := hu457 19 (by decide +kernel)
        rw [e483] at hs454
        have hs484 : Sep F w0 (fun b => D b ∧ b < w0.heap.size) w453 [(bif dN 17 then (iAc dByte (.slice A24 a.bytes.length cap25) a.bytes bs26 []) else iNil), (bif dN 7 then (iAc dByte (.slice A7 a.bytes.length cap8) a.bytes bs9 []) else iNil), iOwn b1 39 [.int .i64 a.Kind, .int .i64 a.At, .int .i64 a.N, bv a.By, .slice A a.Kept.length cap] [], iData (dSlice dInt) [.slice A a.Kept.length cap] a.Kept, iOwn bx 36 [.pointer (some ⟨b_d, 0, none⟩), .pointer (some ⟨b_r, 0, none⟩)] F, (bif dN 8 then (iOb (obDk b_d) ((p.d.write a.At a.bytes).2) F17 F) else (iOb (obDk b_d) p.d F_d F)), iOb (obRk b_r) p.r F_r F] := hs454
        refine WL_at (L := [(23, .pointer (some ⟨bx, 0, none⟩))]) ⟨((hg458 10 23 e482 rfl).trans (v470 e482)), trivial⟩ ?_
        refine S_nilCheck rfl rfl ?_
        have hs485 : Sep F w0 (fun b => D b ∧ b < w0.heap.size) w453 [(bif dN 17 then (iAc dByte (.slice A24 a.bytes.length cap25) a.bytes bs26 []) else iNil), (bif dN 7 then (iAc dByte (.slice A7 a.bytes.length cap8) a.bytes bs9 []) else iNil), iOwn b1 39 [.int .i64 a.Kind, .int .i64 a.At, .int .i64 a.N, bv a.By, .slice A a.Kept.length cap] [], iData (dSlice dInt) [.slice A a.Kept.length cap] a.Kept, iOwn bx 36 [.pointer (some ⟨b_d, 0, none⟩), .pointer (some ⟨b_r, 0, none⟩)] F, (bif dN 8 then (iOb (obDk b_d) ((p.d.write a.At a.bytes).2) F17 F) else (iOb (obDk b_d) p.d F_d F)), (bif dN 19 then (iOb (obRk b_r) ((p.r.write a.At a.bytes).2) F34 F) else (iOb (obRk b_r) p.r F_r F))] := by rw [e483]; exact hs484
        exact WL_nil ⟨rfl, _, rfl, A7, cap8, bs9, F17, A24, cap25, bs26, F34, hs485, v460, v461, v462, v463, v464, v465, v466, v467, v468, v469, v470, (fun _ => rfl), v472, v473, v474, v475, v476, v477, v478, v479, v480, v481, trivial⟩
      ·
        rintro dN vL g486 w487 ⟨A7, cap8, bs9, F17, A24, cap25, bs26, F34, hs488, v494, v495, v496, v497, v498, v499, v500, v501, v502, v503, v504, v505, v506, v507, v508, v509, v510, v511, v512, v513, v514, v515, _⟩ hD489 hd490 hu491 hg492 hk493
        have e516 : dN 11 = true := hd490 11 (by decide +kernel)
        have e517 : dN 19 = false := hu491 19 (by decide +kernel)
        rw [e517] at hs488
        have hs518 : Sep F w0 (fun b => D b ∧ b < w0.heap.size) w487 [(bif dN 17 then (iAc dByte (.slice A24 a.bytes.length cap25) a.bytes bs26 []) else iNil), (bif dN 7 then (iAc dByte (.slice A7 a.bytes.length cap8) a.bytes bs9 []) else iNil), iOwn b1 39 [.int .i64 a.Kind, .int .i64 a.At, .int .i64 a.N, bv a.By, .slice A a.Kept.length cap] [], iData (dSlice dInt) [.slice A a.Kept.length cap] a.Kept, iOwn bx 36 [.pointer (some ⟨b_d, 0, none⟩), .pointer (some ⟨b_r, 0, none⟩)] F, (bif dN 8 then (iOb (obDk b_d) ((p.d.write a.At a.bytes).2) F17 F) else (iOb (obDk b_d) p.d F_d F)), iOb (obRk b_r) p.r F_r F] := hs488
        refine WL_at (L := [(24, .pointer (some ⟨bx, 0, none⟩))]) ⟨((hg492 11 24 e516 rfl).trans (v505 e516)), trivial⟩ ?_
        refine S_fieldAddr Try.runUnderlying36 rfl Try.sizeOf28 rfl rfl ?_
        have hs519 : Sep F w0 (fun b => D b ∧ b < w0.heap.size) w487 [(bif dN 17 then (iAc dByte (.slice A24 a.bytes.length cap25) a.bytes bs26 []) else iNil), (bif dN 7 then (iAc dByte (.slice A7 a.bytes.length cap8) a.bytes bs9 []) else iNil), iOwn b1 39 [.int .i64 a.Kind, .int .i64 a.At, .int .i64 a.N, bv a.By, .slice A a.Kept.length cap] [], iData (dSlice dInt) [.slice A a.Kept.length cap] a.Kept, iOwn bx 36 [.pointer (some ⟨b_d, 0, none⟩), .pointer (some ⟨b_r, 0, none⟩)] F, (bif dN 8 then (iOb (obDk b_d) ((p.d.write a.At a.bytes).2) F17 F) else (iOb (obDk b_d) p.d F_d F)), (bif dN 19 then (iOb (obRk b_r) ((p.r.write a.At a.bytes).2) F34 F) else (iOb (obRk b_r) p.r F_r F))] := by rw [e517]; exact hs518
        exact WL_nil ⟨rfl, _, rfl, A7, cap8, bs9, F17, A24, cap25, bs26, F34, hs519, v494, v495, v496, v497, v498, v499, v500, v501, v502, v503, v504, v505, (fun _ => rfl), v507, v508, v509, v510, v511, v512, v513, v514, v515, trivial⟩
      ·
        rintro dN vL g520 w521 ⟨A7, cap8, bs9, F17, A24, cap25, bs26, F34, hs522, v528, v529, v530, v531, v532, v533, v534, v535, v536, v537, v538, v539, v540, v541, v542, v543, v544, v545, v546, v547, v548, v549, _⟩ hD523 hd524 hu525 hg526 hk527
        have e550 : dN 12 = true := hd524 12 (by decide +kernel)
        have e551 : dN 19 = false := hu525 19 (by decide +kernel)
        rw [e551] at hs522
        have hs552 : Sep F w0 (fun b => D b ∧ b < w0.heap.size) w521 [(bif dN 17 then (iAc dByte (.slice A24 a.bytes.length cap25) a.bytes bs26 []) else iNil), (bif dN 7 then (iAc dByte (.slice A7 a.bytes.length cap8) a.bytes bs9 []) else iNil), iOwn b1 39 [.int .i64 a.Kind, .int .i64 a.At, .int .i64 a.N, bv a.By, .slice A a.Kept.length cap] [], iData (dSlice dInt) [.slice A a.Kept.length cap] a.Kept, iOwn bx 36 [.pointer (some ⟨b_d, 0, none⟩), .pointer (some ⟨b_r, 0, none⟩)] F, (bif dN 8 then (iOb (obDk b_d) ((p.d.write a.At a.bytes).2) F17 F) else (iOb (obDk b_d) p.d F_d F)), iOb (obRk b_r) p.r F_r F] := hs522
        refine WL_at (L := [(25, .pointer (some ⟨bx, 1, none⟩))]) ⟨((hg526 12 25 e550 rfl).trans (v540 e550)), trivial⟩ ?_
        refine S_load1 Try.isAgg28 rfl (Own.at (hs552.at 4 rfl) rfl) rfl ?_
        have hs553 : Sep F w0 (fun b => D b ∧ b < w0.heap.size) w521 [(bif dN 17 then (iAc dByte (.slice A24 a.bytes.length cap25) a.bytes bs26 []) else iNil), (bif dN 7 then (iAc dByte (.slice A7 a.bytes.length cap8) a.bytes bs9 []) else iNil), iOwn b1 39 [.int .i64 a.Kind, .int .i64 a.At, .int .i64 a.N, bv a.By, .slice A a.Kept.length cap] [], iData (dSlice dInt) [.slice A a.Kept.length cap] a.Kept, iOwn bx 36 [.pointer (some ⟨b_d, 0, none⟩), .pointer (some ⟨b_r, 0, none⟩)] F, (bif dN 8 then (iOb (obDk b_d) ((p.d.write a.At a.bytes).2) F17 F) else (iOb (obDk b_d) p.d F_d F)), (bif dN 19 then (iOb (obRk b_r) ((p.r.write a.At a.bytes).2) F34 F) else (iOb (obRk b_r) p.r F_r F))] := by rw [e551]; exact hs552
        exact WL_nil ⟨rfl, _, rfl, A7, cap8, bs9, F17, A24, cap25, bs26, F34, hs553, v528, v529, v530, v531, v532, v533, v534, v535, v536, v537, v538, v539, v540, (fun _ => rfl), v542, v543, v544, v545, v546, v547, v548, v549, trivial⟩
      ·
        rintro dN vL g554 w555 ⟨A7, cap8, bs9, F17, A24, cap25, bs26, F34, hs556, v562, v563, v564, v565, v566, v567, v568, v569, v570, v571, v572, v573, v574, v575, v576, v577, v578, v579, v580, v581, v582, v583, _⟩ hD557 hd558 hu559 hg560 hk561
        have e584 : dN 19 = false := hu559 19 (by decide +kernel)
        rw [e584] at hs556
        have hs585 : Sep F w0 (fun b => D b ∧ b < w0.heap.size) w555 [(bif dN 17 then (iAc dByte (.slice A24 a.bytes.length cap25) a.bytes bs26 []) else iNil), (bif dN 7 then (iAc dByte (.slice A7 a.bytes.length cap8) a.bytes bs9 []) else iNil), iOwn b1 39 [.int .i64 a.Kind, .int .i64 a.At, .int .i64 a.N, bv a.By, .slice A a.Kept.length cap] [], iData (dSlice dInt) [.slice A a.Kept.length cap] a.Kept, iOwn bx 36 [.pointer (some ⟨b_d, 0, none⟩), .pointer (some ⟨b_r, 0, none⟩)] F, (bif dN 8 then (iOb (obDk b_d) ((p.d.write a.At a.bytes).2) F17 F) else (iOb (obDk b_d) p.d F_d F)), iOb (obRk b_r) p.r F_r F] := hs556
        refine WL_at (L := [(3, .pointer (some ⟨b1, 0, none⟩))]) ⟨(hk561 3 (by decide +kernel)), trivial⟩ ?_
        refine S_fieldAddr Try.runUnderlying39 rfl Try.sizeOf3 rfl rfl ?_
        have hs586 : Sep F w0 (fun b => D b ∧ b < w0.heap.size) w555 [(bif dN 17 then (iAc dByte (.slice A24 a.bytes.length cap25) a.bytes bs26 []) else iNil), (bif dN 7 then (iAc dByte (.slice A7 a.bytes.length cap8) a.bytes bs9 []) else iNil), iOwn b1 39 [.int .i64 a.Kind, .int .i64 a.At, .int .i64 a.N, bv a.By, .slice A a.Kept.length cap] [], iData (dSlice dInt) [.slice A a.Kept.length cap] a.Kept, iOwn bx 36 [.pointer (some ⟨b_d, 0, none⟩), .pointer (some ⟨b_r, 0, none⟩)] F, (bif dN 8 then (iOb (obDk b_d) ((p.d.write a.At a.bytes).2) F17 F) else (iOb (obDk b_d) p.d F_d F)), (bif dN 19 then (iOb (obRk b_r) ((p.r.write a.At a.bytes).2) F34 F) else (iOb (obRk b_r) p.r F_r F))] := by rw [e584]; exact hs585
        exact WL_nil ⟨rfl, _, rfl, A7, cap8, bs9, F17, A24, cap25, bs26, F34, hs586, v562, v563, v564, v565, v566, v567, v568, v569, v570, v571, v572, v573, v574, v575, (fun _ => rfl), v577, v578, v579, v580, v581, v582, v583, trivial⟩
      ·
        rintro dN vL g587 w588 ⟨A7, cap8, bs9, F17, A24, cap25, bs26, F34, hs589, v595, v596, v597, v598, v599, v600, v601, v602, v603, v604, v605, v606, v607, v608, v609, v610, v611, v612, v613, v614, v615, v616, _⟩ hD590 hd591 hu592 hg593 hk594
        have e617 : dN 14 = true := hd591 14 (by decide +kernel)
        have e618 : dN 19 = false := hu592 19 (by decide +kernel)
        rw [e618] at hs589
        have hs619 : Sep F w0 (fun b => D b ∧ b < w0.heap.size) w588 [(bif dN 17 then (iAc dByte (.slice A24 a.bytes.length cap25) a.bytes bs26 []) else iNil), (bif dN 7 then (iAc dByte (.slice A7 a.bytes.length cap8) a.bytes bs9 []) else iNil), iOwn b1 39 [.int .i64 a.Kind, .int .i64 a.At, .int .i64 a.N, bv a.By, .slice A a.Kept.length cap] [], iData (dSlice dInt) [.slice A a.Kept.length cap] a.Kept, iOwn bx 36 [.pointer (some ⟨b_d, 0, none⟩), .pointer (some ⟨b_r, 0, none⟩)] F, (bif dN 8 then (iOb (obDk b_d) ((p.d.write a.At a.bytes).2) F17 F) else (iOb (obDk b_d) p.d F_d F)), iOb (obRk b_r) p.r F_r F] := hs589
        refine WL_at (L := [(27, .pointer (some ⟨b1, 1, none⟩))]) ⟨((hg593 14 27 e617 rfl).trans (v609 e617)), trivial⟩ ?_
        refine S_load1 Try.isAgg3 rfl (Own.at (hs619.at 2 rfl) rfl) rfl ?_
        have hs620 : Sep F w0 (fun b => D b ∧ b < w0.heap.size) w588 [(bif dN 17 then (iAc dByte (.slice A24 a.bytes.length cap25) a.bytes bs26 []) else iNil), (bif dN 7 then (iAc dByte (.slice A7 a.bytes.length cap8) a.bytes bs9 []) else iNil), iOwn b1 39 [.int .i64 a.Kind, .int .i64 a.At, .int .i64 a.N, bv a.By, .slice A a.Kept.length cap] [], iData (dSlice dInt) [.slice A a.Kept.length cap] a.Kept, iOwn bx 36 [.pointer (some ⟨b_d, 0, none⟩), .pointer (some ⟨b_r, 0, none⟩)] F, (bif dN 8 then (iOb (obDk b_d) ((p.d.write a.At a.bytes).2) F17 F) else (iOb (obDk b_d) p.d F_d F)), (bif dN 19 then (iOb (obRk b_r) ((p.r.write a.At a.bytes).2) F34 F) else (iOb (obRk b_r) p.r F_r F))] := by rw [e618]; exact hs619
        exact WL_nil ⟨rfl, _, rfl, A7, cap8, bs9, F17, A24, cap25, bs26, F34, hs620, v595, v596, v597, v598, v599, v600, v601, v602, v603, v604, v605, v606, v607, v608, v609, (fun _ => rfl), v611, v612, v613, v614, v615, v616, trivial⟩
      ·
        rintro dN vL g621 w622 ⟨A7, cap8, bs9, F17, A24, cap25, bs26, F34, hs623, v629, v630, v631, v632, v633, v634, v635, v636, v637, v638, v639, v640, v641, v642, v643, v644, v645, v646, v647, v648, v649, v650, _⟩ hD624 hd625 hu626 hg627 hk628
        have e651 : dN 17 = false := hu626 17 (by decide +kernel)
        have e652 : dN 19 = false := hu626 19 (by decide +kernel)
        rw [e651, e652] at hs623
        have hs653 : Sep F w0 (fun b => D b ∧ b < w0.heap.size) w622 [iNil, (bif dN 7 then (iAc dByte (.slice A7 a.bytes.length cap8) a.bytes bs9 []) else iNil), iOwn b1 39 [.int .i64 a.Kind, .int .i64 a.At, .int .i64 a.N, bv a.By, .slice A a.Kept.length cap] [], iData (dSlice dInt) [.slice A a.Kept.length cap] a.Kept, iOwn bx 36 [.pointer (some ⟨b_d, 0, none⟩), .pointer (some ⟨b_r, 0, none⟩)] F, (bif dN 8 then (iOb (obDk b_d) ((p.d.write a.At a.bytes).2) F17 F) else (iOb (obDk b_d) p.d F_d F)), iOb (obRk b_r) p.r F_r F] := hs623
        refine WL_at (L := [(3, .pointer (some ⟨b1, 0, none⟩))]) ⟨(hk628 3 (by decide +kernel)), trivial⟩ ?_
        refine S_loadAgg Try.isAgg39 Try.sizeOf39 rfl rfl (Own.cells (hs653.at 2 rfl) 0 [.int .i64 a.Kind, .int .i64 a.At, .int .i64 a.N, bv a.By, .slice A a.Kept.length cap] _ rfl) rfl ?_
        have hs654 : Sep F w0 (fun b => D b ∧ b < w0.heap.size) w622 [(bif dN 17 then (iAc dByte (.slice A24 a.bytes.length cap25) a.bytes bs26 []) else iNil), (bif dN 7 then (iAc dByte (.slice A7 a.bytes.length cap8) a.bytes bs9 []) else iNil), iOwn b1 39 [.int .i64 a.Kind, .int .i64 a.At, .int .i64 a.N, bv a.By, .slice A a.Kept.length cap] [], iData (dSlice dInt) [.slice A a.Kept.length cap] a.Kept, iOwn bx 36 [.pointer (some ⟨b_d, 0, none⟩), .pointer (some ⟨b_r, 0, none⟩)] F, (bif dN 8 then (iOb (obDk b_d) ((p.d.write a.At a.bytes).2) F17 F) else (iOb (obDk b_d) p.d F_d F)), (bif dN 19 then (iOb (obRk b_r) ((p.r.write a.At a.bytes).2) F34 F) else (iOb (obRk b_r) p.r F_r F))] := by rw [e651, e652]; exact hs653
        exact WL_nil ⟨rfl, _, rfl, A7, cap8, bs9, F17, A24, cap25, bs26, F34, hs654, v629, v630, v631, v632, v633, v634, v635, v636, v637, v638, v639, v640, v641, v642, v643, v644, (fun _ => rfl), v646, v647, v648, v649, v650, trivial⟩
      ·
        rintro dN vL g655 w656 ⟨A7, cap8, bs9, F17, A24, cap25, bs26, F34, hs657, v663, v664, v665, v666, v667, v668, v669, v670, v671, v672, v673, v674, v675, v676, v677, v678, v679, v680, v681, v682, v683, v684, _⟩ hD658 hd659 hu660 hg661 hk662
        have e685 : dN 7 = true := hd659 7 (by decide +kernel)
        have e686 : dN 8 = true := hd659 8 (by decide +kernel)
        have e687 : dN 16 = true := hd659 16 (by decide +kernel)
        have e688 : dN 17 = false := hD658
        have e689 : dN 19 = false := hu660 19 (by decide +kernel)
        rw [e686, e688, e689, e685] at hs657
        have hs690 : Sep F w0 (fun b => D b ∧ b < w0.heap.size) w656 [iNil, iAc dByte (.slice A7 a.bytes.length cap8) a.bytes bs9 [], iOwn b1 39 [.int .i64 a.Kind, .int .i64 a.At, .int .i64 a.N, bv a.By, .slice A a.Kept.length cap] [], iData (dSlice dInt) [.slice A a.Kept.length cap] a.Kept, iOwn bx 36 [.pointer (some ⟨b_d, 0, none⟩), .pointer (some ⟨b_r, 0, none⟩)] F, iOb (obDk b_d) ((p.d.write a.At a.bytes).2) F17 F, iOb (obRk b_r) p.r F_r F] := hs657
        refine WL_at (L := [(29, .agg #[.int .i64 a.Kind, .int .i64 a.At, .int .i64 a.N, bv a.By, .slice A a.Kept.length cap])]) ⟨((hg661 16 29 e687 rfl).trans (v679 e687)), trivial⟩ ?_
        have hz698 := bytes_ok (w0 := w656) (A := A) (cap := cap) a
        refine S_call3 Try.call29 rfl hz698 rfl ?_
        rintro A691 cap692 bs693 w694 ⟨ha695, e696, hf697⟩
        have hs699 : Sep F w0 (fun b => D b ∧ b < w0.heap.size) w694 [iAc dByte (.slice A691 a.bytes.length cap692) a.bytes bs693 [], iNil, iAc dByte (.slice A7 a.bytes.length cap8) a.bytes bs9 [], iOwn b1 39 [.int .i64 a.Kind, .int .i64 a.At, .int .i64 a.N, bv a.By, .slice A a.Kept.length cap] [], iData (dSlice dInt) [.slice A a.Kept.length cap] a.Kept, iOwn bx 36 [.pointer (some ⟨b_d, 0, none⟩), .pointer (some ⟨b_r, 0, none⟩)] F, iOb (obDk b_d) ((p.d.write a.At a.bytes).2) F17 F, iOb (obRk b_r) p.r F_r F] := hs690.madeAc e696 ha695 hf697
        have hs700 : Sep F w0 (fun b => D b ∧ b < w0.heap.size) w694 [iAc dByte (.slice A691 a.bytes.length cap692) a.bytes bs693 [], (bif dN 7 then (iAc dByte (.slice A7 a.bytes.length cap8) a.bytes bs9 []) else iNil), iOwn b1 39 [.int .i64 a.Kind, .int .i64 a.At, .int .i64 a.N, bv a.By, .slice A a.Kept.length cap] [], iData (dSlice dInt) [.slice A a.Kept.length cap] a.Kept, iOwn bx 36 [.pointer (some ⟨b_d, 0, none⟩), .pointer (some ⟨b_r, 0, none⟩)] F, (bif dN 8 then (iOb (obDk b_d) ((p.d.write a.At a.bytes).2) F17 F) else (iOb (obDk b_d) p.d F_d F)), (bif dN 19 then (iOb (obRk b_r) ((p.r.write a.At a.bytes).2) F34 F) else (iOb (obRk b_r) p.r F_r F))] := by rw [e686, e689, e685]; exact (hs699.pick [0, 2, 3, 4, 5, 6, 7] rfl (by decide) rfl)
        exact WL_nil ⟨rfl, _, rfl, A7, cap8, bs9, F17, A691, cap692, bs693, F34, hs700, v663, v664, v665, v666, v667, v668, v669, v670, v671, v672, v673, v674, v675, v676, v677, v678, v679, (fun _ => rfl), v681, v682, v683, v684, trivial⟩
      ·
        rintro dN vL g701 w702 ⟨A7, cap8, bs9, F17, A24, cap25, bs26, F34, hs703, v709, v710, v711, v712, v713, v714, v715, v716, v717, v718, v719, v720, v721, v722, v723, v724, v725, v726, v727, v728, v729, v730, _⟩ hD704 hd705 hu706 hg707 hk708
        have e731 : dN 7 = true := hd705 7 (by decide +kernel)
        have e732 : dN 8 = true := hd705 8 (by decide +kernel)
        have e733 : dN 17 = true := hd705 17 (by decide +kernel)
        have e734 : dN 19 = false := hu706 19 (by decide +kernel)
        rw [e732, e733, e734, e731] at hs703
        have hs735 : Sep F w0 (fun b => D b ∧ b < w0.heap.size) w702 [iAc dByte (.slice A24 a.bytes.length cap25) a.bytes bs26 [], iAc dByte (.slice A7 a.bytes.length cap8) a.bytes bs9 [], iOwn b1 39 [.int .i64 a.Kind, .int .i64 a.At, .int .i64 a.N, bv a.By, .slice A a.Kept.length cap] [], iData (dSlice dInt) [.slice A a.Kept.length cap] a.Kept, iOwn bx 36 [.pointer (some ⟨b_d, 0, none⟩), .pointer (some ⟨b_r, 0, none⟩)] F, iOb (obDk b_d) ((p.d.write a.At a.bytes).2) F17 F, iOb (obRk b_r) p.r F_r F] := hs703
        refine WL_at (L := [(30, .slice A24 a.bytes.length cap25)]) ⟨((hg707 17 30 e733 rfl).trans (v726 e733)), trivial⟩ ?_
        refine S_bytesStr Try.runUnderlying47 Try.runUnderlying9 Try.runUnderlying5 (Src.ac (hs735.at 0 rfl)) rfl ?_
        have hs736 : Sep F w0 (fun b => D b ∧ b < w0.heap.size) w702 [(bif dN 17 then (iAc dByte (.slice A24 a.bytes.length cap25) a.bytes bs26 []) else iNil), (bif dN 7 then (iAc dByte (.slice A7 a.bytes.length cap8) a.bytes bs9 []) else iNil), iOwn b1 39 [.int .i64 a.Kind, .int .i64 a.At, .int .i64 a.N, bv a.By, .slice A a.Kept.length cap] [], iData (dSlice dInt) [.slice A a.Kept.length cap] a.Kept, iOwn bx 36 [.pointer (some ⟨b_d, 0, none⟩), .pointer (some ⟨b_r, 0, none⟩)] F, (bif dN 8 then (iOb (obDk b_d) ((p.d.write a.At a.bytes).2) F17 F) else (iOb (obDk b_d) p.d F_d F)), (bif dN 19 then (iOb (obRk b_r) ((p.r.write a.At a.bytes).2) F34 F) else (iOb (obRk b_r) p.r F_r F))] := by rw [e732, e733, e734, e731]; exact hs735
        exact WL_nil ⟨rfl, _, rfl, A7, cap8, bs9, F17, A24, cap25, bs26, F34, hs736, v709, v710, v711, v712, v713, v714, v715, v716, v717, v718, v719, v720, v721, v722, v723, v724, v725, v726, (fun _ => rfl), v728, v729, v730, trivial⟩
      ·
        rintro dN vL g737 w738 ⟨A7, cap8, bs9, F17, A24, cap25, bs26, F34, hs739, v745, v746, v747, v748, v749, v750, v751, v752, v753, v754, v755, v756, v757, v758, v759, v760, v761, v762, v763, v764, v765, v766, _⟩ hD740 hd741 hu742 hg743 hk744
        have e767 : dN 7 = true := hd741 7 (by decide +kernel)
        have e768 : dN 8 = true := hd741 8 (by decide +kernel)
        have e769 : dN 13 = true := hd741 13 (by decide +kernel)
        have e770 : dN 15 = true := hd741 15 (by decide +kernel)
        have e771 : dN 17 = true := hd741 17 (by decide +kernel)
        have e772 : dN 18 = true := hd741 18 (by decide +kernel)
        have e773 : dN 19 = false := hD740
        rw [e768, e771, e773, e767] at hs739
        have hs774 : Sep F w0 (fun b => D b ∧ b < w0.heap.size) w738 [iAc dByte (.slice A24 a.bytes.length cap25) a.bytes bs26 [], iAc dByte (.slice A7 a.bytes.length cap8) a.bytes bs9 [], iOwn b1 39 [.int .i64 a.Kind, .int .i64 a.At, .int .i64 a.N, bv a.By, .slice A a.Kept.length cap] [], iData (dSlice dInt) [.slice A a.Kept.length cap] a.Kept, iOwn bx 36 [.pointer (some ⟨b_d, 0, none⟩), .pointer (some ⟨b_r, 0, none⟩)] F, iOb (obDk b_d) ((p.d.write a.At a.bytes).2) F17 F, iOb (obRk b_r) p.r F_r F] := hs739
        refine WL_at (L := [(26, .pointer (some ⟨b_r, 0, none⟩)), (28, .int .i64 a.At), (31, sv a.bytes)]) ⟨((hg743 13 26 e769 rfl).trans (v758 e769)), ((hg743 15 28 e770 rfl).trans (v760 e770)), ((hg743 18 31 e772 rfl).trans (v763 e772)), trivial⟩ ?_
        have hz779 := rwrite_ok (hs774.at 6 rfl) okr a.At a.bytes
        refine S_callE Try.call30 rfl hz779 rfl ?_
        rintro w775 ⟨F776, h777, t778⟩
        have hs780 : Sep F w0 (fun b => D b ∧ b < w0.heap.size) w775 [iAc dByte (.slice A24 a.bytes.length cap25) a.bytes bs26 [], iAc dByte (.slice A7 a.bytes.length cap8) a.bytes bs9 [], iOwn b1 39 [.int .i64 a.Kind, .int .i64 a.At, .int .i64 a.N, bv a.By, .slice A a.Kept.length cap] [], iData (dSlice dInt) [.slice A a.Kept.length cap] a.Kept, iOwn bx 36 [.pointer (some ⟨b_d, 0, none⟩), .pointer (some ⟨b_r, 0, none⟩)] F, iOb (obDk b_d) ((p.d.write a.At a.bytes).2) F17 F, iOb (obRk b_r) ((p.r.write a.At a.bytes).2) F776 F] := hs774.turn 6 rfl h777 t778
        have hs782 : Sep F w0 (fun b => D b ∧ b < w0.heap.size) w775 [(bif dN 17 then (iAc dByte (.slice A24 a.bytes.length cap25) a.bytes bs26 []) else iNil), (bif dN 7 then (iAc dByte (.slice A7 a.bytes.length cap8) a.bytes bs9 []) else iNil), iOwn b1 39 [.int .i64 a.Kind, .int .i64 a.At, .int .i64 a.N, bv a.By, .slice A a.Kept.length cap] [], iData (dSlice dInt) [.slice A a.Kept.length cap] a.Kept, iOwn bx 36 [.pointer (some ⟨b_d, 0, none⟩), .pointer (some ⟨b_r, 0, none⟩)] F, (bif dN 8 then (iOb (obDk b_d) ((p.d.write a.At a.bytes).2) F17 F) else (iOb (obDk b_d) p.d F_d F)), iOb (obRk b_r) ((p.r.write a.At a.bytes).2) F776 F] := by rw [e768, e771, e767]; exact hs780
        exact WL_nil ⟨rfl, _, rfl, A7, cap8, bs9, F17, A24, cap25, bs26, F776, hs782, v745, v746, v747, v748, v749, v750, v751, v752, v753, v754, v755, v756, v757, v758, v759, v760, v761, v762, v763, (fun _ => rfl), v765, v766, trivial⟩
      ·
        rintro dN vL g783 w784 ⟨A7, cap8, bs9, F17, A24, cap25, bs26, F34, hs785, v791, v792, v793, v794, v795, v796, v797, v798, v799, v800, v801, v802, v803, v804, v805, v806, v807, v808, v809, v810, v811, v812, _⟩ hD786 hd787 hu788 hg789 hk790
        have e813 : dN 7 = true := hd787 7 (by decide +kernel)
        have e814 : dN 8 = true := hd787 8 (by decide +kernel)
        have e815 : dN 9 = true := hd787 9 (by decide +kernel)
        have e816 : dN 17 = true := hd787 17 (by decide +kernel)
        have e817 : dN 19 = true := hd787 19 (by decide +kernel)
        rw [e814, e816, e817, e813] at hs785
        have hs818 : Sep F w0 (fun b => D b ∧ b < w0.heap.size) w784 [iAc dByte (.slice A24 a.bytes.length cap25) a.bytes bs26 [], iAc dByte (.slice A7 a.bytes.length cap8) a.bytes bs9 [], iOwn b1 39 [.int .i64 a.Kind, .int .i64 a.At, .int .i64 a.N, bv a.By, .slice A a.Kept.length cap] [], iData (dSlice dInt) [.slice A a.Kept.length cap] a.Kept, iOwn bx 36 [.pointer (some ⟨b_d, 0, none⟩), .pointer (some ⟨b_r, 0, none⟩)] F, iOb (obDk b_d) ((p.d.write a.At a.bytes).2) F17 F, iOb (obRk b_r) ((p.r.write a.At a.bytes).2) F34 F] := hs785
        refine WL_at (L := [(22, .int .i64 ((p.d.write a.At a.bytes).1)), (32, .int .i64 ((p.r.write a.At a.bytes).1))]) ⟨((hg789 9 22 e815 rfl).trans (v800 e815)), ((hg789 19 32 e817 rfl).trans (v810 e817)), trivial⟩ ?_
        refine S_eql rfl rfl rfl ?_
        refine WL_conv (congrArg Value.bool (decide_eq_true (rel_write okd okr rel _ _).1)) ?_
        have hs819 : Sep F w0 (fun b => D b ∧ b < w0.heap.size) w784 [(bif dN 17 then (iAc dByte (.slice A24 a.bytes.length cap25) a.bytes bs26 []) else iNil), (bif dN 7 then (iAc dByte (.slice A7 a.bytes.length cap8) a.bytes bs9 []) else iNil), iOwn b1 39 [.int .i64 a.Kind, .int .i64 a.At, .int .i64 a.N, bv a.By, .slice A a.Kept.length cap] [], iData (dSlice dInt) [.slice A a.Kept.length cap] a.Kept, iOwn bx 36 [.pointer (some ⟨b_d, 0, none⟩), .pointer (some ⟨b_r, 0, none⟩)] F, (bif dN 8 then (iOb (obDk b_d) ((p.d.write a.At a.bytes).2) F17 F) else (iOb (obDk b_d) p.d F_d F)), (bif dN 19 then (iOb (obRk b_r) ((p.r.write a.At a.bytes).2) F34 F) else (iOb (obRk b_r) p.r F_r F))] := by rw [e814, e816, e817, e813]; exact hs818
        exact WL_nil ⟨rfl, _, rfl, A7, cap8, bs9, F17, A24, cap25, bs26, F34, hs819, v791, v792, v793, v794, v795, v796, v797, v798, v799, v800, v801, v802, v803, v804, v805, v806, v807, v808, v809, v810, (fun _ => rfl), v812, trivial⟩
      ·
        rintro dN vL g820 w821 ⟨A7, cap8, bs9, F17, A24, cap25, bs26, F34, hs822, v828, v829, v830, v831, v832, v833, v834, v835, v836, v837, v838, v839, v840, v841, v842, v843, v844, v845, v846, v847, v848, v849, _⟩ hD823 hd824 hu825 hg826 hk827
        have e850 : dN 7 = true := hd824 7 (by decide +kernel)
        have e851 : dN 8 = true := hd824 8 (by decide +kernel)
        have e852 : dN 17 = true := hd824 17 (by decide +kernel)
        have e853 : dN 19 = true := hd824 19 (by decide +kernel)
        have e854 : dN 20 = true := hd824 20 (by decide +kernel)
        rw [e851, e852, e853, e850] at hs822
        have hs855 : Sep F w0 (fun b => D b ∧ b < w0.heap.size) w821 [iAc dByte (.slice A24 a.bytes.length cap25) a.bytes bs26 [], iAc dByte (.slice A7 a.bytes.length cap8) a.bytes bs9 [], iOwn b1 39 [.int .i64 a.Kind, .int .i64 a.At, .int .i64 a.N, bv a.By, .slice A a.Kept.length cap] [], iData (dSlice dInt) [.slice A a.Kept.length cap] a.Kept, iOwn bx 36 [.pointer (some ⟨b_d, 0, none⟩), .pointer (some ⟨b_r, 0, none⟩)] F, iOb (obDk b_d) ((p.d.write a.At a.bytes).2) F17 F, iOb (obRk b_r) ((p.r.write a.At a.bytes).2) F34 F] := hs822
        refine WL_at (L := [(33, .bool true)]) ⟨((hg826 20 33 e854 rfl).trans (v848 e854)), trivial⟩ ?_
        refine S_assign rfl ?_
        have hs856 : Sep F w0 (fun b => D b ∧ b < w0.heap.size) w821 [(bif dN 17 then (iAc dByte (.slice A24 a.bytes.length cap25) a.bytes bs26 []) else iNil), (bif dN 7 then (iAc dByte (.slice A7 a.bytes.length cap8) a.bytes bs9 []) else iNil), iOwn b1 39 [.int .i64 a.Kind, .int .i64 a.At, .int .i64 a.N, bv a.By, .slice A a.Kept.length cap] [], iData (dSlice dInt) [.slice A a.Kept.length cap] a.Kept, iOwn bx 36 [.pointer (some ⟨b_d, 0, none⟩), .pointer (some ⟨b_r, 0, none⟩)] F, (bif dN 8 then (iOb (obDk b_d) ((p.d.write a.At a.bytes).2) F17 F) else (iOb (obDk b_d) p.d F_d F)), (bif dN 19 then (iOb (obRk b_r) ((p.r.write a.At a.bytes).2) F34 F) else (iOb (obRk b_r) p.r F_r F))] := by rw [e851, e852, e853, e850]; exact hs855
        exact WL_nil ⟨rfl, _, rfl, A7, cap8, bs9, F17, A24, cap25, bs26, F34, hs856, v828, v829, v830, v831, v832, v833, v834, v835, v836, v837, v838, v839, v840, v841, v842, v843, v844, v845, v846, v847, v848, (fun _ => rfl), trivial⟩
    ·
      rintro dN vL g857 w858 ha860 ⟨A7, cap8, bs9, F17, A24, cap25, bs26, F34, hs859, v863, v864, v865, v866, v867, v868, v869, v870, v871, v872, v873, v874, v875, v876, v877, v878, v879, v880, v881, v882, v883, v884, _⟩ hg861 hk862
      rw [ha860 7 rfl, ha860 8 rfl, ha860 17 rfl, ha860 19 rfl] at hs859
      have hs885 : Sep F w0 (fun b => D b ∧ b < w0.heap.size) w858 [iAc dByte (.slice A24 a.bytes.length cap25) a.bytes bs26 [], iAc dByte (.slice A7 a.bytes.length cap8) a.bytes bs9 [], iOwn b1 39 [.int .i64 a.Kind, .int .i64 a.At, .int .i64 a.N, bv a.By, .slice A a.Kept.length cap] [], iData (dSlice dInt) [.slice A a.Kept.length cap] a.Kept, iOwn bx 36 [.pointer (some ⟨b_d, 0, none⟩), .pointer (some ⟨b_r, 0, none⟩)] F, iOb (obDk b_d) ((p.d.write a.At a.bytes).2) F17 F, iOb (obRk b_r) ((p.r.write a.At a.bytes).2) F34 F] := hs859
      refine ⟨[(4, .bool true)], ⟨((hg861 21 4 rfl rfl).trans (v884 (ha860 21 rfl))), trivial⟩, fun g886 => ?_⟩
      refine W_ret ?_
      show (Value.bool true) = .bool true ∧ ∃ F', BkIs bx w858 (p.act a) F' ∧ Turn w0 w858 F F'
      have hc2 := (BkIs.close (hs885.pick [4, 5, 6] rfl (by decide) rfl))
      exact ⟨rfl, _, by simp only [Bk.act, *]; first | exact hc2.1 | (simp; exact hc2.1), hc2.2⟩
  ·
    have p887 := of_decide_eq_false h4
    refine W_seq ?_
    refine W_region ?_
    refine S_eql rfl rfl rfl ?_
    refine S_assign rfl ?_
    refine WL_nil ?_
    refine W_cond rfl (fun h888 => ?_) (fun h888 => ?_)
    ·
      have p889 := of_decide_eq_true h888
      refine W_seq ?_
      refine W_live (L := [(0, .pointer (some ⟨bx, 0, none⟩)), (3, .pointer (some ⟨b1, 0, none⟩))]) ⟨rfl, rfl, trivial⟩ ?_
      intro g890
      refine W_region_J (fun dN vL w => ∃ (A891 : Option Addr) (cap892 : Nat) (bs893 : List Nat), Sep F w0 (fun b => D b ∧ b < w0.heap.size) w [(bif dN 6 then (iAc dByte (.slice A891 ((p.d.read a.At).1.length) cap892) ((p.d.read a.At).1) bs893 []) else iNil), iOwn b1 39 [.int .i64 a.Kind, .int .i64 a.At, .int .i64 a.N, bv a.By, .slice A a.Kept.length cap] [], iData (dSlice dInt) [.slice A a.Kept.length cap] a.Kept, iOwn bx 36 [.pointer (some ⟨b_d, 0, none⟩), .pointer (some ⟨b_r, 0, none⟩)] F, iOb (obDk b_d) p.d F_d F, iOb (obRk b_r) p.r F_r F] ∧ (dN 0 = true → vL 0 = .pointer (some ⟨bx, 0, none⟩)) ∧ (dN 1 = true → vL 1 = .pointer (some ⟨bx, 0, none⟩)) ∧ (dN 2 = true → vL 2 = .pointer (some ⟨bx, 0, none⟩)) ∧ (dN 3 = true → vL 3 = .pointer (some ⟨b_d, 0, none⟩)) ∧ (dN 4 = true → vL 4 = .pointer (some ⟨b1, 1, none⟩)) ∧ (dN 5 = true → vL 5 = .int .i64 a.At) ∧ (dN 6 = true → vL 6 = .tuple #[.slice A891 ((p.d.read a.At).1.length) cap892, errv 64 ((p.d.read a.At).2)]) ∧ (dN 7 = true → vL 7 = .tuple #[.slice A891 ((p.d.read a.At).1.length) cap892, errv 64 ((p.d.read a.At).2)]) ∧ (dN 8 = true → vL 8 = .slice A891 ((p.d.read a.At).1.length) cap892) ∧ (dN 9 = true → vL 9 = errv 64 ((p.d.read a.At).2)) ∧ (dN 10 = true → vL 10 = .slice A891 ((p.d.read a.At).1.length) cap892) ∧ (dN 11 = true → vL 11 = errv 64 ((p.d.read a.At).2)) ∧ True) [5, 6, 36, 37, 38, 39, 40, 41, 42, 43, 44, 45] rfl (by decide +kernel) _ rfl ?_ ?_ ?_
      · exact fun V => ⟨none, 0, [], (Sep.nilA hs3), (fun h => by cases h), (fun h => by cases h), (fun h => by cases h), (fun h => by cases h), (fun h => by cases h), (fun h => by cases h), (fun h => by cases h), (fun h => by cases h), (fun h => by cases h), (fun h => by cases h), (fun h => by cases h), (fun h => by cases h), trivial⟩
      · refine (.cons ?_ (.cons ?_ (.cons ?_ (.cons ?_ (.cons ?_ (.cons ?_ (.cons ?_ (.cons ?_ (.cons ?_ (.cons ?_ (.cons ?_ (.cons ?_ .nil))))))))))))
        ·
          rintro dN vL g901 w902 ⟨A891, cap892, bs893, hs903, v909, v910, v911, v912, v913, v914, v915, v916, v917, v918, v919, v920, _⟩ hD904 hd905 hu906 hg907 hk908
          have e921 : dN 6 = false := hu906 6 (by decide +kernel)
          rw [e921] at hs903
          have hs922 : Sep F w0 (fun b => D b ∧ b < w0.heap.size) w902 [iNil, iOwn b1 39 [.int .i64 a.Kind, .int .i64 a.At, .int .i64 a.N, bv a.By, .slice A a.Kept.length cap] [], iData (dSlice dInt) [.slice A a.Kept.length cap] a.Kept, iOwn bx 36 [.pointer (some ⟨b_d, 0, none⟩), .pointer (some ⟨b_r, 0, none⟩)] F, iOb (obDk b_d) p.d F_d F, iOb (obRk b_r) p.r F_r F] := hs903
          refine WL_at (L := [(0, .pointer (some ⟨bx, 0, none⟩))]) ⟨(hk908 0 (by decide +kernel)), trivial⟩ ?_
          refine S_move rfl ?_
          have hs923 : Sep F w0 (fun b => D b ∧ b < w0.heap.size) w902 [(bif dN 6 then (iAc dByte (.slice A891 ((p.d.read a.At).1.length) cap892) ((p.d.read a.At).1) bs893 []) else iNil), iOwn b1 39 [.int .i64 a.Kind, .int .i64 a.At, .int .i64 a.N, bv a.By, .slice A a.Kept.length cap] [], iData (dSlice dInt) [.slice A a.Kept.length cap] a.Kept, iOwn bx 36 [.pointer (some ⟨b_d, 0, none⟩), .pointer (some ⟨b_r, 0, none⟩)] F, iOb (obDk b_d) p.d F_d F, iOb (obRk b_r) p.r F_r F] := by rw [e921]; exact hs922
          exact WL_nil ⟨rfl, _, rfl, A891, cap892, bs893, hs923, (fun _ => rfl), v910, v911, v912, v913, v914, v915, v916, v917, v918, v919, v920, trivial⟩
        ·
          rintro dN vL g924 w925 ⟨A891, cap892, bs893, hs926, v932, v933, v934, v935, v936, v937, v938, v939, v940, v941, v942, v943, _⟩ hD927 hd928 hu929 hg930 hk931
          have e944 : dN 0 = true := hd928 0 (by decide +kernel)
          have e945 : dN 6 = false := hu929 6 (by decide +kernel)
          rw [e945] at hs926
          have hs946 : Sep F w0 (fun b => D b ∧ b < w0.heap.size) w925 [iNil, iOwn b1 39 [.int .i64 a.Kind, .int .i64 a.At, .int .i64 a.N, bv a.By, .slice A a.Kept.length cap] [], iData (dSlice dInt) [.slice A a.Kept.length cap] a.Kept, iOwn bx 36 [.pointer (some ⟨b_d, 0, none⟩), .pointer (some ⟨b_r, 0, none⟩)] F, iOb (obDk b_d) p.d F_d F, iOb (obRk b_r) p.r F_r F] := hs926
          refine WL_at (L := [(37, .pointer (some ⟨bx, 0, none⟩))]) ⟨((hg930 0 37 e944 rfl).trans (v932 e944)), trivial⟩ ?_
          refine S_nilCheck rfl rfl ?_
          have hs947 : Sep F w0 (fun b => D b ∧ b < w0.heap.size) w925 [(bif dN 6 then (iAc dByte (.slice A891 ((p.d.read a.At).1.length) cap892) ((p.d.read a.At).1) bs893 []) else iNil), iOwn b1 39 [.int .i64 a.Kind, .int .i64 a.At, .int .i64 a.N, bv a.By, .slice A a.Kept.length cap] [], iData (dSlice dInt) [.slice A a.Kept.length cap] a.Kept, iOwn bx 36 [.pointer (some ⟨b_d, 0, none⟩), .pointer (some ⟨b_r, 0, none⟩)] F, iOb (obDk b_d) p.d F_d F, iOb (obRk b_r) p.r F_r F] := by rw [e945]; exact hs946
          exact WL_nil ⟨rfl, _, rfl, A891, cap892, bs893, hs947, v932, (fun _ => rfl), v934, v935, v936, v937, v938, v939, v940, v941, v942, v943, trivial⟩
        ·
          rintro dN vL g948 w949 ⟨A891, cap892, bs893, hs950, v956, v957, v958, v959, v960, v961, v962, v963, v964, v965, v966, v967, _⟩ hD951 hd952 hu953 hg954 hk955
          have e968 : dN 1 = true := hd952 1 (by decide +kernel)
          have e969 : dN 6 = false := hu953 6 (by decide +kernel)
          rw [e969] at hs950
          have hs970 : Sep F w0 (fun b => D b ∧ b < w0.heap.size) w949 [iNil, iOwn b1 39 [.int .i64 a.Kind, .int .i64 a.At, .int .i64 a.N, bv a.By, .slice A a.Kept.length cap] [], iData (dSlice dInt) [.slice A a.Kept.length cap] a.Kept, iOwn bx 36 [.pointer (some ⟨b_d, 0, none⟩), .pointer (some ⟨b_r, 0, none⟩)] F, iOb (obDk b_d) p.d F_d F, iOb (obRk b_r) p.r F_r F] := hs950
          refine WL_at (L := [(38, .pointer (some ⟨bx, 0, none⟩))]) ⟨((hg954 1 38 e968 rfl).trans (v957 e968)), trivial⟩ ?_
          refine S_fieldAddr Try.runUnderlying36 rfl Try.sizeOf23 rfl rfl ?_
          have hs971 : Sep F w0 (fun b => D b ∧ b < w0.heap.size) w949 [(bif dN 6 then (iAc dByte (.slice A891 ((p.d.read a.At).1.length) cap892) ((p.d.read a.At).1) bs893 []) else iNil), iOwn b1 39 [.int .i64 a.Kind, .int .i64 a.At, .int .i64 a.N, bv a.By, .slice A a.Kept.length cap] [], iData (dSlice dInt) [.slice A a.Kept.length cap] a.Kept, iOwn bx 36 [.pointer (some ⟨b_d, 0, none⟩), .pointer (some ⟨b_r, 0, none⟩)] F, iOb (obDk b_d) p.d F_d F, iOb (obRk b_r) p.r F_r F] := by rw [e969]; exact hs970
          exact WL_nil ⟨rfl, _, rfl, A891, cap892, bs893, hs971, v956, v957, (fun _ => rfl), v959, v960, v961, v962, v963, v964, v965, v966, v967, trivial⟩
        ·
          rintro dN vL g972 w973 ⟨A891, cap892, bs893, hs974, v980, v981, v982, v983, v984, v985, v986, v987, v988, v989, v990, v991, _⟩ hD975 hd976 hu977 hg978 hk979
          have e992 : dN 2 = true := hd976 2 (by decide +kernel)
          have e993 : dN 6 = false := hu977 6 (by decide +kernel)
          rw [e993] at hs974
          have hs994 : Sep F w0 (fun b => D b ∧ b < w0.heap.size) w973 [iNil, iOwn b1 39 [.int .i64 a.Kind, .int .i64 a.At, .int .i64 a.N, bv a.By, .slice A a.Kept.length cap] [], iData (dSlice dInt) [.slice A a.Kept.length cap] a.Kept, iOwn bx 36 [.pointer (some ⟨b_d, 0, none⟩), .pointer (some ⟨b_r, 0, none⟩)] F, iOb (obDk b_d) p.d F_d F, iOb (obRk b_r) p.r F_r F] := hs974
          refine WL_at (L := [(39, .pointer (some ⟨bx, 0, none⟩))]) ⟨((hg978 2 39 e992 rfl).trans (v982 e992)), trivial⟩ ?_
          refine S_load1 Try.isAgg23 rfl (Own.at (hs994.at 3 rfl) rfl) rfl ?_
          have hs995 : Sep F w0 (fun b => D b ∧ b < w0.heap.size) w973 [(bif dN 6 then (iAc dByte (.slice A891 ((p.d.read a.At).1.length) cap892) ((p.d.read a.At).1) bs893 []) else iNil), iOwn b1 39 [.int .i64 a.Kind, .int .i64 a.At, .int .i64 a.N, bv a.By, .slice A a.Kept.length cap] [], iData (dSlice dInt) [.slice A a.Kept.length cap] a.Kept, iOwn bx 36 [.pointer (some ⟨b_d, 0, none⟩), .pointer (some ⟨b_r, 0, none⟩)] F, iOb (obDk b_d) p.d F_d F, iOb (obRk b_r) p.r F_r F] := by rw [e993]; exact hs994
          exact WL_nil ⟨rfl, _, rfl, A891, cap892, bs893, hs995, v980, v981, v982, (fun _ => rfl), v984, v985, v986, v987, v988, v989, v990, v991, trivial⟩
        ·
          rintro dN vL g996 w997 ⟨A891, cap892, bs893, hs998, v1004, v1005, v1006, v1007, v1008, v1009, v1010, v1011, v1012, v1013, v1014, v1015, _⟩ hD999 hd1000 hu1001 hg1002 hk1003
          have e1016 : dN 6 = false := hu1001 6 (by decide +kernel)
          rw [e1016] at hs998
          have hs1017 : Sep F w0 (fun b => D b ∧ b < w0.heap.size) w997 [iNil, iOwn b1 39 [.int .i64 a.Kind, .int .i64 a.At, .int .i64 a.N, bv a.By, .slice A a.Kept.length cap] [], iData (dSlice dInt) [.slice A a.Kept.length cap] a.Kept, iOwn bx 36 [.pointer (some ⟨b_d, 0, none⟩), .pointer (some ⟨b_r, 0, none⟩)] F, iOb (obDk b_d) p.d F_d F, iOb (obRk b_r) p.r F_r F] := hs998
          refine WL_at (L := [(3, .pointer (some ⟨b1, 0, none⟩))]) ⟨(hk1003 3 (by decide +kernel)), trivial⟩ ?_
          refine S_fieldAddr Try.runUnderlying39 rfl Try.sizeOf3 rfl rfl ?_
          have hs1018 : Sep F w0 (fun b => D b ∧ b < w0.heap.size) w997 [(bif dN 6 then (iAc dByte (.slice A891 ((p.d.read a.At).1.length) cap892) ((p.d.read a.At).1) bs893 []) else iNil), iOwn b1 39 [.int .i64 a.Kind, .int .i64 a.At, .int .i64 a.N, bv a.By, .slice A a.Kept.length cap] [], iData (dSlice dInt) [.slice A a.Kept.length cap] a.Kept, iOwn bx 36 [.pointer (some ⟨b_d, 0, none⟩), .pointer (some ⟨b_r, 0, none⟩)] F, iOb (obDk b_d) p.d F_d F, iOb (obRk b_r) p.r F_r F] := by rw [e1016]; exact hs1017
          exact WL_nil ⟨rfl, _, rfl, A891, cap892, bs893, hs1018, v1004, v1005, v1006, v1007, (fun _ => rfl), v1009, v1010, v1011, v1012, v1013, v1014, v1015, trivial⟩
        ·
          rintro dN vL g1019 w1020 ⟨A891, cap892, bs893, hs1021, v1027, v1028, v1029, v1030, v1031, v1032, v1033, v1034, v1035, v1036, v1037, v1038, _⟩ hD1022 hd1023 hu1024 hg1025 hk1026
          have e1039 : dN 4 = true := hd1023 4 (by decide +kernel)
          have e1040 : dN 6 = false := hu1024 6 (by decide +kernel)
          rw [e1040] at hs1021
          have hs1041 : Sep F w0 (fun b => D b ∧ b < w0.heap.size) w1020 [iNil, iOwn b1 39 [.int .i64 a.Kind, .int .i64 a.At, .int .i64 a.N, bv a.By, .slice A a.Kept.length cap] [], iData (dSlice dInt) [.slice A a.Kept.length cap] a.Kept, iOwn bx 36 [.pointer (some ⟨b_d, 0, none⟩), .pointer (some ⟨b_r, 0, none⟩)] F, iOb (obDk b_d) p.d F_d F, iOb (obRk b_r) p.r F_r F] := hs1021
          refine WL_at (L := [(41, .pointer (some ⟨b1, 1, none⟩))]) ⟨((hg1025 4 41 e1039 rfl).trans (v1031 e1039)), trivial⟩ ?_
          refine S_load1 Try.isAgg3 rfl (Own.at (hs1041.at 1 rfl) rfl) rfl ?_
          have hs1042 : Sep F w0 (fun b => D b ∧ b < w0.heap.size) w1020 [(bif dN 6 then (iAc dByte (.slice A891 ((p.d.read a.At).1.length) cap892) ((p.d.read a.At).1) bs893 []) else iNil), iOwn b1 39 [.int .i64 a.Kind, .int .i64 a.At, .int .i64 a.N, bv a.By, .slice A a.Kept.length cap] [], iData (dSlice dInt) [.slice A a.Kept.length cap] a.Kept, iOwn bx 36 [.pointer (some ⟨b_d, 0, none⟩), .pointer (some ⟨b_r, 0, none⟩)] F, iOb (obDk b_d) p.d F_d F, iOb (obRk b_r) p.r F_r F] := by rw [e1040]; exact hs1041
          exact WL_nil ⟨rfl, _, rfl, A891, cap892, bs893, hs1042, v1027, v1028, v1029, v1030, v1031, (fun _ => rfl), v1033, v1034, v1035, v1036, v1037, v1038, trivial⟩
        ·
          rintro dN vL g1043 w1044 ⟨A891, cap892, bs893, hs1045, v1051, v1052, v1053, v1054, v1055, v1056, v1057, v1058, v1059, v1060, v1061, v1062, _⟩ hD1046 hd1047 hu1048 hg1049 hk1050
          have e1063 : dN 3 = true := hd1047 3 (by decide +kernel)
          have e1064 : dN 5 = true := hd1047 5 (by decide +kernel)
          have e1065 : dN 6 = false := hD1046
          rw [e1065] at hs1045
          have hs1066 : Sep F w0 (fun b => D b ∧ b < w0.heap.size) w1044 [iNil, iOwn b1 39 [.int .i64 a.Kind, .int .i64 a.At, .int .i64 a.N, bv a.By, .slice A a.Kept.length cap] [], iData (dSlice dInt) [.slice A a.Kept.length cap] a.Kept, iOwn bx 36 [.pointer (some ⟨b_d, 0, none⟩), .pointer (some ⟨b_r, 0, none⟩)] F, iOb (obDk b_d) p.d F_d F, iOb (obRk b_r) p.r F_r F] := hs1045
          refine WL_at (L := [(40, .pointer (some ⟨b_d, 0, none⟩)), (42, .int .i64 a.At)]) ⟨((hg1049 3 40 e1063 rfl).trans (v1054 e1063)), ((hg1049 5 42 e1064 rfl).trans (v1056 e1064)), trivial⟩ ?_
          have hz1074 := read_ok (hs1066.at 4 rfl) okd a.At
          refine S_call3 Try.call20 rfl hz1074 rfl ?_
          rintro A1067 cap1068 bs1069 w1070 ⟨ha1071, e1072, hf1073⟩
          have hs1075 : Sep F w0 (fun b => D b ∧ b < w0.heap.size) w1070 [iAc dByte (.slice A1067 ((p.d.read a.At).1.length) cap1068) ((p.d.read a.At).1) bs1069 [], iNil, iOwn b1 39 [.int .i64 a.Kind, .int .i64 a.At, .int .i64 a.N, bv a.By, .slice A a.Kept.length cap] [], iData (dSlice dInt) [.slice A a.Kept.length cap] a.Kept, iOwn bx 36 [.pointer (some ⟨b_d, 0, none⟩), .pointer (some ⟨b_r, 0, none⟩)] F, iOb (obDk b_d) p.d F_d F, iOb (obRk b_r) p.r F_r F] := hs1066.madeAc e1072 ha1071 hf1073
          have hs1076 : Sep F w0 (fun b => D b ∧ b < w0.heap.size) w1070 [iAc dByte (.slice A1067 ((p.d.read a.At).1.length) cap1068) ((p.d.read a.At).1) bs1069 [], iOwn b1 39 [.int .i64 a.Kind, .int .i64 a.At, .int .i64 a.N, bv a.By, .slice A a.Kept.length cap] [], iData (dSlice dInt) [.slice A a.Kept.length cap] a.Kept, iOwn bx 36 [.pointer (some ⟨b_d, 0, none⟩), .pointer (some ⟨b_r, 0, none⟩)] F, iOb (obDk b_d) p.d F_d F, iOb (obRk b_r) p.r F_r F] := by exact (hs1075.pick [0, 2, 3, 4, 5, 6] rfl (by decide) rfl)
          exact WL_nil ⟨rfl, _, rfl, A1067, cap1068, bs1069, hs1076, v1051, v1052, v1053, v1054, v1055, v1056, (fun _ => rfl), (fun h => by cases ((hu1048 7 (by decide +kernel)).symm.trans h)), (fun h => by cases ((hu1048 8 (by decide +kernel)).symm.trans h)), v1060, (fun h => by cases ((hu1048 10 (by decide +kernel)).symm.trans h)), v1062, trivial⟩
        ·
          rintro dN vL g1077 w1078 ⟨A891, cap892, bs893, hs1079, v1085, v1086, v1087, v1088, v1089, v1090, v1091, v1092, v1093, v1094, v1095, v1096, _⟩ hD1080 hd1081 hu1082 hg1083 hk1084
          have e1097 : dN 6 = true := hd1081 6 (by decide +kernel)
          rw [e1097] at hs1079
          have hs1098 : Sep F w0 (fun b => D b ∧ b < w0.heap.size) w1078 [iAc dByte (.slice A891 ((p.d.read a.At).1.length) cap892) ((p.d.read a.At).1) bs893 [], iOwn b1 39 [.int .i64 a.Kind, .int .i64 a.At, .int .i64 a.N, bv a.By, .slice A a.Kept.length cap] [], iData (dSlice dInt) [.slice A a.Kept.length cap] a.Kept, iOwn bx 36 [.pointer (some ⟨b_d, 0, none⟩), .pointer (some ⟨b_r, 0, none⟩)] F, iOb (obDk b_d) p.d F_d F, iOb (obRk b_r) p.r F_r F] := hs1079
          refine WL_at (L := [(43, .tuple #[.slice A891 ((p.d.read a.At).1.length) cap892, errv 64 ((p.d.read a.At).2)])]) ⟨((hg1083 6 43 e1097 rfl).trans (v1091 e1097)), trivial⟩ ?_
          refine S_move rfl ?_
          have hs1099 : Sep F w0 (fun b => D b ∧ b < w0.heap.size) w1078 [(bif dN 6 then (iAc dByte (.slice A891 ((p.d.read a.At).1.length) cap892) ((p.d.read a.At).1) bs893 []) else iNil), iOwn b1 39 [.int .i64 a.Kind, .int .i64 a.At, .int .i64 a.N, bv a.By, .slice A a.Kept.length cap] [], iData (dSlice dInt) [.slice A a.Kept.length cap] a.Kept, iOwn bx 36 [.pointer (some ⟨b_d, 0, none⟩), .pointer (some ⟨b_r, 0, none⟩)] F, iOb (obDk b_d) p.d F_d F, iOb (obRk b_r) p.r F_r F] := by rw [e1097]; exact hs1098
          exact WL_nil ⟨rfl, _, rfl, A891, cap892, bs893, hs1099, v1085, v1086, v1087, v1088, v1089, v1090, v1091, (fun _ => rfl), v1093, v1094, v1095, v1096, trivial⟩
        ·
          rintro dN vL g1100 w1101 ⟨A891, cap892, bs893, hs1102, v1108, v1109, v1110, v1111, v1112, v1113, v1114, v1115, v1116, v1117, v1118, v1119, _⟩ hD1103 hd1104 hu1105 hg1106 hk1107
          have e1120 : dN 6 = true := hd1104 6 (by decide +kernel)
          have e1121 : dN 7 = true := hd1104 7 (by decide +kernel)
          rw [e1120] at hs1102
          have hs1122 : Sep F w0 (fun b => D b ∧ b < w0.heap.size) w1101 [iAc dByte (.slice A891 ((p.d.read a.At).1.length) cap892) ((p.d.read a.At).1) bs893 [], iOwn b1 39 [.int .i64 a.Kind, .int .i64 a.At, .int .i64 a.N, bv a.By, .slice A a.Kept.length cap] [], iData (dSlice dInt) [.slice A a.Kept.length cap] a.Kept, iOwn bx 36 [.pointer (some ⟨b_d, 0, none⟩), .pointer (some ⟨b_r, 0, none⟩)] F, iOb (obDk b_d) p.d F_d F, iOb (obRk b_r) p.r F_r F] := hs1102
          refine WL_at (L := [(36, .tuple #[.slice A891 ((p.d.read a.At).1.length) cap892, errv 64 ((p.d.read a.At).2)])]) ⟨((hg1106 7 36 e1121 rfl).trans (v1115 e1121)), trivial⟩ ?_
          refine S_extract rfl rfl rfl ?_
          have hs1123 : Sep F w0 (fun b => D b ∧ b < w0.heap.size) w1101 [(bif dN 6 then (iAc dByte (.slice A891 ((p.d.read a.At).1.length) cap892) ((p.d.read a.At).1) bs893 []) else iNil), iOwn b1 39 [.int .i64 a.Kind, .int .i64 a.At, .int .i64 a.N, bv a.By, .slice A a.Kept.length cap] [], iData (dSlice dInt) [.slice A a.Kept.length cap] a.Kept, iOwn bx 36 [.pointer (some ⟨b_d, 0, none⟩), .pointer (some ⟨b_r, 0, none⟩)] F, iOb (obDk b_d) p.d F_d F, iOb (obRk b_r) p.r F_r F] := by rw [e1120]; exact hs1122
          exact WL_nil ⟨rfl, _, rfl, A891, cap892, bs893, hs1123, v1108, v1109, v1110, v1111, v1112, v1113, v1114, v1115, (fun _ => rfl), v1117, v1118, v1119, trivial⟩
        ·
          rintro dN vL g1124 w1125 ⟨A891, cap892, bs893, hs1126, v1132, v1133, v1134, v1135, v1136, v1137, v1138, v1139, v1140, v1141, v1142, v1143, _⟩ hD1127 hd1128 hu1129 hg1130 hk1131
          have e1144 : dN 6 = true := hd1128 6 (by decide +kernel)
          have e1145 : dN 7 = true := hd1128 7 (by decide +kernel)
          rw [e1144] at hs1126
          have hs1146 : Sep F w0 (fun b => D b ∧ b < w0.heap.size) w1125 [iAc dByte (.slice A891 ((p.d.read a.At).1.length) cap892) ((p.d.read a.At).1) bs893 [], iOwn b1 39 [.int .i64 a.Kind, .int .i64 a.At, .int .i64 a.N, bv a.By, .slice A a.Kept.length cap] [], iData (dSlice dInt) [.slice A a.Kept.length cap] a.Kept, iOwn bx 36 [.pointer (some ⟨b_d, 0, none⟩), .pointer (some ⟨b_r, 0, none⟩)] F, iOb (obDk b_d) p.d F_d F, iOb (obRk b_r) p.r F_r F] := hs1126
          refine WL_at (L := [(36, .tuple #[.slice A891 ((p.d.read a.At).1.length) cap892, errv 64 ((p.d.read a.At).2)])]) ⟨((hg1130 7 36 e1145 rfl).trans (v1139 e1145)), trivial⟩ ?_
          refine S_extract rfl rfl rfl ?_
          have hs1147 : Sep F w0 (fun b => D b ∧ b < w0.heap.size) w1125 [(bif dN 6 then (iAc dByte (.slice A891 ((p.d.read a.At).1.length) cap892) ((p.d.read a.At).1) bs893 []) else iNil), iOwn b1 39 [.int .i64 a.Kind, .int .i64 a.At, .int .i64 a.N, bv a.By, .slice A a.Kept.length cap] [], iData (dSlice dInt) [.slice A a.Kept.length cap] a.Kept, iOwn bx 36 [.pointer (some ⟨b_d, 0, none⟩), .pointer (some ⟨b_r, 0, none⟩)] F, iOb (obDk b_d) p.d F_d F, iOb (obRk b_r) p.r F_r F] := by rw [e1144]; exact hs1146
          exact WL_nil ⟨rfl, _, rfl, A891, cap892, bs893, hs1147, v1132, v1133, v1134, v1135, v1136, v1137, v1138, v1139, v1140, (fun _ => rfl), v1142, v1143, trivial⟩
        ·
          rintro dN vL g1148 w1149 ⟨A891, cap892, bs893, hs1150, v1156, v1157, v1158, v1159, v1160, v1161, v1162, v1163, v1164, v1165, v1166, v1167, _⟩ hD1151 hd1152 hu1153 hg1154 hk1155
          have e1168 : dN 6 = true := hd1152 6 (by decide +kernel)
          have e1169 : dN 8 = true := hd1152 8 (by decide +kernel)
          rw [e1168] at hs1150
          have hs1170 : Sep F w0 (fun b => D b ∧ b < w0.heap.size) w1149 [iAc dByte (.slice A891 ((p.d.read a.At).1.length) cap892) ((p.d.read a.At).1) bs893 [], iOwn b1 39 [.int .i64 a.Kind, .int .i64 a.At, .int .i64 a.N, bv a.By, .slice A a.Kept.length cap] [], iData (dSlice dInt) [.slice A a.Kept.length cap] a.Kept, iOwn bx 36 [.pointer (some ⟨b_d, 0, none⟩), .pointer (some ⟨b_r, 0, none⟩)] F, iOb (obDk b_d) p.d F_d F, iOb (obRk b_r) p.r F_r F] := hs1150
          refine WL_at (L := [(44, .slice A891 ((p.d.read a.At).1.length) cap892)]) ⟨((hg1154 8 44 e1169 rfl).trans (v1164 e1169)), trivial⟩ ?_
          refine S_assign rfl ?_
          have hs1171 : Sep F w0 (fun b => D b ∧ b < w0.heap.size) w1149 [(bif dN 6 then (iAc dByte (.slice A891 ((p.d.read a.At).1.length) cap892) ((p.d.read a.At).1) bs893 []) else iNil), iOwn b1 39 [.int .i64 a.Kind, .int .i64 a.At, .int .i64 a.N, bv a.By, .slice A a.Kept.length cap] [], iData (dSlice dInt) [.slice A a.Kept.length cap] a.Kept, iOwn bx 36 [.pointer (some ⟨b_d, 0, none⟩), .pointer (some ⟨b_r, 0, none⟩)] F, iOb (obDk b_d) p.d F_d F, iOb (obRk b_r) p.r F_r F] := by rw [e1168]; exact hs1170
          exact WL_nil ⟨rfl, _, rfl, A891, cap892, bs893, hs1171, v1156, v1157, v1158, v1159, v1160, v1161, v1162, v1163, v1164, v1165, (fun _ => rfl), v1167, trivial⟩
        ·
          rintro dN vL g1172 w1173 ⟨A891, cap892, bs893, hs1174, v1180, v1181, v1182, v1183, v1184, v1185, v1186, v1187, v1188, v1189, v1190, v1191, _⟩ hD1175 hd1176 hu1177 hg1178 hk1179
          have e1192 : dN 6 = true := hd1176 6 (by decide +kernel)
          have e1193 : dN 9 = true := hd1176 9 (by decide +kernel)
          rw [e1192] at hs1174
          have hs1194 : Sep F w0 (fun b => D b ∧ b < w0.heap.size) w1173 [iAc dByte (.slice A891 ((p.d.read a.At).1.length) cap892) ((p.d.read a.At).1) bs893 [], iOwn b1 39 [.int .i64 a.Kind, .int .i64 a.At, .int .i64 a.N, bv a.By, .slice A a.Kept.length cap] [], iData (dSlice dInt) [.slice A a.Kept.length cap] a.Kept, iOwn bx 36 [.pointer (some ⟨b_d, 0, none⟩), .pointer (some ⟨b_r, 0, none⟩)] F, iOb (obDk b_d) p.d F_d F, iOb (obRk b_r) p.r F_r F] := hs1174
          refine WL_at (L := [(45, errv 64 ((p.d.read a.At).2))]) ⟨((hg1178 9 45 e1193 rfl).trans (v1189 e1193)), trivial⟩ ?_
          refine S_assign rfl ?_
          have hs1195 : Sep F w0 (fun b => D b ∧ b < w0.heap.size) w1173 [(bif dN 6 then (iAc dByte (.slice A891 ((p.d.read a.At).1.length) cap892) ((p.d.read a.At).1) bs893 []) else iNil), iOwn b1 39 [.int .i64 a.Kind, .int .i64 a.At, .int .i64 a.N, bv a.By, .slice A a.Kept.length cap] [], iData (dSlice dInt) [.slice A a.Kept.length cap] a.Kept, iOwn bx 36 [.pointer (some ⟨b_d, 0, none⟩), .pointer (some ⟨b_r, 0, none⟩)] F, iOb (obDk b_d) p.d F_d F, iOb (obRk b_r) p.r F_r F] := by rw [e1192]; exact hs1194
          exact WL_nil ⟨rfl, _, rfl, A891, cap892, bs893, hs1195, v1180, v1181, v1182, v1183, v1184, v1185, v1186, v1187, v1188, v1189, v1190, (fun _ => rfl), trivial⟩
      ·
        rintro dN vL g1196 w1197 ha1199 ⟨A891, cap892, bs893, hs1198, v1202, v1203, v1204, v1205, v1206, v1207, v1208, v1209, v1210, v1211, v1212, v1213, _⟩ hg1200 hk1201
        rw [ha1199 6 rfl] at hs1198
        have hs1214 : Sep F w0 (fun b => D b ∧ b < w0.heap.size) w1197 [iAc dByte (.slice A891 ((p.d.read a.At).1.length) cap892) ((p.d.read a.At).1) bs893 [], iOwn b1 39 [.int .i64 a.Kind, .int .i64 a.At, .int .i64 a.N, bv a.By, .slice A a.Kept.length cap] [], iData (dSlice dInt) [.slice A a.Kept.length cap] a.Kept, iOwn bx 36 [.pointer (some ⟨b_d, 0, none⟩), .pointer (some ⟨b_r, 0, none⟩)] F, iOb (obDk b_d) p.d F_d F, iOb (obRk b_r) p.r F_r F] := hs1198
        refine ⟨[(0, .pointer (some ⟨bx, 0, none⟩)), (3, .pointer (some ⟨b1, 0, none⟩)), (5, .slice A891 ((p.d.read a.At).1.length) cap892), (6, errv 64 ((p.d.read a.At).2))], ⟨(hk1201 0 rfl), (hk1201 3 rfl), ((hg1200 10 5 rfl rfl).trans (v1212 (ha1199 10 rfl))), ((hg1200 11 6 rfl rfl).trans (v1213 (ha1199 11 rfl))), trivial⟩, fun g1215 => ?_⟩
        refine W_seq ?_
        refine W_live (L := [(0, .pointer (some ⟨bx, 0, none⟩)), (3, .pointer (some ⟨b1, 0, none⟩)), (5, .slice A891 ((p.d.read a.At).1.length) cap892), (6, errv 64 ((p.d.read a.At).2))]) ⟨rfl, rfl, rfl, rfl, trivial⟩ ?_
        intro g1216
        refine W_region_J (fun dN vL w => Sep F w0 (fun b => D b ∧ b < w0.heap.size) w [iAc dByte (.slice A891 ((p.d.read a.At).1.length) cap892) ((p.d.read a.At).1) bs893 [], iOwn b1 39 [.int .i64 a.Kind, .int .i64 a.At, .int .i64 a.N, bv a.By, .slice A a.Kept.length cap] [], iData (dSlice dInt) [.slice A a.Kept.length cap] a.Kept, iOwn bx 36 [.pointer (some ⟨b_d, 0, none⟩), .pointer (some ⟨b_r, 0, none⟩)] F, iOb (obDk b_d) p.d F_d F, iOb (obRk b_r) p.r F_r F] ∧ (dN 0 = true → vL 0 = .pointer (some ⟨bx, 0, none⟩)) ∧ (dN 1 = true → vL 1 = .pointer (some ⟨bx, 0, none⟩)) ∧ (dN 2 = true → vL 2 = .pointer (some ⟨bx, 1, none⟩)) ∧ (dN 3 = true → vL 3 = .pointer (some ⟨b_r, 0, none⟩)) ∧ (dN 4 = true → vL 4 = .pointer (some ⟨b1, 1, none⟩)) ∧ (dN 5 = true → vL 5 = .int .i64 a.At) ∧ (dN 6 = true → vL 6 = .tuple #[sv ((p.r.read a.At).1), .int .i64 ((p.r.read a.At).2)]) ∧ (dN 7 = true → vL 7 = .tuple #[sv ((p.r.read a.At).1), .int .i64 ((p.r.read a.At).2)]) ∧ (dN 8 = true → vL 8 = sv ((p.r.read a.At).1)) ∧ (dN 9 = true → vL 9 = .int .i64 ((p.r.read a.At).2)) ∧ (dN 10 = true → vL 10 = sv ((p.r.read a.At).1)) ∧ (dN 11 = true → vL 11 = .int .i64 ((p.r.read a.At).2)) ∧ True) [7, 8, 46, 47, 48, 49, 50, 51, 52, 53, 54, 55] rfl (by decide +kernel) _ rfl ?_ ?_ ?_
        · exact fun V => ⟨hs1214, (fun h => by cases h), (fun h => by cases h), (fun h => by cases h), (fun h => by cases h), (fun h => by cases h), (fun h => by cases h), (fun h => by cases h), (fun h => by cases h), (fun h => by cases h), (fun h => by cases h), (fun h => by cases h), (fun h => by cases h), trivial⟩
        · refine (.cons ?_ (.cons ?_ (.cons ?_ (.cons ?_ (.cons ?_ (.cons ?_ (.cons ?_ (.cons ?_ (.cons ?_ (.cons ?_ (.cons ?_ (.cons ?_ .nil))))))))))))
          ·
            rintro dN vL g1218 w1219 ⟨hs1220, v1226, v1227, v1228, v1229, v1230, v1231, v1232, v1233, v1234, v1235, v1236, v1237, _⟩ hD1221 hd1222 hu1223 hg1224 hk1225
            have hs1238 : Sep F w0 (fun b => D b ∧ b < w0.heap.size) w1219 [iAc dByte (.slice A891 ((p.d.read a.At).1.length) cap892) ((p.d.read a.At).1) bs893 [], iOwn b1 39 [.int .i64 a.Kind, .int .i64 a.At, .int .i64 a.N, bv a.By, .slice A a.Kept.length cap] [], iData (dSlice dInt) [.slice A a.Kept.length cap] a.Kept, iOwn bx 36 [.pointer (some ⟨b_d, 0, none⟩), .pointer (some ⟨b_r, 0, none⟩)] F, iOb (obDk b_d) p.d F_d F, iOb (obRk b_r) p.r F_r F] := hs1220
            refine WL_at (L := [(0, .pointer (some ⟨bx, 0, none⟩))]) ⟨(hk1225 0 (by decide +kernel)), trivial⟩ ?_
            refine S_move rfl ?_
            have hs1239 : Sep F w0 (fun b => D b ∧ b < w0.heap.size) w1219 [iAc dByte (.slice A891 ((p.d.read a.At).1.length) cap892) ((p.d.read a.At).1) bs893 [], iOwn b1 39 [.int .i64 a.Kind, .int .i64 a.At, .int .i64 a.N, bv a.By, .slice A a.Kept.length cap] [], iData (dSlice dInt) [.slice A a.Kept.length cap] a.Kept, iOwn bx 36 [.pointer (some ⟨b_d, 0, none⟩), .pointer (some ⟨b_r, 0, none⟩)] F, iOb (obDk b_d) p.d F_d F, iOb (obRk b_r) p.r F_r F] := by exact hs1238
            exact WL_nil ⟨rfl, _, rfl, hs1239, (fun _ => rfl), v1227, v1228, v1229, v1230, v1231, v1232, v1233, v1234, v1235, v1236, v1237, trivial⟩
          ·
            rintro dN vL g1240 w1241 ⟨hs1242, v1248, v1249, v1250, v1251, v1252, v1253, v1254, v1255, v1256, v1257, v1258, v1259, _⟩ hD1243 hd1244 hu1245 hg1246 hk1247
            have e1260 : dN 0 = true := hd1244 0 (by decide +kernel)
            have hs1261 : Sep F w0 (fun b => D b ∧ b < w0.heap.size) w1241 [iAc dByte (.slice A891 ((p.d.read a.At).1.length) cap892) ((p.d.read a.At).1) bs893 [], iOwn b1 39 [.int .i64 a.Kind, .int .i64 a.At, .int .i64 a.N, bv a.By, .slice A a.Kept.length cap] [], iData (dSlice dInt) [.slice A a.Kept.length cap] a.Kept, iOwn bx 36 [.pointer (some ⟨b_d, 0, none⟩), .pointer (some ⟨b_r, 0, none⟩)] F, iOb (obDk b_d) p.d F_d F, iOb (obRk b_r) p.r F_r F] := hs1242
            refine WL_at (L := [(47, .pointer (some ⟨bx, 0, none⟩))]) ⟨((hg1246 0 47 e1260 rfl).trans (v1248 e1260)), trivial⟩ ?_
            refine S_nilCheck rfl rfl ?_
            have hs1262 : Sep F w0 (fun b => D b ∧ b < w0.heap.size) w1241 [iAc dByte (.slice A891 ((p.d.read a.At).1.length) cap892) ((p.d.read a.At).1) bs893 [], iOwn b1 39 [.int .i64 a.Kind, .int .i64 a.At, .int .i64 a.N, bv a.By, .slice A a.Kept.length cap] [], iData (dSlice dInt) [.slice A a.Kept.length cap] a.Kept, iOwn bx 36 [.pointer (some ⟨b_d, 0, none⟩), .pointer (some ⟨b_r, 0, none⟩)] F, iOb (obDk b_d) p.d F_d F, iOb (obRk b_r) p.r F_r F] := by exact hs1261
            exact WL_nil ⟨rfl, _, rfl, hs1262, v1248, (fun _ => rfl), v1250, v1251, v1252, v1253, v1254, v1255, v1256, v1257, v1258, v1259, trivial⟩
          ·
            rintro dN vL g1263 w1264 ⟨hs1265, v1271, v1272, v1273, v1274, v1275, v1276, v1277, v1278, v1279, v1280, v1281, v1282, _⟩ hD1266 hd1267 hu1268 hg1269 hk1270
            have e1283 : dN 1 = true := hd1267 1 (by decide +kernel)
            have hs1284 : Sep F w0 (fun b => D b ∧ b < w0.heap.size) w1264 [iAc dByte (.slice A891 ((p.d.read a.At).1.length) cap892) ((p.d.read a.At).1) bs893 [], iOwn b1 39 [.int .i64 a.Kind, .int .i64 a.At, .int .i64 a.N, bv a.By, .slice A a.Kept.length cap] [], iData (dSlice dInt) [.slice A a.Kept.length cap] a.Kept, iOwn bx 36 [.pointer (some ⟨b_d, 0, none⟩), .pointer (some ⟨b_r, 0, none⟩)] F, iOb (obDk b_d) p.d F_d F, iOb (obRk b_r) p.r F_r F] := hs1265
            refine WL_at (L := [(48, .pointer (some ⟨bx, 0, none⟩))]) ⟨((hg1269 1 48 e1283 rfl).trans (v1272 e1283)), trivial⟩ ?_
            refine S_fieldAddr Try.runUnderlying36 rfl Try.sizeOf28 rfl rfl ?_
            have hs1285 : Sep F w0 (fun b => D b ∧ b < w0.heap.size) w1264 [iAc dByte (.slice A891 ((p.d.read a.At).1.length) cap892) ((p.d.read a.At).1) bs893 [], iOwn b1 39 [.int .i64 a.Kind, .int .i64 a.At, .int .i64 a.N, bv a.By, .slice A a.Kept.length cap] [], iData (dSlice dInt) [.slice A a.Kept.length cap] a.Kept, iOwn bx 36 [.pointer (some ⟨b_d, 0, none⟩), .pointer (some ⟨b_r, 0, none⟩)] F, iOb (obDk b_d) p.d F_d F, iOb (obRk b_r) p.r F_r F] := by exact hs1284
            exact WL_nil ⟨rfl, _, rfl, hs1285, v1271, v1272, (fun _ => rfl), v1274, v1275, v1276, v1277, v1278, v1279, v1280, v1281, v1282, trivial⟩
          ·
            rintro dN vL g1286 w1287 ⟨hs1288, v1294, v1295, v1296, v1297, v1298, v1299, v1300, v1301, v1302, v1303, v1304, v1305, _⟩ hD1289 hd1290 hu1291 hg1292 hk1293
            have e1306 : dN 2 = true := hd1290 2 (by decide +kernel)
            have hs1307 : Sep F w0 (fun b => D b ∧ b < w0.heap.size) w1287 [iAc dByte (.slice A891 ((p.d.read a.At).1.length) cap892) ((p.d.read a.At).1) bs893 [], iOwn b1 39 [.int .i64 a.Kind, .int .i64 a.At, .int .i64 a.N, bv a.By, .slice A a.Kept.length cap] [], iData (dSlice dInt) [.slice A a.Kept.length cap] a.Kept, iOwn bx 36 [.pointer (some ⟨b_d, 0, none⟩), .pointer (some ⟨b_r, 0, none⟩)] F, iOb (obDk b_d) p.d F_d F, iOb (obRk b_r) p.r F_r F] := hs1288
            refine WL_at (L := [(49, .pointer (some ⟨bx, 1, none⟩))]) ⟨((hg1292 2 49 e1306 rfl).trans (v1296 e1306)), trivial⟩ ?_
            refine S_load1 Try.isAgg28 rfl (Own.at (hs1307.at 3 rfl) rfl) rfl ?_
            have hs1308 : Sep F w0 (fun b => D b ∧ b < w0.heap.size) w1287 [iAc dByte (.slice A891 ((p.d.read a.At).1.length) cap892) ((p.d.read a.At).1) bs893 [], iOwn b1 39 [.int .i64 a.Kind, .int .i64 a.At, .int .i64 a.N, bv a.By, .slice A a.Kept.length cap] [], iData (dSlice dInt) [.slice A a.Kept.length cap] a.Kept, iOwn bx 36 [.pointer (some ⟨b_d, 0, none⟩), .pointer (some ⟨b_r, 0, none⟩)] F, iOb (obDk b_d) p.d F_d F, iOb (obRk b_r) p.r F_r F] := by exact hs1307
            exact WL_nil ⟨rfl, _, rfl, hs1308, v1294, v1295, v1296, (fun _ => rfl), v1298, v1299, v1300, v1301, v1302, v1303, v1304, v1305, trivial⟩
          ·
            rintro dN vL g1309 w1310 ⟨hs1311, v1317, v1318, v1319, v1320, v1321, v1322, v1323, v1324, v1325, v1326, v1327, v1328, _⟩ hD1312 hd1313 hu1314 hg1315 hk1316
            have hs1329 : Sep F w0 (fun b => D b ∧ b < w0.heap.size) w1310 [iAc dByte (.slice A891 ((p.d.read a.At).1.length) cap892) ((p.d.read a.At).1) bs893 [], iOwn b1 39 [.int .i64 a.Kind, .int .i64 a.At, .int .i64 a.N, bv a.By, .slice A a.Kept.length cap] [], iData (dSlice dInt) [.slice A a.Kept.length cap] a.Kept, iOwn bx 36 [.pointer (some ⟨b_d, 0, none⟩), .pointer (some ⟨b_r, 0, none⟩)] F, iOb (obDk b_d) p.d F_d F, iOb (obRk b_r) p.r F_r F] := hs1311
            refine WL_at (L := [(3, .pointer (some ⟨b1, 0, none⟩))]) ⟨(hk1316 3 (by decide +kernel)), trivial⟩ ?_
            refine S_fieldAddr Try.runUnderlying39 rfl Try.sizeOf3 rfl rfl ?_
            have hs1330 : Sep F w0 (fun b => D b ∧ b < w0.heap.size) w1310 [iAc dByte (.slice A891 ((p.d.read a.At).1.length) cap892) ((p.d.read a.At).1) bs893 [], iOwn b1 39 [.int .i64 a.Kind, .int .i64 a.At, .int .i64 a.N, bv a.By, .slice A a.Kept.length cap] [], iData (dSlice dInt) [.slice A a.Kept.length cap] a.Kept, iOwn bx 36 [.pointer (some ⟨b_d, 0, none⟩), .pointer (some ⟨b_r, 0, none⟩)] F, iOb (obDk b_d) p.d F_d F, iOb (obRk b_r) p.r F_r F] := by exact hs1329
            exact WL_nil ⟨rfl, _, rfl, hs1330, v1317, v1318, v1319, v1320, (fun _ => rfl), v1322, v1323, v1324, v1325, v1326, v1327, v1328, trivial⟩
          ·
            rintro dN vL g1331 w1332 ⟨hs1333, v1339, v1340, v1341, v1342, v1343, v1344, v1345, v1346, v1347, v1348, v1349, v1350, _⟩ hD1334 hd1335 hu1336 hg1337 hk1338
            have e1351 : dN 4 = true := hd1335 4 (by decide +kernel)
            have hs1352 : Sep F w0 (fun b => D b ∧ b < w0.heap.size) w1332 [iAc dByte (.slice A891 ((p.d.read a.At).1.length) cap892) ((p.d.read a.At).1) bs893 [], iOwn b1 39 [.int .i64 a.Kind, .int .i64 a.At, .int .i64 a.N, bv a.By, .slice A a.Kept.length cap] [], iData (dSlice dInt) [.slice A a.Kept.length cap] a.Kept, iOwn bx 36 [.pointer (some ⟨b_d, 0, none⟩), .pointer (some ⟨b_r, 0, none⟩)] F, iOb (obDk b_d) p.d F_d F, iOb (obRk b_r) p.r F_r F] := hs1333
            refine WL_at (L := [(51, .pointer (some ⟨b1, 1, none⟩))]) ⟨((hg1337 4 51 e1351 rfl).trans (v1343 e1351)), trivial⟩ ?_
            refine S_load1 Try.isAgg3 rfl (Own.at (hs1352.at 1 rfl) rfl) rfl ?_
            have hs1353 : Sep F w0 (fun b => D b ∧ b < w0.heap.size) w1332 [iAc dByte (.slice A891 ((p.d.read a.At).1.length) cap892) ((p.d.read a.At).1) bs893 [], iOwn b1 39 [.int .i64 a.Kind, .int .i64 a.At, .int .i64 a.N, bv a.By, .slice A a.Kept.length cap] [], iData (dSlice dInt) [.slice A a.Kept.length cap] a.Kept, iOwn bx 36 [.pointer (some ⟨b_d, 0, none⟩), .pointer (some ⟨b_r, 0, none⟩)] F, iOb (obDk b_d) p.d F_d F, iOb (obRk b_r) p.r F_r F] := by exact hs1352
            exact WL_nil ⟨rfl, _, rfl, hs1353, v1339, v1340, v1341, v1342, v1343, (fun _ => rfl), v1345, v1346, v1347, v1348, v1349, v1350, trivial⟩
          ·
            rintro dN vL g1354 w1355 ⟨hs1356, v1362, v1363, v1364, v1365, v1366, v1367, v1368, v1369, v1370, v1371, v1372, v1373, _⟩ hD1357 hd1358 hu1359 hg1360 hk1361
            have e1374 : dN 3 = true := hd1358 3 (by decide +kernel)
            have e1375 : dN 5 = true := hd1358 5 (by decide +kernel)
            have hs1376 : Sep F w0 (fun b => D b ∧ b < w0.heap.size) w1355 [iAc dByte (.slice A891 ((p.d.read a.At).1.length) cap892) ((p.d.read a.At).1) bs893 [], iOwn b1 39 [.int .i64 a.Kind, .int .i64 a.At, .int .i64 a.N, bv a.By, .slice A a.Kept.length cap] [], iData (dSlice dInt) [.slice A a.Kept.length cap] a.Kept, iOwn bx 36 [.pointer (some ⟨b_d, 0, none⟩), .pointer (some ⟨b_r, 0, none⟩)] F, iOb (obDk b_d) p.d F_d F, iOb (obRk b_r) p.r F_r F] := hs1356
            refine WL_at (L := [(50, .pointer (some ⟨b_r, 0, none⟩)), (52, .int .i64 a.At)]) ⟨((hg1360 3 50 e1374 rfl).trans (v1365 e1374)), ((hg1360 5 52 e1375 rfl).trans (v1367 e1375)), trivial⟩ ?_
            refine S_callQ Try.call21 rfl (rread_ok (hs1376.at 5 rfl) okr a.At) rfl ?_
            have hs1377 : Sep F w0 (fun b => D b ∧ b < w0.heap.size) w1355 [iAc dByte (.slice A891 ((p.d.read a.At).1.length) cap892) ((p.d.read a.At).1) bs893 [], iOwn b1 39 [.int .i64 a.Kind, .int .i64 a.At, .int .i64 a.N, bv a.By, .slice A a.Kept.length cap] [], iData (dSlice dInt) [.slice A a.Kept.length cap] a.Kept, iOwn bx 36 [.pointer (some ⟨b_d, 0, none⟩), .pointer (some ⟨b_r, 0, none⟩)] F, iOb (obDk b_d) p.d F_d F, iOb (obRk b_r) p.r F_r F] := by exact hs1376
            exact WL_nil ⟨rfl, _, rfl, hs1377, v1362, v1363, v1364, v1365, v1366, v1367, (fun _ => rfl), v1369, v1370, v1371, v1372, v1373, trivial⟩
          ·
            rintro dN vL g1378 w1379 ⟨hs1380, v1386, v1387, v1388, v1389, v1390, v1391, v1392, v1393, v1394, v1395, v1396, v1397, _⟩ hD1381 hd1382 hu1383 hg1384 hk1385
            have e1398 : dN 6 = true := hd1382 6 (by decide +kernel)
            have hs1399 : Sep F w0 (fun b => D b ∧ b < w0.heap.size) w1379 [iAc dByte (.slice A891 ((p.d.read a.At).1.length) cap892) ((p.d.read a.At).1) bs893 [], iOwn b1 39 [.int .i64 a.Kind, .int .i64 a.At, .int .i64 a.N, bv a.By, .slice A a.Kept.length cap] [], iData (dSlice dInt) [.slice A a.Kept.length cap] a.Kept, iOwn bx 36 [.pointer (some ⟨b_d, 0, none⟩), .pointer (some ⟨b_r, 0, none⟩)] F, iOb (obDk b_d) p.d F_d F, iOb (obRk b_r) p.r F_r F] := hs1380
            refine WL_at (L := [(53, .tuple #[sv ((p.r.read a.At).1), .int .i64 ((p.r.read a.At).2)])]) ⟨((hg1384 6 53 e1398 rfl).trans (v1392 e1398)), trivial⟩ ?_
            refine S_move rfl ?_
            have hs1400 : Sep F w0 (fun b => D b ∧ b < w0.heap.size) w1379 [iAc dByte (.slice A891 ((p.d.read a.At).1.length) cap892) ((p.d.read a.At).1) bs893 [], iOwn b1 39 [.int .i64 a.Kind, .int .i64 a.At, .int .i64 a.N, bv a.By, .slice A a.Kept.length cap] [], iData (dSlice dInt) [.slice A a.Kept.length cap] a.Kept, iOwn bx 36 [.pointer (some ⟨b_d, 0, none⟩), .pointer (some ⟨b_r, 0, none⟩)] F, iOb (obDk b_d) p.d F_d F, iOb (obRk b_r) p.r F_r F] := by exact hs1399
            exact WL_nil ⟨rfl, _, rfl, hs1400, v1386, v1387, v1388, v1389, v1390, v1391, v1392, (fun _ => rfl), v1394, v1395, v1396, v1397, trivial⟩
          ·
            rintro dN vL g1401 w1402 ⟨hs1403, v1409, v1410, v1411, v1412, v1413, v1414, v1415, v1416, v1417, v1418, v1419, v1420, _⟩ hD1404 hd1405 hu1406 hg1407 hk1408
            have e1421 : dN 7 = true := hd1405 7 (by decide +kernel)
            have hs1422 : Sep F w0 (fun b => D b ∧ b < w0.heap.size) w1402 [iAc dByte (.slice A891 ((p.d.read a.At).1.length) cap892) ((p.d.read a.At).1) bs893 [], iOwn b1 39 [.int .i64 a.Kind, .int .i64 a.At, .int .i64 a.N, bv a.By, .slice A a.Kept.length cap] [], iData (dSlice dInt) [.slice A a.Kept.length cap] a.Kept, iOwn bx 36 [.pointer (some ⟨b_d, 0, none⟩), .pointer (some ⟨b_r, 0, none⟩)] F, iOb (obDk b_d) p.d F_d F, iOb (obRk b_r) p.r F_r F] := hs1403
            refine WL_at (L := [(46, .tuple #[sv ((p.r.read a.At).1), .int .i64 ((p.r.read a.At).2)])]) ⟨((hg1407 7 46 e1421 rfl).trans (v1416 e1421)), trivial⟩ ?_
            refine S_extract rfl rfl rfl ?_
            have hs1423 : Sep F w0 (fun b => D b ∧ b < w0.heap.size) w1402 [iAc dByte (.slice A891 ((p.d.read a.At).1.length) cap892) ((p.d.read a.At).1) bs893 [], iOwn b1 39 [.int .i64 a.Kind, .int .i64 a.At, .int .i64 a.N, bv a.By, .slice A a.Kept.length cap] [], iData (dSlice dInt) [.slice A a.Kept.length cap] a.Kept, iOwn bx 36 [.pointer (some ⟨b_d, 0, none⟩), .pointer (some ⟨b_r, 0, none⟩)] F, iOb (obDk b_d) p.d F_d F, iOb (obRk b_r) p.r F_r F] := by exact hs1422
            exact WL_nil ⟨rfl, _, rfl, hs1423, v1409, v1410, v1411, v1412, v1413, v1414, v1415, v1416, (fun _ => rfl), v1418, v1419, v1420, trivial⟩
          ·
            rintro dN vL g1424 w1425 ⟨hs1426, v1432, v1433, v1434, v1435, v1436, v1437, v1438, v1439, v1440, v1441, v1442, v1443, _⟩ hD1427 hd1428 hu1429 hg1430 hk1431
            have e1444 : dN 7 = true := hd1428 7 (by decide +kernel)
            have hs1445 : Sep F w0 (fun b => D b ∧ b < w0.heap.size) w1425 [iAc dByte (.slice A891 ((p.d.read a.At).1.length) cap892) ((p.d.read a.At).1) bs893 [], iOwn b1 39 [.int .i64 a.Kind, .int .i64 a.At, .int .i64 a.N, bv a.By, .slice A a.Kept.length cap] [], iData (dSlice dInt) [.slice A a.Kept.length cap] a.Kept, iOwn bx 36 [.pointer (some ⟨b_d, 0, none⟩), .pointer (some ⟨b_r, 0, none⟩)] F, iOb (obDk b_d) p.d F_d F, iOb (obRk b_r) p.r F_r F] := hs1426
            refine WL_at (L := [(46, .tuple #[sv ((p.r.read a.At).1), .int .i64 ((p.r.read a.At).2)])]) ⟨((hg1430 7 46 e1444 rfl).trans (v1439 e1444)), trivial⟩ ?_
            refine S_extract rfl rfl rfl ?_
            have hs1446 : Sep F w0 (fun b => D b ∧ b < w0.heap.size) w1425 [iAc dByte (.slice A891 ((p.d.read a.At).1.length) cap892) ((p.d.read a.At).1) bs893 [], iOwn b1 39 [.int .i64 a.Kind, .int .i64 a.At, .int .i64 a.N, bv a.By, .slice A a.Kept.length cap] [], iData (dSlice dInt) [.slice A a.Kept.length cap] a.Kept, iOwn bx 36 [.pointer (some ⟨b_d, 0, none⟩), .pointer (some ⟨b_r, 0, none⟩)] F, iOb (obDk b_d) p.d F_d F, iOb (obRk b_r) p.r F_r F] := by exact hs1445
            exact WL_nil ⟨rfl, _, rfl, hs1446, v1432, v1433, v1434, v1435, v1436, v1437, v1438, v1439, v1440, (fun _ => rfl), v1442, v1443, trivial⟩
          ·
            rintro dN vL g1447 w1448 ⟨hs1449, v1455, v1456, v1457, v1458, v1459, v1460, v1461, v1462, v1463, v1464, v1465, v1466, _⟩ hD1450 hd1451 hu1452 hg1453 hk1454
            have e1467 : dN 8 = true := hd1451 8 (by decide +kernel)
            have hs1468 : Sep F w0 (fun b => D b ∧ b < w0.heap.size) w1448 [iAc dByte (.slice A891 ((p.d.read a.At).1.length) cap892) ((p.d.read a.At).1) bs893 [], iOwn b1 39 [.int .i64 a.Kind, .int .i64 a.At, .int .i64 a.N, bv a.By, .slice A a.Kept.length cap] [], iData (dSlice dInt) [.slice A a.Kept.length cap] a.Kept, iOwn bx 36 [.pointer (some ⟨b_d, 0, none⟩), .pointer (some ⟨b_r, 0, none⟩)] F, iOb (obDk b_d) p.d F_d F, iOb (obRk b_r) p.r F_r F] := hs1449
            refine WL_at (L := [(54, sv ((p.r.read a.At).1))]) ⟨((hg1453 8 54 e1467 rfl).trans (v1463 e1467)), trivial⟩ ?_
            refine S_assign rfl ?_
            have hs1469 : Sep F w0 (fun b => D b ∧ b < w0.heap.size) w1448 [iAc dByte (.slice A891 ((p.d.read a.At).1.length) cap892) ((p.d.read a.At).1) bs893 [], iOwn b1 39 [.int .i64 a.Kind, .int .i64 a.At, .int .i64 a.N, bv a.By, .slice A a.Kept.length cap] [], iData (dSlice dInt) [.slice A a.Kept.length cap] a.Kept, iOwn bx 36 [.pointer (some ⟨b_d, 0, none⟩), .pointer (some ⟨b_r, 0, none⟩)] F, iOb (obDk b_d) p.d F_d F, iOb (obRk b_r) p.r F_r F] := by exact hs1468
            exact WL_nil ⟨rfl, _, rfl, hs1469, v1455, v1456, v1457, v1458, v1459, v1460, v1461, v1462, v1463, v1464, (fun _ => rfl), v1466, trivial⟩
          ·
            rintro dN vL g1470 w1471 ⟨hs1472, v1478, v1479, v1480, v1481, v1482, v1483, v1484, v1485, v1486, v1487, v1488, v1489, _⟩ hD1473 hd1474 hu1475 hg1476 hk1477
            have e1490 : dN 9 = true := hd1474 9 (by decide +kernel)
            have hs1491 : Sep F w0 (fun b => D b ∧ b < w0.heap.size) w1471 [iAc dByte (.slice A891 ((p.d.read a.At).1.length) cap892) ((p.d.read a.At).1) bs893 [], iOwn b1 39 [.int .i64 a.Kind, .int .i64 a.At, .int .i64 a.N, bv a.By, .slice A a.Kept.length cap] [], iData (dSlice dInt) [.slice A a.Kept.length cap] a.Kept, iOwn bx 36 [.pointer (some ⟨b_d, 0, none⟩), .pointer (some ⟨b_r, 0, none⟩)] F, iOb (obDk b_d) p.d F_d F, iOb (obRk b_r) p.r F_r F] := hs1472
            refine WL_at (L := [(55, .int .i64 ((p.r.read a.At).2))]) ⟨((hg1476 9 55 e1490 rfl).trans (v1487 e1490)), trivial⟩ ?_
            refine S_assign rfl ?_
            have hs1492 : Sep F w0 (fun b => D b ∧ b < w0.heap.size) w1471 [iAc dByte (.slice A891 ((p.d.read a.At).1.length) cap892) ((p.d.read a.At).1) bs893 [], iOwn b1 39 [.int .i64 a.Kind, .int .i64 a.At, .int .i64 a.N, bv a.By, .slice A a.Kept.length cap] [], iData (dSlice dInt) [.slice A a.Kept.length cap] a.Kept, iOwn bx 36 [.pointer (some ⟨b_d, 0, none⟩), .pointer (some ⟨b_r, 0, none⟩)] F, iOb (obDk b_d) p.d F_d F, iOb (obRk b_r) p.r F_r F] := by exact hs1491
            exact WL_nil ⟨rfl, _, rfl, hs1492, v1478, v1479, v1480, v1481, v1482, v1483, v1484, v1485, v1486, v1487, v1488, (fun _ => rfl), trivial⟩
        ·
          rintro dN vL g1493 w1494 ha1496 ⟨hs1495, v1499, v1500, v1501, v1502, v1503, v1504, v1505, v1506, v1507, v1508, v1509, v1510, _⟩ hg1497 hk1498
          have hs1511 : Sep F w0 (fun b => D b ∧ b < w0.heap.size) w1494 [iAc dByte (.slice A891 ((p.d.read a.At).1.length) cap892) ((p.d.read a.At).1) bs893 [], iOwn b1 39 [.int .i64 a.Kind, .int .i64 a.At, .int .i64 a.N, bv a.By, .slice A a.Kept.length cap] [], iData (dSlice dInt) [.slice A a.Kept.length cap] a.Kept, iOwn bx 36 [.pointer (some ⟨b_d, 0, none⟩), .pointer (some ⟨b_r, 0, none⟩)] F, iOb (obDk b_d) p.d F_d F, iOb (obRk b_r) p.r F_r F] := hs1495
          refine ⟨[(5, .slice A891 ((p.d.read a.At).1.length) cap892), (6, errv 64 ((p.d.read a.At).2)), (7, sv ((p.r.read a.At).1)), (8, .int .i64 ((p.r.read a.At).2))], ⟨(hk1498 5 rfl), (hk1498 6 rfl), ((hg1497 10 7 rfl rfl).trans (v1509 (ha1496 10 rfl))), ((hg1497 11 8 rfl rfl).trans (v1510 (ha1496 11 rfl))), trivial⟩, fun g1512 => ?_⟩
          refine W_seq ?_
          refine W_region ?_
          refine S_move rfl ?_
          refine S_bytesStr Try.runUnderlying47 Try.runUnderlying9 Try.runUnderlying5 (Src.ac (hs1511.at 0 rfl)) rfl ?_
          refine S_move rfl ?_
          refine S_eqlS rfl rfl rfl ?_
          refine WL_conv (congrArg Value.bool (decide_eq_true (congrArg Prod.fst (rel_read rel _)))) ?_
          refine S_move rfl ?_
          refine WL_on rfl rfl rfl ?_
          refine S_move rfl ?_
          refine WL_on rfl rfl rfl ?_
          have hr1513 : 0 ≤ ((p.d.read a.At).2 : Int) ∧ ((p.d.read a.At).2 : Int) ≤ 16 := (by first | exact write_range _ _ | exact flush_range | exact read_range _ | decide)
          refine S_callQ Try.call11 rfl (no_ok hr1513.1 hr1513.2) rfl ?_
          refine WL_on rfl rfl rfl ?_
          refine S_move rfl ?_
          refine WL_on rfl rfl rfl ?_
          refine S_eql rfl rfl rfl ?_
          refine WL_conv (congrArg Value.bool (decide_eq_true (congrArg Prod.snd (rel_read rel _)))) ?_
          refine S_pick_t rfl rfl ?_
          refine S_assign rfl ?_
          refine WL_nil ?_
          refine W_ret ?_
          show (Value.bool true) = .bool true ∧ ∃ F', BkIs bx w1494 (p.act a) F' ∧ Turn w0 w1494 F F'
          have hc2 := (BkIs.close (hs1511.pick [3, 4, 5] rfl (by decide) rfl))
          exact ⟨rfl, _, by simp only [Bk.act, *]; first | exact hc2.1 | (simp; exact hc2.1), hc2.2⟩
    ·
      have p1514 := of_decide_eq_false h888
      refine W_seq ?_
      refine W_region ?_
      refine S_eql rfl rfl rfl ?_
      refine S_assign rfl ?_
      refine WL_nil ?_
      refine W_cond rfl (fun h1515 => ?_) (fun h1515 => ?_)
      ·
        have p1516 := of_decide_eq_true h1515
        refine W_seq ?_
        refine W_live (L := [(0, .pointer (some ⟨bx, 0, none⟩))]) ⟨rfl, trivial⟩ ?_
        intro g1517
        refine W_region_J (fun dN vL w => ∃ (F1519 : List Nat) (F1527 : List Nat), Sep F w0 (fun b => D b ∧ b < w0.heap.size) w [iOwn b1 39 [.int .i64 a.Kind, .int .i64 a.At, .int .i64 a.N, bv a.By, .slice A a.Kept.length cap] [], iData (dSlice dInt) [.slice A a.Kept.length cap] a.Kept, iOwn bx 36 [.pointer (some ⟨b_d, 0, none⟩), .pointer (some ⟨b_r, 0, none⟩)] F, (bif dN 4 then (iOb (obDk b_d) p.d.flush.2 F1519 F) else (iOb (obDk b_d) p.d F_d F)), (bif dN 10 then (iOb (obRk b_r) p.r.flush.2 F1527 F) else (iOb (obRk b_r) p.r F_r F))] ∧ (dN 0 = true → vL 0 = .pointer (some ⟨bx, 0, none⟩)) ∧ (dN 1 = true → vL 1 = .pointer (some ⟨bx, 0, none⟩)) ∧ (dN 2 = true → vL 2 = .pointer (some ⟨bx, 0, none⟩)) ∧ (dN 3 = true → vL 3 = .pointer (some ⟨b_d, 0, none⟩)) ∧ (dN 4 = true → vL 4 = errv 64 p.d.flush.1) ∧ (dN 5 = true → vL 5 = .int .i64 p.d.flush.1) ∧ (dN 6 = true → vL 6 = .pointer (some ⟨bx, 0, none⟩)) ∧ (dN 7 = true → vL 7 = .pointer (some ⟨bx, 0, none⟩)) ∧ (dN 8 = true → vL 8 = .pointer (some ⟨bx, 1, none⟩)) ∧ (dN 9 = true → vL 9 = .pointer (some ⟨b_r, 0, none⟩)) ∧ (dN 10 = true → vL 10 = .int .i64 p.r.flush.1) ∧ (dN 11 = true → vL 11 = .bool true) ∧ (dN 12 = true → vL 12 = .bool true) ∧ True) [4, 68, 69, 70, 71, 72, 73, 74, 75, 76, 77, 78, 79] rfl (by decide +kernel) _ rfl ?_ ?_ ?_
        · exact fun V => ⟨[], [], hs3, (fun h => by cases h), (fun h => by cases h), (fun h => by cases h), (fun h => by cases h), (fun h => by cases h), (fun h => by cases h), (fun h => by cases h), (fun h => by cases h), (fun h => by cases h), (fun h => by cases h), (fun h => by cases h), (fun h => by cases h), (fun h => by cases h), trivial⟩
        · refine (.cons ?_ (.cons ?_ (.cons ?_ (.cons ?_ (.cons ?_ (.cons ?_ (.cons ?_ (.cons ?_ (.cons ?_ (.cons ?_ (.cons ?_ (.cons ?_ (.cons ?_ .nil)))))))))))))
          ·
            rintro dN vL g1534 w1535 ⟨F1519, F1527, hs1536, v1542, v1543, v1544, v1545, v1546, v1547, v1548, v1549, v1550, v1551, v1552, v1553, v1554, _⟩ hD1537 hd1538 hu1539 hg1540 hk1541
            have e1555 : dN 4 = false := hu1539 4 (by decide +kernel)
            have e1556 : dN 10 = false := hu1539 10 (by decide +kernel)
            rw [e1556, e1555] at hs1536
            have hs1557 : Sep F w0 (fun b => D b ∧ b < w0.heap.size) w1535 [iOwn b1 39 [.int .i64 a.Kind, .int .i64 a.At, .int .i64 a.N, bv a.By, .slice A a.Kept.length cap] [], iData (dSlice dInt) [.slice A a.Kept.length cap] a.Kept, iOwn bx 36 [.pointer (some ⟨b_d, 0, none⟩), .pointer (some ⟨b_r, 0, none⟩)] F, iOb (obDk b_d) p.d F_d F, iOb (obRk b_r) p.r F_r F] := hs1536
            refine WL_at (L := [(0, .pointer (some ⟨bx, 0, none⟩))]) ⟨(hk1541 0 (by decide +kernel)), trivial⟩ ?_
            refine S_move rfl ?_
            have hs1558 : Sep F w0 (fun b => D b ∧ b < w0.heap.size) w1535 [iOwn b1 39 [.int .i64 a.Kind, .int .i64 a.At, .int .i64 a.N, bv a.By, .slice A a.Kept.length cap] [], iData (dSlice dInt) [.slice A a.Kept.length cap] a.Kept, iOwn bx 36 [.pointer (some ⟨b_d, 0, none⟩), .pointer (some ⟨b_r, 0, none⟩)] F, (bif dN 4 then (iOb (obDk b_d) p.d.flush.2 F1519 F) else (iOb (obDk b_d) p.d F_d F)), (bif dN 10 then (iOb (obRk b_r) p.r.flush.2 F1527 F) else (iOb (obRk b_r) p.r F_r F))] := by rw [e1556, e1555]; exact hs1557
            exact WL_nil ⟨rfl, _, rfl, F1519, F1527, hs1558, (fun _ => rfl), v1543, v1544, v1545, v1546, v1547, v1548, v1549, v1550, v1551, v1552, v1553, v1554, trivial⟩
          ·
            rintro dN vL g1559 w1560 ⟨F1519, F1527, hs1561, v1567, v1568, v1569, v1570, v1571, v1572, v1573, v1574, v1575, v1576, v1577, v1578, v1579, _⟩ hD1562 hd1563 hu1564 hg1565 hk1566
            have e1580 : dN 0 = true := hd1563 0 (by decide +kernel)
            have e1581 : dN 4 = false := hu1564 4 (by decide +kernel)
            have e1582 : dN 10 = false := hu1564 10 (by decide +kernel)
            rw [e1582, e1581] at hs1561
            have hs1583 : Sep F w0 (fun b => D b ∧ b < w0.heap.size) w1560 [iOwn b1 39 [.int .i64 a.Kind, .int .i64 a.At, .int .i64 a.N, bv a.By, .slice A a.Kept.length cap] [], iData (dSlice dInt) [.slice A a.Kept.length cap] a.Kept, iOwn bx 36 [.pointer (some ⟨b_d, 0, none⟩), .pointer (some ⟨b_r, 0, none⟩)] F, iOb (obDk b_d) p.d F_d F, iOb (obRk b_r) p.r F_r F] := hs1561
            refine WL_at (L := [(68, .pointer (some ⟨bx, 0, none⟩))]) ⟨((hg1565 0 68 e1580 rfl).trans (v1567 e1580)), trivial⟩ ?_
            refine S_nilCheck rfl rfl ?_
            have hs1584 : Sep F w0 (fun b => D b ∧ b < w0.heap.size) w1560 [iOwn b1 39 [.int .i64 a.Kind, .int .i64 a.At, .int .i64 a.N, bv a.By, .slice A a.Kept.length cap] [], iData (dSlice dInt) [.slice A a.Kept.length cap] a.Kept, iOwn bx 36 [.pointer (some ⟨b_d, 0, none⟩), .pointer (some ⟨b_r, 0, none⟩)] F, (bif dN 4 then (iOb (obDk b_d) p.d.flush.2 F1519 F) else (iOb (obDk b_d) p.d F_d F)), (bif dN 10 then (iOb (obRk b_r) p.r.flush.2 F1527 F) else (iOb (obRk b_r) p.r F_r F))] := by rw [e1582, e1581]; exact hs1583
            exact WL_nil ⟨rfl, _, rfl, F1519, F1527, hs1584, v1567, (fun _ => rfl), v1569, v1570, v1571, v1572, v1573, v1574, v1575, v1576, v1577, v1578, v1579, trivial⟩
          ·
            rintro dN vL g1585 w1586 ⟨F1519, F1527, hs1587, v1593, v1594, v1595, v1596, v1597, v1598, v1599, v1600, v1601, v1602, v1603, v1604, v1605, _⟩ hD1588 hd1589 hu1590 hg1591 hk1592
            have e1606 : dN 1 = true := hd1589 1 (by decide +kernel)
            have e1607 : dN 4 = false := hu1590 4 (by decide +kernel)
            have e1608 : dN 10 = false := hu1590 10 (by decide +kernel)
            rw [e1608, e1607] at hs1587
            have hs1609 : Sep F w0 (fun b => D b ∧ b < w0.heap.size) w1586 [iOwn b1 39 [.int .i64 a.Kind, .int .i64 a.At, .int .i64 a.N, bv a.By, .slice A a.Kept.length cap] [], iData (dSlice dInt) [.slice A a.Kept.length cap] a.Kept, iOwn bx 36 [.pointer (some ⟨b_d, 0, none⟩), .pointer (some ⟨b_r, 0, none⟩)] F, iOb (obDk b_d) p.d F_d F, iOb (obRk b_r) p.r F_r F] := hs1587
            refine WL_at (L := [(69, .pointer (some ⟨bx, 0, none⟩))]) ⟨((hg1591 1 69 e1606 rfl).trans (v1594 e1606)), trivial⟩ ?_
            refine S_fieldAddr Try.runUnderlying36 rfl Try.sizeOf23 rfl rfl ?_
            have hs1610 : Sep F w0 (fun b => D b ∧ b < w0.heap.size) w1586 [iOwn b1 39 [.int .i64 a.Kind, .int .i64 a.At, .int .i64 a.N, bv a.By, .slice A a.Kept.length cap] [], iData (dSlice dInt) [.slice A a.Kept.length cap] a.Kept, iOwn bx 36 [.pointer (some ⟨b_d, 0, none⟩), .pointer (some ⟨b_r, 0, none⟩)] F, (bif dN 4 then (iOb (obDk b_d) p.d.flush.2 F1519 F) else (iOb (obDk b_d) p.d F_d F)), (bif dN 10 then (iOb (obRk b_r) p.r.flush.2 F1527 F) else (iOb (obRk b_r) p.r F_r F))] := by rw [e1608, e1607]; exact hs1609
            exact WL_nil ⟨rfl, _, rfl, F1519, F1527, hs1610, v1593, v1594, (fun _ => rfl), v1596, v1597, v1598, v1599, v1600, v1601, v1602, v1603, v1604, v1605, trivial⟩
          ·
            rintro dN vL g1611 w1612 ⟨F1519, F1527, hs1613, v1619, v1620, v1621, v1622, v1623, v1624, v1625, v1626, v1627, v1628, v1629, v1630, v1631, _⟩ hD1614 hd1615 hu1616 hg1617 hk1618
            have e1632 : dN 2 = true := hd1615 2 (by decide +kernel)
            have e1633 : dN 4 = false := hu1616 4 (by decide +kernel)
            have e1634 : dN 10 = false := hu1616 10 (by decide +kernel)
            rw [e1634, e1633] at hs1613
            have hs1635 : Sep F w0 (fun b => D b ∧ b < w0.heap.size) w1612 [iOwn b1 39 [.int .i64 a.Kind, .int .i64 a.At, .int .i64 a.N, bv a.By, .slice A a.Kept.length cap] [], iData (dSlice dInt) [.slice A a.Kept.length cap] a.Kept, iOwn bx 36 [.pointer (some ⟨b_d, 0, none⟩), .pointer (some ⟨b_r, 0, none⟩)] F, iOb (obDk b_d) p.d F_d F, iOb (obRk b_r) p.r F_r F] := hs1613
            refine WL_at (L := [(70, .pointer (some ⟨bx, 0, none⟩))]) ⟨((hg1617 2 70 e1632 rfl).trans (v1621 e1632)), trivial⟩ ?_
            refine S_load1 Try.isAgg23 rfl (Own.at (hs1635.at 2 rfl) rfl) rfl ?_
            have hs1636 : Sep F w0 (fun b => D b ∧ b < w0.heap.size) w1612 [iOwn b1 39 [.int .i64 a.Kind, .int .i64 a.At, .int .i64 a.N, bv a.By, .slice A a.Kept.length cap] [], iData (dSlice dInt) [.slice A a.Kept.length cap] a.Kept, iOwn bx 36 [.pointer (some ⟨b_d, 0, none⟩), .pointer (some ⟨b_r, 0, none⟩)] F, (bif dN 4 then (iOb (obDk b_d) p.d.flush.2 F1519 F) else (iOb (obDk b_d) p.d F_d F)), (bif dN 10 then (iOb (obRk b_r) p.r.flush.2 F1527 F) else (iOb (obRk b_r) p.r F_r F))] := by rw [e1634, e1633]; exact hs1635
            exact WL_nil ⟨rfl, _, rfl, F1519, F1527, hs1636, v1619, v1620, v1621, (fun _ => rfl), v1623, v1624, v1625, v1626, v1627, v1628, v1629, v1630, v1631, trivial⟩
          ·
            rintro dN vL g1637 w1638 ⟨F1519, F1527, hs1639, v1645, v1646, v1647, v1648, v1649, v1650, v1651, v1652, v1653, v1654, v1655, v1656, v1657, _⟩ hD1640 hd1641 hu1642 hg1643 hk1644
            have e1658 : dN 3 = true := hd1641 3 (by decide +kernel)
            have e1659 : dN 4 = false := hD1640
            have e1660 : dN 10 = false := hu1642 10 (by decide +kernel)
            rw [e1660, e1659] at hs1639
            have hs1661 : Sep F w0 (fun b => D b ∧ b < w0.heap.size) w1638 [iOwn b1 39 [.int .i64 a.Kind, .int .i64 a.At, .int .i64 a.N, bv a.By, .slice A a.Kept.length cap] [], iData (dSlice dInt) [.slice A a.Kept.length cap] a.Kept, iOwn bx 36 [.pointer (some ⟨b_d, 0, none⟩), .pointer (some ⟨b_r, 0, none⟩)] F, iOb (obDk b_d) p.d F_d F, iOb (obRk b_r) p.r F_r F] := hs1639
            refine WL_at (L := [(71, .pointer (some ⟨b_d, 0, none⟩))]) ⟨((hg1643 3 71 e1658 rfl).trans (v1648 e1658)), trivial⟩ ?_
            have hz1666 := flush_ok (hs1661.at 3 rfl) okd
            refine S_callE Try.call23 rfl hz1666 rfl ?_
            rintro w1662 ⟨F1663, h1664, t1665⟩
            have hs1667 : Sep F w0 (fun b => D b ∧ b < w0.heap.size) w1662 [iOwn b1 39 [.int .i64 a.Kind, .int .i64 a.At, .int .i64 a.N, bv a.By, .slice A a.Kept.length cap] [], iData (dSlice dInt) [.slice A a.Kept.length cap] a.Kept, iOwn bx 36 [.pointer (some ⟨b_d, 0, none⟩), .pointer (some ⟨b_r, 0, none⟩)] F, iOb (obDk b_d) p.d.flush.2 F1663 F, iOb (obRk b_r) p.r F_r F] := hs1661.turn 3 rfl h1664 t1665
            have hs1669 : Sep F w0 (fun b => D b ∧ b < w0.heap.size) w1662 [iOwn b1 39 [.int .i64 a.Kind, .int .i64 a.At, .int .i64 a.N, bv a.By, .slice A a.Kept.length cap] [], iData (dSlice dInt) [.slice A a.Kept.length cap] a.Kept, iOwn bx 36 [.pointer (some ⟨b_d, 0, none⟩), .pointer (some ⟨b_r, 0, none⟩)] F, iOb (obDk b_d) p.d.flush.2 F1663 F, (bif dN 10 then (iOb (obRk b_r) p.r.flush.2 F1527 F) else (iOb (obRk b_r) p.r F_r F))] := by rw [e1660]; exact hs1667
            exact WL_nil ⟨rfl, _, rfl, F1663, F1527, hs1669, v1645, v1646, v1647, v1648, (fun _ => rfl), v1650, v1651, v1652, v1653, v1654, v1655, v1656, v1657, trivial⟩
          ·
            rintro dN vL g1670 w1671 ⟨F1519, F1527, hs1672, v1678, v1679, v1680, v1681, v1682, v1683, v1684, v1685, v1686, v1687, v1688, v1689, v1690, _⟩ hD1673 hd1674 hu1675 hg1676 hk1677
            have e1691 : dN 4 = true := hd1674 4 (by decide +kernel)
            have e1692 : dN 10 = false := hu1675 10 (by decide +kernel)
            rw [e1692, e1691] at hs1672
            have hs1693 : Sep F w0 (fun b => D b ∧ b < w0.heap.size) w1671 [iOwn b1 39 [.int .i64 a.Kind, .int .i64 a.At, .int .i64 a.N, bv a.By, .slice A a.Kept.length cap] [], iData (dSlice dInt) [.slice A a.Kept.length cap] a.Kept, iOwn bx 36 [.pointer (some ⟨b_d, 0, none⟩), .pointer (some ⟨b_r, 0, none⟩)] F, iOb (obDk b_d) p.d.flush.2 F1519 F, iOb (obRk b_r) p.r F_r F] := hs1672
            refine WL_at (L := [(72, errv 64 p.d.flush.1)]) ⟨((hg1676 4 72 e1691 rfl).trans (v1682 e1691)), trivial⟩ ?_
            have hr1694 : 0 ≤ (p.d.flush.1 : Int) ∧ (p.d.flush.1 : Int) ≤ 16 := (by first | exact write_range _ _ | exact flush_range | exact read_range _ | decide)
            refine S_callQ Try.call11 rfl (no_ok hr1694.1 hr1694.2) rfl ?_
            have hs1695 : Sep F w0 (fun b => D b ∧ b < w0.heap.size) w1671 [iOwn b1 39 [.int .i64 a.Kind, .int .i64 a.At, .int .i64 a.N, bv a.By, .slice A a.Kept.length cap] [], iData (dSlice dInt) [.slice A a.Kept.length cap] a.Kept, iOwn bx 36 [.pointer (some ⟨b_d, 0, none⟩), .pointer (some ⟨b_r, 0, none⟩)] F, (bif dN 4 then (iOb (obDk b_d) p.d.flush.2 F1519 F) else (iOb (obDk b_d) p.d F_d F)), (bif dN 10 then (iOb (obRk b_r) p.r.flush.2 F1527 F) else (iOb (obRk b_r) p.r F_r F))] := by rw [e1692, e1691]; exact hs1693
            exact WL_nil ⟨rfl, _, rfl, F1519, F1527, hs1695, v1678, v1679, v1680, v1681, v1682, (fun _ => rfl), v1684, v1685, v1686, v1687, v1688, v1689, v1690, trivial⟩
          ·
            rintro dN vL g1696 w1697 ⟨F1519, F1527, hs1698, v1704, v1705, v1706, v1707, v1708, v1709, v1710, v1711, v1712, v1713, v1714, v1715, v1716, _⟩ hD1699 hd1700 hu1701 hg1702 hk1703
            have e1717 : dN 10 = false := hu1701 10 (by decide +kernel)
            rw [e1717] at hs1698
            have hs1718 : Sep F w0 (fun b => D b ∧ b < w0.heap.size) w1697 [iOwn b1 39 [.int .i64 a.Kind, .int .i64 a.At, .int .i64 a.N, bv a.By, .slice A a.Kept.length cap] [], iData (dSlice dInt) [.slice A a.Kept.length cap] a.Kept, iOwn bx 36 [.pointer (some ⟨b_d, 0, none⟩), .pointer (some ⟨b_r, 0, none⟩)] F, (bif dN 4 then (iOb (obDk b_d) p.d.flush.2 F1519 F) else (iOb (obDk b_d) p.d F_d F)), iOb (obRk b_r) p.r F_r F] := hs1698
            refine WL_at (L := [(0, .pointer (some ⟨bx, 0, none⟩))]) ⟨(hk1703 0 (by decide +kernel)), trivial⟩ ?_
            refine S_move rfl ?_
            have hs1719 : Sep F w0 (fun b => D b ∧ b < w0.heap.size) w1697 [iOwn b1 39 [.int .i64 a.Kind, .int .i64 a.At, .int .i64 a.N, bv a.By, .slice A a.Kept.length cap] [], iData (dSlice dInt) [.slice A a.Kept.length cap] a.Kept, iOwn bx 36 [.pointer (some ⟨b_d, 0, none⟩), .pointer (some ⟨b_r, 0, none⟩)] F, (bif dN 4 then (iOb (obDk b_d) p.d.flush.2 F1519 F) else (iOb (obDk b_d) p.d F_d F)), (bif dN 10 then (iOb (obRk b_r) p.r.flush.2 F1527 F) else (iOb (obRk b_r) p.r F_r F))] := by rw [e1717]; exact hs1718
            exact WL_nil ⟨rfl, _, rfl, F1519, F1527, hs1719, v1704, v1705, v1706, v1707, v1708, v1709, (fun _ => rfl), v1711, v1712, v1713, v1714, v1715, v1716, trivial⟩
          ·
            rintro dN vL g1720 w1721 ⟨F1519, F1527, hs1722, v1728, v1729, v1730, v1731, v1732, v1733, v1734, v1735, v1736, v1737, v1738, v1739, v1740, _⟩ hD1723 hd1724 hu1725 hg1726 hk1727
            have e1741 : dN 6 = true := hd1724 6 (by decide +kernel)
            have e1742 : dN 10 = false := hu1725 10 (by decide +kernel)
            rw [e1742] at hs1722
            have hs1743 : Sep F w0 (fun b => D b ∧ b < w0.heap.size) w1721 [iOwn b1 39 [.int .i64 a.Kind, .int .i64 a.At, .int .i64 a.N, bv a.By, .slice A a.Kept.length cap] [], iData (dSlice dInt) [.slice A a.Kept.length cap] a.Kept, iOwn bx 36 [.pointer (some ⟨b_d, 0, none⟩), .pointer (some ⟨b_r, 0, none⟩)] F, (bif dN 4 then (iOb (obDk b_d) p.d.flush.2 F1519 F) else (iOb (obDk b_d) p.d F_d F)), iOb (obRk b_r) p.r F_r F] := hs1722
            refine WL_at (L := [(74, .pointer (some ⟨bx, 0, none⟩))]) ⟨((hg1726 6 74 e1741 rfl).trans (v1734 e1741)), trivial⟩ ?_
            refine S_nilCheck rfl rfl ?_
            have hs1744 : Sep F w0 (fun b => D b ∧ b < w0.heap.size) w1721 [iOwn b1 39 [.int .i64 a.Kind, .int .i64 a.At, .int .i64 a.N, bv a.By, .slice A a.Kept.length cap] [], iData (dSlice dInt) [.slice A a.Kept.length cap] a.Kept, iOwn bx 36 [.pointer (some ⟨b_d, 0, none⟩), .pointer (some ⟨b_r, 0, none⟩)] F, (bif dN 4 then (iOb (obDk b_d) p.d.flush.2 F1519 F) else (iOb (obDk b_d) p.d F_d F)), (bif dN 10 then (iOb (obRk b_r) p.r.flush.2 F1527 F) else (iOb (obRk b_r) p.r F_r F))] := by rw [e1742]; exact hs1743
            exact WL_nil ⟨rfl, _, rfl, F1519, F1527, hs1744, v1728, v1729, v1730, v1731, v1732, v1733, v1734, (fun _ => rfl), v1736, v1737, v1738, v1739, v1740, trivial⟩
          ·
            rintro dN vL g1745 w1746 ⟨F1519, F1527, hs1747, v1753, v1754, v1755, v1756, v1757, v1758, v1759, v1760, v1761, v1762, v1763, v1764, v1765, _⟩ hD1748 hd1749 hu1750 hg1751 hk1752
            have e1766 : dN 7 = true := hd1749 7 (by decide +kernel)
            have e1767 : dN 10 = false := hu1750 10 (by decide +kernel)
            rw [e1767] at hs1747
            have hs1768 : Sep F w0 (fun b => D b ∧ b < w0.heap.size) w1746 [iOwn b1 39 [.int .i64 a.Kind, .int .i64 a.At, .int .i64 a.N, bv a.By, .slice A a.Kept.length cap] [], iData (dSlice dInt) [.slice A a.Kept.length cap] a.Kept, iOwn bx 36 [.pointer (some ⟨b_d, 0, none⟩), .pointer (some ⟨b_r, 0, none⟩)] F, (bif dN 4 then (iOb (obDk b_d) p.d.flush.2 F1519 F) else (iOb (obDk b_d) p.d F_d F)), iOb (obRk b_r) p.r F_r F] := hs1747
            refine WL_at (L := [(75, .pointer (some ⟨bx, 0, none⟩))]) ⟨((hg1751 7 75 e1766 rfl).trans (v1760 e1766)), trivial⟩ ?_
            refine S_fieldAddr Try.runUnderlying36 rfl Try.sizeOf28 rfl rfl ?_
            have hs1769 : Sep F w0 (fun b => D b ∧ b < w0.heap.size) w1746 [iOwn b1 39 [.int .i64 a.Kind, .int .i64 a.At, .int .i64 a.N, bv a.By, .slice A a.Kept.length cap] [], iData (dSlice dInt) [.slice A a.Kept.length cap] a.Kept, iOwn bx 36 [.pointer (some ⟨b_d, 0, none⟩), .pointer (some ⟨b_r, 0, none⟩)] F, (bif dN 4 then (iOb (obDk b_d) p.d.flush.2 F1519 F) else (iOb (obDk b_d) p.d F_d F)), (bif dN 10 then (iOb (obRk b_r) p.r.flush.2 F1527 F) else (iOb (obRk b_r) p.r F_r F))] := by rw [e1767]; exact hs1768
            exact WL_nil ⟨rfl, _, rfl, F1519, F1527, hs1769, v1753, v1754, v1755, v1756, v1757, v1758, v1759, v1760, (fun _ => rfl), v1762, v1763, v1764, v1765, trivial⟩
          ·
            rintro dN vL g1770 w1771 ⟨F1519, F1527, hs1772, v1778, v1779, v1780, v1781, v1782, v1783, v1784, v1785, v1786, v1787, v1788, v1789, v1790, _⟩ hD1773 hd1774 hu1775 hg1776 hk1777
            have e1791 : dN 8 = true := hd1774 8 (by decide +kernel)
            have e1792 : dN 10 = false := hu1775 10 (by decide +kernel)
            rw [e1792] at hs1772
            have hs1793 : Sep F w0 (fun b => D b ∧ b < w0.heap.size) w1771 [iOwn b1 39 [.int .i64 a.Kind, .int .i64 a.At, .int .i64 a.N, bv a.By, .slice A a.Kept.length cap] [], iData (dSlice dInt) [.slice A a.Kept.length cap] a.Kept, iOwn bx 36 [.pointer (some ⟨b_d, 0, none⟩), .pointer (some ⟨b_r, 0, none⟩)] F, (bif dN 4 then (iOb (obDk b_d) p.d.flush.2 F1519 F) else (iOb (obDk b_d) p.d F_d F)), iOb (obRk b_r) p.r F_r F] := hs1772
            refine WL_at (L := [(76, .pointer (some ⟨bx, 1, none⟩))]) ⟨((hg1776 8 76 e1791 rfl).trans (v1786 e1791)), trivial⟩ ?_
            refine S_load1 Try.isAgg28 rfl (Own.at (hs1793.at 2 rfl) rfl) rfl ?_
            have hs1794 : Sep F w0 (fun b => D b ∧ b < w0.heap.size) w1771 [iOwn b1 39 [.int .i64 a.Kind, .int .i64 a.At, .int .i64 a.N, bv a.By, .slice A a.Kept.length cap] [], iData (dSlice dInt) [.slice A a.Kept.length cap] a.Kept, iOwn bx 36 [.pointer (some ⟨b_d, 0, none⟩), .pointer (some ⟨b_r, 0, none⟩)] F, (bif dN 4 then (iOb (obDk b_d) p.d.flush.2 F1519 F) else (iOb (obDk b_d) p.d F_d F)), (bif dN 10 then (iOb (obRk b_r) p.r.flush.2 F1527 F) else (iOb (obRk b_r) p.r F_r F))] := by rw [e1792]; exact hs1793
            exact WL_nil ⟨rfl, _, rfl, F1519, F1527, hs1794, v1778, v1779, v1780, v1781, v1782, v1783, v1784, v1785, v1786, (fun _ => rfl), v1788, v1789, v1790, trivial⟩
          ·
            rintro dN vL g1795 w1796 ⟨F1519, F1527, hs1797, v1803, v1804, v1805, v1806, v1807, v1808, v1809, v1810, v1811, v1812, v1813, v1814, v1815, _⟩ hD1798 hd1799 hu1800 hg1801 hk1802
            have e1816 : dN 4 = true := hd1799 4 (by decide +kernel)
            have e1817 : dN 9 = true := hd1799 9 (by decide +kernel)
            have e1818 : dN 10 = false := hD1798
            rw [e1818, e1816] at hs1797
            have hs1819 : Sep F w0 (fun b => D b ∧ b < w0.heap.size) w1796 [iOwn b1 39 [.int .i64 a.Kind, .int .i64 a.At, .int .i64 a.N, bv a.By, .slice A a.Kept.length cap] [], iData (dSlice dInt) [.slice A a.Kept.length cap] a.Kept, iOwn bx 36 [.pointer (some ⟨b_d, 0, none⟩), .pointer (some ⟨b_r, 0, none⟩)] F, iOb (obDk b_d) p.d.flush.2 F1519 F, iOb (obRk b_r) p.r F_r F] := hs1797
            refine WL_at (L := [(77, .pointer (some ⟨b_r, 0, none⟩))]) ⟨((hg1801 9 77 e1817 rfl).trans (v1812 e1817)), trivial⟩ ?_
            have hz1824 := rflush_ok (hs1819.at 4 rfl) okr
            refine S_callE Try.call31 rfl hz1824 rfl ?_
            rintro w1820 ⟨F1821, h1822, t1823⟩
            have hs1825 : Sep F w0 (fun b => D b ∧ b < w0.heap.size) w1820 [iOwn b1 39 [.int .i64 a.Kind, .int .i64 a.At, .int .i64 a.N, bv a.By, .slice A a.Kept.length cap] [], iData (dSlice dInt) [.slice A a.Kept.length cap] a.Kept, iOwn bx 36 [.pointer (some ⟨b_d, 0, none⟩), .pointer (some ⟨b_r, 0, none⟩)] F, iOb (obDk b_d) p.d.flush.2 F1519 F, iOb (obRk b_r) p.r.flush.2 F1821 F] := hs1819.turn 4 rfl h1822 t1823
            have hs1827 : Sep F w0 (fun b => D b ∧ b < w0.heap.size) w1820 [iOwn b1 39 [.int .i64 a.Kind, .int .i64 a.At, .int .i64 a.N, bv a.By, .slice A a.Kept.length cap] [], iData (dSlice dInt) [.slice A a.Kept.length cap] a.Kept, iOwn bx 36 [.pointer (some ⟨b_d, 0, none⟩), .pointer (some ⟨b_r, 0, none⟩)] F, (bif dN 4 then (iOb (obDk b_d) p.d.flush.2 F1519 F) else (iOb (obDk b_d) p.d F_d F)), iOb (obRk b_r) p.r.flush.2 F1821 F] := by rw [e1816]; exact hs1825
            exact WL_nil ⟨rfl, _, rfl, F1519, F1821, hs1827, v1803, v1804, v1805, v1806, v1807, v1808, v1809, v1810, v1811, v1812, (fun _ => rfl), v1814, v1815, trivial⟩
          ·
            rintro dN vL g1828 w1829 ⟨F1519, F1527, hs1830, v1836, v1837, v1838, v1839, v1840, v1841, v1842, v1843, v1844, v1845, v1846, v1847, v1848, _⟩ hD1831 hd1832 hu1833 hg1834 hk1835
            have e1849 : dN 4 = true := hd1832 4 (by decide +kernel)
            have e1850 : dN 5 = true := hd1832 5 (by decide +kernel)
            have e1851 : dN 10 = true := hd1832 10 (by decide +kernel)
            rw [e1851, e1849] at hs1830
            have hs1852 : Sep F w0 (fun b => D b ∧ b < w0.heap.size) w1829 [iOwn b1 39 [.int .i64 a.Kind, .int .i64 a.At, .int .i64 a.N, bv a.By, .slice A a.Kept.length cap] [], iData (dSlice dInt) [.slice A a.Kept.length cap] a.Kept, iOwn bx 36 [.pointer (some ⟨b_d, 0, none⟩), .pointer (some ⟨b_r, 0, none⟩)] F, iOb (obDk b_d) p.d.flush.2 F1519 F, iOb (obRk b_r) p.r.flush.2 F1527 F] := hs1830
            refine WL_at (L := [(73, .int .i64 p.d.flush.1), (78, .int .i64 p.r.flush.1)]) ⟨((hg1834 5 73 e1850 rfl).trans (v1841 e1850)), ((hg1834 10 78 e1851 rfl).trans (v1846 e1851)), trivial⟩ ?_
            refine S_eql rfl rfl rfl ?_
            refine WL_conv (congrArg Value.bool (decide_eq_true (rel_flush okd okr rel).1)) ?_
            have hs1853 : Sep F w0 (fun b => D b ∧ b < w0.heap.size) w1829 [iOwn b1 39 [.int .i64 a.Kind, .int .i64 a.At, .int .i64 a.N, bv a.By, .slice A a.Kept.length cap] [], iData (dSlice dInt) [.slice A a.Kept.length cap] a.Kept, iOwn bx 36 [.pointer (some ⟨b_d, 0, none⟩), .pointer (some ⟨b_r, 0, none⟩)] F, (bif dN 4 then (iOb (obDk b_d) p.d.flush.2 F1519 F) else (iOb (obDk b_d) p.d F_d F)), (bif dN 10 then (iOb (obRk b_r) p.r.flush.2 F1527 F) else (iOb (obRk b_r) p.r F_r F))] := by rw [e1851, e1849]; exact hs1852
            exact WL_nil ⟨rfl, _, rfl, F1519, F1527, hs1853, v1836, v1837, v1838, v1839, v1840, v1841, v1842, v1843, v1844, v1845, v1846, (fun _ => rfl), v1848, trivial⟩
          ·
            rintro dN vL g1854 w1855 ⟨F1519, F1527, hs1856, v1862, v1863, v1864, v1865, v1866, v1867, v1868, v1869, v1870, v1871, v1872, v1873, v1874, _⟩ hD1857 hd1858 hu1859 hg1860 hk1861
            have e1875 : dN 4 = true := hd1858 4 (by decide +kernel)
            have e1876 : dN 10 = true := hd1858 10 (by decide +kernel)
            have e1877 : dN 11 = true := hd1858 11 (by decide +kernel)
            rw [e1876, e1875] at hs1856
            have hs1878 : Sep F w0 (fun b => D b ∧ b < w0.heap.size) w1855 [iOwn b1 39 [.int .i64 a.Kind, .int .i64 a.At, .int .i64 a.N, bv a.By, .slice A a.Kept.length cap] [], iData (dSlice dInt) [.slice A a.Kept.length cap] a.Kept, iOwn bx 36 [.pointer (some ⟨b_d, 0, none⟩), .pointer (some ⟨b_r, 0, none⟩)] F, iOb (obDk b_d) p.d.flush.2 F1519 F, iOb (obRk b_r) p.r.flush.2 F1527 F] := hs1856
            refine WL_at (L := [(79, .bool true)]) ⟨((hg1860 11 79 e1877 rfl).trans (v1873 e1877)), trivial⟩ ?_
            refine S_assign rfl ?_
            have hs1879 : Sep F w0 (fun b => D b ∧ b < w0.heap.size) w1855 [iOwn b1 39 [.int .i64 a.Kind, .int .i64 a.At, .int .i64 a.N, bv a.By, .slice A a.Kept.length cap] [], iData (dSlice dInt) [.slice A a.Kept.length cap] a.Kept, iOwn bx 36 [.pointer (some ⟨b_d, 0, none⟩), .pointer (some ⟨b_r, 0, none⟩)] F, (bif dN 4 then (iOb (obDk b_d) p.d.flush.2 F1519 F) else (iOb (obDk b_d) p.d F_d F)), (bif dN 10 then (iOb (obRk b_r) p.r.flush.2 F1527 F) else (iOb (obRk b_r) p.r F_r F))] := by rw [e1876, e1875]; exact hs1878
            exact WL_nil ⟨rfl, _, rfl, F1519, F1527, hs1879, v1862, v1863, v1864, v1865, v1866, v1867, v1868, v1869, v1870, v1871, v1872, v1873, (fun _ => rfl), trivial⟩
        ·
          rintro dN vL g1880 w1881 ha1883 ⟨F1519, F1527, hs1882, v1886, v1887, v1888, v1889, v1890, v1891, v1892, v1893, v1894, v1895, v1896, v1897, v1898, _⟩ hg1884 hk1885
          rw [ha1883 4 rfl, ha1883 10 rfl] at hs1882
          have hs1899 : Sep F w0 (fun b => D b ∧ b < w0.heap.size) w1881 [iOwn b1 39 [.int .i64 a.Kind, .int .i64 a.At, .int .i64 a.N, bv a.By, .slice A a.Kept.length cap] [], iData (dSlice dInt) [.slice A a.Kept.length cap] a.Kept, iOwn bx 36 [.pointer (some ⟨b_d, 0, none⟩), .pointer (some ⟨b_r, 0, none⟩)] F, iOb (obDk b_d) p.d.flush.2 F1519 F, iOb (obRk b_r) p.r.flush.2 F1527 F] := hs1882
          refine ⟨[(4, .bool true)], ⟨((hg1884 12 4 rfl rfl).trans (v1898 (ha1883 12 rfl))), trivial⟩, fun g1900 => ?_⟩
          refine W_ret ?_
          show (Value.bool true) = .bool true ∧ ∃ F', BkIs bx w1881 (p.act a) F' ∧ Turn w0 w1881 F F'
          have hc2 := (BkIs.close (hs1899.pick [2, 3, 4] rfl (by decide) rfl))
          exact ⟨rfl, _, by simp only [Bk.act, *]; first | exact hc2.1 | (simp; exact hc2.1), hc2.2⟩
      ·
        have p1901 := of_decide_eq_false h1515
        refine W_seq ?_
        refine W_region ?_
        refine S_eql rfl rfl rfl ?_
        refine S_assign rfl ?_
        refine WL_nil ?_
        refine W_cond rfl (fun h1902 => ?_) (fun h1902 => ?_)
        ·
          have p1903 := of_decide_eq_true h1902
          refine W_seq ?_
          refine W_live (L := [(0, .pointer (some ⟨bx, 0, none⟩)), (3, .pointer (some ⟨b1, 0, none⟩))]) ⟨rfl, rfl, trivial⟩ ?_
          intro g1904
          refine W_region_J (fun dN vL w => ∃ (F1906 : List Nat), Sep F w0 (fun b => D b ∧ b < w0.heap.size) w [iOwn b1 39 [.int .i64 a.Kind, .int .i64 a.At, .int .i64 a.N, bv a.By, .slice A a.Kept.length cap] [], iData (dSlice dInt) [.slice A a.Kept.length cap] a.Kept, iOwn bx 36 [.pointer (some ⟨b_d, 0, none⟩), .pointer (some ⟨b_r, 0, none⟩)] F, (bif dN 6 then (iOb (obDk b_d) (p.d.limit a.N) F1906 F) else (iOb (obDk b_d) p.d F_d F)), iOb (obRk b_r) p.r F_r F] ∧ (dN 0 = true → vL 0 = .pointer (some ⟨bx, 0, none⟩)) ∧ (dN 1 = true → vL 1 = .pointer (some ⟨bx, 0, none⟩)) ∧ (dN 2 = true → vL 2 = .pointer (some ⟨bx, 0, none⟩)) ∧ (dN 3 = true → vL 3 = .pointer (some ⟨b_d, 0, none⟩)) ∧ (dN 4 = true → vL 4 = .pointer (some ⟨b1, 2, none⟩)) ∧ (dN 5 = true → vL 5 = .int .i64 a.N) ∧ True) [82, 83, 84, 85, 86, 87, 88] rfl (by decide +kernel) _ rfl ?_ ?_ ?_
          · exact fun V => ⟨[], hs3, (fun h => by cases h), (fun h => by cases h), (fun h => by cases h), (fun h => by cases h), (fun h => by cases h), (fun h => by cases h), trivial⟩
          · refine (.cons ?_ (.cons ?_ (.cons ?_ (.cons ?_ (.cons ?_ (.cons ?_ (.cons ?_ .nil)))))))
            ·
              rintro dN vL g1913 w1914 ⟨F1906, hs1915, v1921, v1922, v1923, v1924, v1925, v1926, _⟩ hD1916 hd1917 hu1918 hg1919 hk1920
              have e1927 : dN 6 = false := hu1918 6 (by decide +kernel)
              rw [e1927] at hs1915
              have hs1928 : Sep F w0 (fun b => D b ∧ b < w0.heap.size) w1914 [iOwn b1 39 [.int .i64 a.Kind, .int .i64 a.At, .int .i64 a.N, bv a.By, .slice A a.Kept.length cap] [], iData (dSlice dInt) [.slice A a.Kept.length cap] a.Kept, iOwn bx 36 [.pointer (some ⟨b_d, 0, none⟩), .pointer (some ⟨b_r, 0, none⟩)] F, iOb (obDk b_d) p.d F_d F, iOb (obRk b_r) p.r F_r F] := hs1915
              refine WL_at (L := [(0, .pointer (some ⟨bx, 0, none⟩))]) ⟨(hk1920 0 (by decide +kernel)), trivial⟩ ?_
              refine S_move rfl ?_
              have hs1929 : Sep F w0 (fun b => D b ∧ b < w0.heap.size) w1914 [iOwn b1 39 [.int .i64 a.Kind, .int .i64 a.At, .int .i64 a.N, bv a.By, .slice A a.Kept.length cap] [], iData (dSlice dInt) [.slice A a.Kept.length cap] a.Kept, iOwn bx 36 [.pointer (some ⟨b_d, 0, none⟩), .pointer (some ⟨b_r, 0, none⟩)] F, (bif dN 6 then (iOb (obDk b_d) (p.d.limit a.N) F1906 F) else (iOb (obDk b_d) p.d F_d F)), iOb (obRk b_r) p.r F_r F] := by rw [e1927]; exact hs1928
              exact WL_nil ⟨rfl, _, rfl, F1906, hs1929, (fun _ => rfl), v1922, v1923, v1924, v1925, v1926, trivial⟩
            ·
              rintro dN vL g1930 w1931 ⟨F1906, hs1932, v1938, v1939, v1940, v1941, v1942, v1943, _⟩ hD1933 hd1934 hu1935 hg1936 hk1937
              have e1944 : dN 0 = true := hd1934 0 (by decide +kernel)
              have e1945 : dN 6 = false := hu1935 6 (by decide +kernel)
              rw [e1945] at hs1932
              have hs1946 : Sep F w0 (fun b => D b ∧ b < w0.heap.size) w1931 [iOwn b1 39 [.int .i64 a.Kind, .int .i64 a.At, .int .i64 a.N, bv a.By, .slice A a.Kept.length cap] [], iData (dSlice dInt) [.slice A a.Kept.length cap] a.Kept, iOwn bx 36 [.pointer (some ⟨b_d, 0, none⟩), .pointer (some ⟨b_r, 0, none⟩)] F, iOb (obDk b_d) p.d F_d F, iOb (obRk b_r) p.r F_r F] := hs1932
              refine WL_at (L := [(82, .pointer (some ⟨bx, 0, none⟩))]) ⟨((hg1936 0 82 e1944 rfl).trans (v1938 e1944)), trivial⟩ ?_
              refine S_nilCheck rfl rfl ?_
              have hs1947 : Sep F w0 (fun b => D b ∧ b < w0.heap.size) w1931 [iOwn b1 39 [.int .i64 a.Kind, .int .i64 a.At, .int .i64 a.N, bv a.By, .slice A a.Kept.length cap] [], iData (dSlice dInt) [.slice A a.Kept.length cap] a.Kept, iOwn bx 36 [.pointer (some ⟨b_d, 0, none⟩), .pointer (some ⟨b_r, 0, none⟩)] F, (bif dN 6 then (iOb (obDk b_d) (p.d.limit a.N) F1906 F) else (iOb (obDk b_d) p.d F_d F)), iOb (obRk b_r) p.r F_r F] := by rw [e1945]; exact hs1946
              exact WL_nil ⟨rfl, _, rfl, F1906, hs1947, v1938, (fun _ => rfl), v1940, v1941, v1942, v1943, trivial⟩
            ·
              rintro dN vL g1948 w1949 ⟨F1906, hs1950, v1956, v1957, v1958, v1959, v1960, v1961, _⟩ hD1951 hd1952 hu1953 hg1954 hk1955
              have e1962 : dN 1 = true := hd1952 1 (by decide +kernel)
              have e1963 : dN 6 = false := hu1953 6 (by decide +kernel)
              rw [e1963] at hs1950
              have hs1964 : Sep F w0 (fun b => D b ∧ b < w0.heap.size) w1949 [iOwn b1 39 [.int .i64 a.Kind, .int .i64 a.At, .int .i64 a.N, bv a.By, .slice A a.Kept.length cap] [], iData (dSlice dInt) [.slice A a.Kept.length cap] a.Kept, iOwn bx 36 [.pointer (some ⟨b_d, 0, none⟩), .pointer (some ⟨b_r, 0, none⟩)] F, iOb (obDk b_d) p.d F_d F, iOb (obRk b_r) p.r F_r F] := hs1950
              refine WL_at (L := [(83, .pointer (some ⟨bx, 0, none⟩))]) ⟨((hg1954 1 83 e1962 rfl).trans (v1957 e1962)), trivial⟩ ?_
              refine S_fieldAddr Try.runUnderlying36 rfl Try.sizeOf23 rfl rfl ?_
              have hs1965 : Sep F w0 (fun b => D b ∧ b < w0.heap.size) w1949 [iOwn b1 39 [.int .i64 a.Kind, .int .i64 a.At, .int .i64 a.N, bv a.By, .slice A a.Kept.length cap] [], iData (dSlice dInt) [.slice A a.Kept.length cap] a.Kept, iOwn bx 36 [.pointer (some ⟨b_d, 0, none⟩), .pointer (some ⟨b_r, 0, none⟩)] F, (bif dN 6 then (iOb (obDk b_d) (p.d.limit a.N) F1906 F) else (iOb (obDk b_d) p.d F_d F)), iOb (obRk b_r) p.r F_r F] := by rw [e1963]; exact hs1964
              exact WL_nil ⟨rfl, _, rfl, F1906, hs1965, v1956, v1957, (fun _ => rfl), v1959, v1960, v1961, trivial⟩
            ·
              rintro dN vL g1966 w1967 ⟨F1906, hs1968, v1974, v1975, v1976, v1977, v1978, v1979, _⟩ hD1969 hd1970 hu1971 hg1972 hk1973
              have e1980 : dN 2 = true := hd1970 2 (by decide +kernel)
              have e1981 : dN 6 = false := hu1971 6 (by decide +kernel)
              rw [e1981] at hs1968
              have hs1982 : Sep F w0 (fun b => D b ∧ b < w0.heap.size) w1967 [iOwn b1 39 [.int .i64 a.Kind, .int .i64 a.At, .int .i64 a.N, bv a.By, .slice A a.Kept.length cap] [], iData (dSlice dInt) [.slice A a.Kept.length cap] a.Kept, iOwn bx 36 [.pointer (some ⟨b_d, 0, none⟩), .pointer (some ⟨b_r, 0, none⟩)] F, iOb (obDk b_d) p.d F_d F, iOb (obRk b_r) p.r F_r F] := hs1968
              refine WL_at (L := [(84, .pointer (some ⟨bx, 0, none⟩))]) ⟨((hg1972 2 84 e1980 rfl).trans (v1976 e1980)), trivial⟩ ?_
              refine S_load1 Try.isAgg23 rfl (Own.at (hs1982.at 2 rfl) rfl) rfl ?_
              have hs1983 : Sep F w0 (fun b => D b ∧ b < w0.heap.size) w1967 [iOwn b1 39 [.int .i64 a.Kind, .int .i64 a.At, .int .i64 a.N, bv a.By, .slice A a.Kept.length cap] [], iData (dSlice dInt) [.slice A a.Kept.length cap] a.Kept, iOwn bx 36 [.pointer (some ⟨b_d, 0, none⟩), .pointer (some ⟨b_r, 0, none⟩)] F, (bif dN 6 then (iOb (obDk b_d) (p.d.limit a.N) F1906 F) else (iOb (obDk b_d) p.d F_d F)), iOb (obRk b_r) p.r F_r F] := by rw [e1981]; exact hs1982
              exact WL_nil ⟨rfl, _, rfl, F1906, hs1983, v1974, v1975, v1976, (fun _ => rfl), v1978, v1979, trivial⟩
            ·
              rintro dN vL g1984 w1985 ⟨F1906, hs1986, v1992, v1993, v1994, v1995, v1996, v1997, _⟩ hD1987 hd1988 hu1989 hg1990 hk1991
              have e1998 : dN 6 = false := hu1989 6 (by decide +kernel)
              rw [e1998] at hs1986
              have hs1999 : Sep F w0 (fun b => D b ∧ b < w0.heap.size) w1985 [iOwn b1 39 [.int .i64 a.Kind, .int .i64 a.At, .int .i64 a.N, bv a.By, .slice A a.Kept.length cap] [], iData (dSlice dInt) [.slice A a.Kept.length cap] a.Kept, iOwn bx 36 [.pointer (some ⟨b_d, 0, none⟩), .pointer (some ⟨b_r, 0, none⟩)] F, iOb (obDk b_d) p.d F_d F, iOb (obRk b_r) p.r F_r F] := hs1986
              refine WL_at (L := [(3, .pointer (some ⟨b1, 0, none⟩))]) ⟨(hk1991 3 (by decide +kernel)), trivial⟩ ?_
              refine S_fieldAddr Try.runUnderlying39 rfl Try.sizeOf3 rfl rfl ?_
              have hs2000 : Sep F w0 (fun b => D b ∧ b < w0.heap.size) w1985 [iOwn b1 39 [.int .i64 a.Kind, .int .i64 a.At, .int .i64 a.N, bv a.By, .slice A a.Kept.length cap] [], iData (dSlice dInt) [.slice A a.Kept.length cap] a.Kept, iOwn bx 36 [.pointer (some ⟨b_d, 0, none⟩), .pointer (some ⟨b_r, 0, none⟩)] F, (bif dN 6 then (iOb (obDk b_d) (p.d.limit a.N) F1906 F) else (iOb (obDk b_d) p.d F_d F)), iOb (obRk b_r) p.r F_r F] := by rw [e1998]; exact hs1999
              exact WL_nil ⟨rfl, _, rfl, F1906, hs2000, v1992, v1993, v1994, v1995, (fun _ => rfl), v1997, trivial⟩
            ·
              rintro dN vL g2001 w2002 ⟨F1906, hs2003, v2009, v2010, v2011, v2012, v2013, v2014, _⟩ hD2004 hd2005 hu2006 hg2007 hk2008
              have e2015 : dN 4 = true := hd2005 4 (by decide +kernel)
              have e2016 : dN 6 = false := hu2006 6 (by decide +kernel)
              rw [e2016] at hs2003
              have hs2017 : Sep F w0 (fun b => D b ∧ b < w0.heap.size) w2002 [iOwn b1 39 [.int .i64 a.Kind, .int .i64 a.At, .int .i64 a.N, bv a.By, .slice A a.Kept.length cap] [], iData (dSlice dInt) [.slice A a.Kept.length cap] a.Kept, iOwn bx 36 [.pointer (some ⟨b_d, 0, none⟩), .pointer (some ⟨b_r, 0, none⟩)] F, iOb (obDk b_d) p.d F_d F, iOb (obRk b_r) p.r F_r F] := hs2003
              refine WL_at (L := [(86, .pointer (some ⟨b1, 2, none⟩))]) ⟨((hg2007 4 86 e2015 rfl).trans (v2013 e2015)), trivial⟩ ?_
              refine S_load1 Try.isAgg3 rfl (Own.at (hs2017.at 0 rfl) rfl) rfl ?_
              have hs2018 : Sep F w0 (fun b => D b ∧ b < w0.heap.size) w2002 [iOwn b1 39 [.int .i64 a.Kind, .int .i64 a.At, .int .i64 a.N, bv a.By, .slice A a.Kept.length cap] [], iData (dSlice dInt) [.slice A a.Kept.length cap] a.Kept, iOwn bx 36 [.pointer (some ⟨b_d, 0, none⟩), .pointer (some ⟨b_r, 0, none⟩)] F, (bif dN 6 then (iOb (obDk b_d) (p.d.limit a.N) F1906 F) else (iOb (obDk b_d) p.d F_d F)), iOb (obRk b_r) p.r F_r F] := by rw [e2016]; exact hs2017
              exact WL_nil ⟨rfl, _, rfl, F1906, hs2018, v2009, v2010, v2011, v2012, v2013, (fun _ => rfl), trivial⟩
            ·
              rintro dN vL g2019 w2020 ⟨F1906, hs2021, v2027, v2028, v2029, v2030, v2031, v2032, _⟩ hD2022 hd2023 hu2024 hg2025 hk2026
              have e2033 : dN 3 = true := hd2023 3 (by decide +kernel)
              have e2034 : dN 5 = true := hd2023 5 (by decide +kernel)
              have e2035 : dN 6 = false := hD2022
              rw [e2035] at hs2021
              have hs2036 : Sep F w0 (fun b => D b ∧ b < w0.heap.size) w2020 [iOwn b1 39 [.int .i64 a.Kind, .int .i64 a.At, .int .i64 a.N, bv a.By, .slice A a.Kept.length cap] [], iData (dSlice dInt) [.slice A a.Kept.length cap] a.Kept, iOwn bx 36 [.pointer (some ⟨b_d, 0, none⟩), .pointer (some ⟨b_r, 0, none⟩)] F, iOb (obDk b_d) p.d F_d F, iOb (obRk b_r) p.r F_r F] := hs2021
              refine WL_at (L := [(85, .pointer (some ⟨b_d, 0, none⟩)), (87, .int .i64 a.N)]) ⟨((hg2025 3 85 e2033 rfl).trans (v2030 e2033)), ((hg2025 5 87 e2034 rfl).trans (v2032 e2034)), trivial⟩ ?_
              have hz2041 := limit_ok (hs2036.at 3 rfl) okd a.N
              refine S_call Try.call27 rfl hz2041 rfl ?_
              rintro _ w2037 ⟨F2038, h2039, t2040⟩
              have hs2042 : Sep F w0 (fun b => D b ∧ b < w0.heap.size) w2037 [iOwn b1 39 [.int .i64 a.Kind, .int .i64 a.At, .int .i64 a.N, bv a.By, .slice A a.Kept.length cap] [], iData (dSlice dInt) [.slice A a.Kept.length cap] a.Kept, iOwn bx 36 [.pointer (some ⟨b_d, 0, none⟩), .pointer (some ⟨b_r, 0, none⟩)] F, iOb (obDk b_d) (p.d.limit a.N) F2038 F, iOb (obRk b_r) p.r F_r F] := hs2036.turn 3 rfl h2039 t2040
              have hs2044 : Sep F w0 (fun b => D b ∧ b < w0.heap.size) w2037 [iOwn b1 39 [.int .i64 a.Kind, .int .i64 a.At, .int .i64 a.N, bv a.By, .slice A a.Kept.length cap] [], iData (dSlice dInt) [.slice A a.Kept.length cap] a.Kept, iOwn bx 36 [.pointer (some ⟨b_d, 0, none⟩), .pointer (some ⟨b_r, 0, none⟩)] F, iOb (obDk b_d) (p.d.limit a.N) F2038 F, iOb (obRk b_r) p.r F_r F] := by exact hs2042
              exact WL_nil ⟨rfl, _, rfl, F2038, hs2044, v2027, v2028, v2029, v2030, v2031, v2032, trivial⟩
          ·
            rintro dN vL g2045 w2046 ha2048 ⟨F1906, hs2047, v2051, v2052, v2053, v2054, v2055, v2056, _⟩ hg2049 hk2050
            rw [ha2048 6 rfl] at hs2047
            have hs2057 : Sep F w0 (fun b => D b ∧ b < w0.heap.size) w2046 [iOwn b1 39 [.int .i64 a.Kind, .int .i64 a.At, .int .i64 a.N, bv a.By, .slice A a.Kept.length cap] [], iData (dSlice dInt) [.slice A a.Kept.length cap] a.Kept, iOwn bx 36 [.pointer (some ⟨b_d, 0, none⟩), .pointer (some ⟨b_r, 0, none⟩)] F, iOb (obDk b_d) (p.d.limit a.N) F1906 F, iOb (obRk b_r) p.r F_r F] := hs2047
            refine ⟨[(0, .pointer (some ⟨bx, 0, none⟩)), (3, .pointer (some ⟨b1, 0, none⟩))], ⟨(hk2050 0 rfl), (hk2050 3 rfl), trivial⟩, fun g2058 => ?_⟩
            refine W_live (L := [(0, .pointer (some ⟨bx, 0, none⟩)), (3, .pointer (some ⟨b1, 0, none⟩))]) ⟨rfl, rfl, trivial⟩ ?_
            intro g2059
            refine W_region_J (fun dN vL w => ∃ (F2061 : List Nat), Sep F w0 (fun b => D b ∧ b < w0.heap.size) w [iOwn b1 39 [.int .i64 a.Kind, .int .i64 a.At, .int .i64 a.N, bv a.By, .slice A a.Kept.length cap] [], iData (dSlice dInt) [.slice A a.Kept.length cap] a.Kept, iOwn bx 36 [.pointer (some ⟨b_d, 0, none⟩), .pointer (some ⟨b_r, 0, none⟩)] F, iOb (obDk b_d) (p.d.limit a.N) F1906 F, (bif dN 6 then (iOb (obRk b_r) (p.r.limit a.N) F2061 F) else (iOb (obRk b_r) p.r F_r F))] ∧ (dN 0 = true → vL 0 = .pointer (some ⟨bx, 0, none⟩)) ∧ (dN 1 = true → vL 1 = .pointer (some ⟨bx, 0, none⟩)) ∧ (dN 2 = true → vL 2 = .pointer (some ⟨bx, 1, none⟩)) ∧ (dN 3 = true → vL 3 = .pointer (some ⟨b_r, 0, none⟩)) ∧ (dN 4 = true → vL 4 = .pointer (some ⟨b1, 2, none⟩)) ∧ (dN 5 = true → vL 5 = .int .i64 a.N) ∧ True) [89, 90, 91, 92, 93, 94, 95] rfl (by decide +kernel) _ rfl ?_ ?_ ?_
            · exact fun V => ⟨[], hs2057, (fun h => by cases h), (fun h => by cases h), (fun h => by cases h), (fun h => by cases h), (fun h => by cases h), (fun h => by cases h), trivial⟩
            · refine (.cons ?_ (.cons ?_ (.cons ?_ (.cons ?_ (.cons ?_ (.cons ?_ (.cons ?_ .nil)))))))
              ·
                rintro dN vL g2068 w2069 ⟨F2061, hs2070, v2076, v2077, v2078, v2079, v2080, v2081, _⟩ hD2071 hd2072 hu2073 hg2074 hk2075
                have e2082 : dN 6 = false := hu2073 6 (by decide +kernel)
                rw [e2082] at hs2070
                have hs2083 : Sep F w0 (fun b => D b ∧ b < w0.heap.size) w2069 [iOwn b1 39 [.int .i64 a.Kind, .int .i64 a.At, .int .i64 a.N, bv a.By, .slice A a.Kept.length cap] [], iData (dSlice dInt) [.slice A a.Kept.length cap] a.Kept, iOwn bx 36 [.pointer (some ⟨b_d, 0, none⟩), .pointer (some ⟨b_r, 0, none⟩)] F, iOb (obDk b_d) (p.d.limit a.N) F1906 F, iOb (obRk b_r) p.r F_r F] := hs2070
                refine WL_at (L := [(0, .pointer (some ⟨bx, 0, none⟩))]) ⟨(hk2075 0 (by decide +kernel)), trivial⟩ ?_
                refine S_move rfl ?_
                have hs2084 : Sep F w0 (fun b => D b ∧ b < w0.heap.size) w2069 [iOwn b1 39 [.int .i64 a.Kind, .int .i64 a.At, .int .i64 a.N, bv a.By, .slice A a.Kept.length cap] [], iData (dSlice dInt) [.slice A a.Kept.length cap] a.Kept, iOwn bx 36 [.pointer (some ⟨b_d, 0, none⟩), .pointer (some ⟨b_r, 0, none⟩)] F, iOb (obDk b_d) (p.d.limit a.N) F1906 F, (bif dN 6 then (iOb (obRk b_r) (p.r.limit a.N) F2061 F) else (iOb (obRk b_r) p.r F_r F))] := by rw [e2082]; exact hs2083
                exact WL_nil ⟨rfl, _, rfl, F2061, hs2084, (fun _ => rfl), v2077, v2078, v2079, v2080, v2081, trivial⟩
              ·
                rintro dN vL g2085 w2086 ⟨F2061, hs2087, v2093, v2094, v2095, v2096, v2097, v2098, _⟩ hD2088 hd2089 hu2090 hg2091 hk2092
                have e2099 : dN 0 = true := hd2089 0 (by decide +kernel)
                have e2100 : dN 6 = false := hu2090 6 (by decide +kernel)
                rw [e2100] at hs2087
                have hs2101 : Sep F w0 (fun b => D b ∧ b < w0.heap.size) w2086 [iOwn b1 39 [.int .i64 a.Kind, .int .i64 a.At, .int .i64 a.N, bv a.By, .slice A a.Kept.length cap] [], iData (dSlice dInt) [.slice A a.Kept.length cap] a.Kept, iOwn bx 36 [.pointer (some ⟨b_d, 0, none⟩), .pointer (some ⟨b_r, 0, none⟩)] F, iOb (obDk b_d) (p.d.limit a.N) F1906 F, iOb (obRk b_r) p.r F_r F] := hs2087
                refine WL_at (L := [(89, .pointer (some ⟨bx, 0, none⟩))]) ⟨((hg2091 0 89 e2099 rfl).trans (v2093 e2099)), trivial⟩ ?_
                refine S_nilCheck rfl rfl ?_
                have hs2102 : Sep F w0 (fun b => D b ∧ b < w0.heap.size) w2086 [iOwn b1 39 [.int .i64 a.Kind, .int .i64 a.At, .int .i64 a.N, bv a.By, .slice A a.Kept.length cap] [], iData (dSlice dInt) [.slice A a.Kept.length cap] a.Kept, iOwn bx 36 [.pointer (some ⟨b_d, 0, none⟩), .pointer (some ⟨b_r, 0, none⟩)] F, iOb (obDk b_d) (p.d.limit a.N) F1906 F, (bif dN 6 then (iOb (obRk b_r) (p.r.limit a.N) F2061 F) else (iOb (obRk b_r) p.r F_r F))] := by rw [e2100]; exact hs2101
                exact WL_nil ⟨rfl, _, rfl, F2061, hs2102, v2093, (fun _ => rfl), v2095, v2096, v2097, v2098, trivial⟩
              ·
                rintro dN vL g2103 w2104 ⟨F2061, hs2105, v2111, v2112, v2113, v2114, v2115, v2116, _⟩ hD2106 hd2107 hu2108 hg2109 hk2110
                have e2117 : dN 1 = true := hd2107 1 (by decide +kernel)
                have e2118 : dN 6 = false := hu2108 6 (by decide +kernel)
                rw [e2118] at hs2105
                have hs2119 : Sep F w0 (fun b => D b ∧ b < w0.heap.size) w2104 [iOwn b1 39 [.int .i64 a.Kind, .int .i64 a.At, .int .i64 a.N, bv a.By, .slice A a.Kept.length cap] [], iData (dSlice dInt) [.slice A a.Kept.length cap] a.Kept, iOwn bx 36 [.pointer (some ⟨b_d, 0, none⟩), .pointer (some ⟨b_r, 0, none⟩)] F, iOb (obDk b_d) (p.d.limit a.N) F1906 F, iOb (obRk b_r) p.r F_r F] := hs2105
                refine WL_at (L := [(90, .pointer (some ⟨bx, 0, none⟩))]) ⟨((hg2109 1 90 e2117 rfl).trans (v2112 e2117)), trivial⟩ ?_
                refine S_fieldAddr Try.runUnderlying36 rfl Try.sizeOf28 rfl rfl ?_
                have hs2120 : Sep F w0 (fun b => D b ∧ b < w0.heap.size) w2104 [iOwn b1 39 [.int .i64 a.Kind, .int .i64 a.At, .int .i64 a.N, bv a.By, .slice A a.Kept.length cap] [], iData (dSlice dInt) [.slice A a.Kept.length cap] a.Kept, iOwn bx 36 [.pointer (some ⟨b_d, 0, none⟩), .pointer (some ⟨b_r, 0, none⟩)] F, iOb (obDk b_d) (p.d.limit a.N) F1906 F, (bif dN 6 then (iOb (obRk b_r) (p.r.limit a.N) F2061 F) else (iOb (obRk b_r) p.r F_r F))] := by rw [e2118]; exact hs2119
                exact WL_nil ⟨rfl, _, rfl, F2061, hs2120, v2111, v2112, (fun _ => rfl), v2114, v2115, v2116, trivial⟩
              ·
                rintro dN vL g2121 w2122 ⟨F2061, hs2123, v2129, v2130, v2131, v2132, v2133, v2134, _⟩ hD2124 hd2125 hu2126 hg2127 hk2128
                have e2135 : dN 2 = true := hd2125 2 (by decide +kernel)
                have e2136 : dN 6 = false := hu2126 6 (by decide +kernel)
                rw [e2136] at hs2123
                have hs2137 : Sep F w0 (fun b => D b ∧ b < w0.heap.size) w2122 [iOwn b1 39 [.int .i64 a.Kind, .int .i64 a.At, .int .i64 a.N, bv a.By, .slice A a.Kept.length cap] [], iData (dSlice dInt) [.slice A a.Kept.length cap] a.Kept, iOwn bx 36 [.pointer (some ⟨b_d, 0, none⟩), .pointer (some ⟨b_r, 0, none⟩)] F, iOb (obDk b_d) (p.d.limit a.N) F1906 F, iOb (obRk b_r) p.r F_r F] := hs2123
                refine WL_at (L := [(91, .pointer (some ⟨bx, 1, none⟩))]) ⟨((hg2127 2 91 e2135 rfl).trans (v2131 e2135)), trivial⟩ ?_
                refine S_load1 Try.isAgg28 rfl (Own.at (hs2137.at 2 rfl) rfl) rfl ?_
                have hs2138 : Sep F w0 (fun b => D b ∧ b < w0.heap.size) w2122 [iOwn b1 39 [.int .i64 a.Kind, .int .i64 a.At, .int .i64 a.N, bv a.By, .slice A a.Kept.length cap] [], iData (dSlice dInt) [.slice A a.Kept.length cap] a.Kept, iOwn bx 36 [.pointer (some ⟨b_d, 0, none⟩), .pointer (some ⟨b_r, 0, none⟩)] F, iOb (obDk b_d) (p.d.limit a.N) F1906 F, (bif dN 6 then (iOb (obRk b_r) (p.r.limit a.N) F2061 F) else (iOb (obRk b_r) p.r F_r F))] := by rw [e2136]; exact hs2137
                exact WL_nil ⟨rfl, _, rfl, F2061, hs2138, v2129, v2130, v2131, (fun _ => rfl), v2133, v2134, trivial⟩
              ·
                rintro dN vL g2139 w2140 ⟨F2061, hs2141, v2147, v2148, v2149, v2150, v2151, v2152, _⟩ hD2142 hd2143 hu2144 hg2145 hk2146
                have e2153 : dN 6 = false := hu2144 6 (by decide +kernel)
                rw [e2153] at hs2141
                have hs2154 : Sep F w0 (fun b => D b ∧ b < w0.heap.size) w2140 [iOwn b1 39 [.int .i64 a.Kind, .int .i64 a.At, .int .i64 a.N, bv a.By, .slice A a.Kept.length cap] [], iData (dSlice dInt) [.slice A a.Kept.length cap] a.Kept, iOwn bx 36 [.pointer (some ⟨b_d, 0, none⟩), .pointer (some ⟨b_r, 0, none⟩)] F, iOb (obDk b_d) (p.d.limit a.N) F1906 F, iOb (obRk b_r) p.r F_r F] := hs2141
                refine WL_at (L := [(3, .pointer (some ⟨b1, 0, none⟩))]) ⟨(hk2146 3 (by decide +kernel)), trivial⟩ ?_
                refine S_fieldAddr Try.runUnderlying39 rfl Try.sizeOf3 rfl rfl ?_
                have hs2155 : Sep F w0 (fun b => D b ∧ b < w0.heap.size) w2140 [iOwn b1 39 [.int .i64 a.Kind, .int .i64 a.At, .int .i64 a.N, bv a.By, .slice A a.Kept.length cap] [], iData (dSlice dInt) [.slice A a.Kept.length cap] a.Kept, iOwn bx 36 [.pointer (some ⟨b_d, 0, none⟩), .pointer (some ⟨b_r, 0, none⟩)] F, iOb (obDk b_d) (p.d.limit a.N) F1906 F, (bif dN 6 then (iOb (obRk b_r) (p.r.limit a.N) F2061 F) else (iOb (obRk b_r) p.r F_r F))] := by rw [e2153]; exact hs2154
                exact WL_nil ⟨rfl, _, rfl, F2061, hs2155, v2147, v2148, v2149, v2150, (fun _ => rfl), v2152, trivial⟩
              ·
                rintro dN vL g2156 w2157 ⟨F2061, hs2158, v2164, v2165, v2166, v2167, v2168, v2169, _⟩ hD2159 hd2160 hu2161 hg2162 hk2163
                have e2170 : dN 4 = true := hd2160 4 (by decide +kernel)
                have e2171 : dN 6 = false := hu2161 6 (by decide +kernel)
                rw [e2171] at hs2158
                have hs2172 : Sep F w0 (fun b => D b ∧ b < w0.heap.size) w2157 [iOwn b1 39 [.int .i64 a.Kind, .int .i64 a.At, .int .i64 a.N, bv a.By, .slice A a.Kept.length cap] [], iData (dSlice dInt) [.slice A a.Kept.length cap] a.Kept, iOwn bx 36 [.pointer (some ⟨b_d, 0, none⟩), .pointer (some ⟨b_r, 0, none⟩)] F, iOb (obDk b_d) (p.d.limit a.N) F1906 F, iOb (obRk b_r) p.r F_r F] := hs2158
                refine WL_at (L := [(93, .pointer (some ⟨b1, 2, none⟩))]) ⟨((hg2162 4 93 e2170 rfl).trans (v2168 e2170)), trivial⟩ ?_
                refine S_load1 Try.isAgg3 rfl (Own.at (hs2172.at 0 rfl) rfl) rfl ?_
                have hs2173 : Sep F w0 (fun b => D b ∧ b < w0.heap.size) w2157 [iOwn b1 39 [.int .i64 a.Kind, .int .i64 a.At, .int .i64 a.N, bv a.By, .slice A a.Kept.length cap] [], iData (dSlice dInt) [.slice A a.Kept.length cap] a.Kept, iOwn bx 36 [.pointer (some ⟨b_d, 0, none⟩), .pointer (some ⟨b_r, 0, none⟩)] F, iOb (obDk b_d) (p.d.limit a.N) F1906 F, (bif dN 6 then (iOb (obRk b_r) (p.r.limit a.N) F2061 F) else (iOb (obRk b_r) p.r F_r F))] := by rw [e2171]; exact hs2172
                exact WL_nil ⟨rfl, _, rfl, F2061, hs2173, v2164, v2165, v2166, v2167, v2168, (fun _ => rfl), trivial⟩
              ·
                rintro dN vL g2174 w2175 ⟨F2061, hs2176, v2182, v2183, v2184, v2185, v2186, v2187, _⟩ hD2177 hd2178 hu2179 hg2180 hk2181
                have e2188 : dN 3 = true := hd2178 3 (by decide +kernel)
                have e2189 : dN 5 = true := hd2178 5 (by decide +kernel)
                have e2190 : dN 6 = false := hD2177
                rw [e2190] at hs2176
                have hs2191 : Sep F w0 (fun b => D b ∧ b < w0.heap.size) w2175 [iOwn b1 39 [.int .i64 a.Kind, .int .i64 a.At, .int .i64 a.N, bv a.By, .slice A a.Kept.length cap] [], iData (dSlice dInt) [.slice A a.Kept.length cap] a.Kept, iOwn bx 36 [.pointer (some ⟨b_d, 0, none⟩), .pointer (some ⟨b_r, 0, none⟩)] F, iOb (obDk b_d) (p.d.limit a.N) F1906 F, iOb (obRk b_r) p.r F_r F] := hs2176
                refine WL_at (L := [(92, .pointer (some ⟨b_r, 0, none⟩)), (94, .int .i64 a.N)]) ⟨((hg2180 3 92 e2188 rfl).trans (v2185 e2188)), ((hg2180 5 94 e2189 rfl).trans (v2187 e2189)), trivial⟩ ?_
                have hz2196 := rlimit_ok (hs2191.at 4 rfl) okr a.N
                refine S_call Try.call32 rfl hz2196 rfl ?_
                rintro _ w2192 ⟨F2193, h2194, t2195⟩
                have hs2197 : Sep F w0 (fun b => D b ∧ b < w0.heap.size) w2192 [iOwn b1 39 [.int .i64 a.Kind, .int .i64 a.At, .int .i64 a.N, bv a.By, .slice A a.Kept.length cap] [], iData (dSlice dInt) [.slice A a.Kept.length cap] a.Kept, iOwn bx 36 [.pointer (some ⟨b_d, 0, none⟩), .pointer (some ⟨b_r, 0, none⟩)] F, iOb (obDk b_d) (p.d.limit a.N) F1906 F, iOb (obRk b_r) (p.r.limit a.N) F2193 F] := hs2191.turn 4 rfl h2194 t2195
                have hs2199 : Sep F w0 (fun b => D b ∧ b < w0.heap.size) w2192 [iOwn b1 39 [.int .i64 a.Kind, .int .i64 a.At, .int .i64 a.N, bv a.By, .slice A a.Kept.length cap] [], iData (dSlice dInt) [.slice A a.Kept.length cap] a.Kept, iOwn bx 36 [.pointer (some ⟨b_d, 0, none⟩), .pointer (some ⟨b_r, 0, none⟩)] F, iOb (obDk b_d) (p.d.limit a.N) F1906 F, iOb (obRk b_r) (p.r.limit a.N) F2193 F] := by exact hs2197
                exact WL_nil ⟨rfl, _, rfl, F2193, hs2199, v2182, v2183, v2184, v2185, v2186, v2187, trivial⟩
            ·
              rintro dN vL g2200 w2201 ha2203 ⟨F2061, hs2202, v2206, v2207, v2208, v2209, v2210, v2211, _⟩ hg2204 hk2205
              rw [ha2203 6 rfl] at hs2202
              have hs2212 : Sep F w0 (fun b => D b ∧ b < w0.heap.size) w2201 [iOwn b1 39 [.int .i64 a.Kind, .int .i64 a.At, .int .i64 a.N, bv a.By, .slice A a.Kept.length cap] [], iData (dSlice dInt) [.slice A a.Kept.length cap] a.Kept, iOwn bx 36 [.pointer (some ⟨b_d, 0, none⟩), .pointer (some ⟨b_r, 0, none⟩)] F, iOb (obDk b_d) (p.d.limit a.N) F1906 F, iOb (obRk b_r) (p.r.limit a.N) F2061 F] := hs2202
              refine ⟨[(0, .pointer (some ⟨bx, 0, none⟩))], ⟨(hk2205 0 rfl), trivial⟩, fun g2213 => ?_⟩
              refine W_seq ?_
              refine W_region ?_
              refine S_move rfl ?_
              refine S_nilCheck rfl rfl ?_
              refine S_fieldAddr Try.runUnderlying36 rfl Try.sizeOf23 rfl rfl ?_
              refine S_load1 Try.isAgg23 rfl (Own.at (hs2212.at 2 rfl) rfl) rfl ?_
              refine S_neqP Try.runUnderlying23 rfl rfl ?_
              refine S_assign rfl ?_
              refine WL_nil ?_
              refine W_ret ?_
              show (Value.bool true) = .bool true ∧ ∃ F', BkIs bx w2201 (p.act a) F' ∧ Turn w0 w2201 F F'
              have hc2 := (BkIs.close (hs2212.pick [2, 3, 4] rfl (by decide) rfl))
              exact ⟨rfl, _, by simp only [Bk.act, *]; first | exact hc2.1 | (simp; exact hc2.1), hc2.2⟩
        ·
          have p2214 := of_decide_eq_false h1902
          refine W_seq ?_
          refine W_live (L := [(0, .pointer (some ⟨bx, 0, none⟩)), (3, .pointer (some ⟨b1, 0, none⟩)), (10, .int .i64 a.Kind)]) ⟨rfl, rfl, rfl, trivial⟩ ?_
          intro g2215
          refine W_region ?_
          refine S_eql rfl rfl rfl ?_
          refine S_assign rfl ?_
          refine WL_nil ?_
          refine W_cond rfl (fun h2216 => ?_) (fun h2216 => ?_)
          ·
            have p2217 := of_decide_eq_true h2216
            refine W_live (L := [(0, .pointer (some ⟨bx, 0, none⟩)), (3, .pointer (some ⟨b1, 0, none⟩))]) ⟨rfl, rfl, trivial⟩ ?_
            intro g2218
            refine W_region_J (fun dN vL w => ∃ (d2219 : Nat) (F2220 : List Nat) (d2227 : Nat) (F2228 : List Nat), Sep F w0 (fun b => D b ∧ b < w0.heap.size) w [(bif dN 23 then (iOb (obRk d2227) (p.r.crash a.At a.N a.Kept) F2228 []) else iNil), (bif dN 12 then (iOb (obDk d2219) (p.d.crash a.At a.N a.Kept) F2220 []) else iNil), iOwn b1 39 [.int .i64 a.Kind, .int .i64 a.At, .int .i64 a.N, bv a.By, .slice A a.Kept.length cap] [], iData (dSlice dInt) [.slice A a.Kept.length cap] a.Kept, (bif dN 29 then (iOwn bx 36 [.pointer (some ⟨d2219, 0, none⟩), .pointer (some ⟨d2227, 0, none⟩)] F) else (bif dN 26 then (iOwn bx 36 [.pointer (some ⟨d2219, 0, none⟩), .pointer (some ⟨b_r, 0, none⟩)] F) else (iOwn bx 36 [.pointer (some ⟨b_d, 0, none⟩), .pointer (some ⟨b_r, 0, none⟩)] F))), iOb (obDk b_d) p.d F_d F, iOb (obRk b_r) p.r F_r F] ∧ (dN 0 = true → vL 0 = .pointer (some ⟨bx, 0, none⟩)) ∧ (dN 1 = true → vL 1 = .pointer (some ⟨bx, 0, none⟩)) ∧ (dN 2 = true → vL 2 = .pointer (some ⟨bx, 0, none⟩)) ∧ (dN 3 = true → vL 3 = .pointer (some ⟨bx, 0, none⟩)) ∧ (dN 4 = true → vL 4 = .pointer (some ⟨bx, 0, none⟩)) ∧ (dN 5 = true → vL 5 = .pointer (some ⟨b_d, 0, none⟩)) ∧ (dN 6 = true → vL 6 = .pointer (some ⟨b1, 1, none⟩)) ∧ (dN 7 = true → vL 7 = .int .i64 a.At) ∧ (dN 8 = true → vL 8 = .pointer (some ⟨b1, 2, none⟩)) ∧ (dN 9 = true → vL 9 = .int .i64 a.N) ∧ (dN 10 = true → vL 10 = .pointer (some ⟨b1, 4, none⟩)) ∧ (dN 11 = true → vL 11 = .slice A a.Kept.length cap) ∧ (dN 12 = true → vL 12 = .pointer (some ⟨d2219, 0, none⟩)) ∧ (dN 13 = true → vL 13 = .pointer (some ⟨bx, 0, none⟩)) ∧ (dN 14 = true → vL 14 = .pointer (some ⟨bx, 0, none⟩)) ∧ (dN 15 = true → vL 15 = .pointer (some ⟨bx, 1, none⟩)) ∧ (dN 16 = true → vL 16 = .pointer (some ⟨b_r, 0, none⟩)) ∧ (dN 17 = true → vL 17 = .pointer (some ⟨b1, 1, none⟩)) ∧ (dN 18 = true → vL 18 = .int .i64 a.At) ∧ (dN 19 = true → vL 19 = .pointer (some ⟨b1, 2, none⟩)) ∧ (dN 20 = true → vL 20 = .int .i64 a.N) ∧ (dN 21 = true → vL 21 = .pointer (some ⟨b1, 4, none⟩)) ∧ (dN 22 = true → vL 22 = .slice A a.Kept.length cap) ∧ (dN 23 = true → vL 23 = .pointer (some ⟨d2227, 0, none⟩)) ∧ (dN 24 = true → vL 24 = .pointer (some ⟨bx, 0, none⟩)) ∧ (dN 25 = true → vL 25 = .pointer (some ⟨bx, 0, none⟩)) ∧ (dN 27 = true → vL 27 = .pointer (some ⟨bx, 0, none⟩)) ∧ (dN 28 = true → vL 28 = .pointer (some ⟨bx, 1, none⟩)) ∧ True) [98, 99, 100, 101, 102, 103, 104, 105, 106, 107, 108, 109, 110, 111, 112, 113, 114, 115, 116, 117, 118, 119, 120, 121, 122, 123, 124, 125] rfl (by decide +kernel) _ rfl ?_ ?_ ?_
            · exact fun V => ⟨0, [], 0, [], (Sep.nilA (Sep.nilA hs3)), (fun h => by cases h), (fun h => by cases h), (fun h => by cases h), (fun h => by cases h), (fun h => by cases h), (fun h => by cases h), (fun h => by cases h), (fun h => by cases h), (fun h => by cases h), (fun h => by cases h), (fun h => by cases h), (fun h => by cases h), (fun h => by cases h), (fun h => by cases h), (fun h => by cases h), (fun h => by cases h), (fun h => by cases h), (fun h => by cases h), (fun h => by cases h), (fun h => by cases h), (fun h => by cases h), (fun h => by cases h), (fun h => by cases h), (fun h => by cases h), (fun h => by cases h), (fun h => by cases h), (fun h => by cases h), (fun h => by cases h), trivial⟩
            · refine (.cons ?_ (.cons ?_ (.cons ?_ (.cons ?_ (.cons ?_ (.cons ?_ (.cons ?_ (.cons ?_ (.cons ?_ (.cons ?_ (.cons ?_ (.cons ?_ (.cons ?_ (.cons ?_ (.cons ?_ (.cons ?_ (.cons ?_ (.cons ?_ (.cons ?_ (.cons ?_ (.cons ?_ (.cons ?_ (.cons ?_ (.cons ?_ (.cons ?_ (.cons ?_ (.cons ?_ (.cons ?_ (.cons ?_ (.cons ?_ .nil))))))))))))))))))))))))))))))
              ·
                rintro dN vL g2240 w2241 ⟨d2219, F2220, d2227, F2228, hs2242, v2248, v2249, v2250, v2251, v2252, v2253, v2254, v2255, v2256, v2257, v2258, v2259, v2260, v2261, v2262, v2263, v2264, v2265, v2266, v2267, v2268, v2269, v2270, v2271, v2272, v2273, v2274, v2275, _⟩ hD2243 hd2244 hu2245 hg2246 hk2247
                have e2276 : dN 26 = false := hu2245 26 (by decide +kernel)
                have e2277 : dN 29 = false := hu2245 29 (by decide +kernel)
                rw [e2276, e2277] at hs2242
                have hs2278 : Sep F w0 (fun b => D b ∧ b < w0.heap.size) w2241 [(bif dN 23 then (iOb (obRk d2227) (p.r.crash a.At a.N a.Kept) F2228 []) else iNil), (bif dN 12 then (iOb (obDk d2219) (p.d.crash a.At a.N a.Kept) F2220 []) else iNil), iOwn b1 39 [.int .i64 a.Kind, .int .i64 a.At, .int .i64 a.N, bv a.By, .slice A a.Kept.length cap] [], iData (dSlice dInt) [.slice A a.Kept.length cap] a.Kept, iOwn bx 36 [.pointer (some ⟨b_d, 0, none⟩), .pointer (some ⟨b_r, 0, none⟩)] F, iOb (obDk b_d) p.d F_d F, iOb (obRk b_r) p.r F_r F] := hs2242
                refine WL_at (L := [(0, .pointer (some ⟨bx, 0, none⟩))]) ⟨(hk2247 0 (by decide +kernel)), trivial⟩ ?_
                refine S_move rfl ?_
                have hs2279 : Sep F w0 (fun b => D b ∧ b < w0.heap.size) w2241 [(bif dN 23 then (iOb (obRk d2227) (p.r.crash a.At a.N a.Kept) F2228 []) else iNil), (bif dN 12 then (iOb (obDk d2219) (p.d.crash a.At a.N a.Kept) F2220 []) else iNil), iOwn b1 39 [.int .i64 a.Kind, .int .i64 a.At, .int .i64 a.N, bv a.By, .slice A a.Kept.length cap] [], iData (dSlice dInt) [.slice A a.Kept.length cap] a.Kept, (bif dN 29 then (iOwn bx 36 [.pointer (some ⟨d2219, 0, none⟩), .pointer (some ⟨d2227, 0, none⟩)] F) else (bif dN 26 then (iOwn bx 36 [.pointer (some ⟨d2219, 0, none⟩), .pointer (some ⟨b_r, 0, none⟩)] F) else (iOwn bx 36 [.pointer (some ⟨b_d, 0, none⟩), .pointer (some ⟨b_r, 0, none⟩)] F))), iOb (obDk b_d) p.d F_d F, iOb (obRk b_r) p.r F_r F] := by rw [e2276, e2277]; exact hs2278
                exact WL_nil ⟨rfl, _, rfl, d2219, F2220, d2227, F2228, hs2279, (fun _ => rfl), v2249, v2250, v2251, v2252, v2253, v2254, v2255, v2256, v2257, v2258, v2259, v2260, v2261, v2262, v2263, v2264, v2265, v2266, v2267, v2268, v2269, v2270, v2271, v2272, v2273, v2274, v2275, trivial⟩
              ·
                rintro dN vL g2280 w2281 ⟨d2219, F2220, d2227, F2228, hs2282, v2288, v2289, v2290, v2291, v2292, v2293, v2294, v2295, v2296, v2297, v2298, v2299, v2300, v2301, v2302, v2303, v2304, v2305, v2306, v2307, v2308, v2309, v2310, v2311, v2312, v2313, v2314, v2315, _⟩ hD2283 hd2284 hu2285 hg2286 hk2287
                have e2316 : dN 29 = false := hu2285 29 (by decide +kernel)
                rw [e2316] at hs2282
                have hs2317 : Sep F w0 (fun b => D b ∧ b < w0.heap.size) w2281 [(bif dN 23 then (iOb (obRk d2227) (p.r.crash a.At a.N a.Kept) F2228 []) else iNil), (bif dN 12 then (iOb (obDk d2219) (p.d.crash a.At a.N a.Kept) F2220 []) else iNil), iOwn b1 39 [.int .i64 a.Kind, .int .i64 a.At, .int .i64 a.N, bv a.By, .slice A a.Kept.length cap] [], iData (dSlice dInt) [.slice A a.Kept.length cap] a.Kept, (bif dN 26 then (iOwn bx 36 [.pointer (some ⟨d2219, 0, none⟩), .pointer (some ⟨b_r, 0, none⟩)] F) else (iOwn bx 36 [.pointer (some ⟨b_d, 0, none⟩), .pointer (some ⟨b_r, 0, none⟩)] F)), iOb (obDk b_d) p.d F_d F, iOb (obRk b_r) p.r F_r F] := hs2282
                refine WL_at (L := [(0, .pointer (some ⟨bx, 0, none⟩))]) ⟨(hk2287 0 (by decide +kernel)), trivial⟩ ?_
                refine S_move rfl ?_
                have hs2318 : Sep F w0 (fun b => D b ∧ b < w0.heap.size) w2281 [(bif dN 23 then (iOb (obRk d2227) (p.r.crash a.At a.N a.Kept) F2228 []) else iNil), (bif dN 12 then (iOb (obDk d2219) (p.d.crash a.At a.N a.Kept) F2220 []) else iNil), iOwn b1 39 [.int .i64 a.Kind, .int .i64 a.At, .int .i64 a.N, bv a.By, .slice A a.Kept.length cap] [], iData (dSlice dInt) [.slice A a.Kept.length cap] a.Kept, (bif dN 29 then (iOwn bx 36 [.pointer (some ⟨d2219, 0, none⟩), .pointer (some ⟨d2227, 0, none⟩)] F) else (bif dN 26 then (iOwn bx 36 [.pointer (some ⟨d2219, 0, none⟩), .pointer (some ⟨b_r, 0, none⟩)] F) else (iOwn bx 36 [.pointer (some ⟨b_d, 0, none⟩), .pointer (some ⟨b_r, 0, none⟩)] F))), iOb (obDk b_d) p.d F_d F, iOb (obRk b_r) p.r F_r F] := by rw [e2316]; exact hs2317
                exact WL_nil ⟨rfl, _, rfl, d2219, F2220, d2227, F2228, hs2318, v2288, (fun _ => rfl), v2290, v2291, v2292, v2293, v2294, v2295, v2296, v2297, v2298, v2299, v2300, v2301, v2302, v2303, v2304, v2305, v2306, v2307, v2308, v2309, v2310, v2311, v2312, v2313, v2314, v2315, trivial⟩
              ·
                rintro dN vL g2319 w2320 ⟨d2219, F2220, d2227, F2228, hs2321, v2327, v2328, v2329, v2330, v2331, v2332, v2333, v2334, v2335, v2336, v2337, v2338, v2339, v2340, v2341, v2342, v2343, v2344, v2345, v2346, v2347, v2348, v2349, v2350, v2351, v2352, v2353, v2354, _⟩ hD2322 hd2323 hu2324 hg2325 hk2326
                have e2355 : dN 12 = false := hu2324 12 (by decide +kernel)
                have e2356 : dN 23 = false := hu2324 23 (by decide +kernel)
                have e2357 : dN 26 = false := hu2324 26 (by decide +kernel)
                have e2358 : dN 29 = false := hu2324 29 (by decide +kernel)
                rw [e2357, e2355, e2358, e2356] at hs2321
                have hs2359 : Sep F w0 (fun b => D b ∧ b < w0.heap.size) w2320 [iNil, iNil, iOwn b1 39 [.int .i64 a.Kind, .int .i64 a.At, .int .i64 a.N, bv a.By, .slice A a.Kept.length cap] [], iData (dSlice dInt) [.slice A a.Kept.length cap] a.Kept, iOwn bx 36 [.pointer (some ⟨b_d, 0, none⟩), .pointer (some ⟨b_r, 0, none⟩)] F, iOb (obDk b_d) p.d F_d F, iOb (obRk b_r) p.r F_r F] := hs2321
                refine WL_at (L := [(0, .pointer (some ⟨bx, 0, none⟩))]) ⟨(hk2326 0 (by decide +kernel)), trivial⟩ ?_
                refine S_move rfl ?_
                have hs2360 : Sep F w0 (fun b => D b ∧ b < w0.heap.size) w2320 [(bif dN 23 then (iOb (obRk d2227) (p.r.crash a.At a.N a.Kept) F2228 []) else iNil), (bif dN 12 then (iOb (obDk d2219) (p.d.crash a.At a.N a.Kept) F2220 []) else iNil), iOwn b1 39 [.int .i64 a.Kind, .int .i64 a.At, .int .i64 a.N, bv a.By, .slice A a.Kept.length cap] [], iData (dSlice dInt) [.slice A a.Kept.length cap] a.Kept, (bif dN 29 then (iOwn bx 36 [.pointer (some ⟨d2219, 0, none⟩), .pointer (some ⟨d2227, 0, none⟩)] F) else (bif dN 26 then (iOwn bx 36 [.pointer (some ⟨d2219, 0, none⟩), .pointer (some ⟨b_r, 0, none⟩)] F) else (iOwn bx 36 [.pointer (some ⟨b_d, 0, none⟩), .pointer (some ⟨b_r, 0, none⟩)] F))), iOb (obDk b_d) p.d F_d F, iOb (obRk b_r) p.r F_r F] := by rw [e2357, e2355, e2358, e2356]; exact hs2359
                exact WL_nil ⟨rfl, _, rfl, d2219, F2220, d2227, F2228, hs2360, v2327, v2328, (fun _ => rfl), v2330, v2331, v2332, v2333, v2334, v2335, v2336, v2337, v2338, v2339, v2340, v2341, v2342, v2343, v2344, v2345, v2346, v2347, v2348, v2349, v2350, v2351, v2352, v2353, v2354, trivial⟩
              ·
                rintro dN vL g2361 w2362 ⟨d2219, F2220, d2227, F2228, hs2363, v2369, v2370, v2371, v2372, v2373, v2374, v2375, v2376, v2377, v2378, v2379, v2380, v2381, v2382, v2383, v2384, v2385, v2386, v2387, v2388, v2389, v2390, v2391, v2392, v2393, v2394, v2395, v2396, _⟩ hD2364 hd2365 hu2366 hg2367 hk2368
                have e2397 : dN 2 = true := hd2365 2 (by decide +kernel)
                have e2398 : dN 12 = false := hu2366 12 (by decide +kernel)
                have e2399 : dN 23 = false := hu2366 23 (by decide +kernel)
                have e2400 : dN 26 = false := hu2366 26 (by decide +kernel)
                have e2401 : dN 29 = false := hu2366 29 (by decide +kernel)
                rw [e2400, e2398, e2401, e2399] at hs2363
                have hs2402 : Sep F w0 (fun b => D b ∧ b < w0.heap.size) w2362 [iNil, iNil, iOwn b1 39 [.int .i64 a.Kind, .int .i64 a.At, .int .i64 a.N, bv a.By, .slice A a.Kept.length cap] [], iData (dSlice dInt) [.slice A a.Kept.length cap] a.Kept, iOwn bx 36 [.pointer (some ⟨b_d, 0, none⟩), .pointer (some ⟨b_r, 0, none⟩)] F, iOb (obDk b_d) p.d F_d F, iOb (obRk b_r) p.r F_r F] := hs2363
                refine WL_at (L := [(100, .pointer (some ⟨bx, 0, none⟩))]) ⟨((hg2367 2 100 e2397 rfl).trans (v2371 e2397)), trivial⟩ ?_
                refine S_nilCheck rfl rfl ?_
                have hs2403 : Sep F w0 (fun b => D b ∧ b < w0.heap.size) w2362 [(bif dN 23 then (iOb (obRk d2227) (p.r.crash a.At a.N a.Kept) F2228 []) else iNil), (bif dN 12 then (iOb (obDk d2219) (p.d.crash a.At a.N a.Kept) F2220 []) else iNil), iOwn b1 39 [.int .i64 a.Kind, .int .i64 a.At, .int .i64 a.N, bv a.By, .slice A a.Kept.length cap] [], iData (dSlice dInt) [.slice A a.Kept.length cap] a.Kept, (bif dN 29 then (iOwn bx 36 [.pointer (some ⟨d2219, 0, none⟩), .pointer (some ⟨d2227, 0, none⟩)] F) else (bif dN 26 then (iOwn bx 36 [.pointer (some ⟨d2219, 0, none⟩), .pointer (some ⟨b_r, 0, none⟩)] F) else (iOwn bx 36 [.pointer (some ⟨b_d, 0, none⟩), .pointer (some ⟨b_r, 0, none⟩)] F))), iOb (obDk b_d) p.d F_d F, iOb (obRk b_r) p.r F_r F] := by rw [e2400, e2398, e2401, e2399]; exact hs2402
                exact WL_nil ⟨rfl, _, rfl, d2219, F2220, d2227, F2228, hs2403, v2369, v2370, v2371, (fun _ => rfl), v2373, v2374, v2375, v2376, v2377, v2378, v2379, v2380, v2381, v2382, v2383, v2384, v2385, v2386, v2387, v2388, v2389, v2390, v2391, v2392, v2393, v2394, v2395, v2396, trivial⟩
              ·
                rintro dN vL g2404 w2405 ⟨d2219, F2220, d2227, F2228, hs2406, v2412, v2413, v2414, v2415, v2416, v2417, v2418, v2419, v2420, v2421, v2422, v2423, v2424, v2425, v2426, v2427, v2428, v2429, v2430, v2431, v2432, v2433, v2434, v2435, v2436, v2437, v2438, v2439, _⟩ hD2407 hd2408 hu2409 hg2410 hk2411
                have e2440 : dN 3 = true := hd2408 3 (by decide +kernel)
                have e2441 : dN 12 = false := hu2409 12 (by decide +kernel)
                have e2442 : dN 23 = false := hu2409 23 (by decide +kernel)
                have e2443 : dN 26 = false := hu2409 26 (by decide +kernel)
                have e2444 : dN 29 = false := hu2409 29 (by decide +kernel)
                rw [e2443, e2441, e2444, e2442] at hs2406
                have hs2445 : Sep F w0 (fun b => D b ∧ b < w0.heap.size) w2405 [iNil, iNil, iOwn b1 39 [.int .i64 a.Kind, .int .i64 a.At, .int .i64 a.N, bv a.By, .slice A a.Kept.length cap] [], iData (dSlice dInt) [.slice A a.Kept.length cap] a.Kept, iOwn bx 36 [.pointer (some ⟨b_d, 0, none⟩), .pointer (some ⟨b_r, 0, none⟩)] F, iOb (obDk b_d) p.d F_d F, iOb (obRk b_r) p.r F_r F] := hs2406
                refine WL_at (L := [(101, .pointer (some ⟨bx, 0, none⟩))]) ⟨((hg2410 3 101 e2440 rfl).trans (v2415 e2440)), trivial⟩ ?_
                refine S_fieldAddr Try.runUnderlying36 rfl Try.sizeOf23 rfl rfl ?_
                have hs2446 : Sep F w0 (fun b => D b ∧ b < w0.heap.size) w2405 [(bif dN 23 then (iOb (obRk d2227) (p.r.crash a.At a.N a.Kept) F2228 []) else iNil), (bif dN 12 then (iOb (obDk d2219) (p.d.crash a.At a.N a.Kept) F2220 []) else iNil), iOwn b1 39 [.int .i64 a.Kind, .int .i64 a.At, .int .i64 a.N, bv a.By, .slice A a.Kept.length cap] [], iData (dSlice dInt) [.slice A a.Kept.length cap] a.Kept, (bif dN 29 then (iOwn bx 36 [.pointer (some ⟨d2219, 0, none⟩), .pointer (some ⟨d2227, 0, none⟩)] F) else (bif dN 26 then (iOwn bx 36 [.pointer (some ⟨d2219, 0, none⟩), .pointer (some ⟨b_r, 0, none⟩)] F) else (iOwn bx 36 [.pointer (some ⟨b_d, 0, none⟩), .pointer (some ⟨b_r, 0, none⟩)] F))), iOb (obDk b_d) p.d F_d F, iOb (obRk b_r) p.r F_r F] := by rw [e2443, e2441, e2444, e2442]; exact hs2445
                exact WL_nil ⟨rfl, _, rfl, d2219, F2220, d2227, F2228, hs2446, v2412, v2413, v2414, v2415, (fun _ => rfl), v2417, v2418, v2419, v2420, v2421, v2422, v2423, v2424, v2425, v2426, v2427, v2428, v2429, v2430, v2431, v2432, v2433, v2434, v2435, v2436, v2437, v2438, v2439, trivial⟩
              ·
                rintro dN vL g2447 w2448 ⟨d2219, F2220, d2227, F2228, hs2449, v2455, v2456, v2457, v2458, v2459, v2460, v2461, v2462, v2463, v2464, v2465, v2466, v2467, v2468, v2469, v2470, v2471, v2472, v2473, v2474, v2475, v2476, v2477, v2478, v2479, v2480, v2481, v2482, _⟩ hD2450 hd2451 hu2452 hg2453 hk2454
                have e2483 : dN 4 = true := hd2451 4 (by decide +kernel)
                have e2484 : dN 12 = false := hu2452 12 (by decide +kernel)
                have e2485 : dN 23 = false := hu2452 23 (by decide +kernel)
                have e2486 : dN 26 = false := hu2452 26 (by decide +kernel)
                have e2487 : dN 29 = false := hu2452 29 (by decide +kernel)
                rw [e2486, e2484, e2487, e2485] at hs2449
                have hs2488 : Sep F w0 (fun b => D b ∧ b < w0.heap.size) w2448 [iNil, iNil, iOwn b1 39 [.int .i64 a.Kind, .int .i64 a.At, .int .i64 a.N, bv a.By, .slice A a.Kept.length cap] [], iData (dSlice dInt) [.slice A a.Kept.length cap] a.Kept, iOwn bx 36 [.pointer (some ⟨b_d, 0, none⟩), .pointer (some ⟨b_r, 0, none⟩)] F, iOb (obDk b_d) p.d F_d F, iOb (obRk b_r) p.r F_r F] := hs2449
                refine WL_at (L := [(102, .pointer (some ⟨bx, 0, none⟩))]) ⟨((hg2453 4 102 e2483 rfl).trans (v2459 e2483)), trivial⟩ ?_
                refine S_load1 Try.isAgg23 rfl (Own.at (hs2488.at 4 rfl) rfl) rfl ?_
                have hs2489 : Sep F w0 (fun b => D b ∧ b < w0.heap.size) w2448 [(bif dN 23 then (iOb (obRk d2227) (p.r.crash a.At a.N a.Kept) F2228 []) else iNil), (bif dN 12 then (iOb (obDk d2219) (p.d.crash a.At a.N a.Kept) F2220 []) else iNil), iOwn b1 39 [.int .i64 a.Kind, .int .i64 a.At, .int .i64 a.N, bv a.By, .slice A a.Kept.length cap] [], iData (dSlice dInt) [.slice A a.Kept.length cap] a.Kept, (bif dN 29 then (iOwn bx 36 [.pointer (some ⟨d2219, 0, none⟩), .pointer (some ⟨d2227, 0, none⟩)] F) else (bif dN 26 then (iOwn bx 36 [.pointer (some ⟨d2219, 0, none⟩), .pointer (some ⟨b_r, 0, none⟩)] F) else (iOwn bx 36 [.pointer (some ⟨b_d, 0, none⟩), .pointer (some ⟨b_r, 0, none⟩)] F))), iOb (obDk b_d) p.d F_d F, iOb (obRk b_r) p.r F_r F] := by rw [e2486, e2484, e2487, e2485]; exact hs2488
                exact WL_nil ⟨rfl, _, rfl, d2219, F2220, d2227, F2228, hs2489, v2455, v2456, v2457, v2458, v2459, (fun _ => rfl), v2461, v2462, v2463, v2464, v2465, v2466, v2467, v2468, v2469, v2470, v2471, v2472, v2473, v2474, v2475, v2476, v2477, v2478, v2479, v2480, v2481, v2482, trivial⟩
              ·
                rintro dN vL g2490 w2491 ⟨d2219, F2220, d2227, F2228, hs2492, v2498, v2499, v2500, v2501, v2502, v2503, v2504, v2505, v2506, v2507, v2508, v2509, v2510, v2511, v2512, v2513, v2514, v2515, v2516, v2517, v2518, v2519, v2520, v2521, v2522, v2523, v2524, v2525, _⟩ hD2493 hd2494 hu2495 hg2496 hk2497
                have e2526 : dN 12 = false := hu2495 12 (by decide +kernel)
                have e2527 : dN 23 = false := hu2495 23 (by decide +kernel)
                have e2528 : dN 26 = false := hu2495 26 (by decide +kernel)
                have e2529 : dN 29 = false := hu2495 29 (by decide +kernel)
                rw [e2528, e2526, e2529, e2527] at hs2492
                have hs2530 : Sep F w0 (fun b => D b ∧ b < w0.heap.size) w2491 [iNil, iNil, iOwn b1 39 [.int .i64 a.Kind, .int .i64 a.At, .int .i64 a.N, bv a.By, .slice A a.Kept.length cap] [], iData (dSlice dInt) [.slice A a.Kept.length cap] a.Kept, iOwn bx 36 [.pointer (some ⟨b_d, 0, none⟩), .pointer (some ⟨b_r, 0, none⟩)] F, iOb (obDk b_d) p.d F_d F, iOb (obRk b_r) p.r F_r F] := hs2492
                refine WL_at (L := [(3, .pointer (some ⟨b1, 0, none⟩))]) ⟨(hk2497 3 (by decide +kernel)), trivial⟩ ?_
                refine S_fieldAddr Try.runUnderlying39 rfl Try.sizeOf3 rfl rfl ?_
                have hs2531 : Sep F w0 (fun b => D b ∧ b < w0.heap.size) w2491 [(bif dN 23 then (iOb (obRk d2227) (p.r.crash a.At a.N a.Kept) F2228 []) else iNil), (bif dN 12 then (iOb (obDk d2219) (p.d.crash a.At a.N a.Kept) F2220 []) else iNil), iOwn b1 39 [.int .i64 a.Kind, .int .i64 a.At, .int .i64 a.N, bv a.By, .slice A a.Kept.length cap] [], iData (dSlice dInt) [.slice A a.Kept.length cap] a.Kept, (bif dN 29 then (iOwn bx 36 [.pointer (some ⟨d2219, 0, none⟩), .pointer (some ⟨d2227, 0, none⟩)] F) else (bif dN 26 then (iOwn bx 36 [.pointer (some ⟨d2219, 0, none⟩), .pointer (some ⟨b_r, 0, none⟩)] F) else (iOwn bx 36 [.pointer (some ⟨b_d, 0, none⟩), .pointer (some ⟨b_r, 0, none⟩)] F))), iOb (obDk b_d) p.d F_d F, iOb (obRk b_r) p.r F_r F] := by rw [e2528, e2526, e2529, e2527]; exact hs2530
                exact WL_nil ⟨rfl, _, rfl, d2219, F2220, d2227, F2228, hs2531, v2498, v2499, v2500, v2501, v2502, v2503, (fun _ => rfl), v2505, v2506, v2507, v2508, v2509, v2510, v2511, v2512, v2513, v2514, v2515, v2516, v2517, v2518, v2519, v2520, v2521, v2522, v2523, v2524, v2525, trivial⟩
              ·
                rintro dN vL g2532 w2533 ⟨d2219, F2220, d2227, F2228, hs2534, v2540, v2541, v2542, v2543, v2544, v2545, v2546, v2547, v2548, v2549, v2550, v2551, v2552, v2553, v2554, v2555, v2556, v2557, v2558, v2559, v2560, v2561, v2562, v2563, v2564, v2565, v2566, v2567, _⟩ hD2535 hd2536 hu2537 hg2538 hk2539
                have e2568 : dN 6 = true := hd2536 6 (by decide +kernel)
                have e2569 : dN 12 = false := hu2537 12 (by decide +kernel)
                have e2570 : dN 23 = false := hu2537 23 (by decide +kernel)
                have e2571 : dN 26 = false := hu2537 26 (by decide +kernel)
                have e2572 : dN 29 = false := hu2537 29 (by decide +kernel)
                rw [e2571, e2569, e2572, e2570] at hs2534
                have hs2573 : Sep F w0 (fun b => D b ∧ b < w0.heap.size) w2533 [iNil, iNil, iOwn b1 39 [.int .i64 a.Kind, .int .i64 a.At, .int .i64 a.N, bv a.By, .slice A a.Kept.length cap] [], iData (dSlice dInt) [.slice A a.Kept.length cap] a.Kept, iOwn bx 36 [.pointer (some ⟨b_d, 0, none⟩), .pointer (some ⟨b_r, 0, none⟩)] F, iOb (obDk b_d) p.d F_d F, iOb (obRk b_r) p.r F_r F] := hs2534
                refine WL_at (L := [(104, .pointer (some ⟨b1, 1, none⟩))]) ⟨((hg2538 6 104 e2568 rfl).trans (v2546 e2568)), trivial⟩ ?_
                refine S_load1 Try.isAgg3 rfl (Own.at (hs2573.at 2 rfl) rfl) rfl ?_
                have hs2574 : Sep F w0 (fun b => D b ∧ b < w0.heap.size) w2533 [(bif dN 23 then (iOb (obRk d2227) (p.r.crash a.At a.N a.Kept) F2228 []) else iNil), (bif dN 12 then (iOb (obDk d2219) (p.d.crash a.At a.N a.Kept) F2220 []) else iNil), iOwn b1 39 [.int .i64 a.Kind, .int .i64 a.At, .int .i64 a.N, bv a.By, .slice A a.Kept.length cap] [], iData (dSlice dInt) [.slice A a.Kept.length cap] a.Kept, (bif dN 29 then (iOwn bx 36 [.pointer (some ⟨d2219, 0, none⟩), .pointer (some ⟨d2227, 0, none⟩)] F) else (bif dN 26 then (iOwn bx 36 [.pointer (some ⟨d2219, 0, none⟩), .pointer (some ⟨b_r, 0, none⟩)] F) else (iOwn bx 36 [.pointer (some ⟨b_d, 0, none⟩), .pointer (some ⟨b_r, 0, none⟩)] F))), iOb (obDk b_d) p.d F_d F, iOb (obRk b_r) p.r F_r F] := by rw [e2571, e2569, e2572, e2570]; exact hs2573
                exact WL_nil ⟨rfl, _, rfl, d2219, F2220, d2227, F2228, hs2574, v2540, v2541, v2542, v2543, v2544, v2545, v2546, (fun _ => rfl), v2548, v2549, v2550, v2551, v2552, v2553, v2554, v2555, v2556, v2557, v2558, v2559, v2560, v2561, v2562, v2563, v2564, v2565, v2566, v2567, trivial⟩
              ·
                rintro dN vL g2575 w2576 ⟨d2219, F2220, d2227, F2228, hs2577, v2583, v2584, v2585, v2586, v2587, v2588, v2589, v2590, v2591, v2592, v2593, v2594, v2595, v2596, v2597, v2598, v2599, v2600, v2601, v2602, v2603, v2604, v2605, v2606, v2607, v2608, v2609, v2610, _⟩ hD2578 hd2579 hu2580 hg2581 hk2582
                have e2611 : dN 12 = false := hu2580 12 (by decide +kernel)
                have e2612 : dN 23 = false := hu2580 23 (by decide +kernel)
                have e2613 : dN 26 = false := hu2580 26 (by decide +kernel)
                have e2614 : dN 29 = false := hu2580 29 (by decide +kernel)
                rw [e2613, e2611, e2614, e2612] at hs2577
                have hs2615 : Sep F w0 (fun b => D b ∧ b < w0.heap.size) w2576 [iNil, iNil, iOwn b1 39 [.int .i64 a.Kind, .int .i64 a.At, .int .i64 a.N, bv a.By, .slice A a.Kept.length cap] [], iData (dSlice dInt) [.slice A a.Kept.length cap] a.Kept, iOwn bx 36 [.pointer (some ⟨b_d, 0, none⟩), .pointer (some ⟨b_r, 0, none⟩)] F, iOb (obDk b_d) p.d F_d F, iOb (obRk b_r) p.r F_r F] := hs2577
                refine WL_at (L := [(3, .pointer (some ⟨b1, 0, none⟩))]) ⟨(hk2582 3 (by decide +kernel)), trivial⟩ ?_
                refine S_fieldAddr Try.runUnderlying39 rfl Try.sizeOf3 rfl rfl ?_
                have hs2616 : Sep F w0 (fun b => D b ∧ b < w0.heap.size) w2576 [(bif dN 23 then (iOb (obRk d2227) (p.r.crash a.At a.N a.Kept) F2228 []) else iNil), (bif dN 12 then (iOb (obDk d2219) (p.d.crash a.At a.N a.Kept) F2220 []) else iNil), iOwn b1 39 [.int .i64 a.Kind, .int .i64 a.At, .int .i64 a.N, bv a.By, .slice A a.Kept.length cap] [], iData (dSlice dInt) [.slice A a.Kept.length cap] a.Kept, (bif dN 29 then (iOwn bx 36 [.pointer (some ⟨d2219, 0, none⟩), .pointer (some ⟨d2227, 0, none⟩)] F) else (bif dN 26 then (iOwn bx 36 [.pointer (some ⟨d2219, 0, none⟩), .pointer (some ⟨b_r, 0, none⟩)] F) else (iOwn bx 36 [.pointer (some ⟨b_d, 0, none⟩), .pointer (some ⟨b_r, 0, none⟩)] F))), iOb (obDk b_d) p.d F_d F, iOb (obRk b_r) p.r F_r F] := by rw [e2613, e2611, e2614, e2612]; exact hs2615
                exact WL_nil ⟨rfl, _, rfl, d2219, F2220, d2227, F2228, hs2616, v2583, v2584, v2585, v2586, v2587, v2588, v2589, v2590, (fun _ => rfl), v2592, v2593, v2594, v2595, v2596, v2597, v2598, v2599, v2600, v2601, v2602, v2603, v2604, v2605, v2606, v2607, v2608, v2609, v2610, trivial⟩
              ·
                rintro dN vL g2617 w2618 ⟨d2219, F2220, d2227, F2228, hs2619, v2625, v2626, v2627, v2628, v2629, v2630, v2631, v2632, v2633, v2634, v2635, v2636, v2637, v2638, v2639, v2640, v2641, v2642, v2643, v2644, v2645, v2646, v2647, v2648, v2649, v2650, v2651, v2652, _⟩ hD2620 hd2621 hu2622 hg2623 hk2624
                have e2653 : dN 8 = true := hd2621 8 (by decide +kernel)
                have e2654 : dN 12 = false := hu2622 12 (by decide +kernel)
                have e2655 : dN 23 = false := hu2622 23 (by decide +kernel)
                have e2656 : dN 26 = false := hu2622 26 (by decide +kernel)
                have e2657 : dN 29 = false := hu2622 29 (by decide +kernel)
                rw [e2656, e2654, e2657, e2655] at hs2619
                have hs2658 : Sep F w0 (fun b => D b ∧ b < w0.heap.size) w2618 [iNil, iNil, iOwn b1 39 [.int .i64 a.Kind, .int .i64 a.At, .int .i64 a.N, bv a.By, .slice A a.Kept.length cap] [], iData (dSlice dInt) [.slice A a.Kept.length cap] a.Kept, iOwn bx 36 [.pointer (some ⟨b_d, 0, none⟩), .pointer (some ⟨b_r, 0, none⟩)] F, iOb (obDk b_d) p.d F_d F, iOb (obRk b_r) p.r F_r F] := hs2619
                refine WL_at (L := [(106, .pointer (some ⟨b1, 2, none⟩))]) ⟨((hg2623 8 106 e2653 rfl).trans (v2633 e2653)), trivial⟩ ?_
                refine S_load1 Try.isAgg3 rfl (Own.at (hs2658.at 2 rfl) rfl) rfl ?_
                have hs2659 : Sep F w0 (fun b => D b ∧ b < w0.heap.size) w2618 [(bif dN 23 then (iOb (obRk d2227) (p.r.crash a.At a.N a.Kept) F2228 []) else iNil), (bif dN 12 then (iOb (obDk d2219) (p.d.crash a.At a.N a.Kept) F2220 []) else iNil), iOwn b1 39 [.int .i64 a.Kind, .int .i64 a.At, .int .i64 a.N, bv a.By, .slice A a.Kept.length cap] [], iData (dSlice dInt) [.slice A a.Kept.length cap] a.Kept, (bif dN 29 then (iOwn bx 36 [.pointer (some ⟨d2219, 0, none⟩), .pointer (some ⟨d2227, 0, none⟩)] F) else (bif dN 26 then (iOwn bx 36 [.pointer (some ⟨d2219, 0, none⟩), .pointer (some ⟨b_r, 0, none⟩)] F) else (iOwn bx 36 [.pointer (some ⟨b_d, 0, none⟩), .pointer (some ⟨b_r, 0, none⟩)] F))), iOb (obDk b_d) p.d F_d F, iOb (obRk b_r) p.r F_r F] := by rw [e2656, e2654, e2657, e2655]; exact hs2658
                exact WL_nil ⟨rfl, _, rfl, d2219, F2220, d2227, F2228, hs2659, v2625, v2626, v2627, v2628, v2629, v2630, v2631, v2632, v2633, (fun _ => rfl), v2635, v2636, v2637, v2638, v2639, v2640, v2641, v2642, v2643, v2644, v2645, v2646, v2647, v2648, v2649, v2650, v2651, v2652, trivial⟩
              ·
                rintro dN vL g2660 w2661 ⟨d2219, F2220, d2227, F2228, hs2662, v2668, v2669, v2670, v2671, v2672, v2673, v2674, v2675, v2676, v2677, v2678, v2679, v2680, v2681, v2682, v2683, v2684, v2685, v2686, v2687, v2688, v2689, v2690, v2691, v2692, v2693, v2694, v2695, _⟩ hD2663 hd2664 hu2665 hg2666 hk2667
                have e2696 : dN 12 = false := hu2665 12 (by decide +kernel)
                have e2697 : dN 23 = false := hu2665 23 (by decide +kernel)
                have e2698 : dN 26 = false := hu2665 26 (by decide +kernel)
                have e2699 : dN 29 = false := hu2665 29 (by decide +kernel)
                rw [e2698, e2696, e2699, e2697] at hs2662
                have hs2700 : Sep F w0 (fun b => D b ∧ b < w0.heap.size) w2661 [iNil, iNil, iOwn b1 39 [.int .i64 a.Kind, .int .i64 a.At, .int .i64 a.N, bv a.By, .slice A a.Kept.length cap] [], iData (dSlice dInt) [.slice A a.Kept.length cap] a.Kept, iOwn bx 36 [.pointer (some ⟨b_d, 0, none⟩), .pointer (some ⟨b_r, 0, none⟩)] F, iOb (obDk b_d) p.d F_d F, iOb (obRk b_r) p.r F_r F] := hs2662
                refine WL_at (L := [(3, .pointer (some ⟨b1, 0, none⟩))]) ⟨(hk2667 3 (by decide +kernel)), trivial⟩ ?_
                refine S_fieldAddr Try.runUnderlying39 rfl Try.sizeOf37 rfl rfl ?_
                have hs2701 : Sep F w0 (fun b => D b ∧ b < w0.heap.size) w2661 [(bif dN 23 then (iOb (obRk d2227) (p.r.crash a.At a.N a.Kept) F2228 []) else iNil), (bif dN 12 then (iOb (obDk d2219) (p.d.crash a.At a.N a.Kept) F2220 []) else iNil), iOwn b1 39 [.int .i64 a.Kind, .int .i64 a.At, .int .i64 a.N, bv a.By, .slice A a.Kept.length cap] [], iData (dSlice dInt) [.slice A a.Kept.length cap] a.Kept, (bif dN 29 then (iOwn bx 36 [.pointer (some ⟨d2219, 0, none⟩), .pointer (some ⟨d2227, 0, none⟩)] F) else (bif dN 26 then (iOwn bx 36 [.pointer (some ⟨d2219, 0, none⟩), .pointer (some ⟨b_r, 0, none⟩)] F) else (iOwn bx 36 [.pointer (some ⟨b_d, 0, none⟩), .pointer (some ⟨b_r, 0, none⟩)] F))), iOb (obDk b_d) p.d F_d F, iOb (obRk b_r) p.r F_r F] := by rw [e2698, e2696, e2699, e2697]; exact hs2700
                exact WL_nil ⟨rfl, _, rfl, d2219, F2220, d2227, F2228, hs2701, v2668, v2669, v2670, v2671, v2672, v2673, v2674, v2675, v2676, v2677, (fun _ => rfl), v2679, v2680, v2681, v2682, v2683, v2684, v2685, v2686, v2687, v2688, v2689, v2690, v2691, v2692, v2693, v2694, v2695, trivial⟩
              ·
                rintro dN vL g2702 w2703 ⟨d2219, F2220, d2227, F2228, hs2704, v2710, v2711, v2712, v2713, v2714, v2715, v2716, v2717, v2718, v2719, v2720, v2721, v2722, v2723, v2724, v2725, v2726, v2727, v2728, v2729, v2730, v2731, v2732, v2733, v2734, v2735, v2736, v2737, _⟩ hD2705 hd2706 hu2707 hg2708 hk2709
                have e2738 : dN 10 = true := hd2706 10 (by decide +kernel)
                have e2739 : dN 12 = false := hu2707 12 (by decide +kernel)
                have e2740 : dN 23 = false := hu2707 23 (by decide +kernel)
                have e2741 : dN 26 = false := hu2707 26 (by decide +kernel)
                have e2742 : dN 29 = false := hu2707 29 (by decide +kernel)
                rw [e2741, e2739, e2742, e2740] at hs2704
                have hs2743 : Sep F w0 (fun b => D b ∧ b < w0.heap.size) w2703 [iNil, iNil, iOwn b1 39 [.int .i64 a.Kind, .int .i64 a.At, .int .i64 a.N, bv a.By, .slice A a.Kept.length cap] [], iData (dSlice dInt) [.slice A a.Kept.length cap] a.Kept, iOwn bx 36 [.pointer (some ⟨b_d, 0, none⟩), .pointer (some ⟨b_r, 0, none⟩)] F, iOb (obDk b_d) p.d F_d F, iOb (obRk b_r) p.r F_r F] := hs2704
                refine WL_at (L := [(108, .pointer (some ⟨b1, 4, none⟩))]) ⟨((hg2708 10 108 e2738 rfl).trans (v2720 e2738)), trivial⟩ ?_
                refine S_load1 Try.isAgg37 rfl (Own.at (hs2743.at 2 rfl) rfl) rfl ?_
                have hs2744 : Sep F w0 (fun b => D b ∧ b < w0.heap.size) w2703 [(bif dN 23 then (iOb (obRk d2227) (p.r.crash a.At a.N a.Kept) F2228 []) else iNil), (bif dN 12 then (iOb (obDk d2219) (p.d.crash a.At a.N a.Kept) F2220 []) else iNil), iOwn b1 39 [.int .i64 a.Kind, .int .i64 a.At, .int .i64 a.N, bv a.By, .slice A a.Kept.length cap] [], iData (dSlice dInt) [.slice A a.Kept.length cap] a.Kept, (bif dN 29 then (iOwn bx 36 [.pointer (some ⟨d2219, 0, none⟩), .pointer (some ⟨d2227, 0, none⟩)] F) else (bif dN 26 then (iOwn bx 36 [.pointer (some ⟨d2219, 0, none⟩), .pointer (some ⟨b_r, 0, none⟩)] F) else (iOwn bx 36 [.pointer (some ⟨b_d, 0, none⟩), .pointer (some ⟨b_r, 0, none⟩)] F))), iOb (obDk b_d) p.d F_d F, iOb (obRk b_r) p.r F_r F] := by rw [e2741, e2739, e2742, e2740]; exact hs2743
                exact WL_nil ⟨rfl, _, rfl, d2219, F2220, d2227, F2228, hs2744, v2710, v2711, v2712, v2713, v2714, v2715, v2716, v2717, v2718, v2719, v2720, (fun _ => rfl), v2722, v2723, v2724, v2725, v2726, v2727, v2728, v2729, v2730, v2731, v2732, v2733, v2734, v2735, v2736, v2737, trivial⟩
              ·
                rintro dN vL g2745 w2746 ⟨d2219, F2220, d2227, F2228, hs2747, v2753, v2754, v2755, v2756, v2757, v2758, v2759, v2760, v2761, v2762, v2763, v2764, v2765, v2766, v2767, v2768, v2769, v2770, v2771, v2772, v2773, v2774, v2775, v2776, v2777, v2778, v2779, v2780, _⟩ hD2748 hd2749 hu2750 hg2751 hk2752
                have e2781 : dN 5 = true := hd2749 5 (by decide +kernel)
                have e2782 : dN 7 = true := hd2749 7 (by decide +kernel)
                have e2783 : dN 9 = true := hd2749 9 (by decide +kernel)
                have e2784 : dN 11 = true := hd2749 11 (by decide +kernel)
                have e2785 : dN 12 = false := hD2748
                have e2786 : dN 23 = false := hu2750 23 (by decide +kernel)
                have e2787 : dN 26 = false := hu2750 26 (by decide +kernel)
                have e2788 : dN 29 = false := hu2750 29 (by decide +kernel)
                rw [e2787, e2785, e2788, e2786] at hs2747
                have hs2789 : Sep F w0 (fun b => D b ∧ b < w0.heap.size) w2746 [iNil, iNil, iOwn b1 39 [.int .i64 a.Kind, .int .i64 a.At, .int .i64 a.N, bv a.By, .slice A a.Kept.length cap] [], iData (dSlice dInt) [.slice A a.Kept.length cap] a.Kept, iOwn bx 36 [.pointer (some ⟨b_d, 0, none⟩), .pointer (some ⟨b_r, 0, none⟩)] F, iOb (obDk b_d) p.d F_d F, iOb (obRk b_r) p.r F_r F] := hs2747
                refine WL_at (L := [(103, .pointer (some ⟨b_d, 0, none⟩)), (105, .int .i64 a.At), (107, .int .i64 a.N), (109, .slice A a.Kept.length cap)]) ⟨((hg2751 5 103 e2781 rfl).trans (v2758 e2781)), ((hg2751 7 105 e2782 rfl).trans (v2760 e2782)), ((hg2751 9 107 e2783 rfl).trans (v2762 e2783)), ((hg2751 11 109 e2784 rfl).trans (v2764 e2784)), trivial⟩ ?_
                have hz2796 := crash_okn  (kept := a.Kept) (hs2789.at 5 rfl) okd (hs2789.at 3 rfl) a.At a.N
                refine S_call2 Try.call24 rfl hz2796 rfl ?_
                rintro d2790 F2791 w2792 ⟨h2793, e2794, hf2795⟩
                have hs2797 : Sep F w0 (fun b => D b ∧ b < w0.heap.size) w2792 [iOb (obDk d2790) (p.d.crash a.At a.N a.Kept) F2791 [], iNil, iNil, iOwn b1 39 [.int .i64 a.Kind, .int .i64 a.At, .int .i64 a.N, bv a.By, .slice A a.Kept.length cap] [], iData (dSlice dInt) [.slice A a.Kept.length cap] a.Kept, iOwn bx 36 [.pointer (some ⟨b_d, 0, none⟩), .pointer (some ⟨b_r, 0, none⟩)] F, iOb (obDk b_d) p.d F_d F, iOb (obRk b_r) p.r F_r F] := hs2789.made (o := obDk d2790) e2794 h2793 hf2795
                have hs2798 : Sep F w0 (fun b => D b ∧ b < w0.heap.size) w2792 [(bif dN 23 then (iOb (obRk d2227) (p.r.crash a.At a.N a.Kept) F2228 []) else iNil), iOb (obDk d2790) (p.d.crash a.At a.N a.Kept) F2791 [], iOwn b1 39 [.int .i64 a.Kind, .int .i64 a.At, .int .i64 a.N, bv a.By, .slice A a.Kept.length cap] [], iData (dSlice dInt) [.slice A a.Kept.length cap] a.Kept, (bif dN 29 then (iOwn bx 36 [.pointer (some ⟨d2790, 0, none⟩), .pointer (some ⟨d2227, 0, none⟩)] F) else (bif dN 26 then (iOwn bx 36 [.pointer (some ⟨d2790, 0, none⟩), .pointer (some ⟨b_r, 0, none⟩)] F) else (iOwn bx 36 [.pointer (some ⟨b_d, 0, none⟩), .pointer (some ⟨b_r, 0, none⟩)] F))), iOb (obDk b_d) p.d F_d F, iOb (obRk b_r) p.r F_r F] := by rw [e2787, e2788, e2786]; exact (hs2797.pick [1, 0, 3, 4, 5, 6, 7] rfl (by decide) rfl)
                exact WL_nil ⟨rfl, _, rfl, d2790, F2791, d2227, F2228, hs2798, v2753, v2754, v2755, v2756, v2757, v2758, v2759, v2760, v2761, v2762, v2763, v2764, (fun _ => rfl), v2766, v2767, v2768, v2769, v2770, v2771, v2772, v2773, v2774, v2775, v2776, v2777, v2778, v2779, v2780, trivial⟩
              ·
                rintro dN vL g2799 w2800 ⟨d2219, F2220, d2227, F2228, hs2801, v2807, v2808, v2809, v2810, v2811, v2812, v2813, v2814, v2815, v2816, v2817, v2818, v2819, v2820, v2821, v2822, v2823, v2824, v2825, v2826, v2827, v2828, v2829, v2830, v2831, v2832, v2833, v2834, _⟩ hD2802 hd2803 hu2804 hg2805 hk2806
                have e2835 : dN 23 = false := hu2804 23 (by decide +kernel)
                have e2836 : dN 26 = false := hu2804 26 (by decide +kernel)
                have e2837 : dN 29 = false := hu2804 29 (by decide +kernel)
                rw [e2836, e2837, e2835] at hs2801
                have hs2838 : Sep F w0 (fun b => D b ∧ b < w0.heap.size) w2800 [iNil, (bif dN 12 then (iOb (obDk d2219) (p.d.crash a.At a.N a.Kept) F2220 []) else iNil), iOwn b1 39 [.int .i64 a.Kind, .int .i64 a.At, .int .i64 a.N, bv a.By, .slice A a.Kept.length cap] [], iData (dSlice dInt) [.slice A a.Kept.length cap] a.Kept, iOwn bx 36 [.pointer (some ⟨b_d, 0, none⟩), .pointer (some ⟨b_r, 0, none⟩)] F, iOb (obDk b_d) p.d F_d F, iOb (obRk b_r) p.r F_r F] := hs2801
                refine WL_at (L := [(0, .pointer (some ⟨bx, 0, none⟩))]) ⟨(hk2806 0 (by decide +kernel)), trivial⟩ ?_
                refine S_move rfl ?_
                have hs2839 : Sep F w0 (fun b => D b ∧ b < w0.heap.size) w2800 [(bif dN 23 then (iOb (obRk d2227) (p.r.crash a.At a.N a.Kept) F2228 []) else iNil), (bif dN 12 then (iOb (obDk d2219) (p.d.crash a.At a.N a.Kept) F2220 []) else iNil), iOwn b1 39 [.int .i64 a.Kind, .int .i64 a.At, .int .i64 a.N, bv a.By, .slice A a.Kept.length cap] [], iData (dSlice dInt) [.slice A a.Kept.length cap] a.Kept, (bif dN 29 then (iOwn bx 36 [.pointer (some ⟨d2219, 0, none⟩), .pointer (some ⟨d2227, 0, none⟩)] F) else (bif dN 26 then (iOwn bx 36 [.pointer (some ⟨d2219, 0, none⟩), .pointer (some ⟨b_r, 0, none⟩)] F) else (iOwn bx 36 [.pointer (some ⟨b_d, 0, none⟩), .pointer (some ⟨b_r, 0, none⟩)] F))), iOb (obDk b_d) p.d F_d F, iOb (obRk b_r) p.r F_r F] := by rw [e2836, e2837, e2835]; exact hs2838
                exact WL_nil ⟨rfl, _, rfl, d2219, F2220, d2227, F2228, hs2839, v2807, v2808, v2809, v2810, v2811, v2812, v2813, v2814, v2815, v2816, v2817, v2818, v2819, (fun _ => rfl), v2821, v2822, v2823, v2824, v2825, v2826, v2827, v2828, v2829, v2830, v2831, v2832, v2833, v2834, trivial⟩
              ·
                rintro dN vL g2840 w2841 ⟨d2219, F2220, d2227, F2228, hs2842, v2848, v2849, v2850, v2851, v2852, v2853, v2854, v2855, v2856, v2857, v2858, v2859, v2860, v2861, v2862, v2863, v2864, v2865, v2866, v2867, v2868, v2869, v2870, v2871, v2872, v2873, v2874, v2875, _⟩ hD2843 hd2844 hu2845 hg2846 hk2847
                have e2876 : dN 13 = true := hd2844 13 (by decide +kernel)
                have e2877 : dN 23 = false := hu2845 23 (by decide +kernel)
                have e2878 : dN 26 = false := hu2845 26 (by decide +kernel)
                have e2879 : dN 29 = false := hu2845 29 (by decide +kernel)
                rw [e2878, e2879, e2877] at hs2842
                have hs2880 : Sep F w0 (fun b => D b ∧ b < w0.heap.size) w2841 [iNil, (bif dN 12 then (iOb (obDk d2219) (p.d.crash a.At a.N a.Kept) F2220 []) else iNil), iOwn b1 39 [.int .i64 a.Kind, .int .i64 a.At, .int .i64 a.N, bv a.By, .slice A a.Kept.length cap] [], iData (dSlice dInt) [.slice A a.Kept.length cap] a.Kept, iOwn bx 36 [.pointer (some ⟨b_d, 0, none⟩), .pointer (some ⟨b_r, 0, none⟩)] F, iOb (obDk b_d) p.d F_d F, iOb (obRk b_r) p.r F_r F] := hs2842
                refine WL_at (L := [(111, .pointer (some ⟨bx, 0, none⟩))]) ⟨((hg2846 13 111 e2876 rfl).trans (v2861 e2876)), trivial⟩ ?_
                refine S_nilCheck rfl rfl ?_
                have hs2881 : Sep F w0 (fun b => D b ∧ b < w0.heap.size) w2841 [(bif dN 23 then (iOb (obRk d2227) (p.r.crash a.At a.N a.Kept) F2228 []) else iNil), (bif dN 12 then (iOb (obDk d2219) (p.d.crash a.At a.N a.Kept) F2220 []) else iNil), iOwn b1 39 [.int .i64 a.Kind, .int .i64 a.At, .int .i64 a.N, bv a.By, .slice A a.Kept.length cap] [], iData (dSlice dInt) [.slice A a.Kept.length cap] a.Kept, (bif dN 29 then (iOwn bx 36 [.pointer (some ⟨d2219, 0, none⟩), .pointer (some ⟨d2227, 0, none⟩)] F) else (bif dN 26 then (iOwn bx 36 [.pointer (some ⟨d2219, 0, none⟩), .pointer (some ⟨b_r, 0, none⟩)] F) else (iOwn bx 36 [.pointer (some ⟨b_d, 0, none⟩), .pointer (some ⟨b_r, 0, none⟩)] F))), iOb (obDk b_d) p.d F_d F, iOb (obRk b_r) p.r F_r F] := by rw [e2878, e2879, e2877]; exact hs2880
                exact WL_nil ⟨rfl, _, rfl, d2219, F2220, d2227, F2228, hs2881, v2848, v2849, v2850, v2851, v2852, v2853, v2854, v2855, v2856, v2857, v2858, v2859, v2860, v2861, (fun _ => rfl), v2863, v2864, v2865, v2866, v2867, v2868, v2869, v2870, v2871, v2872, v2873, v2874, v2875, trivial⟩
              ·
                rintro dN vL g2882 w2883 ⟨d2219, F2220, d2227, F2228, hs2884, v2890, v2891, v2892, v2893, v2894, v2895, v2896, v2897, v2898, v2899, v2900, v2901, v2902, v2903, v2904, v2905, v2906, v2907, v2908, v2909, v2910, v2911, v2912, v2913, v2914, v2915, v2916, v2917, _⟩ hD2885 hd2886 hu2887 hg2888 hk2889
                have e2918 : dN 14 = true := hd2886 14 (by decide +kernel)
                have e2919 : dN 23 = false := hu2887 23 (by decide +kernel)
                have e2920 : dN 26 = false := hu2887 26 (by decide +kernel)
                have e2921 : dN 29 = false := hu2887 29 (by decide +kernel)
                rw [e2920, e2921, e2919] at hs2884
                have hs2922 : Sep F w0 (fun b => D b ∧ b < w0.heap.size) w2883 [iNil, (bif dN 12 then (iOb (obDk d2219) (p.d.crash a.At a.N a.Kept) F2220 []) else iNil), iOwn b1 39 [.int .i64 a.Kind, .int .i64 a.At, .int .i64 a.N, bv a.By, .slice A a.Kept.length cap] [], iData (dSlice dInt) [.slice A a.Kept.length cap] a.Kept, iOwn bx 36 [.pointer (some ⟨b_d, 0, none⟩), .pointer (some ⟨b_r, 0, none⟩)] F, iOb (obDk b_d) p.d F_d F, iOb (obRk b_r) p.r F_r F] := hs2884
                refine WL_at (L := [(112, .pointer (some ⟨bx, 0, none⟩))]) ⟨((hg2888 14 112 e2918 rfl).trans (v2904 e2918)), trivial⟩ ?_
                refine S_fieldAddr Try.runUnderlying36 rfl Try.sizeOf28 rfl rfl ?_
                have hs2923 : Sep F w0 (fun b => D b ∧ b < w0.heap.size) w2883 [(bif dN 23 then (iOb (obRk d2227) (p.r.crash a.At a.N a.Kept) F2228 []) else iNil), (bif dN 12 then (iOb (obDk d2219) (p.d.crash a.At a.N a.Kept) F2220 []) else iNil), iOwn b1 39 [.int .i64 a.Kind, .int .i64 a.At, .int .i64 a.N, bv a.By, .slice A a.Kept.length cap] [], iData (dSlice dInt) [.slice A a.Kept.length cap] a.Kept, (bif dN 29 then (iOwn bx 36 [.pointer (some ⟨d2219, 0, none⟩), .pointer (some ⟨d2227, 0, none⟩)] F) else (bif dN 26 then (iOwn bx 36 [.pointer (some ⟨d2219, 0, none⟩), .pointer (some ⟨b_r, 0, none⟩)] F) else (iOwn bx 36 [.pointer (some ⟨b_d, 0, none⟩), .pointer (some ⟨b_r, 0, none⟩)] F))), iOb (obDk b_d) p.d F_d F, iOb (obRk b_r) p.r F_r F] := by rw [e2920, e2921, e2919]; exact hs2922
                exact WL_nil ⟨rfl, _, rfl, d2219, F2220, d2227, F2228, hs2923, v2890, v2891, v2892, v2893, v2894, v2895, v2896, v2897, v2898, v2899, v2900, v2901, v2902, v2903, v2904, (fun _ => rfl), v2906, v2907, v2908, v2909, v2910, v2911, v2912, v2913, v2914, v2915, v2916, v2917, trivial⟩
              ·
                rintro dN vL g2924 w2925 ⟨d2219, F2220, d2227, F2228, hs2926, v2932, v2933, v2934, v2935, v2936, v2937, v2938, v2939, v2940, v2941, v2942, v2943, v2944, v2945, v2946, v2947, v2948, v2949, v2950, v2951, v2952, v2953, v2954, v2955, v2956, v2957, v2958, v2959, _⟩ hD2927 hd2928 hu2929 hg2930 hk2931
                have e2960 : dN 15 = true := hd2928 15 (by decide +kernel)
                have e2961 : dN 23 = false := hu2929 23 (by decide +kernel)
                have e2962 : dN 26 = false := hu2929 26 (by decide +kernel)
                have e2963 : dN 29 = false := hu2929 29 (by decide +kernel)
                rw [e2962, e2963, e2961] at hs2926
                have hs2964 : Sep F w0 (fun b => D b ∧ b < w0.heap.size) w2925 [iNil, (bif dN 12 then (iOb (obDk d2219) (p.d.crash a.At a.N a.Kept) F2220 []) else iNil), iOwn b1 39 [.int .i64 a.Kind, .int .i64 a.At, .int .i64 a.N, bv a.By, .slice A a.Kept.length cap] [], iData (dSlice dInt) [.slice A a.Kept.length cap] a.Kept, iOwn bx 36 [.pointer (some ⟨b_d, 0, none⟩), .pointer (some ⟨b_r, 0, none⟩)] F, iOb (obDk b_d) p.d F_d F, iOb (obRk b_r) p.r F_r F] := hs2926
                refine WL_at (L := [(113, .pointer (some ⟨bx, 1, none⟩))]) ⟨((hg2930 15 113 e2960 rfl).trans (v2947 e2960)), trivial⟩ ?_
                refine S_load1 Try.isAgg28 rfl (Own.at (hs2964.at 4 rfl) rfl) rfl ?_
                have hs2965 : Sep F w0 (fun b => D b ∧ b < w0.heap.size) w2925 [(bif dN 23 then (iOb (obRk d2227) (p.r.crash a.At a.N a.Kept) F2228 []) else iNil), (bif dN 12 then (iOb (obDk d2219) (p.d.crash a.At a.N a.Kept) F2220 []) else iNil), iOwn b1 39 [.int .i64 a.Kind, .int .i64 a.At, .int .i64 a.N, bv a.By, .slice A a.Kept.length cap] [], iData (dSlice dInt) [.slice A a.Kept.length cap] a.Kept, (bif dN 29 then (iOwn bx 36 [.pointer (some ⟨d2219, 0, none⟩), .pointer (some ⟨d2227, 0, none⟩)] F) else (bif dN 26 then (iOwn bx 36 [.pointer (some ⟨d2219, 0, none⟩), .pointer (some ⟨b_r, 0, none⟩)] F) else (iOwn bx 36 [.pointer (some ⟨b_d, 0, none⟩), .pointer (some ⟨b_r, 0, none⟩)] F))), iOb (obDk b_d) p.d F_d F, iOb (obRk b_r) p.r F_r F] := by rw [e2962, e2963, e2961]; exact hs2964
                exact WL_nil ⟨rfl, _, rfl, d2219, F2220, d2227, F2228, hs2965, v2932, v2933, v2934, v2935, v2936, v2937, v2938, v2939, v2940, v2941, v2942, v2943, v2944, v2945, v2946, v2947, (fun _ => rfl), v2949, v2950, v2951, v2952, v2953, v2954, v2955, v2956, v2957, v2958, v2959, trivial⟩
              ·
                rintro dN vL g2966 w2967 ⟨d2219, F2220, d2227, F2228, hs2968, v2974, v2975, v2976, v2977, v2978, v2979, v2980, v2981, v2982, v2983, v2984, v2985, v2986, v2987, v2988, v2989, v2990, v2991, v2992, v2993, v2994, v2995, v2996, v2997, v2998, v2999, v3000, v3001, _⟩ hD2969 hd2970 hu2971 hg2972 hk2973
                have e3002 : dN 23 = false := hu2971 23 (by decide +kernel)
                have e3003 : dN 26 = false := hu2971 26 (by decide +kernel)
                have e3004 : dN 29 = false := hu2971 29 (by decide +kernel)
                rw [e3003, e3004, e3002] at hs2968
                have hs3005 : Sep F w0 (fun b => D b ∧ b < w0.heap.size) w2967 [iNil, (bif dN 12 then (iOb (obDk d2219) (p.d.crash a.At a.N a.Kept) F2220 []) else iNil), iOwn b1 39 [.int .i64 a.Kind, .int .i64 a.At, .int .i64 a.N, bv a.By, .slice A a.Kept.length cap] [], iData (dSlice dInt) [.slice A a.Kept.length cap] a.Kept, iOwn bx 36 [.pointer (some ⟨b_d, 0, none⟩), .pointer (some ⟨b_r, 0, none⟩)] F, iOb (obDk b_d) p.d F_d F, iOb (obRk b_r) p.r F_r F] := hs2968
                refine WL_at (L := [(3, .pointer (some ⟨b1, 0, none⟩))]) ⟨(hk2973 3 (by decide +kernel)), trivial⟩ ?_
                refine S_fieldAddr Try.runUnderlying39 rfl Try.sizeOf3 rfl rfl ?_
                have hs3006 : Sep F w0 (fun b => D b ∧ b < w0.heap.size) w2967 [(bif dN 23 then (iOb (obRk d2227) (p.r.crash a.At a.N a.Kept) F2228 []) else iNil), (bif dN 12 then (iOb (obDk d2219) (p.d.crash a.At a.N a.Kept) F2220 []) else iNil), iOwn b1 39 [.int .i64 a.Kind, .int .i64 a.At, .int .i64 a.N, bv a.By, .slice A a.Kept.length cap] [], iData (dSlice dInt) [.slice A a.Kept.length cap] a.Kept, (bif dN 29 then (iOwn bx 36 [.pointer (some ⟨d2219, 0, none⟩), .pointer (some ⟨d2227, 0, none⟩)] F) else (bif dN 26 then (iOwn bx 36 [.pointer (some ⟨d2219, 0, none⟩), .pointer (some ⟨b_r, 0, none⟩)] F) else (iOwn bx 36 [.pointer (some ⟨b_d, 0, none⟩), .pointer (some ⟨b_r, 0, none⟩)] F))), iOb (obDk b_d) p.d F_d F, iOb (obRk b_r) p.r F_r F] := by rw [e3003, e3004, e3002]; exact hs3005
                exact WL_nil ⟨rfl, _, rfl, d2219, F2220, d2227, F2228, hs3006, v2974, v2975, v2976, v2977, v2978, v2979, v2980, v2981, v2982, v2983, v2984, v2985, v2986, v2987, v2988, v2989, v2990, (fun _ => rfl), v2992, v2993, v2994, v2995, v2996, v2997, v2998, v2999, v3000, v3001, trivial⟩
              ·
                rintro dN vL g3007 w3008 ⟨d2219, F2220, d2227, F2228, hs3009, v3015, v3016, v3017, v3018, v3019, v3020, v3021, v3022, v3023, v3024, v3025, v3026, v3027, v3028, v3029, v3030, v3031, v3032, v3033, v3034, v3035, v3036, v3037, v3038, v3039, v3040, v3041, v3042, _⟩ hD3010 hd3011 hu3012 hg3013 hk3014
                have e3043 : dN 17 = true := hd3011 17 (by decide +kernel)
                have e3044 : dN 23 = false := hu3012 23 (by decide +kernel)
                have e3045 : dN 26 = false := hu3012 26 (by decide +kernel)
                have e3046 : dN 29 = false := hu3012 29 (by decide +kernel)
                rw [e3045, e3046, e3044] at hs3009
                have hs3047 : Sep F w0 (fun b => D b ∧ b < w0.heap.size) w3008 [iNil, (bif dN 12 then (iOb (obDk d2219) (p.d.crash a.At a.N a.Kept) F2220 []) else iNil), iOwn b1 39 [.int .i64 a.Kind, .int .i64 a.At, .int .i64 a.N, bv a.By, .slice A a.Kept.length cap] [], iData (dSlice dInt) [.slice A a.Kept.length cap] a.Kept, iOwn bx 36 [.pointer (some ⟨b_d, 0, none⟩), .pointer (some ⟨b_r, 0, none⟩)] F, iOb (obDk b_d) p.d F_d F, iOb (obRk b_r) p.r F_r F] := hs3009
                refine WL_at (L := [(115, .pointer (some ⟨b1, 1, none⟩))]) ⟨((hg3013 17 115 e3043 rfl).trans (v3032 e3043)), trivial⟩ ?_
                refine S_load1 Try.isAgg3 rfl (Own.at (hs3047.at 2 rfl) rfl) rfl ?_
                have hs3048 : Sep F w0 (fun b => D b ∧ b < w0.heap.size) w3008 [(bif dN 23 then (iOb (obRk d2227) (p.r.crash a.At a.N a.Kept) F2228 []) else iNil), (bif dN 12 then (iOb (obDk d2219) (p.d.crash a.At a.N a.Kept) F2220 []) else iNil), iOwn b1 39 [.int .i64 a.Kind, .int .i64 a.At, .int .i64 a.N, bv a.By, .slice A a.Kept.length cap] [], iData (dSlice dInt) [.slice A a.Kept.length cap] a.Kept, (bif dN 29 then (iOwn bx 36 [.pointer (some ⟨d2219, 0, none⟩), .pointer (some ⟨d2227, 0, none⟩)] F) else (bif dN 26 then (iOwn bx 36 [.pointer (some ⟨d2219, 0, none⟩), .pointer (some ⟨b_r, 0, none⟩)] F) else (iOwn bx 36 [.pointer (some ⟨b_d, 0, none⟩), .pointer (some ⟨b_r, 0, none⟩)] F))), iOb (obDk b_d) p.d F_d F, iOb (obRk b_r) p.r F_r F] := by rw [e3045, e3046, e3044]; exact hs3047
                exact WL_nil ⟨rfl, _, rfl, d2219, F2220, d2227, F2228, hs3048, v3015, v3016, v3017, v3018, v3019, v3020, v3021, v3022, v3023, v3024, v3025, v3026, v3027, v3028, v3029, v3030, v3031, v3032, (fun _ => rfl), v3034, v3035, v3036, v3037, v3038, v3039, v3040, v3041, v3042, trivial⟩
              ·
                rintro dN vL g3049 w3050 ⟨d2219, F2220, d2227, F2228, hs3051, v3057, v3058, v3059, v3060, v3061, v3062, v3063, v3064, v3065, v3066, v3067, v3068, v3069, v3070, v3071, v3072, v3073, v3074, v3075, v3076, v3077, v3078, v3079, v3080, v3081, v3082, v3083, v3084, _⟩ hD3052 hd3053 hu3054 hg3055 hk3056
                have e3085 : dN 23 = false := hu3054 23 (by decide +kernel)
                have e3086 : dN 26 = false := hu3054 26 (by decide +kernel)
                have e3087 : dN 29 = false := hu3054 29 (by decide +kernel)
                rw [e3086, e3087, e3085] at hs3051
                have hs3088 : Sep F w0 (fun b => D b ∧ b < w0.heap.size) w3050 [iNil, (bif dN 12 then (iOb (obDk d2219) (p.d.crash a.At a.N a.Kept) F2220 []) else iNil), iOwn b1 39 [.int .i64 a.Kind, .int .i64 a.At, .int .i64 a.N, bv a.By, .slice A a.Kept.length cap] [], iData (dSlice dInt) [.slice A a.Kept.length cap] a.Kept, iOwn bx 36 [.pointer (some ⟨b_d, 0, none⟩), .pointer (some ⟨b_r, 0, none⟩)] F, iOb (obDk b_d) p.d F_d F, iOb (obRk b_r) p.r F_r F] := hs3051
                refine WL_at (L := [(3, .pointer (some ⟨b1, 0, none⟩))]) ⟨(hk3056 3 (by decide +kernel)), trivial⟩ ?_
                refine S_fieldAddr Try.runUnderlying39 rfl Try.sizeOf3 rfl rfl ?_
                have hs3089 : Sep F w0 (fun b => D b ∧ b < w0.heap.size) w3050 [(bif dN 23 then (iOb (obRk d2227) (p.r.crash a.At a.N a.Kept) F2228 []) else iNil), (bif dN 12 then (iOb (obDk d2219) (p.d.crash a.At a.N a.Kept) F2220 []) else iNil), iOwn b1 39 [.int .i64 a.Kind, .int .i64 a.At, .int .i64 a.N, bv a.By, .slice A a.Kept.length cap] [], iData (dSlice dInt) [.slice A a.Kept.length cap] a.Kept, (bif dN 29 then (iOwn bx 36 [.pointer (some ⟨d2219, 0, none⟩), .pointer (some ⟨d2227, 0, none⟩)] F) else (bif dN 26 then (iOwn bx 36 [.pointer (some ⟨d2219, 0, none⟩), .pointer (some ⟨b_r, 0, none⟩)] F) else (iOwn bx 36 [.pointer (some ⟨b_d, 0, none⟩), .pointer (some ⟨b_r, 0, none⟩)] F))), iOb (obDk b_d) p.d F_d F, iOb (obRk b_r) p.r F_r F] := by rw [e3086, e3087, e3085]; exact hs3088
                exact WL_nil ⟨rfl, _, rfl, d2219, F2220, d2227, F2228, hs3089, v3057, v3058, v3059, v3060, v3061, v3062, v3063, v3064, v3065, v3066, v3067, v3068, v3069, v3070, v3071, v3072, v3073, v3074, v3075, (fun _ => rfl), v3077, v3078, v3079, v3080, v3081, v3082, v3083, v3084, trivial⟩
              ·
                rintro dN vL g3090 w3091 ⟨d2219, F2220, d2227, F2228, hs3092, v3098, v3099, v3100, v3101, v3102, v3103, v3104, v3105, v3106, v3107, v3108, v3109, v3110, v3111, v3112, v3113, v3114, v3115, v3116, v3117, v3118, v3119, v3120, v3121, v3122, v3123, v3124, v3125, _⟩ hD3093 hd3094 hu3095 hg3096 hk3097
                have e3126 : dN 19 = true := hd3094 19 (by decide +kernel)
                have e3127 : dN 23 = false := hu3095 23 (by decide +kernel)
                have e3128 : dN 26 = false := hu3095 26 (by decide +kernel)
                have e3129 : dN 29 = false := hu3095 29 (by decide +kernel)
                rw [e3128, e3129, e3127] at hs3092
                have hs3130 : Sep F w0 (fun b => D b ∧ b < w0.heap.size) w3091 [iNil, (bif dN 12 then (iOb (obDk d2219) (p.d.crash a.At a.N a.Kept) F2220 []) else iNil), iOwn b1 39 [.int .i64 a.Kind, .int .i64 a.At, .int .i64 a.N, bv a.By, .slice A a.Kept.length cap] [], iData (dSlice dInt) [.slice A a.Kept.length cap] a.Kept, iOwn bx 36 [.pointer (some ⟨b_d, 0, none⟩), .pointer (some ⟨b_r, 0, none⟩)] F, iOb (obDk b_d) p.d F_d F, iOb (obRk b_r) p.r F_r F] := hs3092
                refine WL_at (L := [(117, .pointer (some ⟨b1, 2, none⟩))]) ⟨((hg3096 19 117 e3126 rfl).trans (v3117 e3126)), trivial⟩ ?_
                refine S_load1 Try.isAgg3 rfl (Own.at (hs3130.at 2 rfl) rfl) rfl ?_
                have hs3131 : Sep F w0 (fun b => D b ∧ b < w0.heap.size) w3091 [(bif dN 23 then (iOb (obRk d2227) (p.r.crash a.At a.N a.Kept) F2228 []) else iNil), (bif dN 12 then (iOb (obDk d2219) (p.d.crash a.At a.N a.Kept) F2220 []) else iNil), iOwn b1 39 [.int .i64 a.Kind, .int .i64 a.At, .int .i64 a.N, bv a.By, .slice A a.Kept.length cap] [], iData (dSlice dInt) [.slice A a.Kept.length cap] a.Kept, (bif dN 29 then (iOwn bx 36 [.pointer (some ⟨d2219, 0, none⟩), .pointer (some ⟨d2227, 0, none⟩)] F) else (bif dN 26 then (iOwn bx 36 [.pointer (some ⟨d2219, 0, none⟩), .pointer (some ⟨b_r, 0, none⟩)] F) else (iOwn bx 36 [.pointer (some ⟨b_d, 0, none⟩), .pointer (some ⟨b_r, 0, none⟩)] F))), iOb (obDk b_d) p.d F_d F, iOb (obRk b_r) p.r F_r F] := by rw [e3128, e3129, e3127]; exact hs3130
                exact WL_nil ⟨rfl, _, rfl, d2219, F2220, d2227, F2228, hs3131, v3098, v3099, v3100, v3101, v3102, v3103, v3104, v3105, v3106, v3107, v3108, v3109, v3110, v3111, v3112, v3113, v3114, v3115, v3116, v3117, (fun _ => rfl), v3119, v3120, v3121, v3122, v3123, v3124, v3125, trivial⟩
              ·
                rintro dN vL g3132 w3133 ⟨d2219, F2220, d2227, F2228, hs3134, v3140, v3141, v3142, v3143, v3144, v3145, v3146, v3147, v3148, v3149, v3150, v3151, v3152, v3153, v3154, v3155, v3156, v3157, v3158, v3159, v3160, v3161, v3162, v3163, v3164, v3165, v3166, v3167, _⟩ hD3135 hd3136 hu3137 hg3138 hk3139
                have e3168 : dN 23 = false := hu3137 23 (by decide +kernel)
                have e3169 : dN 26 = false := hu3137 26 (by decide +kernel)
                have e3170 : dN 29 = false := hu3137 29 (by decide +kernel)
                rw [e3169, e3170, e3168] at hs3134
                have hs3171 : Sep F w0 (fun b => D b ∧ b < w0.heap.size) w3133 [iNil, (bif dN 12 then (iOb (obDk d2219) (p.d.crash a.At a.N a.Kept) F2220 []) else iNil), iOwn b1 39 [.int .i64 a.Kind, .int .i64 a.At, .int .i64 a.N, bv a.By, .slice A a.Kept.length cap] [], iData (dSlice dInt) [.slice A a.Kept.length cap] a.Kept, iOwn bx 36 [.pointer (some ⟨b_d, 0, none⟩), .pointer (some ⟨b_r, 0, none⟩)] F, iOb (obDk b_d) p.d F_d F, iOb (obRk b_r) p.r F_r F] := hs3134
                refine WL_at (L := [(3, .pointer (some ⟨b1, 0, none⟩))]) ⟨(hk3139 3 (by decide +kernel)), trivial⟩ ?_
                refine S_fieldAddr Try.runUnderlying39 rfl Try.sizeOf37 rfl rfl ?_
                have hs3172 : Sep F w0 (fun b => D b ∧ b < w0.heap.size) w3133 [(bif dN 23 then (iOb (obRk d2227) (p.r.crash a.At a.N a.Kept) F2228 []) else iNil), (bif dN 12 then (iOb (obDk d2219) (p.d.crash a.At a.N a.Kept) F2220 []) else iNil), iOwn b1 39 [.int .i64 a.Kind, .int .i64 a.At, .int .i64 a.N, bv a.By, .slice A a.Kept.length cap] [], iData (dSlice dInt) [.slice A a.Kept.length cap] a.Kept, (bif dN 29 then (iOwn bx 36 [.pointer (some ⟨d2219, 0, none⟩), .pointer (some ⟨d2227, 0, none⟩)] F) else (bif dN 26 then (iOwn bx 36 [.pointer (some ⟨d2219, 0, none⟩), .pointer (some ⟨b_r, 0, none⟩)] F) else (iOwn bx 36 [.pointer (some ⟨b_d, 0, none⟩), .pointer (some ⟨b_r, 0, none⟩)] F))), iOb (obDk b_d) p.d F_d F, iOb (obRk b_r) p.r F_r F] := by rw [e3169, e3170, e3168]; exact hs3171
                exact WL_nil ⟨rfl, _, rfl, d2219, F2220, d2227, F2228, hs3172, v3140, v3141, v3142, v3143, v3144, v3145, v3146, v3147, v3148, v3149, v3150, v3151, v3152, v3153, v3154, v3155, v3156, v3157, v3158, v3159, v3160, (fun _ => rfl), v3162, v3163, v3164, v3165, v3166, v3167, trivial⟩
              ·
                rintro dN vL g3173 w3174 ⟨d2219, F2220, d2227, F2228, hs3175, v3181, v3182, v3183, v3184, v3185, v3186, v3187, v3188, v3189, v3190, v3191, v3192, v3193, v3194, v3195, v3196, v3197, v3198, v3199, v3200, v3201, v3202, v3203, v3204, v3205, v3206, v3207, v3208, _⟩ hD3176 hd3177 hu3178 hg3179 hk3180
                have e3209 : dN 21 = true := hd3177 21 (by decide +kernel)
                have e3210 : dN 23 = false := hu3178 23 (by decide +kernel)
                have e3211 : dN 26 = false := hu3178 26 (by decide +kernel)
                have e3212 : dN 29 = false := hu3178 29 (by decide +kernel)
                rw [e3211, e3212, e3210] at hs3175
                have hs3213 : Sep F w0 (fun b => D b ∧ b < w0.heap.size) w3174 [iNil, (bif dN 12 then (iOb (obDk d2219) (p.d.crash a.At a.N a.Kept) F2220 []) else iNil), iOwn b1 39 [.int .i64 a.Kind, .int .i64 a.At, .int .i64 a.N, bv a.By, .slice A a.Kept.length cap] [], iData (dSlice dInt) [.slice A a.Kept.length cap] a.Kept, iOwn bx 36 [.pointer (some ⟨b_d, 0, none⟩), .pointer (some ⟨b_r, 0, none⟩)] F, iOb (obDk b_d) p.d F_d F, iOb (obRk b_r) p.r F_r F] := hs3175
                refine WL_at (L := [(119, .pointer (some ⟨b1, 4, none⟩))]) ⟨((hg3179 21 119 e3209 rfl).trans (v3202 e3209)), trivial⟩ ?_
                refine S_load1 Try.isAgg37 rfl (Own.at (hs3213.at 2 rfl) rfl) rfl ?_
                have hs3214 : Sep F w0 (fun b => D b ∧ b < w0.heap.size) w3174 [(bif dN 23 then (iOb (obRk d2227) (p.r.crash a.At a.N a.Kept) F2228 []) else iNil), (bif dN 12 then (iOb (obDk d2219) (p.d.crash a.At a.N a.Kept) F2220 []) else iNil), iOwn b1 39 [.int .i64 a.Kind, .int .i64 a.At, .int .i64 a.N, bv a.By, .slice A a.Kept.length cap] [], iData (dSlice dInt) [.slice A a.Kept.length cap] a.Kept, (bif dN 29 then (iOwn bx 36 [.pointer (some ⟨d2219, 0, none⟩), .pointer (some ⟨d2227, 0, none⟩)] F) else (bif dN 26 then (iOwn bx 36 [.pointer (some ⟨d2219, 0, none⟩), .pointer (some ⟨b_r, 0, none⟩)] F) else (iOwn bx 36 [.pointer (some ⟨b_d, 0, none⟩), .pointer (some ⟨b_r, 0, none⟩)] F))), iOb (obDk b_d) p.d F_d F, iOb (obRk b_r) p.r F_r F] := by rw [e3211, e3212, e3210]; exact hs3213
                exact WL_nil ⟨rfl, _, rfl, d2219, F2220, d2227, F2228, hs3214, v3181, v3182, v3183, v3184, v3185, v3186, v3187, v3188, v3189, v3190, v3191, v3192, v3193, v3194, v3195, v3196, v3197, v3198, v3199, v3200, v3201, v3202, (fun _ => rfl), v3204, v3205, v3206, v3207, v3208, trivial⟩
              ·
                rintro dN vL g3215 w3216 ⟨d2219, F2220, d2227, F2228, hs3217, v3223, v3224, v3225, v3226, v3227, v3228, v3229, v3230, v3231, v3232, v3233, v3234, v3235, v3236, v3237, v3238, v3239, v3240, v3241, v3242, v3243, v3244, v3245, v3246, v3247, v3248, v3249, v3250, _⟩ hD3218 hd3219 hu3220 hg3221 hk3222
                have e3251 : dN 12 = true := hd3219 12 (by decide +kernel)
                have e3252 : dN 16 = true := hd3219 16 (by decide +kernel)
                have e3253 : dN 18 = true := hd3219 18 (by decide +kernel)
                have e3254 : dN 20 = true := hd3219 20 (by decide +kernel)
                have e3255 : dN 22 = true := hd3219 22 (by decide +kernel)
                have e3256 : dN 23 = false := hD3218
                have e3257 : dN 26 = false := hu3220 26 (by decide +kernel)
                have e3258 : dN 29 = false := hu3220 29 (by decide +kernel)
                rw [e3257, e3251, e3258, e3256] at hs3217
                have hs3259 : Sep F w0 (fun b => D b ∧ b < w0.heap.size) w3216 [iNil, iOb (obDk d2219) (p.d.crash a.At a.N a.Kept) F2220 [], iOwn b1 39 [.int .i64 a.Kind, .int .i64 a.At, .int .i64 a.N, bv a.By, .slice A a.Kept.length cap] [], iData (dSlice dInt) [.slice A a.Kept.length cap] a.Kept, iOwn bx 36 [.pointer (some ⟨b_d, 0, none⟩), .pointer (some ⟨b_r, 0, none⟩)] F, iOb (obDk b_d) p.d F_d F, iOb (obRk b_r) p.r F_r F] := hs3217
                refine WL_at (L := [(114, .pointer (some ⟨b_r, 0, none⟩)), (116, .int .i64 a.At), (118, .int .i64 a.N), (120, .slice A a.Kept.length cap)]) ⟨((hg3221 16 114 e3252 rfl).trans (v3239 e3252)), ((hg3221 18 116 e3253 rfl).trans (v3241 e3253)), ((hg3221 20 118 e3254 rfl).trans (v3243 e3254)), ((hg3221 22 120 e3255 rfl).trans (v3245 e3255)), trivial⟩ ?_
                have hz3266 := rcrash_okn (hs3259.at 6 rfl) okr (hs3259.at 3 rfl) a.At a.N
                refine S_call2 Try.call33 rfl hz3266 rfl ?_
                rintro d3260 F3261 w3262 ⟨h3263, e3264, hf3265⟩
                have hs3267 : Sep F w0 (fun b => D b ∧ b < w0.heap.size) w3262 [iOb (obRk d3260) (p.r.crash a.At a.N a.Kept) F3261 [], iNil, iOb (obDk d2219) (p.d.crash a.At a.N a.Kept) F2220 [], iOwn b1 39 [.int .i64 a.Kind, .int .i64 a.At, .int .i64 a.N, bv a.By, .slice A a.Kept.length cap] [], iData (dSlice dInt) [.slice A a.Kept.length cap] a.Kept, iOwn bx 36 [.pointer (some ⟨b_d, 0, none⟩), .pointer (some ⟨b_r, 0, none⟩)] F, iOb (obDk b_d) p.d F_d F, iOb (obRk b_r) p.r F_r F] := hs3259.made (o := obRk d3260) e3264 h3263 hf3265
                have hs3268 : Sep F w0 (fun b => D b ∧ b < w0.heap.size) w3262 [iOb (obRk d3260) (p.r.crash a.At a.N a.Kept) F3261 [], (bif dN 12 then (iOb (obDk d2219) (p.d.crash a.At a.N a.Kept) F2220 []) else iNil), iOwn b1 39 [.int .i64 a.Kind, .int .i64 a.At, .int .i64 a.N, bv a.By, .slice A a.Kept.length cap] [], iData (dSlice dInt) [.slice A a.Kept.length cap] a.Kept, (bif dN 29 then (iOwn bx 36 [.pointer (some ⟨d2219, 0, none⟩), .pointer (some ⟨d3260, 0, none⟩)] F) else (bif dN 26 then (iOwn bx 36 [.pointer (some ⟨d2219, 0, none⟩), .pointer (some ⟨b_r, 0, none⟩)] F) else (iOwn bx 36 [.pointer (some ⟨b_d, 0, none⟩), .pointer (some ⟨b_r, 0, none⟩)] F))), iOb (obDk b_d) p.d F_d F, iOb (obRk b_r) p.r F_r F] := by rw [e3257, e3251, e3258]; exact (hs3267.pick [0, 2, 3, 4, 5, 6, 7] rfl (by decide) rfl)
                exact WL_nil ⟨rfl, _, rfl, d2219, F2220, d3260, F3261, hs3268, v3223, v3224, v3225, v3226, v3227, v3228, v3229, v3230, v3231, v3232, v3233, v3234, v3235, v3236, v3237, v3238, v3239, v3240, v3241, v3242, v3243, v3244, v3245, (fun _ => rfl), v3247, v3248, v3249, v3250, trivial⟩
              ·
                rintro dN vL g3269 w3270 ⟨d2219, F2220, d2227, F2228, hs3271, v3277, v3278, v3279, v3280, v3281, v3282, v3283, v3284, v3285, v3286, v3287, v3288, v3289, v3290, v3291, v3292, v3293, v3294, v3295, v3296, v3297, v3298, v3299, v3300, v3301, v3302, v3303, v3304, _⟩ hD3272 hd3273 hu3274 hg3275 hk3276
                have e3305 : dN 0 = true := hd3273 0 (by decide +kernel)
                have e3306 : dN 12 = true := hd3273 12 (by decide +kernel)
                have e3307 : dN 23 = true := hd3273 23 (by decide +kernel)
                have e3308 : dN 26 = false := hu3274 26 (by decide +kernel)
                have e3309 : dN 29 = false := hu3274 29 (by decide +kernel)
                rw [e3308, e3306, e3309, e3307] at hs3271
                have hs3310 : Sep F w0 (fun b => D b ∧ b < w0.heap.size) w3270 [iOb (obRk d2227) (p.r.crash a.At a.N a.Kept) F2228 [], iOb (obDk d2219) (p.d.crash a.At a.N a.Kept) F2220 [], iOwn b1 39 [.int .i64 a.Kind, .int .i64 a.At, .int .i64 a.N, bv a.By, .slice A a.Kept.length cap] [], iData (dSlice dInt) [.slice A a.Kept.length cap] a.Kept, iOwn bx 36 [.pointer (some ⟨b_d, 0, none⟩), .pointer (some ⟨b_r, 0, none⟩)] F, iOb (obDk b_d) p.d F_d F, iOb (obRk b_r) p.r F_r F] := hs3271
                refine WL_at (L := [(98, .pointer (some ⟨bx, 0, none⟩))]) ⟨((hg3275 0 98 e3305 rfl).trans (v3277 e3305)), trivial⟩ ?_
                refine S_nilCheck rfl rfl ?_
                have hs3311 : Sep F w0 (fun b => D b ∧ b < w0.heap.size) w3270 [(bif dN 23 then (iOb (obRk d2227) (p.r.crash a.At a.N a.Kept) F2228 []) else iNil), (bif dN 12 then (iOb (obDk d2219) (p.d.crash a.At a.N a.Kept) F2220 []) else iNil), iOwn b1 39 [.int .i64 a.Kind, .int .i64 a.At, .int .i64 a.N, bv a.By, .slice A a.Kept.length cap] [], iData (dSlice dInt) [.slice A a.Kept.length cap] a.Kept, (bif dN 29 then (iOwn bx 36 [.pointer (some ⟨d2219, 0, none⟩), .pointer (some ⟨d2227, 0, none⟩)] F) else (bif dN 26 then (iOwn bx 36 [.pointer (some ⟨d2219, 0, none⟩), .pointer (some ⟨b_r, 0, none⟩)] F) else (iOwn bx 36 [.pointer (some ⟨b_d, 0, none⟩), .pointer (some ⟨b_r, 0, none⟩)] F))), iOb (obDk b_d) p.d F_d F, iOb (obRk b_r) p.r F_r F] := by rw [e3308, e3306, e3309, e3307]; exact hs3310
                exact WL_nil ⟨rfl, _, rfl, d2219, F2220, d2227, F2228, hs3311, v3277, v3278, v3279, v3280, v3281, v3282, v3283, v3284, v3285, v3286, v3287, v3288, v3289, v3290, v3291, v3292, v3293, v3294, v3295, v3296, v3297, v3298, v3299, v3300, (fun _ => rfl), v3302, v3303, v3304, trivial⟩
              ·
                rintro dN vL g3312 w3313 ⟨d2219, F2220, d2227, F2228, hs3314, v3320, v3321, v3322, v3323, v3324, v3325, v3326, v3327, v3328, v3329, v3330, v3331, v3332, v3333, v3334, v3335, v3336, v3337, v3338, v3339, v3340, v3341, v3342, v3343, v3344, v3345, v3346, v3347, _⟩ hD3315 hd3316 hu3317 hg3318 hk3319
                have e3348 : dN 12 = true := hd3316 12 (by decide +kernel)
                have e3349 : dN 23 = true := hd3316 23 (by decide +kernel)
                have e3350 : dN 24 = true := hd3316 24 (by decide +kernel)
                have e3351 : dN 26 = false := hu3317 26 (by decide +kernel)
                have e3352 : dN 29 = false := hu3317 29 (by decide +kernel)
                rw [e3351, e3348, e3352, e3349] at hs3314
                have hs3353 : Sep F w0 (fun b => D b ∧ b < w0.heap.size) w3313 [iOb (obRk d2227) (p.r.crash a.At a.N a.Kept) F2228 [], iOb (obDk d2219) (p.d.crash a.At a.N a.Kept) F2220 [], iOwn b1 39 [.int .i64 a.Kind, .int .i64 a.At, .int .i64 a.N, bv a.By, .slice A a.Kept.length cap] [], iData (dSlice dInt) [.slice A a.Kept.length cap] a.Kept, iOwn bx 36 [.pointer (some ⟨b_d, 0, none⟩), .pointer (some ⟨b_r, 0, none⟩)] F, iOb (obDk b_d) p.d F_d F, iOb (obRk b_r) p.r F_r F] := hs3314
                refine WL_at (L := [(122, .pointer (some ⟨bx, 0, none⟩))]) ⟨((hg3318 24 122 e3350 rfl).trans (v3344 e3350)), trivial⟩ ?_
                refine S_fieldAddr Try.runUnderlying36 rfl Try.sizeOf23 rfl rfl ?_
                have hs3354 : Sep F w0 (fun b => D b ∧ b < w0.heap.size) w3313 [(bif dN 23 then (iOb (obRk d2227) (p.r.crash a.At a.N a.Kept) F2228 []) else iNil), (bif dN 12 then (iOb (obDk d2219) (p.d.crash a.At a.N a.Kept) F2220 []) else iNil), iOwn b1 39 [.int .i64 a.Kind, .int .i64 a.At, .int .i64 a.N, bv a.By, .slice A a.Kept.length cap] [], iData (dSlice dInt) [.slice A a.Kept.length cap] a.Kept, (bif dN 29 then (iOwn bx 36 [.pointer (some ⟨d2219, 0, none⟩), .pointer (some ⟨d2227, 0, none⟩)] F) else (bif dN 26 then (iOwn bx 36 [.pointer (some ⟨d2219, 0, none⟩), .pointer (some ⟨b_r, 0, none⟩)] F) else (iOwn bx 36 [.pointer (some ⟨b_d, 0, none⟩), .pointer (some ⟨b_r, 0, none⟩)] F))), iOb (obDk b_d) p.d F_d F, iOb (obRk b_r) p.r F_r F] := by rw [e3351, e3348, e3352, e3349]; exact hs3353
                exact WL_nil ⟨rfl, _, rfl, d2219, F2220, d2227, F2228, hs3354, v3320, v3321, v3322, v3323, v3324, v3325, v3326, v3327, v3328, v3329, v3330, v3331, v3332, v3333, v3334, v3335, v3336, v3337, v3338, v3339, v3340, v3341, v3342, v3343, v3344, (fun _ => rfl), v3346, v3347, trivial⟩
              ·
                rintro dN vL g3355 w3356 ⟨d2219, F2220, d2227, F2228, hs3357, v3363, v3364, v3365, v3366, v3367, v3368, v3369, v3370, v3371, v3372, v3373, v3374, v3375, v3376, v3377, v3378, v3379, v3380, v3381, v3382, v3383, v3384, v3385, v3386, v3387, v3388, v3389, v3390, _⟩ hD3358 hd3359 hu3360 hg3361 hk3362
                have e3391 : dN 12 = true := hd3359 12 (by decide +kernel)
                have e3392 : dN 23 = true := hd3359 23 (by decide +kernel)
                have e3393 : dN 25 = true := hd3359 25 (by decide +kernel)
                have e3394 : dN 26 = false := hD3358
                have e3395 : dN 29 = false := hu3360 29 (by decide +kernel)
                rw [e3394, e3391, e3395, e3392] at hs3357
                have hs3396 : Sep F w0 (fun b => D b ∧ b < w0.heap.size) w3356 [iOb (obRk d2227) (p.r.crash a.At a.N a.Kept) F2228 [], iOb (obDk d2219) (p.d.crash a.At a.N a.Kept) F2220 [], iOwn b1 39 [.int .i64 a.Kind, .int .i64 a.At, .int .i64 a.N, bv a.By, .slice A a.Kept.length cap] [], iData (dSlice dInt) [.slice A a.Kept.length cap] a.Kept, iOwn bx 36 [.pointer (some ⟨b_d, 0, none⟩), .pointer (some ⟨b_r, 0, none⟩)] F, iOb (obDk b_d) p.d F_d F, iOb (obRk b_r) p.r F_r F] := hs3357
                refine WL_at (L := [(110, .pointer (some ⟨d2219, 0, none⟩)), (123, .pointer (some ⟨bx, 0, none⟩))]) ⟨((hg3361 12 110 e3391 rfl).trans (v3375 e3391)), ((hg3361 25 123 e3393 rfl).trans (v3388 e3393)), trivial⟩ ?_
                refine Z_store hs3396 4 rfl Try.sizeOf23 rfl rfl rfl (Nat.le_of_ble_eq_true rfl) rfl ?_
                intro w3397 hs3398
                have hs3398 : Sep F w0 (fun b => D b ∧ b < w0.heap.size) w3397 [iOb (obRk d2227) (p.r.crash a.At a.N a.Kept) F2228 [], iOb (obDk d2219) (p.d.crash a.At a.N a.Kept) F2220 [], iOwn b1 39 [.int .i64 a.Kind, .int .i64 a.At, .int .i64 a.N, bv a.By, .slice A a.Kept.length cap] [], iData (dSlice dInt) [.slice A a.Kept.length cap] a.Kept, iOwn bx 36 [.pointer (some ⟨d2219, 0, none⟩), .pointer (some ⟨b_r, 0, none⟩)] F, iOb (obDk b_d) p.d F_d F, iOb (obRk b_r) p.r F_r F] := hs3398
                have hs3399 : Sep F w0 (fun b => D b ∧ b < w0.heap.size) w3397 [(bif dN 23 then (iOb (obRk d2227) (p.r.crash a.At a.N a.Kept) F2228 []) else iNil), (bif dN 12 then (iOb (obDk d2219) (p.d.crash a.At a.N a.Kept) F2220 []) else iNil), iOwn b1 39 [.int .i64 a.Kind, .int .i64 a.At, .int .i64 a.N, bv a.By, .slice A a.Kept.length cap] [], iData (dSlice dInt) [.slice A a.Kept.length cap] a.Kept, (bif dN 29 then (iOwn bx 36 [.pointer (some ⟨d2219, 0, none⟩), .pointer (some ⟨d2227, 0, none⟩)] F) else (iOwn bx 36 [.pointer (some ⟨d2219, 0, none⟩), .pointer (some ⟨b_r, 0, none⟩)] F)), iOb (obDk b_d) p.d F_d F, iOb (obRk b_r) p.r F_r F] := by rw [e3391, e3395, e3392]; exact hs3398
                exact WL_nil ⟨rfl, undef, rfl, d2219, F2220, d2227, F2228, hs3399, v3363, v3364, v3365, v3366, v3367, v3368, v3369, v3370, v3371, v3372, v3373, v3374, v3375, v3376, v3377, v3378, v3379, v3380, v3381, v3382, v3383, v3384, v3385, v3386, v3387, v3388, v3389, v3390, trivial⟩
              ·
                rintro dN vL g3400 w3401 ⟨d2219, F2220, d2227, F2228, hs3402, v3408, v3409, v3410, v3411, v3412, v3413, v3414, v3415, v3416, v3417, v3418, v3419, v3420, v3421, v3422, v3423, v3424, v3425, v3426, v3427, v3428, v3429, v3430, v3431, v3432, v3433, v3434, v3435, _⟩ hD3403 hd3404 hu3405 hg3406 hk3407
                have e3436 : dN 1 = true := hd3404 1 (by decide +kernel)
                have e3437 : dN 12 = true := hd3404 12 (by decide +kernel)
                have e3438 : dN 23 = true := hd3404 23 (by decide +kernel)
                have e3439 : dN 26 = true := hd3404 26 (by decide +kernel)
                have e3440 : dN 29 = false := hu3405 29 (by decide +kernel)
                rw [e3439, e3437, e3440, e3438] at hs3402
                have hs3441 : Sep F w0 (fun b => D b ∧ b < w0.heap.size) w3401 [iOb (obRk d2227) (p.r.crash a.At a.N a.Kept) F2228 [], iOb (obDk d2219) (p.d.crash a.At a.N a.Kept) F2220 [], iOwn b1 39 [.int .i64 a.Kind, .int .i64 a.At, .int .i64 a.N, bv a.By, .slice A a.Kept.length cap] [], iData (dSlice dInt) [.slice A a.Kept.length cap] a.Kept, iOwn bx 36 [.pointer (some ⟨d2219, 0, none⟩), .pointer (some ⟨b_r, 0, none⟩)] F, iOb (obDk b_d) p.d F_d F, iOb (obRk b_r) p.r F_r F] := hs3402
                refine WL_at (L := [(99, .pointer (some ⟨bx, 0, none⟩))]) ⟨((hg3406 1 99 e3436 rfl).trans (v3409 e3436)), trivial⟩ ?_
                refine S_nilCheck rfl rfl ?_
                have hs3442 : Sep F w0 (fun b => D b ∧ b < w0.heap.size) w3401 [(bif dN 23 then (iOb (obRk d2227) (p.r.crash a.At a.N a.Kept) F2228 []) else iNil), (bif dN 12 then (iOb (obDk d2219) (p.d.crash a.At a.N a.Kept) F2220 []) else iNil), iOwn b1 39 [.int .i64 a.Kind, .int .i64 a.At, .int .i64 a.N, bv a.By, .slice A a.Kept.length cap] [], iData (dSlice dInt) [.slice A a.Kept.length cap] a.Kept, (bif dN 29 then (iOwn bx 36 [.pointer (some ⟨d2219, 0, none⟩), .pointer (some ⟨d2227, 0, none⟩)] F) else (bif dN 26 then (iOwn bx 36 [.pointer (some ⟨d2219, 0, none⟩), .pointer (some ⟨b_r, 0, none⟩)] F) else (iOwn bx 36 [.pointer (some ⟨b_d, 0, none⟩), .pointer (some ⟨b_r, 0, none⟩)] F))), iOb (obDk b_d) p.d F_d F, iOb (obRk b_r) p.r F_r F] := by rw [e3439, e3437, e3440, e3438]; exact hs3441
                exact WL_nil ⟨rfl, _, rfl, d2219, F2220, d2227, F2228, hs3442, v3408, v3409, v3410, v3411, v3412, v3413, v3414, v3415, v3416, v3417, v3418, v3419, v3420, v3421, v3422, v3423, v3424, v3425, v3426, v3427, v3428, v3429, v3430, v3431, v3432, v3433, (fun _ => rfl), v3435, trivial⟩
              ·
                rintro dN vL g3443 w3444 ⟨d2219, F2220, d2227, F2228, hs3445, v3451, v3452, v3453, v3454, v3455, v3456, v3457, v3458, v3459, v3460, v3461, v3462, v3463, v3464, v3465, v3466, v3467, v3468, v3469, v3470, v3471, v3472, v3473, v3474, v3475, v3476, v3477, v3478, _⟩ hD3446 hd3447 hu3448 hg3449 hk3450
                have e3479 : dN 12 = true := hd3447 12 (by decide +kernel)
                have e3480 : dN 23 = true := hd3447 23 (by decide +kernel)
                have e3481 : dN 26 = true := hd3447 26 (by decide +kernel)
                have e3482 : dN 27 = true := hd3447 27 (by decide +kernel)
                have e3483 : dN 29 = false := hu3448 29 (by decide +kernel)
                rw [e3481, e3479, e3483, e3480] at hs3445
                have hs3484 : Sep F w0 (fun b => D b ∧ b < w0.heap.size) w3444 [iOb (obRk d2227) (p.r.crash a.At a.N a.Kept) F2228 [], iOb (obDk d2219) (p.d.crash a.At a.N a.Kept) F2220 [], iOwn b1 39 [.int .i64 a.Kind, .int .i64 a.At, .int .i64 a.N, bv a.By, .slice A a.Kept.length cap] [], iData (dSlice dInt) [.slice A a.Kept.length cap] a.Kept, iOwn bx 36 [.pointer (some ⟨d2219, 0, none⟩), .pointer (some ⟨b_r, 0, none⟩)] F, iOb (obDk b_d) p.d F_d F, iOb (obRk b_r) p.r F_r F] := hs3445
                refine WL_at (L := [(124, .pointer (some ⟨bx, 0, none⟩))]) ⟨((hg3449 27 124 e3482 rfl).trans (v3477 e3482)), trivial⟩ ?_
                refine S_fieldAddr Try.runUnderlying36 rfl Try.sizeOf28 rfl rfl ?_
                have hs3485 : Sep F w0 (fun b => D b ∧ b < w0.heap.size) w3444 [(bif dN 23 then (iOb (obRk d2227) (p.r.crash a.At a.N a.Kept) F2228 []) else iNil), (bif dN 12 then (iOb (obDk d2219) (p.d.crash a.At a.N a.Kept) F2220 []) else iNil), iOwn b1 39 [.int .i64 a.Kind, .int .i64 a.At, .int .i64 a.N, bv a.By, .slice A a.Kept.length cap] [], iData (dSlice dInt) [.slice A a.Kept.length cap] a.Kept, (bif dN 29 then (iOwn bx 36 [.pointer (some ⟨d2219, 0, none⟩), .pointer (some ⟨d2227, 0, none⟩)] F) else (bif dN 26 then (iOwn bx 36 [.pointer (some ⟨d2219, 0, none⟩), .pointer (some ⟨b_r, 0, none⟩)] F) else (iOwn bx 36 [.pointer (some ⟨b_d, 0, none⟩), .pointer (some ⟨b_r, 0, none⟩)] F))), iOb (obDk b_d) p.d F_d F, iOb (obRk b_r) p.r F_r F] := by rw [e3481, e3479, e3483, e3480]; exact hs3484
                exact WL_nil ⟨rfl, _, rfl, d2219, F2220, d2227, F2228, hs3485, v3451, v3452, v3453, v3454, v3455, v3456, v3457, v3458, v3459, v3460, v3461, v3462, v3463, v3464, v3465, v3466, v3467, v3468, v3469, v3470, v3471, v3472, v3473, v3474, v3475, v3476, v3477, (fun _ => rfl), trivial⟩
              ·
                rintro dN vL g3486 w3487 ⟨d2219, F2220, d2227, F2228, hs3488, v3494, v3495, v3496, v3497, v3498, v3499, v3500, v3501, v3502, v3503, v3504, v3505, v3506, v3507, v3508, v3509, v3510, v3511, v3512, v3513, v3514, v3515, v3516, v3517, v3518, v3519, v3520, v3521, _⟩ hD3489 hd3490 hu3491 hg3492 hk3493
                have e3522 : dN 12 = true := hd3490 12 (by decide +kernel)
                have e3523 : dN 23 = true := hd3490 23 (by decide +kernel)
                have e3524 : dN 26 = true := hd3490 26 (by decide +kernel)
                have e3525 : dN 28 = true := hd3490 28 (by decide +kernel)
                have e3526 : dN 29 = false := hD3489
                rw [e3524, e3522, e3526, e3523] at hs3488
                have hs3527 : Sep F w0 (fun b => D b ∧ b < w0.heap.size) w3487 [iOb (obRk d2227) (p.r.crash a.At a.N a.Kept) F2228 [], iOb (obDk d2219) (p.d.crash a.At a.N a.Kept) F2220 [], iOwn b1 39 [.int .i64 a.Kind, .int .i64 a.At, .int .i64 a.N, bv a.By, .slice A a.Kept.length cap] [], iData (dSlice dInt) [.slice A a.Kept.length cap] a.Kept, iOwn bx 36 [.pointer (some ⟨d2219, 0, none⟩), .pointer (some ⟨b_r, 0, none⟩)] F, iOb (obDk b_d) p.d F_d F, iOb (obRk b_r) p.r F_r F] := hs3488
                refine WL_at (L := [(121, .pointer (some ⟨d2227, 0, none⟩)), (125, .pointer (some ⟨bx, 1, none⟩))]) ⟨((hg3492 23 121 e3523 rfl).trans (v3517 e3523)), ((hg3492 28 125 e3525 rfl).trans (v3521 e3525)), trivial⟩ ?_
                refine Z_store hs3527 4 rfl Try.sizeOf28 rfl rfl rfl (Nat.le_of_ble_eq_true rfl) rfl ?_
                intro w3528 hs3529
                have hs3529 : Sep F w0 (fun b => D b ∧ b < w0.heap.size) w3528 [iOb (obRk d2227) (p.r.crash a.At a.N a.Kept) F2228 [], iOb (obDk d2219) (p.d.crash a.At a.N a.Kept) F2220 [], iOwn b1 39 [.int .i64 a.Kind, .int .i64 a.At, .int .i64 a.N, bv a.By, .slice A a.Kept.length cap] [], iData (dSlice dInt) [.slice A a.Kept.length cap] a.Kept, iOwn bx 36 [.pointer (some ⟨d2219, 0, none⟩), .pointer (some ⟨d2227, 0, none⟩)] F, iOb (obDk b_d) p.d F_d F, iOb (obRk b_r) p.r F_r F] := hs3529
                have hs3530 : Sep F w0 (fun b => D b ∧ b < w0.heap.size) w3528 [(bif dN 23 then (iOb (obRk d2227) (p.r.crash a.At a.N a.Kept) F2228 []) else iNil), (bif dN 12 then (iOb (obDk d2219) (p.d.crash a.At a.N a.Kept) F2220 []) else iNil), iOwn b1 39 [.int .i64 a.Kind, .int .i64 a.At, .int .i64 a.N, bv a.By, .slice A a.Kept.length cap] [], iData (dSlice dInt) [.slice A a.Kept.length cap] a.Kept, iOwn bx 36 [.pointer (some ⟨d2219, 0, none⟩), .pointer (some ⟨d2227, 0, none⟩)] F, iOb (obDk b_d) p.d F_d F, iOb (obRk b_r) p.r F_r F] := by rw [e3522, e3523]; exact hs3529
                exact WL_nil ⟨rfl, undef, rfl, d2219, F2220, d2227, F2228, hs3530, v3494, v3495, v3496, v3497, v3498, v3499, v3500, v3501, v3502, v3503, v3504, v3505, v3506, v3507, v3508, v3509, v3510, v3511, v3512, v3513, v3514, v3515, v3516, v3517, v3518, v3519, v3520, v3521, trivial⟩
            ·
              rintro dN vL g3531 w3532 ha3534 ⟨d2219, F2220, d2227, F2228, hs3533, v3537, v3538, v3539, v3540, v3541, v3542, v3543, v3544, v3545, v3546, v3547, v3548, v3549, v3550, v3551, v3552, v3553, v3554, v3555, v3556, v3557, v3558, v3559, v3560, v3561, v3562, v3563, v3564, _⟩ hg3535 hk3536
              rw [ha3534 12 rfl, ha3534 23 rfl, ha3534 26 rfl, ha3534 29 rfl] at hs3533
              have hs3565 : Sep F w0 (fun b => D b ∧ b < w0.heap.size) w3532 [iOb (obRk d2227) (p.r.crash a.At a.N a.Kept) F2228 [], iOb (obDk d2219) (p.d.crash a.At a.N a.Kept) F2220 [], iOwn b1 39 [.int .i64 a.Kind, .int .i64 a.At, .int .i64 a.N, bv a.By, .slice A a.Kept.length cap] [], iData (dSlice dInt) [.slice A a.Kept.length cap] a.Kept, iOwn bx 36 [.pointer (some ⟨d2219, 0, none⟩), .pointer (some ⟨d2227, 0, none⟩)] F, iOb (obDk b_d) p.d F_d F, iOb (obRk b_r) p.r F_r F] := hs3533
              refine ⟨[(0, .pointer (some ⟨bx, 0, none⟩))], ⟨(hk3536 0 rfl), trivial⟩, fun g3566 => ?_⟩
              refine W_seq ?_
              refine W_region ?_
              refine S_move rfl ?_
              refine S_nilCheck rfl rfl ?_
              refine S_fieldAddr Try.runUnderlying36 rfl Try.sizeOf23 rfl rfl ?_
              refine S_load1 Try.isAgg23 rfl (Own.at (hs3565.at 4 rfl) rfl) rfl ?_
              refine S_neqP Try.runUnderlying23 rfl rfl ?_
              refine S_assign rfl ?_
              refine WL_nil ?_
              refine W_ret ?_
              show (Value.bool true) = .bool true ∧ ∃ F', BkIs bx w3532 (p.act a) F' ∧ Turn w0 w3532 F F'
              have hc2 := (BkIs.close (hs3565.pick [4, 1, 0] rfl (by decide) rfl))
              exact ⟨rfl, _, by simp only [Bk.act, *]; first | exact hc2.1 | (simp; exact hc2.1), hc2.2⟩
          ·
            have p3567 := of_decide_eq_false h2216
            refine W_skip ?_
            refine W_seq ?_
            refine W_region ?_
            refine S_move rfl ?_
            refine S_nilCheck rfl rfl ?_
            refine S_fieldAddr Try.runUnderlying36 rfl Try.sizeOf23 rfl rfl ?_
            refine S_load1 Try.isAgg23 rfl (Own.at (hs3.at 2 rfl) rfl) rfl ?_
            refine S_neqP Try.runUnderlying23 rfl rfl ?_
            refine S_assign rfl ?_
            refine WL_nil ?_
            refine W_ret ?_
            show (Value.bool true) = .bool true ∧ ∃ F', BkIs bx w2 (p.act a) F' ∧ Turn w0 w2 F F'
            have hc2 := (BkIs.close (hs3.pick [2, 3, 4] rfl (by decide) rfl))
            exact ⟨rfl, _, by simp only [Bk.act, *]; first | exact hc2.1 | (simp; exact hc2.1), hc2.2⟩
end Go.Proofs.Ytdgcgifigkfeaaa
