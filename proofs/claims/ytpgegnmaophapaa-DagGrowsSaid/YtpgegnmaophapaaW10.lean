/- The walks of a history's functions, printed by program. -/
import Derived.Test.YtpgegnmaophapaaW9
import Derived.Test.YtpgegnmaophapaaWkQ
namespace Go.Proofs.Ytpgegnmaophapaa
open Go.Wk Classical
theorem path1_ok {M : List Nat} {w0 : World} {A : Option Addr} {cap : Nat} {l : List Commit} {b1 b2 : Nat} (h : (rSlice rCommit).rd M w0 [.slice A l.length cap] l) (hM : ∀ b ∈ M, b < w0.heap.size) (hr : Right l) (to : Int) (p : Int) (hp : InI p) (h1 : Own w0 b1 22 [.slice A l.length cap]) (h2 : Own w0 b2 3 [.int .i64 to]) :
    CallR Try.prog 30 [.int .i64 p, .pointer (some ⟨b1, 0, none⟩), .pointer (some ⟨b2, 0, none⟩)] w0 (fun v w' => v = .bool (decide (Rch l p to)) ∧ Ext [] w0 w') := by
  have ll := rSlice_len h
  refine Call1 Try.func30 rfl rfl rfl rfl ?_
  refine W_seq ?_
  refine W_region ?_
  refine S_assign rfl ?_
  refine WL_nil ?_
  refine W_seq ?_
  refine W_region_draw [4, 5, 6, 7, 8, 9, 10] [fun v _ => v = .slice A l.length cap, fun v _ => v = .int .i64 p, fun v w => ∃ b : Nat, v = .slice (some ⟨b, 0, none⟩) 1 1 ∧ Own w b 3 [.int .i64 p] ∧ w0.heap.size ≤ b, fun v w => ∃ (b : Nat) (S : List Int), v = .map (some b) ∧ MapAt kInt w b (setL S) ∧ (∀ x, x ∈ S ↔ ∃ a ∈ [p], Rch l a x) ∧ w0.heap.size ≤ b, fun v _ => v = .int .i64 to, fun v _ => v = .bool (decide (Rch l p to)), fun v _ => v = .bool (decide (Rch l p to))] rfl (by decide +kernel) ?_ _ rfl ?_ ?_
  · exact (.cons (fun _ _ _ h _ => h) (.cons (fun _ _ _ h _ => h) (.cons (fun _ _ _ ⟨b, e, o, s⟩ x => ⟨b, e, o.ext x nin0, s⟩) (.cons (fun _ _ _ ⟨b, S, e, o, s, z⟩ x => ⟨b, S, e, o.ext x nin0, s, z⟩) (.cons (fun _ _ _ h _ => h) (.cons (fun _ _ _ h _ => h) (.cons (fun _ _ _ h _ => h) .nil)))))))
  · refine (.cons ?_ (.cons ?_ (.cons ?_ (.cons ?_ (.cons ?_ (.cons ?_ (.cons ?_ .nil)))))))
    ·
      intro g_3 w_1 E_2 hd_4 hk_5
      have E_6 := Ext.stepO (Ext.refl [] w0) E_2 mem0
      have h_7 := h1.ext E_2 nin0
      have h_8 := h2.ext E_2 nin0
      refine WL_at (L := [(1, _)]) ⟨(hk_5 1 (by decide +kernel)), trivial⟩ ?_
      refine S_load1 Try.isAgg22 rfl (h_7.at rfl) rfl ?_
      refine WL_nil ⟨rfl, _, rfl, (Ext.refl [] w_1), rfl⟩
    ·
      intro g_11 w_9 E_10 hd_12 hk_13
      have E_14 := Ext.stepO (Ext.refl [] w0) E_10 mem0
      have h_15 := h1.ext E_10 nin0
      have h_16 := h2.ext E_10 nin0
      refine WL_at (L := [(0, _)]) ⟨(hk_13 0 (by decide +kernel)), trivial⟩ ?_
      refine S_move rfl ?_
      refine WL_nil ⟨rfl, _, rfl, (Ext.refl [] w_9), rfl⟩
    ·
      intro g_19 w_17 E_18 hd_20 hk_21
      have E_22 := Ext.stepO (Ext.refl [] w0) E_18 mem0
      have h_23 := h1.ext E_18 nin0
      have h_24 := h2.ext E_18 nin0
      have hj_25 := hd_20 1 6 (by decide +kernel) rfl
      refine WL_at (L := [(6, .int .i64 p)]) ⟨hj_25, trivial⟩ ?_
      refine S_buildSlice Try.runUnderlying26 Try.sizeOf3 Try.zeroValue3 rfl rfl rfl rfl rfl rfl rfl ?_
      intro b_26 w_27 e_28 z_29 z_30 ho_31
      have hb_32 : w0.heap.size ≤ b_26 := by have := (E_22).size; omega
      have n_33 : (w_17).heap.size ≤ b_26 := by have := ((Ext.refl [] w_17)).size; omega
      have n_34 : b1 ≠ b_26 := by have := h_23.lt; omega
      have n_35 : b2 ≠ b_26 := by have := h_24.lt; omega
      have E_36 := Ext.stepO E_22 e_28 mem0
      have c_37 := Ext.stepO (Ext.refl [] w_17) e_28 mem0
      have h_38 := h_23.ext e_28 nin0
      have h_39 := h_24.ext e_28 nin0
      have ho_31 : Own _ _ _ [_] := ho_31
      refine WL_nil ⟨rfl, _, rfl, c_37, ⟨b_26, rfl, ho_31, hb_32⟩⟩
    ·
      intro g_42 w_40 E_41 hd_43 hk_44
      have E_45 := Ext.stepO (Ext.refl [] w0) E_41 mem0
      have h_46 := h1.ext E_41 nin0
      have h_47 := h2.ext E_41 nin0
      have hj_48 := hd_43 0 5 (by decide +kernel) rfl
      have hj_49 := hd_43 2 7 (by decide +kernel) rfl
      have ⟨b_50, e_51, o_52, s_53⟩ := hj_49
      refine WL_at (L := [(5, .slice A l.length cap), (7, .slice (some ⟨b_50, 0, none⟩) 1 1)]) ⟨hj_48, e_51, trivial⟩ ?_
      have h_54 := Rep.ext _ h E_45
      have hr_55 := rd_ints (xs := [p]) (M := M) o_52 (notin_old hM s_53) (by simpa using hp) (by simp)
      have hz_63 := reached_ok h_54 hr_55 ‹Right _›
      refine S_call Try.call25 rfl hz_63 rfl ?_
      rintro _ w_58 ⟨bm_56, S_57, rfl, hm_59, hz_63, hS_61, e_62⟩
      have hb_64 : w0.heap.size ≤ bm_56 := by have := (E_45).size; omega
      have n_65 : (w_40).heap.size ≤ bm_56 := by have := ((Ext.refl [] w_40)).size; omega
      have n_66 : b1 ≠ bm_56 := by have := h_46.lt; omega
      have n_67 : b2 ≠ bm_56 := by have := h_47.lt; omega
      have n_68 : b_50 ≠ bm_56 := by have := o_52.lt; omega
      have E_69 := Ext.stepO E_45 e_62 mem0
      have c_70 := Ext.stepO (Ext.refl [] w_40) e_62 mem0
      have h_71 := h_46.ext e_62 nin0
      have h_72 := h_47.ext e_62 nin0
      have h_73 := o_52.ext e_62 nin0
      refine WL_nil ⟨rfl, _, rfl, c_70, ⟨bm_56, S_57, rfl, hm_59, hS_61, hb_64⟩⟩
    ·
      intro g_76 w_74 E_75 hd_77 hk_78
      have E_79 := Ext.stepO (Ext.refl [] w0) E_75 mem0
      have h_80 := h1.ext E_75 nin0
      have h_81 := h2.ext E_75 nin0
      refine WL_at (L := [(2, _)]) ⟨(hk_78 2 (by decide +kernel)), trivial⟩ ?_
      refine S_load1 Try.isAgg3 rfl (h_81.at rfl) rfl ?_
      refine WL_nil ⟨rfl, _, rfl, (Ext.refl [] w_74), rfl⟩
    ·
      intro g_84 w_82 E_83 hd_85 hk_86
      have E_87 := Ext.stepO (Ext.refl [] w0) E_83 mem0
      have h_88 := h1.ext E_83 nin0
      have h_89 := h2.ext E_83 nin0
      have hj_90 := hd_85 3 8 (by decide +kernel) rfl
      have ⟨bm_91, S_92, e_93, o_94, s_95, z_96⟩ := hj_90
      have hj_97 := hd_85 4 9 (by decide +kernel) rfl
      refine WL_at (L := [(8, .map (some bm_91)), (9, .int .i64 to)]) ⟨e_93, hj_97, trivial⟩ ?_
      refine S_lookup (ky := kInt) Try.runUnderlying40 Try.runUnderlying3 Try.zeroValue4 rfl rfl o_94 (get_setL _ _) rfl ?_
      refine WL_nil ⟨rfl, _, rfl, (Ext.refl [] w_82), (by congr 1; rw [decide_eq_decide, s_95]; simp)⟩
    ·
      intro g_101 w_99 E_100 hd_102 hk_103
      have E_104 := Ext.stepO (Ext.refl [] w0) E_100 mem0
      have h_105 := h1.ext E_100 nin0
      have h_106 := h2.ext E_100 nin0
      have hj_107 := hd_102 5 10 (by decide +kernel) rfl
      refine WL_at (L := [(10, .bool (decide (Rch l p to)))]) ⟨hj_107, trivial⟩ ?_
      refine S_assign rfl ?_
      refine WL_nil ⟨rfl, _, rfl, (Ext.refl [] w_99), rfl⟩
  ·
    intro g_110 w_108 E_109 hd_111
    have E_112 := Ext.stepO (Ext.refl [] w0) E_109 mem0
    have h_113 := h1.ext E_109 nin0
    have h_114 := h2.ext E_109 nin0
    have hj_115 := hd_111 6 4 rfl
    refine ⟨[(4, .bool (decide (Rch l p to)))], ⟨hj_115, trivial⟩, rfl, ?_⟩
    refine W_ret ?_
    exact ⟨rfl, E_112⟩
end Go.Proofs.Ytpgegnmaophapaa
