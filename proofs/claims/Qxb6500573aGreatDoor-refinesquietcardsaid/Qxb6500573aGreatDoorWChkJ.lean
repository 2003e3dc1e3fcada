/- Walks: package table, Check (made by program out of short notes) -/
import Derived.Test.Qxb6500573aGreatDoorCK6
namespace Go.Sl
open Go Go.Wl Go.Nm Go.Proofs
set_option maxRecDepth 100000
set_option linter.unusedVariables false
set_option linter.unusedSimpArgs false
set_option maxHeartbeats 4000000 in
theorem tabs_Check (b nb : Nat) (ts : List Tb) (hC : TsC ts) (s : Seg) (hts : isTabs b nb ts s) : Spec Tryz.prog 116 [.pointer (some ⟨b, 0, none⟩)] [s] (Ret fun v H => v = .bool true ∧ ∃ s', isTabs b nb ts s' ∧ H = [s']) := by
  obtain ⟨ta, tc, k, hK⟩ := hts.toK
  have hk12 := hK.le
  refine Spec_enter Tryz.func116 rfl Tryz.ntmps116 rfl ?_
  show SP _ _ _ _ _ [(0, _)] _
  refine SP_seq ?_
  refine SP_region ?_
  refine SPL_y (y_assign rfl) rfl ?_
  refine SPL_nil ?_
  refine thenP_n ?_
  refine SP_mid (G := Unit) (fun _ => [(0, .pointer (some ⟨b, 0, none⟩))]) (fun _ => [s]) (fun _ => True) ?_ ?_
  · refine SP_seq ?_
    refine SP_draw 999 [(0, 0), (1, 0), (2, 0), (3, 1), (4, 0), (5, 0), (6, 0), (7, 0), (8, 0), (10, 0), (11, 0), (12, 0), (9, 1), (13, 1), (14, 0), (15, 0), (16, 0), (17, 0), (18, 0), (19, 0), (20, 0), (21, 1), (22, 0), (23, 0), (24, 0)] mixed (by kernel_rfl) (fun _ _ _ _ _ h => h) (Part.refl _) ?_
    refine SPO_p rfl (y_move rfl) rfl ?_
    refine SPO_p rfl (y_nil rfl) rfl ?_
    refine SPO_p rfl (y_fa fld_103_2 rfl) rfl ?_
    refine SPO_h rfl (y_load Tryz.isAgg3 rfl (by repeat (first | exact (hK.hd _ 2 _ rfl) | apply Cell.tail))) rfl ?_
    refine SPO_if rfl (y_lss rfl rfl) rfl ?_ ?_
    · intro h1_4
      omega
    intro h1_4
    refine SPO_p rfl (y_move rfl) rfl ?_
    refine SPO_py rfl rfl rfl (y_move rfl) rfl ?_
    refine SPO_py rfl rfl rfl (y_nil rfl) rfl ?_
    refine SPO_py rfl rfl rfl (y_fa fld_103_2 rfl) rfl ?_
    refine SPO_py rfl rfl rfl (y_move rfl) rfl ?_
    refine SPO_py rfl rfl rfl (y_nil rfl) rfl ?_
    refine SPO_py rfl rfl rfl (y_fa fld_103_1 rfl) rfl ?_
    refine SPO_hy rfl rfl rfl (y_load Tryz.isAgg3 rfl (by repeat (first | exact (hK.hd _ 2 _ rfl) | apply Cell.tail))) rfl ?_
    refine SPO_hy rfl rfl rfl (y_load Tryz.isAgg101 rfl (by repeat (first | exact (hK.hd _ 1 _ rfl) | apply Cell.tail))) rfl ?_
    refine SPO_py rfl rfl rfl (y_len_l Tryz.underlying101 rfl) rfl ?_
    refine SPO_pyif rfl rfl rfl (y_gtr rfl rfl) rfl ?_ ?_
    · intro h1_15
      omega
    intro h1_15
    refine SPO_p rfl (y_pick_f rfl rfl) rfl ?_
    refine SPO_p rfl (y_move rfl) rfl ?_
    refine SPO_py rfl rfl rfl (y_move rfl) rfl ?_
    refine SPO_py rfl rfl rfl (y_nil rfl) rfl ?_
    refine SPO_py rfl rfl rfl (y_fa fld_103_1 rfl) rfl ?_
    refine SPO_hy rfl rfl rfl (y_load Tryz.isAgg101 rfl (by repeat (first | exact (hK.hd _ 1 _ rfl) | apply Cell.tail))) rfl ?_
    refine SPO_py rfl rfl rfl (y_len_l Tryz.underlying101 rfl) rfl ?_
    refine SPO_pyif rfl rfl rfl (y_gtr rfl rfl) rfl ?_ ?_
    · intro h1_23
      omega
    intro h1_23
    refine SPO_p rfl (y_pick_f rfl rfl) rfl ?_
    refine SPO_nil ?_
    refine thenP_n ?_
    refine SP_cond_f rfl ?_
    refine SP_skip ?_
    refine thenP_n ?_
    exact Mid.intro (()) (trivial) (by repeat (first | exact Sub.nil _ | refine Sub.cons rfl ?_)) (by repeat (first | exact Part.nil _ | (apply Part.cons; with_reducible (first | exact P0 | exact P1 | exact P2 | exact P3 | exact P4 | exact P5 | exact P6 | exact P7 | exact P8 | exact P9 | exact P10 | exact P11 | exact P12 | exact P13 | exact P14 | exact P15 | exact P16 | exact P17 | exact P18 | exact P19 | exact P20 | exact P21 | exact P22 | exact P23)) | (apply Part.flat; simp only [List.cons_append, List.nil_append]) | (apply Part.cons; (first | exact P0 | exact P1 | exact P2 | exact P3 | exact P4 | exact P5 | exact P6 | exact P7 | exact P8 | exact P9 | exact P10 | exact P11 | exact P12 | exact P13 | exact P14 | exact P15 | exact P16 | exact P17 | exact P18 | exact P19 | exact P20 | exact P21 | exact P22 | exact P23)) | (apply Part.nilc)))
  rintro _ -
  refine SP_seq ?_
  refine SP_seq ?_
  refine SP_region ?_
  refine SPL_y (y_move rfl) rfl ?_
  refine SPL_y (y_nil rfl) rfl ?_
  refine SPL_y (y_fa fld_103_1 rfl) rfl ?_
  refine SPL_y (y_load Tryz.isAgg101 rfl (by repeat (first | exact (hK.hd _ 1 _ rfl) | apply Cell.tail))) rfl ?_
  refine SPL_y (y_len_l Tryz.underlying101 rfl) rfl ?_
  refine SPL_y (y_move rfl) rfl ?_
  refine SPL_nil ?_
  refine thenP_n ?_
  refine SP_block ?_
  refine SP_loop (G := Nat × Seg) (fun g => (ts.length + k) - g.1) (fun g => [(0, .pointer (some ⟨b, 0, none⟩)), (37, I (((ts.length + k) : Nat) : Int)), (38, I ((g.1 : Nat) : Int))]) (fun g => [g.2]) (fun g => g.1 ≤ (ts.length + k) ∧ isTabsK b nb ts ta tc k g.2) ((0, s)) (⟨Nat.zero_le _, hK⟩) (by repeat (first | exact Sub.nil _ | refine Sub.cons rfl ?_)) (by repeat (first | exact Part.nil _ | (apply Part.cons; with_reducible (first | exact P0 | exact P1 | exact P2 | exact P3 | exact P4 | exact P5 | exact P6 | exact P7 | exact P8 | exact P9 | exact P10 | exact P11 | exact P12 | exact P13 | exact P14 | exact P15 | exact P16 | exact P17 | exact P18 | exact P19 | exact P20 | exact P21 | exact P22 | exact P23)) | (apply Part.flat; simp only [List.cons_append, List.nil_append]) | (apply Part.cons; (first | exact P0 | exact P1 | exact P2 | exact P3 | exact P4 | exact P5 | exact P6 | exact P7 | exact P8 | exact P9 | exact P10 | exact P11 | exact P12 | exact P13 | exact P14 | exact P15 | exact P16 | exact P17 | exact P18 | exact P19 | exact P20 | exact P21 | exact P22 | exact P23)) | (apply Part.nilc))) ?_
  clear hK hts
  rintro ⟨j, s⟩ ⟨hj, hK⟩
  dsimp only at hj hK ⊢
  refine SP_seq ?_
  refine SP_region ?_
  refine SPL_ifn (y_lss rfl rfl) rfl ?_ ?_
  · intro h4_0
    refine SPL_nil ?_
    refine thenP_n ?_
    refine SP_seq ?_
    refine SP_cond_f rfl ?_
    refine SP_exit ?_
    refine thenP_exit ?_
    refine thenP_exit ?_
    refine inBlockP_hit ?_
    refine thenP_n ?_
    refine SP_seq ?_
    refine SP_region ?_
    refine SPL_y (y_assign rfl) rfl ?_
    refine SPL_nil ?_
    refine thenP_n ?_
    refine SP_ret ?_
    refine bodyP_ret (H' := [s]) (Res1 rfl rfl) (by repeat (first | exact Part.nil _ | (apply Part.cons; with_reducible (first | exact P0 | exact P1 | exact P2 | exact P3 | exact P4 | exact P5 | exact P6 | exact P7 | exact P8 | exact P9 | exact P10 | exact P11 | exact P12 | exact P13 | exact P14 | exact P15 | exact P16 | exact P17 | exact P18 | exact P19 | exact P20 | exact P21 | exact P22 | exact P23)) | (apply Part.flat; simp only [List.cons_append, List.nil_append]) | (apply Part.cons; (first | exact P0 | exact P1 | exact P2 | exact P3 | exact P4 | exact P5 | exact P6 | exact P7 | exact P8 | exact P9 | exact P10 | exact P11 | exact P12 | exact P13 | exact P14 | exact P15 | exact P16 | exact P17 | exact P18 | exact P19 | exact P20 | exact P21 | exact P22 | exact P23)) | (apply Part.nilc))) ?_
    exact ⟨rfl, s, hK.to, rfl⟩
  intro h4_0
  refine SPL_nil ?_
  refine thenP_n ?_
  refine SP_seq ?_
  refine SP_cond_t rfl ?_
  refine SP_skip ?_
  refine thenP_n ?_
  refine SP_seq ?_
  refine SP_block ?_
  refine SP_seq ?_
  refine SP_region ?_
  refine SPL_y (y_move rfl) rfl ?_
  refine SPL_y (y_assign rfl) rfl ?_
  refine SPL_nil ?_
  refine thenP_n ?_
  refine SP_seq ?_
  refine SP_seq ?_
  obtain ⟨t, hjt⟩ : ∃ t, (ts ++ List.replicate k Tb.empty)[j]? = some t := ⟨_, List.getElem?_eq_getElem (by simp; omega)⟩
  obtain ⟨⟨hX, hN, hW⟩, hem⟩ := hC.at hjt
  obtain ⟨tb, c0, ci, c2, s0, si, s2, rfl, rfl, hpre, hR, hput⟩ := hK.open hjt
  obtain ⟨oa, oc, aa, ac, mn, ms, mr, so, sa, sn, ss, sr, rfl, rfl, ho, ha, hn, hs, hr⟩ := hR
  refine SP_openAt [blk b 103 [.pointer (some ⟨nb, 0, none⟩), .slice (some ⟨tb, 0, none⟩) (ts.length + k) tc, I ts.length], blk tb 245 (c0 ++ [.slice oa t.order.length oc, .slice aa t.arr.length ac, .map (some mn), .map (some ms), .map (some mr), I t.dead] ++ c2), s0, List.flatten [so, sa, sn, ss, sr], s2] (by first | exact P0 | exact P1 | exact P2 | exact P3 | exact P4 | exact P5 | exact P6 | exact P7 | exact P8 | exact P9 | exact P10 | exact P11 | exact P12 | exact P13 | exact P14 | exact P15 | exact P16 | exact P17 | exact P18 | exact P19 | exact P20 | exact P21 | exact P22 | exact P23) ?_
  simp only [List.cons_append, List.nil_append]
  refine SP_openAt [so, sa, sn, ss, sr] (by first | exact P0 | exact P1 | exact P2 | exact P3 | exact P4 | exact P5 | exact P6 | exact P7 | exact P8 | exact P9 | exact P10 | exact P11 | exact P12 | exact P13 | exact P14 | exact P15 | exact P16 | exact P17 | exact P18 | exact P19 | exact P20 | exact P21 | exact P22 | exact P23) ?_
  simp only [List.cons_append, List.nil_append]
  have hle := hX.le
  have hnone : mfind t.nums ((FloatKind.f64.nearest ((t.arr.length : Int) + 1) : Nat) : Int) = none := none_of hX.cl
  refine SP_region ?_
  refine SPL_y (y_move rfl) rfl ?_
  refine SPL_y (y_move rfl) rfl ?_
  refine SPL_one rfl (SP1_call (tab_CheckMid b nb tb (ts.length + k) tc j ts.length c0 c2 hpre (by omega) t oa aa oc ac mn ms mr so sa sn ss sr ho ha hn hs hr hX hN hW) Tryz.call176 rfl rfl (by repeat (first | exact Part.nil _ | (apply Part.cons; with_reducible (first | exact P0 | exact P1 | exact P2 | exact P3 | exact P4 | exact P5 | exact P6 | exact P7 | exact P8 | exact P9 | exact P10 | exact P11 | exact P12 | exact P13 | exact P14 | exact P15 | exact P16 | exact P17 | exact P18 | exact P19 | exact P20 | exact P21 | exact P22 | exact P23)) | (apply Part.flat; simp only [List.cons_append, List.nil_append]) | (apply Part.cons; (first | exact P0 | exact P1 | exact P2 | exact P3 | exact P4 | exact P5 | exact P6 | exact P7 | exact P8 | exact P9 | exact P10 | exact P11 | exact P12 | exact P13 | exact P14 | exact P15 | exact P16 | exact P17 | exact P18 | exact P19 | exact P20 | exact P21 | exact P22 | exact P23)) | (apply Part.nilc))) ?_)
  rintro v post H' ⟨rfl, sn1, ss1, sr1, hn1, hs1, hr1, rfl⟩ hH
  try simp only [List.cons_append, List.nil_append] at hH
  subst hH
  refine SPL_y (y_not_t rfl) rfl ?_
  refine SPL_nil ?_
  refine thenP_n ?_
  refine SP_cond_f rfl ?_
  refine SP_skip ?_
  refine thenP_n ?_
  refine SP_seq ?_
  refine SP_region ?_
  refine SPL_y (y_move rfl) rfl ?_
  refine SPL_y (y_nil rfl) rfl ?_
  refine SPL_y (y_fa fld_103_1 rfl) rfl ?_
  refine SPL_y (y_load Tryz.isAgg101 rfl (by repeat (first | exact Cell.amid hpre rfl | exact Cell.head rfl | apply Cell.tail))) rfl ?_
  refine SPL_y (y_move rfl) rfl ?_
  refine SPL_y (y_ia Tryz.underlying101 Tryz.sizeOf245 rfl rfl (by omega)) rfl ?_
  refine SPL_y (y_assign rfl) rfl ?_
  refine SPL_nil ?_
  refine thenP_n ?_
  refine SP_seq ?_
  refine SP_draw 10 [(0, 0), (1, 0), (2, 0), (4, 0), (5, 0), (6, 0), (3, 1), (7, 1), (8, 0), (9, 0), (10, 3), (11, 0)] mixed (by kernel_rfl) (fun _ _ _ _ _ h => h) (Part.refl _) ?_
  refine SPO_p rfl (y_move rfl) rfl ?_
  refine SPO_p rfl (y_nil rfl) rfl ?_
  refine SPO_p rfl (y_fa fld_103_0 rfl) rfl ?_
  refine SPO_p rfl (y_move rfl) rfl ?_
  refine SPO_p rfl (y_nil rfl) rfl ?_
  refine SPO_p rfl (y_fa fld_245_1 rfl) rfl ?_
  refine SPO_h rfl (y_load Tryz.isAgg37 rfl (by repeat (first | exact Cell.amid hpre rfl | exact Cell.head rfl | apply Cell.tail))) rfl ?_
  refine SPO_h rfl (y_load Tryz.isAgg241 rfl (by repeat (first | exact Cell.amid hpre rfl | exact Cell.head rfl | apply Cell.tail))) rfl ?_
  refine SPO_p rfl (y_len_l Tryz.underlying241 rfl) rfl ?_
  refine SPO_p rfl (y_add rfl rfl (by omega)) rfl ?_
  refine SPO_z (k := 0) rfl rfl (SP1_call (num_FromInt (.pointer (some ⟨nb, 0, none⟩)) ((t.arr.length : Int) + 1)) Tryz.call177 rfl rfl (by repeat (first | exact Part.nil _ | (apply Part.cons; with_reducible (first | exact P0 | exact P1 | exact P2 | exact P3 | exact P4 | exact P5 | exact P6 | exact P7 | exact P8 | exact P9 | exact P10 | exact P11 | exact P12 | exact P13 | exact P14 | exact P15 | exact P16 | exact P17 | exact P18 | exact P19 | exact P20 | exact P21 | exact P22 | exact P23)) | (apply Part.flat; simp only [List.cons_append, List.nil_append]) | (apply Part.cons; (first | exact P0 | exact P1 | exact P2 | exact P3 | exact P4 | exact P5 | exact P6 | exact P7 | exact P8 | exact P9 | exact P10 | exact P11 | exact P12 | exact P13 | exact P14 | exact P15 | exact P16 | exact P17 | exact P18 | exact P19 | exact P20 | exact P21 | exact P22 | exact P23)) | (apply Part.nilc))) ?_)
  rintro v post H' ⟨rfl, rfl⟩ hH
  try simp only [List.cons_append, List.nil_append] at hH
  subst hH
  refine SPO_p rfl (y_assign rfl) rfl ?_
  refine SPO_nil ?_
  refine thenP_n ?_
  refine SP_seq ?_
  refine SP_seq ?_
  refine SP_region ?_
  refine SPL_y (y_move rfl) rfl ?_
  refine SPL_y (y_nil rfl) rfl ?_
  refine SPL_y (y_fa fld_245_2 rfl) rfl ?_
  refine SPL_y (y_load Tryz.isAgg242 rfl (by repeat (first | exact Cell.amid hpre rfl | exact Cell.head rfl | apply Cell.tail))) rfl ?_
  refine SPL_y (y_move rfl) rfl ?_
  refine SPL_y (y_lookupG hn1 Tryz.underlying242 kU Tryz.zeroValue21 rfl rfl (fun p hp => by simp only [List.flatten_cons, List.mem_append]; simp [hp])) rfl ?_
  rw [hnone]
  refine SPL_y (y_move rfl) rfl ?_
  refine SPL_y (y_ext rfl rfl) rfl ?_
  refine SPL_y (y_ext rfl rfl) rfl ?_
  refine SPL_y (y_assign rfl) rfl ?_
  refine SPL_y (y_assign rfl) rfl ?_
  refine SPL_nil ?_
  refine thenP_n ?_
  refine SP_seq ?_
  refine SP_region ?_
  refine SPL_y (y_move rfl) rfl ?_
  refine SPL_nil ?_
  refine thenP_n ?_
  refine SP_cond_f rfl ?_
  refine SP_skip ?_
  refine thenP_n ?_
  refine SP_seq ?_
  refine SP_region ?_
  refine SPL_y (y_move rfl) rfl ?_
  refine SPL_y (y_move rfl) rfl ?_
  refine SPL_y (y_nil rfl) rfl ?_
  refine SPL_y (y_fa fld_103_2 rfl) rfl ?_
  refine SPL_y (y_load Tryz.isAgg3 rfl (by repeat (first | exact Cell.amid hpre rfl | exact Cell.head rfl | apply Cell.tail))) rfl ?_
  refine SPL_ifn (y_geq rfl rfl) rfl ?_ ?_
  · intro h13_5
    refine SPL_y (y_move rfl) rfl ?_
    refine SPL_gn rfl rfl rfl rfl ?_
    refine SPL_gn rfl rfl rfl rfl ?_
    refine SPL_gn rfl rfl rfl rfl ?_
    refine SPL_gn rfl rfl rfl rfl ?_
    refine SPL_gn rfl rfl rfl rfl ?_
    refine SPL_gn rfl rfl rfl rfl ?_
    refine SPL_y (y_pick_f rfl rfl) rfl ?_
    refine SPL_nil ?_
    refine thenP_n ?_
    refine SP_cond_f rfl ?_
    refine SP_skip ?_
    refine inBlockP_n ?_
    refine thenP_n ?_
    refine SP_region ?_
    refine SPL_y (y_add rfl rfl (by omega)) rfl ?_
    refine SPL_y (y_move rfl) rfl ?_
    refine SPL_nil ?_
    refine thenP_n ?_
    exact Again.intro ((j + 1, List.flatten [blk b 103 [.pointer (some ⟨nb, 0, none⟩), .slice (some ⟨tb, 0, none⟩) (ts.length + k) tc, I ts.length], blk tb 245 (c0 ++ [.slice oa t.order.length oc, .slice aa t.arr.length ac, .map (some mn), .map (some ms), .map (some mr), I t.dead] ++ c2), s0, List.flatten [so, sa, sn1, ss1, sr1], s2])) (⟨by dsimp only; omega, hput _ _ ⟨oa, oc, aa, ac, mn, ms, mr, so, sa, sn1, ss1, sr1, rfl, rfl, ho, ha, hn1, hs1, hr1⟩⟩) (by dsimp only; omega) (by repeat (first | exact Sub.nil _ | refine Sub.cons rfl ?_)) (by repeat (first | exact Part.nil _ | (apply Part.cons; with_reducible (first | exact P0 | exact P1 | exact P2 | exact P3 | exact P4 | exact P5 | exact P6 | exact P7 | exact P8 | exact P9 | exact P10 | exact P11 | exact P12 | exact P13 | exact P14 | exact P15 | exact P16 | exact P17 | exact P18 | exact P19 | exact P20 | exact P21 | exact P22 | exact P23)) | (apply Part.flat; simp only [List.cons_append, List.nil_append]) | (apply Part.cons; (first | exact P0 | exact P1 | exact P2 | exact P3 | exact P4 | exact P5 | exact P6 | exact P7 | exact P8 | exact P9 | exact P10 | exact P11 | exact P12 | exact P13 | exact P14 | exact P15 | exact P16 | exact P17 | exact P18 | exact P19 | exact P20 | exact P21 | exact P22 | exact P23)) | (apply Part.nilc)))
  intro h13_5
  refine SPL_y (y_move rfl) rfl ?_
  refine SPL_gy rfl rfl ?_
  refine SPL_y (y_move rfl) rfl ?_
  refine SPL_gy rfl rfl ?_
  refine SPL_y (y_nil rfl) rfl ?_
  refine SPL_gy rfl rfl ?_
  refine SPL_y (y_fa fld_245_0 rfl) rfl ?_
  refine SPL_gy rfl rfl ?_
  refine SPL_y (y_load Tryz.isAgg240 rfl (by repeat (first | exact Cell.amid hpre rfl | exact Cell.head rfl | apply Cell.tail))) rfl ?_
  refine SPL_gy rfl rfl ?_
  refine SPL_y (y_len_l Tryz.underlying240 rfl) rfl ?_
  refine SPL_gy rfl rfl ?_
  refine SPL_if (y_neq rfl rfl) rfl ?_ ?_
  · intro h13_12
    have := hem (by omega)
    omega
  intro h13_12
  refine SPL_y (y_pick_t rfl rfl) rfl ?_
  refine SPL_nil ?_
  refine thenP_n ?_
  refine SP_cond_f rfl ?_
  refine SP_skip ?_
  refine inBlockP_n ?_
  refine thenP_n ?_
  refine SP_region ?_
  refine SPL_y (y_add rfl rfl (by omega)) rfl ?_
  refine SPL_y (y_move rfl) rfl ?_
  refine SPL_nil ?_
  refine thenP_n ?_
  exact Again.intro ((j + 1, List.flatten [blk b 103 [.pointer (some ⟨nb, 0, none⟩), .slice (some ⟨tb, 0, none⟩) (ts.length + k) tc, I ts.length], blk tb 245 (c0 ++ [.slice oa t.order.length oc, .slice aa t.arr.length ac, .map (some mn), .map (some ms), .map (some mr), I t.dead] ++ c2), s0, List.flatten [so, sa, sn1, ss1, sr1], s2])) (⟨by dsimp only; omega, hput _ _ ⟨oa, oc, aa, ac, mn, ms, mr, so, sa, sn1, ss1, sr1, rfl, rfl, ho, ha, hn1, hs1, hr1⟩⟩) (by dsimp only; omega) (by repeat (first | exact Sub.nil _ | refine Sub.cons rfl ?_)) (by repeat (first | exact Part.nil _ | (apply Part.cons; with_reducible (first | exact P0 | exact P1 | exact P2 | exact P3 | exact P4 | exact P5 | exact P6 | exact P7 | exact P8 | exact P9 | exact P10 | exact P11 | exact P12 | exact P13 | exact P14 | exact P15 | exact P16 | exact P17 | exact P18 | exact P19 | exact P20 | exact P21 | exact P22 | exact P23)) | (apply Part.flat; simp only [List.cons_append, List.nil_append]) | (apply Part.cons; (first | exact P0 | exact P1 | exact P2 | exact P3 | exact P4 | exact P5 | exact P6 | exact P7 | exact P8 | exact P9 | exact P10 | exact P11 | exact P12 | exact P13 | exact P14 | exact P15 | exact P16 | exact P17 | exact P18 | exact P19 | exact P20 | exact P21 | exact P22 | exact P23)) | (apply Part.nilc)))

end Go.Sl
