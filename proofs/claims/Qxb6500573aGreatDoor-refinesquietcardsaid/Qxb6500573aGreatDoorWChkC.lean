/- Walks: vm.check (made by program out of short notes) -/
import Derived.Test.Qxb6500573aGreatDoorCK2
namespace Go.Sl
open Go Go.Wl Go.Proofs
set_option maxRecDepth 100000
set_option linter.unusedVariables false
set_option linter.unusedSimpArgs false
set_option maxHeartbeats 4000000 in
theorem vm_check (b : VB) (ph : PH) (hh : List TH) {m : VM} (hC : VCk m) (seg : Seg) (hM : isVM b ph hh m seg) : Spec Tryz.prog 117 [pt b.vb, I (-1), I 0] [seg] (Ret fun v H => v = .bool true ∧ H = [seg]) := by
  have hfu := hC.fu
  have hou := hC.ou
  obtain ⟨la, lc, hlh, hloA⟩ := hM.cloA
  obtain ⟨ua, uc, huh, huxA⟩ := hM.upxA
  obtain ⟨ea, ec, heh, hcelA⟩ := hM.celA
  obtain ⟨oa0, oc0, houh⟩ := hM.outL
  refine Spec_enter Tryz.func117 rfl Tryz.ntmps117 rfl ?_
  show SP _ _ _ _ _ [(0, _), (1, _), (2, _)] _
  refine SP_seq ?_
  refine SP_region ?_
  refine SPL_y (y_assign rfl) rfl ?_
  refine SPL_nil ?_
  refine thenP_n ?_
  refine SP_mid (G := Unit) (fun _ => [(0, pt b.vb), (1, I (-1)), (2, I 0)]) (fun _ => [seg]) (fun _ => True) ?_ ?_
  · refine SP_seq ?_
    refine SP_region ?_
    refine SPL_y (y_move rfl) rfl ?_
    refine SPL_y (y_nil rfl) rfl ?_
    refine SPL_y (y_fa fld_115_9 rfl) rfl ?_
    refine SPL_y (y_load Tryz.isAgg107 rfl (by repeat (first | exact hM.threads | apply Cell.tail))) rfl ?_
    refine SPL_y (y_cap Tryz.underlying107 rfl) rfl ?_
    refine SPL_if (y_neq rfl rfl) rfl ?_ ?_
    · intro h1_5
      refine SPL_y (y_move rfl) rfl ?_
      refine SPL_gn rfl rfl rfl rfl ?_
      refine SPL_gn rfl rfl rfl rfl ?_
      refine SPL_gn rfl rfl rfl rfl ?_
      refine SPL_gn rfl rfl rfl rfl ?_
      refine SPL_gn rfl rfl rfl rfl ?_
      refine SPL_y (y_pick_t rfl rfl) rfl ?_
      refine SPL_y (y_move rfl) rfl ?_
      refine SPL_gn rfl rfl rfl rfl ?_
      refine SPL_gn rfl rfl rfl rfl ?_
      refine SPL_gn rfl rfl rfl rfl ?_
      refine SPL_gn rfl rfl rfl rfl ?_
      refine SPL_gn rfl rfl rfl rfl ?_
      refine SPL_gn rfl rfl rfl rfl ?_
      refine SPL_y (y_pick_t rfl rfl) rfl ?_
      refine SPL_nil ?_
      refine thenP_n ?_
      refine SP_cond_t rfl ?_
      refine SP_seq ?_
      refine SP_region ?_
      refine SPL_y (y_assign rfl) rfl ?_
      refine SPL_nil ?_
      refine thenP_n ?_
      refine SP_ret ?_
      refine thenP_ret (bodyP_ret (H' := [seg]) (Res1 rfl rfl) (by repeat (first | exact Part.nil _ | (apply Part.cons; with_reducible (first | exact P0 | exact P1 | exact P2 | exact P3 | exact P4 | exact P5 | exact P6 | exact P7 | exact P8 | exact P9 | exact P10 | exact P11 | exact P12 | exact P13 | exact P14 | exact P15 | exact P16 | exact P17 | exact P18 | exact P19 | exact P20 | exact P21 | exact P22 | exact P23)) | (apply Part.flat; simp only [List.cons_append, List.nil_append]) | (apply Part.cons; (first | exact P0 | exact P1 | exact P2 | exact P3 | exact P4 | exact P5 | exact P6 | exact P7 | exact P8 | exact P9 | exact P10 | exact P11 | exact P12 | exact P13 | exact P14 | exact P15 | exact P16 | exact P17 | exact P18 | exact P19 | exact P20 | exact P21 | exact P22 | exact P23)) | (apply Part.nilc))) ?_)
      first | exact ⟨rfl, rfl⟩ | (exfalso; omega) | (refine ⟨congrArg Value.bool (decide_eq_true ?_), rfl⟩; omega) | (exfalso; dsimp only at *; omega)
    intro h1_5
    refine SPL_y (y_move rfl) rfl ?_
    refine SPL_gy rfl rfl ?_
    refine SPL_y (y_move rfl) rfl ?_
    refine SPL_gy rfl rfl ?_
    refine SPL_y (y_nil rfl) rfl ?_
    refine SPL_gy rfl rfl ?_
    refine SPL_y (y_fa fld_115_10 rfl) rfl ?_
    refine SPL_gy rfl rfl ?_
    refine SPL_y (y_load Tryz.isAgg3 rfl (by repeat (first | exact hM.fuel | apply Cell.tail))) rfl ?_
    refine SPL_gy rfl rfl ?_
    refine SPL_if (y_lss rfl rfl) rfl ?_ ?_
    · intro h1_11
      refine SPL_y (y_pick_f rfl rfl) rfl ?_
      refine SPL_y (y_move rfl) rfl ?_
      refine SPL_gn rfl rfl rfl rfl ?_
      refine SPL_gn rfl rfl rfl rfl ?_
      refine SPL_gn rfl rfl rfl rfl ?_
      refine SPL_gn rfl rfl rfl rfl ?_
      refine SPL_gn rfl rfl rfl rfl ?_
      refine SPL_gn rfl rfl rfl rfl ?_
      refine SPL_y (y_pick_t rfl rfl) rfl ?_
      refine SPL_nil ?_
      refine thenP_n ?_
      refine SP_cond_t rfl ?_
      refine SP_seq ?_
      refine SP_region ?_
      refine SPL_y (y_assign rfl) rfl ?_
      refine SPL_nil ?_
      refine thenP_n ?_
      refine SP_ret ?_
      refine thenP_ret (bodyP_ret (H' := [seg]) (Res1 rfl rfl) (by repeat (first | exact Part.nil _ | (apply Part.cons; with_reducible (first | exact P0 | exact P1 | exact P2 | exact P3 | exact P4 | exact P5 | exact P6 | exact P7 | exact P8 | exact P9 | exact P10 | exact P11 | exact P12 | exact P13 | exact P14 | exact P15 | exact P16 | exact P17 | exact P18 | exact P19 | exact P20 | exact P21 | exact P22 | exact P23)) | (apply Part.flat; simp only [List.cons_append, List.nil_append]) | (apply Part.cons; (first | exact P0 | exact P1 | exact P2 | exact P3 | exact P4 | exact P5 | exact P6 | exact P7 | exact P8 | exact P9 | exact P10 | exact P11 | exact P12 | exact P13 | exact P14 | exact P15 | exact P16 | exact P17 | exact P18 | exact P19 | exact P20 | exact P21 | exact P22 | exact P23)) | (apply Part.nilc))) ?_)
      first | exact ⟨rfl, rfl⟩ | (exfalso; omega) | (refine ⟨congrArg Value.bool (decide_eq_true ?_), rfl⟩; omega) | (exfalso; dsimp only at *; omega)
    intro h1_11
    refine SPL_y (y_pick_f rfl rfl) rfl ?_
    refine SPL_y (y_move rfl) rfl ?_
    refine SPL_gy rfl rfl ?_
    refine SPL_y (y_move rfl) rfl ?_
    refine SPL_gy rfl rfl ?_
    refine SPL_y (y_nil rfl) rfl ?_
    refine SPL_gy rfl rfl ?_
    refine SPL_y (y_fa fld_115_11 rfl) rfl ?_
    refine SPL_gy rfl rfl ?_
    refine SPL_y (y_load Tryz.isAgg67 rfl (by repeat (first | exact (houh _) | apply Cell.tail))) rfl ?_
    refine SPL_gy rfl rfl ?_
    refine SPL_y (y_len_l Tryz.underlying67 rfl) rfl ?_
    refine SPL_gy rfl rfl ?_
    refine SPL_ifn (y_gtr rfl rfl) rfl ?_ ?_
    · intro h1_19
      refine SPL_y (y_pick_f rfl rfl) rfl ?_
      refine SPL_nil ?_
      refine thenP_n ?_
      refine SP_cond_f rfl ?_
      refine SP_skip ?_
      refine thenP_n ?_
      exact Mid.intro (()) (trivial) (by repeat (first | exact Sub.nil _ | refine Sub.cons rfl ?_)) (by repeat (first | exact Part.nil _ | (apply Part.cons; with_reducible (first | exact P0 | exact P1 | exact P2 | exact P3 | exact P4 | exact P5 | exact P6 | exact P7 | exact P8 | exact P9 | exact P10 | exact P11 | exact P12 | exact P13 | exact P14 | exact P15 | exact P16 | exact P17 | exact P18 | exact P19 | exact P20 | exact P21 | exact P22 | exact P23)) | (apply Part.flat; simp only [List.cons_append, List.nil_append]) | (apply Part.cons; (first | exact P0 | exact P1 | exact P2 | exact P3 | exact P4 | exact P5 | exact P6 | exact P7 | exact P8 | exact P9 | exact P10 | exact P11 | exact P12 | exact P13 | exact P14 | exact P15 | exact P16 | exact P17 | exact P18 | exact P19 | exact P20 | exact P21 | exact P22 | exact P23)) | (apply Part.nilc)))
    intro h1_19
    refine SPL_y (y_pick_f rfl rfl) rfl ?_
    refine SPL_nil ?_
    refine thenP_n ?_
    refine SP_cond_t rfl ?_
    refine SP_seq ?_
    refine SP_region ?_
    refine SPL_y (y_assign rfl) rfl ?_
    refine SPL_nil ?_
    refine thenP_n ?_
    refine SP_ret ?_
    refine thenP_ret (bodyP_ret (H' := [seg]) (Res1 rfl rfl) (by repeat (first | exact Part.nil _ | (apply Part.cons; with_reducible (first | exact P0 | exact P1 | exact P2 | exact P3 | exact P4 | exact P5 | exact P6 | exact P7 | exact P8 | exact P9 | exact P10 | exact P11 | exact P12 | exact P13 | exact P14 | exact P15 | exact P16 | exact P17 | exact P18 | exact P19 | exact P20 | exact P21 | exact P22 | exact P23)) | (apply Part.flat; simp only [List.cons_append, List.nil_append]) | (apply Part.cons; (first | exact P0 | exact P1 | exact P2 | exact P3 | exact P4 | exact P5 | exact P6 | exact P7 | exact P8 | exact P9 | exact P10 | exact P11 | exact P12 | exact P13 | exact P14 | exact P15 | exact P16 | exact P17 | exact P18 | exact P19 | exact P20 | exact P21 | exact P22 | exact P23)) | (apply Part.nilc))) ?_)
    first | exact ⟨rfl, rfl⟩ | (exfalso; omega) | (refine ⟨congrArg Value.bool (decide_eq_true ?_), rfl⟩; omega) | (exfalso; dsimp only at *; omega)
  rintro _ -
  refine SP_mid (G := Unit) (fun _ => [(0, pt b.vb), (1, I (-1)), (2, I 0)]) (fun _ => [seg]) (fun _ => m.ended = 0) ?_ ?_
  · refine SP_seq ?_
    refine SP_region ?_
    refine SPL_y (y_move rfl) rfl ?_
    refine SPL_y (y_nil rfl) rfl ?_
    refine SPL_y (y_fa fld_115_12 rfl) rfl ?_
    refine SPL_y (y_load Tryz.isAgg30 rfl (by repeat (first | exact hM.end_ | apply Cell.tail))) rfl ?_
    refine SPL_ifn (y_neq rfl rfl) rfl ?_ ?_
    · intro h3_4
      refine SPL_nil ?_
      refine thenP_n ?_
      refine SP_cond_f rfl ?_
      refine SP_skip ?_
      refine thenP_n ?_
      exact Mid.intro (()) ((by omega)) (by repeat (first | exact Sub.nil _ | refine Sub.cons rfl ?_)) (by repeat (first | exact Part.nil _ | (apply Part.cons; with_reducible (first | exact P0 | exact P1 | exact P2 | exact P3 | exact P4 | exact P5 | exact P6 | exact P7 | exact P8 | exact P9 | exact P10 | exact P11 | exact P12 | exact P13 | exact P14 | exact P15 | exact P16 | exact P17 | exact P18 | exact P19 | exact P20 | exact P21 | exact P22 | exact P23)) | (apply Part.flat; simp only [List.cons_append, List.nil_append]) | (apply Part.cons; (first | exact P0 | exact P1 | exact P2 | exact P3 | exact P4 | exact P5 | exact P6 | exact P7 | exact P8 | exact P9 | exact P10 | exact P11 | exact P12 | exact P13 | exact P14 | exact P15 | exact P16 | exact P17 | exact P18 | exact P19 | exact P20 | exact P21 | exact P22 | exact P23)) | (apply Part.nilc)))
    intro h3_4
    refine SPL_nil ?_
    refine thenP_n ?_
    refine SP_cond_t rfl ?_
    refine SP_seq ?_
    obtain ⟨⟨hn1, hn2, hn3, hn4⟩, hn5, hn6, hn7, hn8⟩ := hC.no (by omega)
    refine SP_draw 999 [(0, 0), (1, 0), (2, 0), (5, 0), (6, 0), (7, 0), (11, 0), (12, 0), (13, 0), (17, 0), (18, 0), (19, 0), (23, 0), (24, 0), (25, 0), (29, 0), (30, 0), (31, 0), (35, 0), (36, 0), (37, 0), (41, 0), (42, 0), (43, 0), (3, 1), (4, 0), (8, 1), (9, 0), (10, 0), (14, 1), (15, 0), (16, 0), (20, 1), (21, 0), (22, 0), (26, 1), (27, 0), (28, 0), (32, 1), (33, 0), (34, 0), (38, 1), (39, 0), (40, 0), (44, 1), (45, 0), (46, 0), (47, 0)] mixed (by kernel_rfl) (fun _ _ _ _ _ h => h) (Part.refl _) ?_
    refine SPO_p rfl (y_move rfl) rfl ?_
    refine SPO_p rfl (y_nil rfl) rfl ?_
    refine SPO_p rfl (y_fa fld_115_2 rfl) rfl ?_
    refine SPO_p rfl (y_move rfl) rfl ?_
    refine SPO_p rfl (y_nil rfl) rfl ?_
    refine SPO_p rfl (y_fa fld_115_3 rfl) rfl ?_
    refine SPO_p rfl (y_move rfl) rfl ?_
    refine SPO_p rfl (y_nil rfl) rfl ?_
    refine SPO_p rfl (y_fa fld_115_4 rfl) rfl ?_
    refine SPO_p rfl (y_move rfl) rfl ?_
    refine SPO_p rfl (y_nil rfl) rfl ?_
    refine SPO_p rfl (y_fa fld_115_5 rfl) rfl ?_
    refine SPO_p rfl (y_move rfl) rfl ?_
    refine SPO_p rfl (y_nil rfl) rfl ?_
    refine SPO_p rfl (y_fa fld_115_6 rfl) rfl ?_
    refine SPO_p rfl (y_move rfl) rfl ?_
    refine SPO_p rfl (y_nil rfl) rfl ?_
    refine SPO_p rfl (y_fa fld_115_7 rfl) rfl ?_
    refine SPO_p rfl (y_move rfl) rfl ?_
    refine SPO_p rfl (y_nil rfl) rfl ?_
    refine SPO_p rfl (y_fa fld_115_8 rfl) rfl ?_
    refine SPO_p rfl (y_move rfl) rfl ?_
    refine SPO_p rfl (y_nil rfl) rfl ?_
    refine SPO_p rfl (y_fa fld_115_9 rfl) rfl ?_
    refine SPO_h rfl (y_load Tryz.isAgg108 rfl (by repeat (first | exact hM.protos | apply Cell.tail))) rfl ?_
    refine SPO_p rfl (y_len_l Tryz.underlying108 rfl) rfl ?_
    refine SPO_h rfl (y_load Tryz.isAgg109 rfl (by repeat (first | exact hM.descs | apply Cell.tail))) rfl ?_
    refine SPO_p rfl (y_len_l Tryz.underlying109 rfl) rfl ?_
    refine SPO_p rfl (y_add rfl rfl (by omega)) rfl ?_
    refine SPO_h rfl (y_load Tryz.isAgg90 rfl (by repeat (first | exact hM.consts | apply Cell.tail))) rfl ?_
    refine SPO_p rfl (y_len_l Tryz.underlying90 rfl) rfl ?_
    refine SPO_p rfl (y_add rfl rfl (by omega)) rfl ?_
    refine SPO_h rfl (y_load Tryz.isAgg110 rfl (by repeat (first | exact hM.code | apply Cell.tail))) rfl ?_
    refine SPO_p rfl (y_len_l Tryz.underlying110 rfl) rfl ?_
    refine SPO_p rfl (y_add rfl rfl (by omega)) rfl ?_
    refine SPO_h rfl (y_load Tryz.isAgg111 rfl (by repeat (first | exact (hlh _) | apply Cell.tail))) rfl ?_
    refine SPO_p rfl (y_len_l Tryz.underlying111 rfl) rfl ?_
    refine SPO_p rfl (y_add rfl rfl (by omega)) rfl ?_
    refine SPO_h rfl (y_load Tryz.isAgg112 rfl (by repeat (first | exact (huh _) | apply Cell.tail))) rfl ?_
    refine SPO_p rfl (y_len_l Tryz.underlying112 rfl) rfl ?_
    refine SPO_p rfl (y_add rfl rfl (by omega)) rfl ?_
    refine SPO_h rfl (y_load Tryz.isAgg113 rfl (by repeat (first | exact (heh _) | apply Cell.tail))) rfl ?_
    refine SPO_p rfl (y_len_l Tryz.underlying113 rfl) rfl ?_
    refine SPO_p rfl (y_add rfl rfl (by omega)) rfl ?_
    refine SPO_h rfl (y_load Tryz.isAgg107 rfl (by repeat (first | exact hM.threads | apply Cell.tail))) rfl ?_
    refine SPO_p rfl (y_len_l Tryz.underlying107 rfl) rfl ?_
    refine SPO_p rfl (y_add rfl rfl (by omega)) rfl ?_
    refine SPO_p rfl (y_assign rfl) rfl ?_
    refine SPO_nil ?_
    refine thenP_n ?_
    refine SP_seq ?_
    refine SP_region ?_
    refine SPL_y (y_move rfl) rfl ?_
    refine SPL_y (y_eql rfl rfl) rfl ?_
    refine SPL_y (y_assign rfl) rfl ?_
    refine SPL_nil ?_
    refine thenP_n ?_
    refine SP_ret ?_
    refine thenP_ret (bodyP_ret (H' := [seg]) (Res1 rfl rfl) (by repeat (first | exact Part.nil _ | (apply Part.cons; with_reducible (first | exact P0 | exact P1 | exact P2 | exact P3 | exact P4 | exact P5 | exact P6 | exact P7 | exact P8 | exact P9 | exact P10 | exact P11 | exact P12 | exact P13 | exact P14 | exact P15 | exact P16 | exact P17 | exact P18 | exact P19 | exact P20 | exact P21 | exact P22 | exact P23)) | (apply Part.flat; simp only [List.cons_append, List.nil_append]) | (apply Part.cons; (first | exact P0 | exact P1 | exact P2 | exact P3 | exact P4 | exact P5 | exact P6 | exact P7 | exact P8 | exact P9 | exact P10 | exact P11 | exact P12 | exact P13 | exact P14 | exact P15 | exact P16 | exact P17 | exact P18 | exact P19 | exact P20 | exact P21 | exact P22 | exact P23)) | (apply Part.nilc))) ?_)
    first | exact ⟨rfl, rfl⟩ | (exfalso; omega) | (refine ⟨congrArg Value.bool (decide_eq_true ?_), rfl⟩; omega) | (exfalso; dsimp only at *; omega)
  rintro _ hen
  have hV := hC.go (by omega)
  obtain ⟨hpr, hcl, hth, hce, htb, har, ⟨U, K, C, hU0, hK0, hC0, hU1, hK1, hC1, htl⟩, ⟨W, hW0, hW1, hct⟩, hux, hts, ⟨O, D, hO0, hD0, hD1, hop, hdc⟩, hsl, hvk, hvc, hvt⟩ := hV
  obtain ⟨lq, rfl, _⟩ := hloA _ _ (getI_jn (l := m.vs.clos) (j := 0) (by omega) (by omega))
  have hL : ∀ (i : Int) p, getI m.vs.clos i = some p → ∀ H : Hp, Cells (seg :: H) lq (0 + i.toNat * 3) (clV p) := fun i p h H => by
    obtain ⟨q, e, hc⟩ := hloA i p h
    injection e with e
    injection e with e
    subst e
    exact hc H
  obtain ⟨pq, hpa, _⟩ := hM.proto (getI_jn (l := m.pg.protos) (j := 0) (by omega) (by omega))
  have hPr : ∀ (i : Int) p, getI m.pg.protos i = some p → ∀ H : Hp, Cells (seg :: H) pq (0 + i.toNat * 8) (prV p) := fun i p h H => by
    obtain ⟨q, e, hc⟩ := hM.proto h
    rw [hpa] at e
    injection e with e
    injection e with e
    subst e
    exact hc H
  have hpr0 : ∀ H : Hp, Cell (seg :: H) b.vb (0 + 2) (.slice (some ⟨pq, 0, none⟩) m.pg.protos.length ph.pc) := fun H => by
    have := hM.protos (H := H)
    rw [hpa] at this
    exact this
  refine SP_mid (G := Unit) (fun _ => [(0, pt b.vb), (1, I (-1)), (2, I 0)]) (fun _ => [seg]) (fun _ => True) ?_ ?_
  · refine SP_seq ?_
    refine SP_region ?_
    refine SPL_y (y_move rfl) rfl ?_
    refine SPL_y (y_nil rfl) rfl ?_
    refine SPL_y (y_fa fld_115_2 rfl) rfl ?_
    refine SPL_y (y_load Tryz.isAgg108 rfl (by repeat (first | exact (hpr0 _) | apply Cell.tail))) rfl ?_
    refine SPL_y (y_len_l Tryz.underlying108 rfl) rfl ?_
    refine SPL_if (y_lss rfl rfl) rfl ?_ ?_
    · intro h6_5
      refine SPL_y (y_move rfl) rfl ?_
      refine SPL_gn rfl rfl rfl rfl ?_
      refine SPL_gn rfl rfl rfl rfl ?_
      refine SPL_gn rfl rfl rfl rfl ?_
      refine SPL_gn rfl rfl rfl rfl ?_
      refine SPL_gn rfl rfl rfl rfl ?_
      refine SPL_gn rfl rfl rfl rfl ?_
      refine SPL_y (y_pick_t rfl rfl) rfl ?_
      refine SPL_y (y_move rfl) rfl ?_
      refine SPL_gn rfl rfl rfl rfl ?_
      refine SPL_gn rfl rfl rfl rfl ?_
      refine SPL_gn rfl rfl rfl rfl ?_
      refine SPL_gn rfl rfl rfl rfl ?_
      refine SPL_gn rfl rfl rfl rfl ?_
      refine SPL_gn rfl rfl rfl rfl ?_
      refine SPL_y (y_pick_t rfl rfl) rfl ?_
      refine SPL_y (y_move rfl) rfl ?_
      refine SPL_gn rfl rfl rfl rfl ?_
      refine SPL_gn rfl rfl rfl rfl ?_
      refine SPL_gn rfl rfl rfl rfl ?_
      refine SPL_gn rfl rfl rfl rfl ?_
      refine SPL_gn rfl rfl rfl rfl ?_
      refine SPL_gn rfl rfl rfl rfl ?_
      refine SPL_y (y_pick_t rfl rfl) rfl ?_
      refine SPL_y (y_move rfl) rfl ?_
      refine SPL_gn rfl rfl rfl rfl ?_
      refine SPL_gn rfl rfl rfl rfl ?_
      refine SPL_gn rfl rfl rfl rfl ?_
      refine SPL_gn rfl rfl rfl rfl ?_
      refine SPL_gn rfl rfl rfl rfl ?_
      refine SPL_gn rfl rfl rfl rfl ?_
      refine SPL_y (y_pick_t rfl rfl) rfl ?_
      refine SPL_nil ?_
      refine thenP_n ?_
      refine SP_cond_t rfl ?_
      refine SP_seq ?_
      refine SP_region ?_
      refine SPL_y (y_assign rfl) rfl ?_
      refine SPL_nil ?_
      refine thenP_n ?_
      refine SP_ret ?_
      refine thenP_ret (bodyP_ret (H' := [seg]) (Res1 rfl rfl) (by repeat (first | exact Part.nil _ | (apply Part.cons; with_reducible (first | exact P0 | exact P1 | exact P2 | exact P3 | exact P4 | exact P5 | exact P6 | exact P7 | exact P8 | exact P9 | exact P10 | exact P11 | exact P12 | exact P13 | exact P14 | exact P15 | exact P16 | exact P17 | exact P18 | exact P19 | exact P20 | exact P21 | exact P22 | exact P23)) | (apply Part.flat; simp only [List.cons_append, List.nil_append]) | (apply Part.cons; (first | exact P0 | exact P1 | exact P2 | exact P3 | exact P4 | exact P5 | exact P6 | exact P7 | exact P8 | exact P9 | exact P10 | exact P11 | exact P12 | exact P13 | exact P14 | exact P15 | exact P16 | exact P17 | exact P18 | exact P19 | exact P20 | exact P21 | exact P22 | exact P23)) | (apply Part.nilc))) ?_)
      first | exact ⟨rfl, rfl⟩ | (exfalso; omega) | (refine ⟨congrArg Value.bool (decide_eq_true ?_), rfl⟩; omega) | (exfalso; dsimp only at *; omega)
    intro h6_5
    refine SPL_y (y_move rfl) rfl ?_
    refine SPL_gy rfl rfl ?_
    refine SPL_y (y_move rfl) rfl ?_
    refine SPL_gy rfl rfl ?_
    refine SPL_y (y_nil rfl) rfl ?_
    refine SPL_gy rfl rfl ?_
    refine SPL_y (y_fa fld_115_2 rfl) rfl ?_
    refine SPL_gy rfl rfl ?_
    refine SPL_y (y_load Tryz.isAgg108 rfl (by repeat (first | exact (hpr0 _) | apply Cell.tail))) rfl ?_
    refine SPL_gy rfl rfl ?_
    refine SPL_y (y_len_l Tryz.underlying108 rfl) rfl ?_
    refine SPL_gy rfl rfl ?_
    refine SPL_if (y_gtr rfl rfl) rfl ?_ ?_
    · intro h6_12
      refine SPL_y (y_pick_f rfl rfl) rfl ?_
      refine SPL_y (y_move rfl) rfl ?_
      refine SPL_gn rfl rfl rfl rfl ?_
      refine SPL_gn rfl rfl rfl rfl ?_
      refine SPL_gn rfl rfl rfl rfl ?_
      refine SPL_gn rfl rfl rfl rfl ?_
      refine SPL_gn rfl rfl rfl rfl ?_
      refine SPL_gn rfl rfl rfl rfl ?_
      refine SPL_y (y_pick_t rfl rfl) rfl ?_
      refine SPL_y (y_move rfl) rfl ?_
      refine SPL_gn rfl rfl rfl rfl ?_
      refine SPL_gn rfl rfl rfl rfl ?_
      refine SPL_gn rfl rfl rfl rfl ?_
      refine SPL_gn rfl rfl rfl rfl ?_
      refine SPL_gn rfl rfl rfl rfl ?_
      refine SPL_gn rfl rfl rfl rfl ?_
      refine SPL_y (y_pick_t rfl rfl) rfl ?_
      refine SPL_y (y_move rfl) rfl ?_
      refine SPL_gn rfl rfl rfl rfl ?_
      refine SPL_gn rfl rfl rfl rfl ?_
      refine SPL_gn rfl rfl rfl rfl ?_
      refine SPL_gn rfl rfl rfl rfl ?_
      refine SPL_gn rfl rfl rfl rfl ?_
      refine SPL_gn rfl rfl rfl rfl ?_
      refine SPL_y (y_pick_t rfl rfl) rfl ?_
      refine SPL_nil ?_
      refine thenP_n ?_
      refine SP_cond_t rfl ?_
      refine SP_seq ?_
      refine SP_region ?_
      refine SPL_y (y_assign rfl) rfl ?_
      refine SPL_nil ?_
      refine thenP_n ?_
      refine SP_ret ?_
      refine thenP_ret (bodyP_ret (H' := [seg]) (Res1 rfl rfl) (by repeat (first | exact Part.nil _ | (apply Part.cons; with_reducible (first | exact P0 | exact P1 | exact P2 | exact P3 | exact P4 | exact P5 | exact P6 | exact P7 | exact P8 | exact P9 | exact P10 | exact P11 | exact P12 | exact P13 | exact P14 | exact P15 | exact P16 | exact P17 | exact P18 | exact P19 | exact P20 | exact P21 | exact P22 | exact P23)) | (apply Part.flat; simp only [List.cons_append, List.nil_append]) | (apply Part.cons; (first | exact P0 | exact P1 | exact P2 | exact P3 | exact P4 | exact P5 | exact P6 | exact P7 | exact P8 | exact P9 | exact P10 | exact P11 | exact P12 | exact P13 | exact P14 | exact P15 | exact P16 | exact P17 | exact P18 | exact P19 | exact P20 | exact P21 | exact P22 | exact P23)) | (apply Part.nilc))) ?_)
      first | exact ⟨rfl, rfl⟩ | (exfalso; omega) | (refine ⟨congrArg Value.bool (decide_eq_true ?_), rfl⟩; omega) | (exfalso; dsimp only at *; omega)
    intro h6_12
    refine SPL_y (y_pick_f rfl rfl) rfl ?_
    refine SPL_y (y_move rfl) rfl ?_
    refine SPL_gy rfl rfl ?_
    refine SPL_y (y_move rfl) rfl ?_
    refine SPL_gy rfl rfl ?_
    refine SPL_y (y_nil rfl) rfl ?_
    refine SPL_gy rfl rfl ?_
    refine SPL_y (y_fa fld_115_6 rfl) rfl ?_
    refine SPL_gy rfl rfl ?_
    refine SPL_y (y_load Tryz.isAgg111 rfl (by repeat (first | exact (hlh _) | apply Cell.tail))) rfl ?_
    refine SPL_gy rfl rfl ?_
    refine SPL_y (y_len_l Tryz.underlying111 rfl) rfl ?_
    refine SPL_gy rfl rfl ?_
    refine SPL_if (y_lss rfl rfl) rfl ?_ ?_
    · intro h6_20
      refine SPL_y (y_pick_f rfl rfl) rfl ?_
      refine SPL_y (y_move rfl) rfl ?_
      refine SPL_gn rfl rfl rfl rfl ?_
      refine SPL_gn rfl rfl rfl rfl ?_
      refine SPL_gn rfl rfl rfl rfl ?_
      refine SPL_gn rfl rfl rfl rfl ?_
      refine SPL_gn rfl rfl rfl rfl ?_
      refine SPL_gn rfl rfl rfl rfl ?_
      refine SPL_y (y_pick_t rfl rfl) rfl ?_
      refine SPL_y (y_move rfl) rfl ?_
      refine SPL_gn rfl rfl rfl rfl ?_
      refine SPL_gn rfl rfl rfl rfl ?_
      refine SPL_gn rfl rfl rfl rfl ?_
      refine SPL_gn rfl rfl rfl rfl ?_
      refine SPL_gn rfl rfl rfl rfl ?_
      refine SPL_gn rfl rfl rfl rfl ?_
      refine SPL_y (y_pick_t rfl rfl) rfl ?_
      refine SPL_nil ?_
      refine thenP_n ?_
      refine SP_cond_t rfl ?_
      refine SP_seq ?_
      refine SP_region ?_
      refine SPL_y (y_assign rfl) rfl ?_
      refine SPL_nil ?_
      refine thenP_n ?_
      refine SP_ret ?_
      refine thenP_ret (bodyP_ret (H' := [seg]) (Res1 rfl rfl) (by repeat (first | exact Part.nil _ | (apply Part.cons; with_reducible (first | exact P0 | exact P1 | exact P2 | exact P3 | exact P4 | exact P5 | exact P6 | exact P7 | exact P8 | exact P9 | exact P10 | exact P11 | exact P12 | exact P13 | exact P14 | exact P15 | exact P16 | exact P17 | exact P18 | exact P19 | exact P20 | exact P21 | exact P22 | exact P23)) | (apply Part.flat; simp only [List.cons_append, List.nil_append]) | (apply Part.cons; (first | exact P0 | exact P1 | exact P2 | exact P3 | exact P4 | exact P5 | exact P6 | exact P7 | exact P8 | exact P9 | exact P10 | exact P11 | exact P12 | exact P13 | exact P14 | exact P15 | exact P16 | exact P17 | exact P18 | exact P19 | exact P20 | exact P21 | exact P22 | exact P23)) | (apply Part.nilc))) ?_)
      first | exact ⟨rfl, rfl⟩ | (exfalso; omega) | (refine ⟨congrArg Value.bool (decide_eq_true ?_), rfl⟩; omega) | (exfalso; dsimp only at *; omega)
    intro h6_20
    refine SPL_y (y_pick_f rfl rfl) rfl ?_
    refine SPL_y (y_move rfl) rfl ?_
    refine SPL_gy rfl rfl ?_
    refine SPL_y (y_move rfl) rfl ?_
    refine SPL_gy rfl rfl ?_
    refine SPL_y (y_nil rfl) rfl ?_
    refine SPL_gy rfl rfl ?_
    refine SPL_y (y_fa fld_115_6 rfl) rfl ?_
    refine SPL_gy rfl rfl ?_
    refine SPL_y (y_load Tryz.isAgg111 rfl (by repeat (first | exact (hlh _) | apply Cell.tail))) rfl ?_
    refine SPL_gy rfl rfl ?_
    refine SPL_y (y_len_l Tryz.underlying111 rfl) rfl ?_
    refine SPL_gy rfl rfl ?_
    refine SPL_if (y_gtr rfl rfl) rfl ?_ ?_
    · intro h6_28
      refine SPL_y (y_pick_f rfl rfl) rfl ?_
      refine SPL_y (y_move rfl) rfl ?_
      refine SPL_gn rfl rfl rfl rfl ?_
      refine SPL_gn rfl rfl rfl rfl ?_
      refine SPL_gn rfl rfl rfl rfl ?_
      refine SPL_gn rfl rfl rfl rfl ?_
      refine SPL_gn rfl rfl rfl rfl ?_
      refine SPL_gn rfl rfl rfl rfl ?_
      refine SPL_y (y_pick_t rfl rfl) rfl ?_
      refine SPL_nil ?_
      refine thenP_n ?_
      refine SP_cond_t rfl ?_
      refine SP_seq ?_
      refine SP_region ?_
      refine SPL_y (y_assign rfl) rfl ?_
      refine SPL_nil ?_
      refine thenP_n ?_
      refine SP_ret ?_
      refine thenP_ret (bodyP_ret (H' := [seg]) (Res1 rfl rfl) (by repeat (first | exact Part.nil _ | (apply Part.cons; with_reducible (first | exact P0 | exact P1 | exact P2 | exact P3 | exact P4 | exact P5 | exact P6 | exact P7 | exact P8 | exact P9 | exact P10 | exact P11 | exact P12 | exact P13 | exact P14 | exact P15 | exact P16 | exact P17 | exact P18 | exact P19 | exact P20 | exact P21 | exact P22 | exact P23)) | (apply Part.flat; simp only [List.cons_append, List.nil_append]) | (apply Part.cons; (first | exact P0 | exact P1 | exact P2 | exact P3 | exact P4 | exact P5 | exact P6 | exact P7 | exact P8 | exact P9 | exact P10 | exact P11 | exact P12 | exact P13 | exact P14 | exact P15 | exact P16 | exact P17 | exact P18 | exact P19 | exact P20 | exact P21 | exact P22 | exact P23)) | (apply Part.nilc))) ?_)
      first | exact ⟨rfl, rfl⟩ | (exfalso; omega) | (refine ⟨congrArg Value.bool (decide_eq_true ?_), rfl⟩; omega) | (exfalso; dsimp only at *; omega)
    intro h6_28
    refine SPL_y (y_pick_f rfl rfl) rfl ?_
    refine SPL_y (y_move rfl) rfl ?_
    refine SPL_gy rfl rfl ?_
    refine SPL_y (y_move rfl) rfl ?_
    refine SPL_gy rfl rfl ?_
    refine SPL_y (y_nil rfl) rfl ?_
    refine SPL_gy rfl rfl ?_
    refine SPL_y (y_fa fld_115_9 rfl) rfl ?_
    refine SPL_gy rfl rfl ?_
    refine SPL_y (y_load Tryz.isAgg107 rfl (by repeat (first | exact hM.threads | apply Cell.tail))) rfl ?_
    refine SPL_gy rfl rfl ?_
    refine SPL_y (y_len_l Tryz.underlying107 rfl) rfl ?_
    refine SPL_gy rfl rfl ?_
    refine SPL_ifn (y_lss rfl rfl) rfl ?_ ?_
    · intro h6_36
      refine SPL_y (y_pick_f rfl rfl) rfl ?_
      refine SPL_nil ?_
      refine thenP_n ?_
      refine SP_cond_f rfl ?_
      refine SP_skip ?_
      refine thenP_n ?_
      exact Mid.intro (()) (trivial) (by repeat (first | exact Sub.nil _ | refine Sub.cons rfl ?_)) (by repeat (first | exact Part.nil _ | (apply Part.cons; with_reducible (first | exact P0 | exact P1 | exact P2 | exact P3 | exact P4 | exact P5 | exact P6 | exact P7 | exact P8 | exact P9 | exact P10 | exact P11 | exact P12 | exact P13 | exact P14 | exact P15 | exact P16 | exact P17 | exact P18 | exact P19 | exact P20 | exact P21 | exact P22 | exact P23)) | (apply Part.flat; simp only [List.cons_append, List.nil_append]) | (apply Part.cons; (first | exact P0 | exact P1 | exact P2 | exact P3 | exact P4 | exact P5 | exact P6 | exact P7 | exact P8 | exact P9 | exact P10 | exact P11 | exact P12 | exact P13 | exact P14 | exact P15 | exact P16 | exact P17 | exact P18 | exact P19 | exact P20 | exact P21 | exact P22 | exact P23)) | (apply Part.nilc)))
    intro h6_36
    refine SPL_y (y_pick_f rfl rfl) rfl ?_
    refine SPL_nil ?_
    refine thenP_n ?_
    refine SP_cond_t rfl ?_
    refine SP_seq ?_
    refine SP_region ?_
    refine SPL_y (y_assign rfl) rfl ?_
    refine SPL_nil ?_
    refine thenP_n ?_
    refine SP_ret ?_
    refine thenP_ret (bodyP_ret (H' := [seg]) (Res1 rfl rfl) (by repeat (first | exact Part.nil _ | (apply Part.cons; with_reducible (first | exact P0 | exact P1 | exact P2 | exact P3 | exact P4 | exact P5 | exact P6 | exact P7 | exact P8 | exact P9 | exact P10 | exact P11 | exact P12 | exact P13 | exact P14 | exact P15 | exact P16 | exact P17 | exact P18 | exact P19 | exact P20 | exact P21 | exact P22 | exact P23)) | (apply Part.flat; simp only [List.cons_append, List.nil_append]) | (apply Part.cons; (first | exact P0 | exact P1 | exact P2 | exact P3 | exact P4 | exact P5 | exact P6 | exact P7 | exact P8 | exact P9 | exact P10 | exact P11 | exact P12 | exact P13 | exact P14 | exact P15 | exact P16 | exact P17 | exact P18 | exact P19 | exact P20 | exact P21 | exact P22 | exact P23)) | (apply Part.nilc))) ?_)
    first | exact ⟨rfl, rfl⟩ | (exfalso; omega) | (refine ⟨congrArg Value.bool (decide_eq_true ?_), rfl⟩; omega) | (exfalso; dsimp only at *; omega)
  rintro _ -
  refine SP_mid (G := Unit) (fun _ => [(0, pt b.vb), (1, I (-1)), (2, I 0)]) (fun _ => [seg]) (fun _ => True) ?_ ?_
  · refine SP_seq ?_
    refine SP_draw 999 [(0, 0), (1, 0), (2, 0), (5, 0), (6, 0), (7, 0), (3, 1), (4, 0), (8, 1), (9, 0), (10, 0), (11, 0), (12, 0), (13, 0), (14, 0), (15, 1), (16, 0), (17, 0), (18, 0)] mixed (by kernel_rfl) (fun _ _ _ _ _ h => h) (Part.refl _) ?_
    refine SPO_p rfl (y_move rfl) rfl ?_
    refine SPO_p rfl (y_nil rfl) rfl ?_
    refine SPO_p rfl (y_fa fld_115_8 rfl) rfl ?_
    refine SPO_p rfl (y_move rfl) rfl ?_
    refine SPO_p rfl (y_nil rfl) rfl ?_
    refine SPO_p rfl (y_fa fld_115_7 rfl) rfl ?_
    refine SPO_h rfl (y_load Tryz.isAgg113 rfl (by repeat (first | exact (heh _) | apply Cell.tail))) rfl ?_
    refine SPO_p rfl (y_len_l Tryz.underlying113 rfl) rfl ?_
    refine SPO_h rfl (y_load Tryz.isAgg112 rfl (by repeat (first | exact (huh _) | apply Cell.tail))) rfl ?_
    refine SPO_p rfl (y_len_l Tryz.underlying112 rfl) rfl ?_
    refine SPO_if rfl (y_gtr rfl rfl) rfl ?_ ?_
    · intro h8_10
      refine SPO_p rfl (y_move rfl) rfl ?_
      refine SPO_gn (.inl rfl) rfl rfl rfl rfl rfl ?_
      refine SPO_gn (.inl rfl) rfl rfl rfl rfl rfl ?_
      refine SPO_gn (.inl rfl) rfl rfl rfl rfl rfl ?_
      refine SPO_gn (.inr rfl) rfl rfl rfl rfl rfl ?_
      refine SPO_gn (.inl rfl) rfl rfl rfl rfl rfl ?_
      refine SPO_gn (.inl rfl) rfl rfl rfl rfl rfl ?_
      refine SPO_p rfl (y_pick_t rfl rfl) rfl ?_
      refine SPO_nil ?_
      refine thenP_n ?_
      refine SP_cond_t rfl ?_
      refine SP_seq ?_
      refine SP_region ?_
      refine SPL_y (y_assign rfl) rfl ?_
      refine SPL_nil ?_
      refine thenP_n ?_
      refine SP_ret ?_
      refine thenP_ret (bodyP_ret (H' := [seg]) (Res1 rfl rfl) (by repeat (first | exact Part.nil _ | (apply Part.cons; with_reducible (first | exact P0 | exact P1 | exact P2 | exact P3 | exact P4 | exact P5 | exact P6 | exact P7 | exact P8 | exact P9 | exact P10 | exact P11 | exact P12 | exact P13 | exact P14 | exact P15 | exact P16 | exact P17 | exact P18 | exact P19 | exact P20 | exact P21 | exact P22 | exact P23)) | (apply Part.flat; simp only [List.cons_append, List.nil_append]) | (apply Part.cons; (first | exact P0 | exact P1 | exact P2 | exact P3 | exact P4 | exact P5 | exact P6 | exact P7 | exact P8 | exact P9 | exact P10 | exact P11 | exact P12 | exact P13 | exact P14 | exact P15 | exact P16 | exact P17 | exact P18 | exact P19 | exact P20 | exact P21 | exact P22 | exact P23)) | (apply Part.nilc))) ?_)
      first | exact ⟨rfl, rfl⟩ | (exfalso; omega) | (refine ⟨congrArg Value.bool (decide_eq_true ?_), rfl⟩; omega) | (exfalso; dsimp only at *; omega)
    intro h8_10
    refine SPO_p rfl (y_move rfl) rfl ?_
    refine SPO_py rfl rfl rfl (y_move rfl) rfl ?_
    refine SPO_py rfl rfl rfl (y_nil rfl) rfl ?_
    refine SPO_py rfl rfl rfl (y_fa fld_115_7 rfl) rfl ?_
    refine SPO_hy rfl rfl rfl (y_load Tryz.isAgg112 rfl (by repeat (first | exact (huh _) | apply Cell.tail))) rfl ?_
    refine SPO_py rfl rfl rfl (y_len_l Tryz.underlying112 rfl) rfl ?_
    refine SPO_pyifn rfl rfl rfl (y_gtr rfl rfl) rfl ?_ ?_
    · intro h8_17
      refine SPO_p rfl (y_pick_f rfl rfl) rfl ?_
      refine SPO_nil ?_
      refine thenP_n ?_
      refine SP_cond_f rfl ?_
      refine SP_skip ?_
      refine thenP_n ?_
      exact Mid.intro (()) (trivial) (by repeat (first | exact Sub.nil _ | refine Sub.cons rfl ?_)) (by repeat (first | exact Part.nil _ | (apply Part.cons; with_reducible (first | exact P0 | exact P1 | exact P2 | exact P3 | exact P4 | exact P5 | exact P6 | exact P7 | exact P8 | exact P9 | exact P10 | exact P11 | exact P12 | exact P13 | exact P14 | exact P15 | exact P16 | exact P17 | exact P18 | exact P19 | exact P20 | exact P21 | exact P22 | exact P23)) | (apply Part.flat; simp only [List.cons_append, List.nil_append]) | (apply Part.cons; (first | exact P0 | exact P1 | exact P2 | exact P3 | exact P4 | exact P5 | exact P6 | exact P7 | exact P8 | exact P9 | exact P10 | exact P11 | exact P12 | exact P13 | exact P14 | exact P15 | exact P16 | exact P17 | exact P18 | exact P19 | exact P20 | exact P21 | exact P22 | exact P23)) | (apply Part.nilc)))
    intro h8_17
    refine SPO_p rfl (y_pick_f rfl rfl) rfl ?_
    refine SPO_nil ?_
    refine thenP_n ?_
    refine SP_cond_t rfl ?_
    refine SP_seq ?_
    refine SP_region ?_
    refine SPL_y (y_assign rfl) rfl ?_
    refine SPL_nil ?_
    refine thenP_n ?_
    refine SP_ret ?_
    refine thenP_ret (bodyP_ret (H' := [seg]) (Res1 rfl rfl) (by repeat (first | exact Part.nil _ | (apply Part.cons; with_reducible (first | exact P0 | exact P1 | exact P2 | exact P3 | exact P4 | exact P5 | exact P6 | exact P7 | exact P8 | exact P9 | exact P10 | exact P11 | exact P12 | exact P13 | exact P14 | exact P15 | exact P16 | exact P17 | exact P18 | exact P19 | exact P20 | exact P21 | exact P22 | exact P23)) | (apply Part.flat; simp only [List.cons_append, List.nil_append]) | (apply Part.cons; (first | exact P0 | exact P1 | exact P2 | exact P3 | exact P4 | exact P5 | exact P6 | exact P7 | exact P8 | exact P9 | exact P10 | exact P11 | exact P12 | exact P13 | exact P14 | exact P15 | exact P16 | exact P17 | exact P18 | exact P19 | exact P20 | exact P21 | exact P22 | exact P23)) | (apply Part.nilc))) ?_)
    first | exact ⟨rfl, rfl⟩ | (exfalso; omega) | (refine ⟨congrArg Value.bool (decide_eq_true ?_), rfl⟩; omega) | (exfalso; dsimp only at *; omega)
  rintro _ -
  refine SP_mid (G := Unit) (fun _ => [(0, pt b.vb), (1, I (-1)), (2, I 0), (8, I m.vs.tabs.length)]) (fun _ => [seg]) (fun _ => True) ?_ ?_
  · have htc : ∀ H : Hp, Cell (seg :: H) b.vb (0 + 1) (pt b.tb) := fun H => hM.tabs
    obtain ⟨r1, stb, r2, hseg, htbs, hputB⟩ := hM.opnB
    subst hseg
    have htc2 : ∀ H : Hp, Cell (r1 :: stb :: r2 :: H) b.vb (0 + 1) (pt b.tb) := fun H => Cell.opened (pre := [r1, stb, r2]) (htc [])
    refine SP_openAt [r1, stb, r2] (by first | exact P0 | exact P1 | exact P2 | exact P3 | exact P4 | exact P5 | exact P6 | exact P7 | exact P8 | exact P9 | exact P10 | exact P11 | exact P12 | exact P13 | exact P14 | exact P15 | exact P16 | exact P17 | exact P18 | exact P19 | exact P20 | exact P21 | exact P22 | exact P23) ?_
    simp only [List.cons_append, List.nil_append]
    refine SP_region ?_
    refine SPL_y (y_move rfl) rfl ?_
    refine SPL_y (y_nil rfl) rfl ?_
    refine SPL_y (y_fa fld_115_1 rfl) rfl ?_
    refine SPL_y (y_load Tryz.isAgg54 rfl (by repeat (first | exact (htc2 _) | apply Cell.tail))) rfl ?_
    refine SPL_one rfl (SP1_call (tabs_Count b.tb b.nb m.vs.tabs stb htbs) Tryz.call178 rfl rfl (by repeat (first | exact Part.nil _ | (apply Part.cons; with_reducible (first | exact P0 | exact P1 | exact P2 | exact P3 | exact P4 | exact P5 | exact P6 | exact P7 | exact P8 | exact P9 | exact P10 | exact P11 | exact P12 | exact P13 | exact P14 | exact P15 | exact P16 | exact P17 | exact P18 | exact P19 | exact P20 | exact P21 | exact P22 | exact P23)) | (apply Part.flat; simp only [List.cons_append, List.nil_append]) | (apply Part.cons; (first | exact P0 | exact P1 | exact P2 | exact P3 | exact P4 | exact P5 | exact P6 | exact P7 | exact P8 | exact P9 | exact P10 | exact P11 | exact P12 | exact P13 | exact P14 | exact P15 | exact P16 | exact P17 | exact P18 | exact P19 | exact P20 | exact P21 | exact P22 | exact P23)) | (apply Part.nilc))) ?_)
    rintro v post H' ⟨rfl, rfl⟩ hH
    try simp only [List.cons_append, List.nil_append] at hH
    subst hH
    refine SPL_y (y_assign rfl) rfl ?_
    refine SPL_nil ?_
    refine thenP_n ?_
    exact Mid.intro (()) (trivial) (by repeat (first | exact Sub.nil _ | refine Sub.cons rfl ?_)) (by repeat (first | exact Part.nil _ | (apply Part.cons; with_reducible (first | exact P0 | exact P1 | exact P2 | exact P3 | exact P4 | exact P5 | exact P6 | exact P7 | exact P8 | exact P9 | exact P10 | exact P11 | exact P12 | exact P13 | exact P14 | exact P15 | exact P16 | exact P17 | exact P18 | exact P19 | exact P20 | exact P21 | exact P22 | exact P23)) | (apply Part.flat; simp only [List.cons_append, List.nil_append]) | (apply Part.cons; (first | exact P0 | exact P1 | exact P2 | exact P3 | exact P4 | exact P5 | exact P6 | exact P7 | exact P8 | exact P9 | exact P10 | exact P11 | exact P12 | exact P13 | exact P14 | exact P15 | exact P16 | exact P17 | exact P18 | exact P19 | exact P20 | exact P21 | exact P22 | exact P23)) | (apply Part.nilc)))
  rintro _ -
  refine SP_mid (G := Unit) (fun _ => [(0, pt b.vb), (1, I (-1)), (2, I 0)]) (fun _ => [seg]) (fun _ => True) ?_ ?_
  · refine SP_seq ?_
    refine SP_region ?_
    refine SPL_y (y_move rfl) rfl ?_
    refine SPL_ifn (y_lss rfl rfl) rfl ?_ ?_
    · intro h11_1
      refine SPL_nil ?_
      refine thenP_n ?_
      refine SP_cond_f rfl ?_
      refine SP_skip ?_
      refine thenP_n ?_
      exact Mid.intro (()) (trivial) (by repeat (first | exact Sub.nil _ | refine Sub.cons rfl ?_)) (by repeat (first | exact Part.nil _ | (apply Part.cons; with_reducible (first | exact P0 | exact P1 | exact P2 | exact P3 | exact P4 | exact P5 | exact P6 | exact P7 | exact P8 | exact P9 | exact P10 | exact P11 | exact P12 | exact P13 | exact P14 | exact P15 | exact P16 | exact P17 | exact P18 | exact P19 | exact P20 | exact P21 | exact P22 | exact P23)) | (apply Part.flat; simp only [List.cons_append, List.nil_append]) | (apply Part.cons; (first | exact P0 | exact P1 | exact P2 | exact P3 | exact P4 | exact P5 | exact P6 | exact P7 | exact P8 | exact P9 | exact P10 | exact P11 | exact P12 | exact P13 | exact P14 | exact P15 | exact P16 | exact P17 | exact P18 | exact P19 | exact P20 | exact P21 | exact P22 | exact P23)) | (apply Part.nilc)))
    intro h11_1
    refine SPL_nil ?_
    refine thenP_n ?_
    refine SP_cond_t rfl ?_
    refine SP_seq ?_
    refine SP_region ?_
    refine SPL_y (y_assign rfl) rfl ?_
    refine SPL_nil ?_
    refine thenP_n ?_
    refine SP_ret ?_
    refine thenP_ret (bodyP_ret (H' := [seg]) (Res1 rfl rfl) (by repeat (first | exact Part.nil _ | (apply Part.cons; with_reducible (first | exact P0 | exact P1 | exact P2 | exact P3 | exact P4 | exact P5 | exact P6 | exact P7 | exact P8 | exact P9 | exact P10 | exact P11 | exact P12 | exact P13 | exact P14 | exact P15 | exact P16 | exact P17 | exact P18 | exact P19 | exact P20 | exact P21 | exact P22 | exact P23)) | (apply Part.flat; simp only [List.cons_append, List.nil_append]) | (apply Part.cons; (first | exact P0 | exact P1 | exact P2 | exact P3 | exact P4 | exact P5 | exact P6 | exact P7 | exact P8 | exact P9 | exact P10 | exact P11 | exact P12 | exact P13 | exact P14 | exact P15 | exact P16 | exact P17 | exact P18 | exact P19 | exact P20 | exact P21 | exact P22 | exact P23)) | (apply Part.nilc))) ?_)
    first | exact ⟨rfl, rfl⟩ | (exfalso; omega) | (refine ⟨congrArg Value.bool (decide_eq_true ?_), rfl⟩; omega) | (exfalso; dsimp only at *; omega)
  rintro _ -
  refine SP_seq ?_
  refine SP_region ?_
  refine SPL_y (y_assign rfl) rfl ?_
  refine SPL_y (y_assign rfl) rfl ?_
  refine SPL_y (y_assign rfl) rfl ?_
  refine SPL_nil ?_
  refine thenP_n ?_
  refine SP_seq ?_
  refine SP_seq ?_
  refine SP_region ?_
  refine SPL_y (y_move rfl) rfl ?_
  refine SPL_y (y_nil rfl) rfl ?_
  refine SPL_y (y_fa fld_115_2 rfl) rfl ?_
  refine SPL_y (y_load Tryz.isAgg108 rfl (by repeat (first | exact (hpr0 _) | apply Cell.tail))) rfl ?_
  refine SPL_y (y_len_l Tryz.underlying108 rfl) rfl ?_
  refine SPL_y (y_move rfl) rfl ?_
  refine SPL_nil ?_
  refine thenP_n ?_
  refine SP_block ?_
  refine SP_loop (G := Nat × Int × Int × Int) (fun g => m.pg.protos.length - g.1) (fun g => [(0, pt b.vb), (1, I (-1)), (2, I 0), (9, I g.2.1), (10, I g.2.2.1), (11, I g.2.2.2), (166, .slice (some ⟨pq, 0, none⟩) m.pg.protos.length ph.pc), (167, I m.pg.protos.length), (168, I ((g.1 : Nat) : Int))]) (fun _ => [seg]) (fun g => g.1 ≤ m.pg.protos.length ∧ g.2.1 = U g.1 ∧ g.2.2.1 = K g.1 ∧ g.2.2.2 = C g.1) ((0, 0, 0, 0)) (⟨Nat.zero_le _, hU0.symm, hK0.symm, hC0.symm⟩) (by repeat (first | exact Sub.nil _ | refine Sub.cons rfl ?_)) (by repeat (first | exact Part.nil _ | (apply Part.cons; with_reducible (first | exact P0 | exact P1 | exact P2 | exact P3 | exact P4 | exact P5 | exact P6 | exact P7 | exact P8 | exact P9 | exact P10 | exact P11 | exact P12 | exact P13 | exact P14 | exact P15 | exact P16 | exact P17 | exact P18 | exact P19 | exact P20 | exact P21 | exact P22 | exact P23)) | (apply Part.flat; simp only [List.cons_append, List.nil_append]) | (apply Part.cons; (first | exact P0 | exact P1 | exact P2 | exact P3 | exact P4 | exact P5 | exact P6 | exact P7 | exact P8 | exact P9 | exact P10 | exact P11 | exact P12 | exact P13 | exact P14 | exact P15 | exact P16 | exact P17 | exact P18 | exact P19 | exact P20 | exact P21 | exact P22 | exact P23)) | (apply Part.nilc))) ?_
  rintro ⟨j, up, kk, co⟩ ⟨hj, hj1, hj2, hj3⟩
  dsimp only at hj hj1 hj2 hj3 ⊢
  refine SP_seq ?_
  refine SP_region ?_
  refine SPL_if (y_lss rfl rfl) rfl ?_ ?_
  · intro h15_0
    refine SPL_nil ?_
    refine thenP_n ?_
    refine SP_seq ?_
    refine SP_cond_t rfl ?_
    refine SP_skip ?_
    refine thenP_n ?_
    refine SP_seq ?_
    refine SP_block ?_
    refine SP_seq ?_
    obtain ⟨p, hp9⟩ : ∃ p, m.pg.protos[j]? = some p := ⟨_, List.getElem?_eq_getElem (by omega)⟩
    have hkg := getI_nat hp9 (by omega)
    obtain ⟨⟨ht1, ht2, ht3⟩, ht4, ht5, ⟨hs1, hs2, hs3⟩, ht7⟩ := htl j p hp9
    refine SP_region ?_
    refine SPL_y (y_ia Tryz.underlying108 Tryz.sizeOf252 rfl rfl (by omega)) rfl ?_
    refine SPL_y (y_loads Tryz.isAgg252 Tryz.sizeOf252 rfl rfl (by repeat (first | exact (hPr _ _ hkg _) | apply Cells.tail))) rfl ?_
    refine SPL_one rfl (SP1_alloc Tryz.zeroValue252 rfl rfl ?_)
    intro b13
    refine SPL_one rfl (SP1_storeAll Tryz.sizeOf252 rfl rfl rfl rfl rfl (by first | exact U0 | exact U1 | exact U2 | exact U3 | exact U4 | exact U5 | exact U6 | exact U7 | exact U8 | exact U9 | exact U10 | exact U11 | exact U12 | exact U13 | exact U14 | exact U15 | exact U16 | exact U17 | exact U18 | exact U19 | exact U20 | exact U21 | exact U22 | exact U23) (by rfl) ?_)
    refine SPL_nil ?_
    refine thenP_n ?_
    refine SP_mid (G := Unit) (fun _ => [(0, pt b.vb), (1, I (-1)), (2, I 0), (9, I up), (10, I kk), (11, I co), (13, .pointer (some ⟨b13, 0, none⟩)), (166, .slice (some ⟨pq, 0, none⟩) m.pg.protos.length ph.pc), (167, I m.pg.protos.length), (168, I j)]) (fun _ => [seg, blk b13 252 (prV p)]) (fun _ => True) ?_ ?_
    · refine SP_seq ?_
      refine SP_region ?_
      refine SPL_y (y_fa fld_252_2 rfl) rfl ?_
      refine SPL_y (y_load Tryz.isAgg3 rfl (by repeat (first | exact Cell.amid hpre rfl | exact Cell.head rfl | apply Cell.tail))) rfl ?_
      refine SPL_y (y_move rfl) rfl ?_
      refine SPL_if (y_neq rfl rfl) rfl ?_ ?_
      · intro h17_3
        refine SPL_y (y_move rfl) rfl ?_
        refine SPL_gn rfl rfl rfl rfl ?_
        refine SPL_gn rfl rfl rfl rfl ?_
        refine SPL_gn rfl rfl rfl rfl ?_
        refine SPL_gn rfl rfl rfl rfl ?_
        refine SPL_y (y_pick_t rfl rfl) rfl ?_
        refine SPL_y (y_move rfl) rfl ?_
        refine SPL_gn rfl rfl rfl rfl ?_
        refine SPL_gn rfl rfl rfl rfl ?_
        refine SPL_gn rfl rfl rfl rfl ?_
        refine SPL_gn rfl rfl rfl rfl ?_
        refine SPL_y (y_pick_t rfl rfl) rfl ?_
        refine SPL_y (y_move rfl) rfl ?_
        refine SPL_gn rfl rfl rfl rfl ?_
        refine SPL_gn rfl rfl rfl rfl ?_
        refine SPL_gn rfl rfl rfl rfl ?_
        refine SPL_y (y_pick_t rfl rfl) rfl ?_
        refine SPL_y (y_move rfl) rfl ?_
        refine SPL_gn rfl rfl rfl rfl ?_
        refine SPL_gn rfl rfl rfl rfl ?_
        refine SPL_gn rfl rfl rfl rfl ?_
        refine SPL_y (y_pick_t rfl rfl) rfl ?_
        refine SPL_y (y_move rfl) rfl ?_
        refine SPL_gn rfl rfl rfl rfl ?_
        refine SPL_gn rfl rfl rfl rfl ?_
        refine SPL_gn rfl rfl rfl rfl ?_
        refine SPL_y (y_pick_t rfl rfl) rfl ?_
        refine SPL_y (y_move rfl) rfl ?_
        refine SPL_gn rfl rfl rfl rfl ?_
        refine SPL_gn rfl rfl rfl rfl ?_
        refine SPL_gn rfl rfl rfl rfl ?_
        refine SPL_y (y_pick_t rfl rfl) rfl ?_
        refine SPL_nil ?_
        refine thenP_n ?_
        refine SP_cond_t rfl ?_
        refine SP_seq ?_
        refine SP_region ?_
        refine SPL_y (y_assign rfl) rfl ?_
        refine SPL_nil ?_
        refine thenP_n ?_
        refine SP_ret ?_
        refine thenP_ret (inBlockP_ret (thenP_ret (thenP_ret (inBlockP_ret (thenP_ret (bodyP_ret (H' := [seg]) (Res1 rfl rfl) (by repeat (first | exact Part.nil _ | (apply Part.cons; with_reducible (first | exact P0 | exact P1 | exact P2 | exact P3 | exact P4 | exact P5 | exact P6 | exact P7 | exact P8 | exact P9 | exact P10 | exact P11 | exact P12 | exact P13 | exact P14 | exact P15 | exact P16 | exact P17 | exact P18 | exact P19 | exact P20 | exact P21 | exact P22 | exact P23)) | (apply Part.flat; simp only [List.cons_append, List.nil_append]) | (apply Part.cons; (first | exact P0 | exact P1 | exact P2 | exact P3 | exact P4 | exact P5 | exact P6 | exact P7 | exact P8 | exact P9 | exact P10 | exact P11 | exact P12 | exact P13 | exact P14 | exact P15 | exact P16 | exact P17 | exact P18 | exact P19 | exact P20 | exact P21 | exact P22 | exact P23)) | (apply Part.nilc))) ?_))))))
        first | exact ⟨rfl, rfl⟩ | (exfalso; omega) | (refine ⟨congrArg Value.bool (decide_eq_true ?_), rfl⟩; omega) | (exfalso; dsimp only at *; omega)
      intro h17_3
      refine SPL_y (y_move rfl) rfl ?_
      refine SPL_gy rfl rfl ?_
      refine SPL_y (y_fa fld_252_4 rfl) rfl ?_
      refine SPL_gy rfl rfl ?_
      refine SPL_y (y_load Tryz.isAgg3 rfl (by repeat (first | exact Cell.amid hpre rfl | exact Cell.head rfl | apply Cell.tail))) rfl ?_
      refine SPL_gy rfl rfl ?_
      refine SPL_y (y_move rfl) rfl ?_
      refine SPL_gy rfl rfl ?_
      refine SPL_if (y_neq rfl rfl) rfl ?_ ?_
      · intro h17_8
        refine SPL_y (y_pick_f rfl rfl) rfl ?_
        refine SPL_y (y_move rfl) rfl ?_
        refine SPL_gn rfl rfl rfl rfl ?_
        refine SPL_gn rfl rfl rfl rfl ?_
        refine SPL_gn rfl rfl rfl rfl ?_
        refine SPL_gn rfl rfl rfl rfl ?_
        refine SPL_y (y_pick_t rfl rfl) rfl ?_
        refine SPL_y (y_move rfl) rfl ?_
        refine SPL_gn rfl rfl rfl rfl ?_
        refine SPL_gn rfl rfl rfl rfl ?_
        refine SPL_gn rfl rfl rfl rfl ?_
        refine SPL_y (y_pick_t rfl rfl) rfl ?_
        refine SPL_y (y_move rfl) rfl ?_
        refine SPL_gn rfl rfl rfl rfl ?_
        refine SPL_gn rfl rfl rfl rfl ?_
        refine SPL_gn rfl rfl rfl rfl ?_
        refine SPL_y (y_pick_t rfl rfl) rfl ?_
        refine SPL_y (y_move rfl) rfl ?_
        refine SPL_gn rfl rfl rfl rfl ?_
        refine SPL_gn rfl rfl rfl rfl ?_
        refine SPL_gn rfl rfl rfl rfl ?_
        refine SPL_y (y_pick_t rfl rfl) rfl ?_
        refine SPL_y (y_move rfl) rfl ?_
        refine SPL_gn rfl rfl rfl rfl ?_
        refine SPL_gn rfl rfl rfl rfl ?_
        refine SPL_gn rfl rfl rfl rfl ?_
        refine SPL_y (y_pick_t rfl rfl) rfl ?_
        refine SPL_nil ?_
        refine thenP_n ?_
        refine SP_cond_t rfl ?_
        refine SP_seq ?_
        refine SP_region ?_
        refine SPL_y (y_assign rfl) rfl ?_
        refine SPL_nil ?_
        refine thenP_n ?_
        refine SP_ret ?_
        refine thenP_ret (inBlockP_ret (thenP_ret (thenP_ret (inBlockP_ret (thenP_ret (bodyP_ret (H' := [seg]) (Res1 rfl rfl) (by repeat (first | exact Part.nil _ | (apply Part.cons; with_reducible (first | exact P0 | exact P1 | exact P2 | exact P3 | exact P4 | exact P5 | exact P6 | exact P7 | exact P8 | exact P9 | exact P10 | exact P11 | exact P12 | exact P13 | exact P14 | exact P15 | exact P16 | exact P17 | exact P18 | exact P19 | exact P20 | exact P21 | exact P22 | exact P23)) | (apply Part.flat; simp only [List.cons_append, List.nil_append]) | (apply Part.cons; (first | exact P0 | exact P1 | exact P2 | exact P3 | exact P4 | exact P5 | exact P6 | exact P7 | exact P8 | exact P9 | exact P10 | exact P11 | exact P12 | exact P13 | exact P14 | exact P15 | exact P16 | exact P17 | exact P18 | exact P19 | exact P20 | exact P21 | exact P22 | exact P23)) | (apply Part.nilc))) ?_))))))
        first | exact ⟨rfl, rfl⟩ | (exfalso; omega) | (refine ⟨congrArg Value.bool (decide_eq_true ?_), rfl⟩; omega) | (exfalso; dsimp only at *; omega)
      intro h17_8
      refine SPL_y (y_pick_f rfl rfl) rfl ?_
      refine SPL_y (y_move rfl) rfl ?_
      refine SPL_gy rfl rfl ?_
      refine SPL_y (y_fa fld_252_6 rfl) rfl ?_
      refine SPL_gy rfl rfl ?_
      refine SPL_y (y_load Tryz.isAgg3 rfl (by repeat (first | exact Cell.amid hpre rfl | exact Cell.head rfl | apply Cell.tail))) rfl ?_
      refine SPL_gy rfl rfl ?_
      refine SPL_y (y_move rfl) rfl ?_
      refine SPL_gy rfl rfl ?_
      refine SPL_if (y_neq rfl rfl) rfl ?_ ?_
      · intro h17_14
        refine SPL_y (y_pick_f rfl rfl) rfl ?_
        refine SPL_y (y_move rfl) rfl ?_
        refine SPL_gn rfl rfl rfl rfl ?_
        refine SPL_gn rfl rfl rfl rfl ?_
        refine SPL_gn rfl rfl rfl rfl ?_
        refine SPL_y (y_pick_t rfl rfl) rfl ?_
        refine SPL_y (y_move rfl) rfl ?_
        refine SPL_gn rfl rfl rfl rfl ?_
        refine SPL_gn rfl rfl rfl rfl ?_
        refine SPL_gn rfl rfl rfl rfl ?_
        refine SPL_y (y_pick_t rfl rfl) rfl ?_
        refine SPL_y (y_move rfl) rfl ?_
        refine SPL_gn rfl rfl rfl rfl ?_
        refine SPL_gn rfl rfl rfl rfl ?_
        refine SPL_gn rfl rfl rfl rfl ?_
        refine SPL_y (y_pick_t rfl rfl) rfl ?_
        refine SPL_y (y_move rfl) rfl ?_
        refine SPL_gn rfl rfl rfl rfl ?_
        refine SPL_gn rfl rfl rfl rfl ?_
        refine SPL_gn rfl rfl rfl rfl ?_
        refine SPL_y (y_pick_t rfl rfl) rfl ?_
        refine SPL_nil ?_
        refine thenP_n ?_
        refine SP_cond_t rfl ?_
        refine SP_seq ?_
        refine SP_region ?_
        refine SPL_y (y_assign rfl) rfl ?_
        refine SPL_nil ?_
        refine thenP_n ?_
        refine SP_ret ?_
        refine thenP_ret (inBlockP_ret (thenP_ret (thenP_ret (inBlockP_ret (thenP_ret (bodyP_ret (H' := [seg]) (Res1 rfl rfl) (by repeat (first | exact Part.nil _ | (apply Part.cons; with_reducible (first | exact P0 | exact P1 | exact P2 | exact P3 | exact P4 | exact P5 | exact P6 | exact P7 | exact P8 | exact P9 | exact P10 | exact P11 | exact P12 | exact P13 | exact P14 | exact P15 | exact P16 | exact P17 | exact P18 | exact P19 | exact P20 | exact P21 | exact P22 | exact P23)) | (apply Part.flat; simp only [List.cons_append, List.nil_append]) | (apply Part.cons; (first | exact P0 | exact P1 | exact P2 | exact P3 | exact P4 | exact P5 | exact P6 | exact P7 | exact P8 | exact P9 | exact P10 | exact P11 | exact P12 | exact P13 | exact P14 | exact P15 | exact P16 | exact P17 | exact P18 | exact P19 | exact P20 | exact P21 | exact P22 | exact P23)) | (apply Part.nilc))) ?_))))))
        first | exact ⟨rfl, rfl⟩ | (exfalso; omega) | (refine ⟨congrArg Value.bool (decide_eq_true ?_), rfl⟩; omega) | (exfalso; dsimp only at *; omega)
      intro h17_14
      refine SPL_y (y_pick_f rfl rfl) rfl ?_
      refine SPL_y (y_move rfl) rfl ?_
      refine SPL_gy rfl rfl ?_
      refine SPL_y (y_fa fld_252_3 rfl) rfl ?_
      refine SPL_gy rfl rfl ?_
      refine SPL_y (y_load Tryz.isAgg3 rfl (by repeat (first | exact Cell.amid hpre rfl | exact Cell.head rfl | apply Cell.tail))) rfl ?_
      refine SPL_gy rfl rfl ?_
      refine SPL_if (y_lss rfl rfl) rfl ?_ ?_
      · intro h17_19
        refine SPL_y (y_pick_f rfl rfl) rfl ?_
        refine SPL_y (y_move rfl) rfl ?_
        refine SPL_gn rfl rfl rfl rfl ?_
        refine SPL_gn rfl rfl rfl rfl ?_
        refine SPL_gn rfl rfl rfl rfl ?_
        refine SPL_y (y_pick_t rfl rfl) rfl ?_
        refine SPL_y (y_move rfl) rfl ?_
        refine SPL_gn rfl rfl rfl rfl ?_
        refine SPL_gn rfl rfl rfl rfl ?_
        refine SPL_gn rfl rfl rfl rfl ?_
        refine SPL_y (y_pick_t rfl rfl) rfl ?_
        refine SPL_y (y_move rfl) rfl ?_
        refine SPL_gn rfl rfl rfl rfl ?_
        refine SPL_gn rfl rfl rfl rfl ?_
        refine SPL_gn rfl rfl rfl rfl ?_
        refine SPL_y (y_pick_t rfl rfl) rfl ?_
        refine SPL_nil ?_
        refine thenP_n ?_
        refine SP_cond_t rfl ?_
        refine SP_seq ?_
        refine SP_region ?_
        refine SPL_y (y_assign rfl) rfl ?_
        refine SPL_nil ?_
        refine thenP_n ?_
        refine SP_ret ?_
        refine thenP_ret (inBlockP_ret (thenP_ret (thenP_ret (inBlockP_ret (thenP_ret (bodyP_ret (H' := [seg]) (Res1 rfl rfl) (by repeat (first | exact Part.nil _ | (apply Part.cons; with_reducible (first | exact P0 | exact P1 | exact P2 | exact P3 | exact P4 | exact P5 | exact P6 | exact P7 | exact P8 | exact P9 | exact P10 | exact P11 | exact P12 | exact P13 | exact P14 | exact P15 | exact P16 | exact P17 | exact P18 | exact P19 | exact P20 | exact P21 | exact P22 | exact P23)) | (apply Part.flat; simp only [List.cons_append, List.nil_append]) | (apply Part.cons; (first | exact P0 | exact P1 | exact P2 | exact P3 | exact P4 | exact P5 | exact P6 | exact P7 | exact P8 | exact P9 | exact P10 | exact P11 | exact P12 | exact P13 | exact P14 | exact P15 | exact P16 | exact P17 | exact P18 | exact P19 | exact P20 | exact P21 | exact P22 | exact P23)) | (apply Part.nilc))) ?_))))))
        first | exact ⟨rfl, rfl⟩ | (exfalso; omega) | (refine ⟨congrArg Value.bool (decide_eq_true ?_), rfl⟩; omega) | (exfalso; dsimp only at *; omega)
      intro h17_19
      refine SPL_y (y_pick_f rfl rfl) rfl ?_
      refine SPL_y (y_move rfl) rfl ?_
      refine SPL_gy rfl rfl ?_
      refine SPL_y (y_fa fld_252_3 rfl) rfl ?_
      refine SPL_gy rfl rfl ?_
      refine SPL_y (y_load Tryz.isAgg3 rfl (by repeat (first | exact Cell.amid hpre rfl | exact Cell.head rfl | apply Cell.tail))) rfl ?_
      refine SPL_gy rfl rfl ?_
      refine SPL_if (y_gtr rfl rfl) rfl ?_ ?_
      · intro h17_24
        refine SPL_y (y_pick_f rfl rfl) rfl ?_
        refine SPL_y (y_move rfl) rfl ?_
        refine SPL_gn rfl rfl rfl rfl ?_
        refine SPL_gn rfl rfl rfl rfl ?_
        refine SPL_gn rfl rfl rfl rfl ?_
        refine SPL_y (y_pick_t rfl rfl) rfl ?_
        refine SPL_y (y_move rfl) rfl ?_
        refine SPL_gn rfl rfl rfl rfl ?_
        refine SPL_gn rfl rfl rfl rfl ?_
        refine SPL_gn rfl rfl rfl rfl ?_
        refine SPL_y (y_pick_t rfl rfl) rfl ?_
        refine SPL_nil ?_
        refine thenP_n ?_
        refine SP_cond_t rfl ?_
        refine SP_seq ?_
        refine SP_region ?_
        refine SPL_y (y_assign rfl) rfl ?_
        refine SPL_nil ?_
        refine thenP_n ?_
        refine SP_ret ?_
        refine thenP_ret (inBlockP_ret (thenP_ret (thenP_ret (inBlockP_ret (thenP_ret (bodyP_ret (H' := [seg]) (Res1 rfl rfl) (by repeat (first | exact Part.nil _ | (apply Part.cons; with_reducible (first | exact P0 | exact P1 | exact P2 | exact P3 | exact P4 | exact P5 | exact P6 | exact P7 | exact P8 | exact P9 | exact P10 | exact P11 | exact P12 | exact P13 | exact P14 | exact P15 | exact P16 | exact P17 | exact P18 | exact P19 | exact P20 | exact P21 | exact P22 | exact P23)) | (apply Part.flat; simp only [List.cons_append, List.nil_append]) | (apply Part.cons; (first | exact P0 | exact P1 | exact P2 | exact P3 | exact P4 | exact P5 | exact P6 | exact P7 | exact P8 | exact P9 | exact P10 | exact P11 | exact P12 | exact P13 | exact P14 | exact P15 | exact P16 | exact P17 | exact P18 | exact P19 | exact P20 | exact P21 | exact P22 | exact P23)) | (apply Part.nilc))) ?_))))))
        first | exact ⟨rfl, rfl⟩ | (exfalso; omega) | (refine ⟨congrArg Value.bool (decide_eq_true ?_), rfl⟩; omega) | (exfalso; dsimp only at *; omega)
      intro h17_24
      refine SPL_y (y_pick_f rfl rfl) rfl ?_
      refine SPL_y (y_move rfl) rfl ?_
      refine SPL_gy rfl rfl ?_
      refine SPL_y (y_fa fld_252_5 rfl) rfl ?_
      refine SPL_gy rfl rfl ?_
      refine SPL_y (y_load Tryz.isAgg3 rfl (by repeat (first | exact Cell.amid hpre rfl | exact Cell.head rfl | apply Cell.tail))) rfl ?_
      refine SPL_gy rfl rfl ?_
      refine SPL_if (y_lss rfl rfl) rfl ?_ ?_
      · intro h17_29
        refine SPL_y (y_pick_f rfl rfl) rfl ?_
        refine SPL_y (y_move rfl) rfl ?_
        refine SPL_gn rfl rfl rfl rfl ?_
        refine SPL_gn rfl rfl rfl rfl ?_
        refine SPL_gn rfl rfl rfl rfl ?_
        refine SPL_y (y_pick_t rfl rfl) rfl ?_
        refine SPL_nil ?_
        refine thenP_n ?_
        refine SP_cond_t rfl ?_
        refine SP_seq ?_
        refine SP_region ?_
        refine SPL_y (y_assign rfl) rfl ?_
        refine SPL_nil ?_
        refine thenP_n ?_
        refine SP_ret ?_
        refine thenP_ret (inBlockP_ret (thenP_ret (thenP_ret (inBlockP_ret (thenP_ret (bodyP_ret (H' := [seg]) (Res1 rfl rfl) (by repeat (first | exact Part.nil _ | (apply Part.cons; with_reducible (first | exact P0 | exact P1 | exact P2 | exact P3 | exact P4 | exact P5 | exact P6 | exact P7 | exact P8 | exact P9 | exact P10 | exact P11 | exact P12 | exact P13 | exact P14 | exact P15 | exact P16 | exact P17 | exact P18 | exact P19 | exact P20 | exact P21 | exact P22 | exact P23)) | (apply Part.flat; simp only [List.cons_append, List.nil_append]) | (apply Part.cons; (first | exact P0 | exact P1 | exact P2 | exact P3 | exact P4 | exact P5 | exact P6 | exact P7 | exact P8 | exact P9 | exact P10 | exact P11 | exact P12 | exact P13 | exact P14 | exact P15 | exact P16 | exact P17 | exact P18 | exact P19 | exact P20 | exact P21 | exact P22 | exact P23)) | (apply Part.nilc))) ?_))))))
        first | exact ⟨rfl, rfl⟩ | (exfalso; omega) | (refine ⟨congrArg Value.bool (decide_eq_true ?_), rfl⟩; omega) | (exfalso; dsimp only at *; omega)
      intro h17_29
      refine SPL_y (y_pick_f rfl rfl) rfl ?_
      refine SPL_y (y_move rfl) rfl ?_
      refine SPL_gy rfl rfl ?_
      refine SPL_y (y_fa fld_252_7 rfl) rfl ?_
      refine SPL_gy rfl rfl ?_
      refine SPL_y (y_load Tryz.isAgg3 rfl (by repeat (first | exact Cell.amid hpre rfl | exact Cell.head rfl | apply Cell.tail))) rfl ?_
      refine SPL_gy rfl rfl ?_
      refine SPL_ifn (y_lss rfl rfl) rfl ?_ ?_
      · intro h17_34
        refine SPL_y (y_pick_f rfl rfl) rfl ?_
        refine SPL_nil ?_
        refine thenP_n ?_
        refine SP_cond_f rfl ?_
        refine SP_skip ?_
        refine thenP_n ?_
        exact Mid.intro (()) (trivial) (by repeat (first | exact Sub.nil _ | refine Sub.cons rfl ?_)) (by repeat (first | exact Part.nil _ | (apply Part.cons; with_reducible (first | exact P0 | exact P1 | exact P2 | exact P3 | exact P4 | exact P5 | exact P6 | exact P7 | exact P8 | exact P9 | exact P10 | exact P11 | exact P12 | exact P13 | exact P14 | exact P15 | exact P16 | exact P17 | exact P18 | exact P19 | exact P20 | exact P21 | exact P22 | exact P23)) | (apply Part.flat; simp only [List.cons_append, List.nil_append]) | (apply Part.cons; (first | exact P0 | exact P1 | exact P2 | exact P3 | exact P4 | exact P5 | exact P6 | exact P7 | exact P8 | exact P9 | exact P10 | exact P11 | exact P12 | exact P13 | exact P14 | exact P15 | exact P16 | exact P17 | exact P18 | exact P19 | exact P20 | exact P21 | exact P22 | exact P23)) | (apply Part.nilc)))
      intro h17_34
      refine SPL_y (y_pick_f rfl rfl) rfl ?_
      refine SPL_nil ?_
      refine thenP_n ?_
      refine SP_cond_t rfl ?_
      refine SP_seq ?_
      refine SP_region ?_
      refine SPL_y (y_assign rfl) rfl ?_
      refine SPL_nil ?_
      refine thenP_n ?_
      refine SP_ret ?_
      refine thenP_ret (inBlockP_ret (thenP_ret (thenP_ret (inBlockP_ret (thenP_ret (bodyP_ret (H' := [seg]) (Res1 rfl rfl) (by repeat (first | exact Part.nil _ | (apply Part.cons; with_reducible (first | exact P0 | exact P1 | exact P2 | exact P3 | exact P4 | exact P5 | exact P6 | exact P7 | exact P8 | exact P9 | exact P10 | exact P11 | exact P12 | exact P13 | exact P14 | exact P15 | exact P16 | exact P17 | exact P18 | exact P19 | exact P20 | exact P21 | exact P22 | exact P23)) | (apply Part.flat; simp only [List.cons_append, List.nil_append]) | (apply Part.cons; (first | exact P0 | exact P1 | exact P2 | exact P3 | exact P4 | exact P5 | exact P6 | exact P7 | exact P8 | exact P9 | exact P10 | exact P11 | exact P12 | exact P13 | exact P14 | exact P15 | exact P16 | exact P17 | exact P18 | exact P19 | exact P20 | exact P21 | exact P22 | exact P23)) | (apply Part.nilc))) ?_))))))
      first | exact ⟨rfl, rfl⟩ | (exfalso; omega) | (refine ⟨congrArg Value.bool (decide_eq_true ?_), rfl⟩; omega) | (exfalso; dsimp only at *; omega)
    rintro _ -
    refine SP_mid (G := Unit) (fun _ => [(0, pt b.vb), (1, I (-1)), (2, I 0), (9, I up), (10, I kk), (11, I co), (13, .pointer (some ⟨b13, 0, none⟩)), (166, .slice (some ⟨pq, 0, none⟩) m.pg.protos.length ph.pc), (167, I m.pg.protos.length), (168, I j)]) (fun _ => [seg, blk b13 252 (prV p)]) (fun _ => True) ?_ ?_
    · refine SP_seq ?_
      refine SP_region ?_
      refine SPL_y (y_fa fld_252_0 rfl) rfl ?_
      refine SPL_y (y_load Tryz.isAgg3 rfl (by repeat (first | exact Cell.amid hpre rfl | exact Cell.head rfl | apply Cell.tail))) rfl ?_
      refine SPL_if (y_lss rfl rfl) rfl ?_ ?_
      · intro h19_2
        refine SPL_y (y_move rfl) rfl ?_
        refine SPL_gn rfl rfl rfl rfl ?_
        refine SPL_gn rfl rfl rfl rfl ?_
        refine SPL_gn rfl rfl rfl rfl ?_
        refine SPL_y (y_pick_t rfl rfl) rfl ?_
        refine SPL_y (y_move rfl) rfl ?_
        refine SPL_gn rfl rfl rfl rfl ?_
        refine SPL_gn rfl rfl rfl rfl ?_
        refine SPL_gn rfl rfl rfl rfl ?_
        refine SPL_gn rfl rfl rfl rfl ?_
        refine SPL_gn rfl rfl rfl rfl ?_
        refine SPL_y (y_pick_t rfl rfl) rfl ?_
        refine SPL_y (y_move rfl) rfl ?_
        refine SPL_gn rfl rfl rfl rfl ?_
        refine SPL_gn rfl rfl rfl rfl ?_
        refine SPL_gn rfl rfl rfl rfl ?_
        refine SPL_y (y_pick_t rfl rfl) rfl ?_
        refine SPL_nil ?_
        refine thenP_n ?_
        refine SP_cond_t rfl ?_
        refine SP_seq ?_
        refine SP_region ?_
        refine SPL_y (y_assign rfl) rfl ?_
        refine SPL_nil ?_
        refine thenP_n ?_
        refine SP_ret ?_
        refine thenP_ret (inBlockP_ret (thenP_ret (thenP_ret (inBlockP_ret (thenP_ret (bodyP_ret (H' := [seg]) (Res1 rfl rfl) (by repeat (first | exact Part.nil _ | (apply Part.cons; with_reducible (first | exact P0 | exact P1 | exact P2 | exact P3 | exact P4 | exact P5 | exact P6 | exact P7 | exact P8 | exact P9 | exact P10 | exact P11 | exact P12 | exact P13 | exact P14 | exact P15 | exact P16 | exact P17 | exact P18 | exact P19 | exact P20 | exact P21 | exact P22 | exact P23)) | (apply Part.flat; simp only [List.cons_append, List.nil_append]) | (apply Part.cons; (first | exact P0 | exact P1 | exact P2 | exact P3 | exact P4 | exact P5 | exact P6 | exact P7 | exact P8 | exact P9 | exact P10 | exact P11 | exact P12 | exact P13 | exact P14 | exact P15 | exact P16 | exact P17 | exact P18 | exact P19 | exact P20 | exact P21 | exact P22 | exact P23)) | (apply Part.nilc))) ?_))))))
        first | exact ⟨rfl, rfl⟩ | (exfalso; omega) | (refine ⟨congrArg Value.bool (decide_eq_true ?_), rfl⟩; omega) | (exfalso; dsimp only at *; omega)
      intro h19_2
      refine SPL_y (y_move rfl) rfl ?_
      refine SPL_gy rfl rfl ?_
      refine SPL_y (y_fa fld_252_0 rfl) rfl ?_
      refine SPL_gy rfl rfl ?_
      refine SPL_y (y_load Tryz.isAgg3 rfl (by repeat (first | exact Cell.amid hpre rfl | exact Cell.head rfl | apply Cell.tail))) rfl ?_
      refine SPL_gy rfl rfl ?_
      refine SPL_if (y_gtr rfl rfl) rfl ?_ ?_
      · intro h19_6
        refine SPL_y (y_pick_f rfl rfl) rfl ?_
        refine SPL_y (y_move rfl) rfl ?_
        refine SPL_gn rfl rfl rfl rfl ?_
        refine SPL_gn rfl rfl rfl rfl ?_
        refine SPL_gn rfl rfl rfl rfl ?_
        refine SPL_gn rfl rfl rfl rfl ?_
        refine SPL_gn rfl rfl rfl rfl ?_
        refine SPL_y (y_pick_t rfl rfl) rfl ?_
        refine SPL_y (y_move rfl) rfl ?_
        refine SPL_gn rfl rfl rfl rfl ?_
        refine SPL_gn rfl rfl rfl rfl ?_
        refine SPL_gn rfl rfl rfl rfl ?_
        refine SPL_y (y_pick_t rfl rfl) rfl ?_
        refine SPL_nil ?_
        refine thenP_n ?_
        refine SP_cond_t rfl ?_
        refine SP_seq ?_
        refine SP_region ?_
        refine SPL_y (y_assign rfl) rfl ?_
        refine SPL_nil ?_
        refine thenP_n ?_
        refine SP_ret ?_
        refine thenP_ret (inBlockP_ret (thenP_ret (thenP_ret (inBlockP_ret (thenP_ret (bodyP_ret (H' := [seg]) (Res1 rfl rfl) (by repeat (first | exact Part.nil _ | (apply Part.cons; with_reducible (first | exact P0 | exact P1 | exact P2 | exact P3 | exact P4 | exact P5 | exact P6 | exact P7 | exact P8 | exact P9 | exact P10 | exact P11 | exact P12 | exact P13 | exact P14 | exact P15 | exact P16 | exact P17 | exact P18 | exact P19 | exact P20 | exact P21 | exact P22 | exact P23)) | (apply Part.flat; simp only [List.cons_append, List.nil_append]) | (apply Part.cons; (first | exact P0 | exact P1 | exact P2 | exact P3 | exact P4 | exact P5 | exact P6 | exact P7 | exact P8 | exact P9 | exact P10 | exact P11 | exact P12 | exact P13 | exact P14 | exact P15 | exact P16 | exact P17 | exact P18 | exact P19 | exact P20 | exact P21 | exact P22 | exact P23)) | (apply Part.nilc))) ?_))))))
        first | exact ⟨rfl, rfl⟩ | (exfalso; omega) | (refine ⟨congrArg Value.bool (decide_eq_true ?_), rfl⟩; omega) | (exfalso; dsimp only at *; omega)
      intro h19_6
      refine SPL_y (y_pick_f rfl rfl) rfl ?_
      refine SPL_y (y_move rfl) rfl ?_
      refine SPL_gy rfl rfl ?_
      refine SPL_y (y_fa fld_252_0 rfl) rfl ?_
      refine SPL_gy rfl rfl ?_
      refine SPL_y (y_load Tryz.isAgg3 rfl (by repeat (first | exact Cell.amid hpre rfl | exact Cell.head rfl | apply Cell.tail))) rfl ?_
      refine SPL_gy rfl rfl ?_
      refine SPL_y (y_fa fld_252_1 rfl) rfl ?_
      refine SPL_gy rfl rfl ?_
      refine SPL_y (y_load Tryz.isAgg3 rfl (by repeat (first | exact Cell.amid hpre rfl | exact Cell.head rfl | apply Cell.tail))) rfl ?_
      refine SPL_gy rfl rfl ?_
      refine SPL_if (y_gtr rfl rfl) rfl ?_ ?_
      · intro h19_13
        refine SPL_y (y_pick_f rfl rfl) rfl ?_
        refine SPL_y (y_move rfl) rfl ?_
        refine SPL_gn rfl rfl rfl rfl ?_
        refine SPL_gn rfl rfl rfl rfl ?_
        refine SPL_gn rfl rfl rfl rfl ?_
        refine SPL_y (y_pick_t rfl rfl) rfl ?_
        refine SPL_nil ?_
        refine thenP_n ?_
        refine SP_cond_t rfl ?_
        refine SP_seq ?_
        refine SP_region ?_
        refine SPL_y (y_assign rfl) rfl ?_
        refine SPL_nil ?_
        refine thenP_n ?_
        refine SP_ret ?_
        refine thenP_ret (inBlockP_ret (thenP_ret (thenP_ret (inBlockP_ret (thenP_ret (bodyP_ret (H' := [seg]) (Res1 rfl rfl) (by repeat (first | exact Part.nil _ | (apply Part.cons; with_reducible (first | exact P0 | exact P1 | exact P2 | exact P3 | exact P4 | exact P5 | exact P6 | exact P7 | exact P8 | exact P9 | exact P10 | exact P11 | exact P12 | exact P13 | exact P14 | exact P15 | exact P16 | exact P17 | exact P18 | exact P19 | exact P20 | exact P21 | exact P22 | exact P23)) | (apply Part.flat; simp only [List.cons_append, List.nil_append]) | (apply Part.cons; (first | exact P0 | exact P1 | exact P2 | exact P3 | exact P4 | exact P5 | exact P6 | exact P7 | exact P8 | exact P9 | exact P10 | exact P11 | exact P12 | exact P13 | exact P14 | exact P15 | exact P16 | exact P17 | exact P18 | exact P19 | exact P20 | exact P21 | exact P22 | exact P23)) | (apply Part.nilc))) ?_))))))
        first | exact ⟨rfl, rfl⟩ | (exfalso; omega) | (refine ⟨congrArg Value.bool (decide_eq_true ?_), rfl⟩; omega) | (exfalso; dsimp only at *; omega)
      intro h19_13
      refine SPL_y (y_pick_f rfl rfl) rfl ?_
      refine SPL_y (y_move rfl) rfl ?_
      refine SPL_gy rfl rfl ?_
      refine SPL_y (y_fa fld_252_1 rfl) rfl ?_
      refine SPL_gy rfl rfl ?_
      refine SPL_y (y_load Tryz.isAgg3 rfl (by repeat (first | exact Cell.amid hpre rfl | exact Cell.head rfl | apply Cell.tail))) rfl ?_
      refine SPL_gy rfl rfl ?_
      refine SPL_ifn (y_gtr rfl rfl) rfl ?_ ?_
      · intro h19_18
        refine SPL_y (y_pick_f rfl rfl) rfl ?_
        refine SPL_nil ?_
        refine thenP_n ?_
        refine SP_cond_f rfl ?_
        refine SP_skip ?_
        refine thenP_n ?_
        exact Mid.intro (()) (trivial) (by repeat (first | exact Sub.nil _ | refine Sub.cons rfl ?_)) (by repeat (first | exact Part.nil _ | (apply Part.cons; with_reducible (first | exact P0 | exact P1 | exact P2 | exact P3 | exact P4 | exact P5 | exact P6 | exact P7 | exact P8 | exact P9 | exact P10 | exact P11 | exact P12 | exact P13 | exact P14 | exact P15 | exact P16 | exact P17 | exact P18 | exact P19 | exact P20 | exact P21 | exact P22 | exact P23)) | (apply Part.flat; simp only [List.cons_append, List.nil_append]) | (apply Part.cons; (first | exact P0 | exact P1 | exact P2 | exact P3 | exact P4 | exact P5 | exact P6 | exact P7 | exact P8 | exact P9 | exact P10 | exact P11 | exact P12 | exact P13 | exact P14 | exact P15 | exact P16 | exact P17 | exact P18 | exact P19 | exact P20 | exact P21 | exact P22 | exact P23)) | (apply Part.nilc)))
      intro h19_18
      refine SPL_y (y_pick_f rfl rfl) rfl ?_
      refine SPL_nil ?_
      refine thenP_n ?_
      refine SP_cond_t rfl ?_
      refine SP_seq ?_
      refine SP_region ?_
      refine SPL_y (y_assign rfl) rfl ?_
      refine SPL_nil ?_
      refine thenP_n ?_
      refine SP_ret ?_
      refine thenP_ret (inBlockP_ret (thenP_ret (thenP_ret (inBlockP_ret (thenP_ret (bodyP_ret (H' := [seg]) (Res1 rfl rfl) (by repeat (first | exact Part.nil _ | (apply Part.cons; with_reducible (first | exact P0 | exact P1 | exact P2 | exact P3 | exact P4 | exact P5 | exact P6 | exact P7 | exact P8 | exact P9 | exact P10 | exact P11 | exact P12 | exact P13 | exact P14 | exact P15 | exact P16 | exact P17 | exact P18 | exact P19 | exact P20 | exact P21 | exact P22 | exact P23)) | (apply Part.flat; simp only [List.cons_append, List.nil_append]) | (apply Part.cons; (first | exact P0 | exact P1 | exact P2 | exact P3 | exact P4 | exact P5 | exact P6 | exact P7 | exact P8 | exact P9 | exact P10 | exact P11 | exact P12 | exact P13 | exact P14 | exact P15 | exact P16 | exact P17 | exact P18 | exact P19 | exact P20 | exact P21 | exact P22 | exact P23)) | (apply Part.nilc))) ?_))))))
      first | exact ⟨rfl, rfl⟩ | (exfalso; omega) | (refine ⟨congrArg Value.bool (decide_eq_true ?_), rfl⟩; omega) | (exfalso; dsimp only at *; omega)
    rintro _ -
    refine SP_draw 999 [(0, 0), (1, 0), (4, 0), (5, 0), (8, 0), (9, 0), (2, 1), (3, 0), (12, 0), (6, 1), (7, 0), (13, 0), (10, 1), (11, 0), (14, 0)] mixed (by kernel_rfl) (fun _ _ _ _ _ h => h) (Part.refl _) ?_
    refine SPO_p rfl (y_move rfl) rfl ?_
    refine SPO_p rfl (y_fa fld_252_3 rfl) rfl ?_
    refine SPO_p rfl (y_move rfl) rfl ?_
    refine SPO_p rfl (y_fa fld_252_5 rfl) rfl ?_
    refine SPO_p rfl (y_move rfl) rfl ?_
    refine SPO_p rfl (y_fa fld_252_7 rfl) rfl ?_
    refine SPO_h rfl (y_load Tryz.isAgg3 rfl (by repeat (first | exact Cell.amid hpre rfl | exact Cell.head rfl | apply Cell.tail))) rfl ?_
    refine SPO_p rfl (y_add rfl rfl (by omega)) rfl ?_
    refine SPO_p rfl (y_assign rfl) rfl ?_
    refine SPO_h rfl (y_load Tryz.isAgg3 rfl (by repeat (first | exact Cell.amid hpre rfl | exact Cell.head rfl | apply Cell.tail))) rfl ?_
    refine SPO_p rfl (y_add rfl rfl (by omega)) rfl ?_
    refine SPO_p rfl (y_assign rfl) rfl ?_
    refine SPO_h rfl (y_load Tryz.isAgg3 rfl (by repeat (first | exact Cell.amid hpre rfl | exact Cell.head rfl | apply Cell.tail))) rfl ?_
    refine SPO_p rfl (y_add rfl rfl (by omega)) rfl ?_
    refine SPO_p rfl (y_assign rfl) rfl ?_
    refine SPO_nil ?_
    refine inBlockP_n ?_
    refine thenP_n ?_
    refine SP_region ?_
    refine SPL_y (y_add rfl rfl (by omega)) rfl ?_
    refine SPL_y (y_move rfl) rfl ?_
    refine SPL_nil ?_
    refine thenP_n ?_
    exact Again.intro ((j + 1, up + p.nup, kk + p.nk, co + p.ncode)) (⟨by dsimp only; omega, by dsimp only; omega, by dsimp only; omega, by dsimp only; omega⟩) (by dsimp only; omega) (by repeat (first | exact Sub.nil _ | refine Sub.cons rfl ?_)) (by repeat (first | exact Part.nil _ | (apply Part.cons; with_reducible (first | exact P0 | exact P1 | exact P2 | exact P3 | exact P4 | exact P5 | exact P6 | exact P7 | exact P8 | exact P9 | exact P10 | exact P11 | exact P12 | exact P13 | exact P14 | exact P15 | exact P16 | exact P17 | exact P18 | exact P19 | exact P20 | exact P21 | exact P22 | exact P23)) | (apply Part.flat; simp only [List.cons_append, List.nil_append]) | (apply Part.cons; (first | exact P0 | exact P1 | exact P2 | exact P3 | exact P4 | exact P5 | exact P6 | exact P7 | exact P8 | exact P9 | exact P10 | exact P11 | exact P12 | exact P13 | exact P14 | exact P15 | exact P16 | exact P17 | exact P18 | exact P19 | exact P20 | exact P21 | exact P22 | exact P23)) | (apply Part.nilc)))
  intro h15_0
  refine SPL_nil ?_
  refine thenP_n ?_
  refine SP_seq ?_
  refine SP_cond_f rfl ?_
  refine SP_exit ?_
  refine thenP_exit ?_
  refine thenP_exit ?_
  refine inBlockP_hit ?_
  refine thenP_n ?_
  refine SP_mid (G := Unit) (fun _ => [(0, pt b.vb), (1, I (-1)), (2, I 0)]) (fun _ => [seg]) (fun _ => True) ?_ ?_
  · refine SP_seq ?_
    obtain rfl : j = m.pg.protos.length := by omega
    refine SP_region ?_
    refine SPL_y (y_move rfl) rfl ?_
    refine SPL_y (y_move rfl) rfl ?_
    refine SPL_y (y_nil rfl) rfl ?_
    refine SPL_y (y_fa fld_115_3 rfl) rfl ?_
    refine SPL_y (y_load Tryz.isAgg109 rfl (by repeat (first | exact hM.descs | apply Cell.tail))) rfl ?_
    refine SPL_y (y_len_l Tryz.underlying109 rfl) rfl ?_
    refine SPL_if (y_neq rfl rfl) rfl ?_ ?_
    · intro h23_6
      refine SPL_y (y_move rfl) rfl ?_
      refine SPL_gn rfl rfl rfl rfl ?_
      refine SPL_gn rfl rfl rfl rfl ?_
      refine SPL_gn rfl rfl rfl rfl ?_
      refine SPL_gn rfl rfl rfl rfl ?_
      refine SPL_gn rfl rfl rfl rfl ?_
      refine SPL_gn rfl rfl rfl rfl ?_
      refine SPL_gn rfl rfl rfl rfl ?_
      refine SPL_y (y_pick_t rfl rfl) rfl ?_
      refine SPL_y (y_move rfl) rfl ?_
      refine SPL_gn rfl rfl rfl rfl ?_
      refine SPL_gn rfl rfl rfl rfl ?_
      refine SPL_gn rfl rfl rfl rfl ?_
      refine SPL_gn rfl rfl rfl rfl ?_
      refine SPL_gn rfl rfl rfl rfl ?_
      refine SPL_gn rfl rfl rfl rfl ?_
      refine SPL_gn rfl rfl rfl rfl ?_
      refine SPL_y (y_pick_t rfl rfl) rfl ?_
      refine SPL_nil ?_
      refine thenP_n ?_
      refine SP_cond_t rfl ?_
      refine SP_seq ?_
      refine SP_region ?_
      refine SPL_y (y_assign rfl) rfl ?_
      refine SPL_nil ?_
      refine thenP_n ?_
      refine SP_ret ?_
      refine thenP_ret (bodyP_ret (H' := [seg]) (Res1 rfl rfl) (by repeat (first | exact Part.nil _ | (apply Part.cons; with_reducible (first | exact P0 | exact P1 | exact P2 | exact P3 | exact P4 | exact P5 | exact P6 | exact P7 | exact P8 | exact P9 | exact P10 | exact P11 | exact P12 | exact P13 | exact P14 | exact P15 | exact P16 | exact P17 | exact P18 | exact P19 | exact P20 | exact P21 | exact P22 | exact P23)) | (apply Part.flat; simp only [List.cons_append, List.nil_append]) | (apply Part.cons; (first | exact P0 | exact P1 | exact P2 | exact P3 | exact P4 | exact P5 | exact P6 | exact P7 | exact P8 | exact P9 | exact P10 | exact P11 | exact P12 | exact P13 | exact P14 | exact P15 | exact P16 | exact P17 | exact P18 | exact P19 | exact P20 | exact P21 | exact P22 | exact P23)) | (apply Part.nilc))) ?_)
      first | exact ⟨rfl, rfl⟩ | (exfalso; omega) | (refine ⟨congrArg Value.bool (decide_eq_true ?_), rfl⟩; omega) | (exfalso; dsimp only at *; omega)
    intro h23_6
    refine SPL_y (y_move rfl) rfl ?_
    refine SPL_gy rfl rfl ?_
    refine SPL_y (y_move rfl) rfl ?_
    refine SPL_gy rfl rfl ?_
    refine SPL_y (y_move rfl) rfl ?_
    refine SPL_gy rfl rfl ?_
    refine SPL_y (y_nil rfl) rfl ?_
    refine SPL_gy rfl rfl ?_
    refine SPL_y (y_fa fld_115_4 rfl) rfl ?_
    refine SPL_gy rfl rfl ?_
    refine SPL_y (y_load Tryz.isAgg90 rfl (by repeat (first | exact hM.consts | apply Cell.tail))) rfl ?_
    refine SPL_gy rfl rfl ?_
    refine SPL_y (y_len_l Tryz.underlying90 rfl) rfl ?_
    refine SPL_gy rfl rfl ?_
    refine SPL_if (y_neq rfl rfl) rfl ?_ ?_
    · intro h23_14
      refine SPL_y (y_pick_f rfl rfl) rfl ?_
      refine SPL_y (y_move rfl) rfl ?_
      refine SPL_gn rfl rfl rfl rfl ?_
      refine SPL_gn rfl rfl rfl rfl ?_
      refine SPL_gn rfl rfl rfl rfl ?_
      refine SPL_gn rfl rfl rfl rfl ?_
      refine SPL_gn rfl rfl rfl rfl ?_
      refine SPL_gn rfl rfl rfl rfl ?_
      refine SPL_gn rfl rfl rfl rfl ?_
      refine SPL_y (y_pick_t rfl rfl) rfl ?_
      refine SPL_nil ?_
      refine thenP_n ?_
      refine SP_cond_t rfl ?_
      refine SP_seq ?_
      refine SP_region ?_
      refine SPL_y (y_assign rfl) rfl ?_
      refine SPL_nil ?_
      refine thenP_n ?_
      refine SP_ret ?_
      refine thenP_ret (bodyP_ret (H' := [seg]) (Res1 rfl rfl) (by repeat (first | exact Part.nil _ | (apply Part.cons; with_reducible (first | exact P0 | exact P1 | exact P2 | exact P3 | exact P4 | exact P5 | exact P6 | exact P7 | exact P8 | exact P9 | exact P10 | exact P11 | exact P12 | exact P13 | exact P14 | exact P15 | exact P16 | exact P17 | exact P18 | exact P19 | exact P20 | exact P21 | exact P22 | exact P23)) | (apply Part.flat; simp only [List.cons_append, List.nil_append]) | (apply Part.cons; (first | exact P0 | exact P1 | exact P2 | exact P3 | exact P4 | exact P5 | exact P6 | exact P7 | exact P8 | exact P9 | exact P10 | exact P11 | exact P12 | exact P13 | exact P14 | exact P15 | exact P16 | exact P17 | exact P18 | exact P19 | exact P20 | exact P21 | exact P22 | exact P23)) | (apply Part.nilc))) ?_)
      first | exact ⟨rfl, rfl⟩ | (exfalso; omega) | (refine ⟨congrArg Value.bool (decide_eq_true ?_), rfl⟩; omega) | (exfalso; dsimp only at *; omega)
    intro h23_14
    refine SPL_y (y_pick_f rfl rfl) rfl ?_
    refine SPL_y (y_move rfl) rfl ?_
    refine SPL_gy rfl rfl ?_
    refine SPL_y (y_move rfl) rfl ?_
    refine SPL_gy rfl rfl ?_
    refine SPL_y (y_move rfl) rfl ?_
    refine SPL_gy rfl rfl ?_
    refine SPL_y (y_nil rfl) rfl ?_
    refine SPL_gy rfl rfl ?_
    refine SPL_y (y_fa fld_115_5 rfl) rfl ?_
    refine SPL_gy rfl rfl ?_
    refine SPL_y (y_load Tryz.isAgg110 rfl (by repeat (first | exact hM.code | apply Cell.tail))) rfl ?_
    refine SPL_gy rfl rfl ?_
    refine SPL_y (y_len_l Tryz.underlying110 rfl) rfl ?_
    refine SPL_gy rfl rfl ?_
    refine SPL_ifn (y_neq rfl rfl) rfl ?_ ?_
    · intro h23_23
      refine SPL_y (y_pick_f rfl rfl) rfl ?_
      refine SPL_nil ?_
      refine thenP_n ?_
      refine SP_cond_f rfl ?_
      refine SP_skip ?_
      refine thenP_n ?_
      exact Mid.intro (()) (trivial) (by repeat (first | exact Sub.nil _ | refine Sub.cons rfl ?_)) (by repeat (first | exact Part.nil _ | (apply Part.cons; with_reducible (first | exact P0 | exact P1 | exact P2 | exact P3 | exact P4 | exact P5 | exact P6 | exact P7 | exact P8 | exact P9 | exact P10 | exact P11 | exact P12 | exact P13 | exact P14 | exact P15 | exact P16 | exact P17 | exact P18 | exact P19 | exact P20 | exact P21 | exact P22 | exact P23)) | (apply Part.flat; simp only [List.cons_append, List.nil_append]) | (apply Part.cons; (first | exact P0 | exact P1 | exact P2 | exact P3 | exact P4 | exact P5 | exact P6 | exact P7 | exact P8 | exact P9 | exact P10 | exact P11 | exact P12 | exact P13 | exact P14 | exact P15 | exact P16 | exact P17 | exact P18 | exact P19 | exact P20 | exact P21 | exact P22 | exact P23)) | (apply Part.nilc)))
    intro h23_23
    refine SPL_y (y_pick_f rfl rfl) rfl ?_
    refine SPL_nil ?_
    refine thenP_n ?_
    refine SP_cond_t rfl ?_
    refine SP_seq ?_
    refine SP_region ?_
    refine SPL_y (y_assign rfl) rfl ?_
    refine SPL_nil ?_
    refine thenP_n ?_
    refine SP_ret ?_
    refine thenP_ret (bodyP_ret (H' := [seg]) (Res1 rfl rfl) (by repeat (first | exact Part.nil _ | (apply Part.cons; with_reducible (first | exact P0 | exact P1 | exact P2 | exact P3 | exact P4 | exact P5 | exact P6 | exact P7 | exact P8 | exact P9 | exact P10 | exact P11 | exact P12 | exact P13 | exact P14 | exact P15 | exact P16 | exact P17 | exact P18 | exact P19 | exact P20 | exact P21 | exact P22 | exact P23)) | (apply Part.flat; simp only [List.cons_append, List.nil_append]) | (apply Part.cons; (first | exact P0 | exact P1 | exact P2 | exact P3 | exact P4 | exact P5 | exact P6 | exact P7 | exact P8 | exact P9 | exact P10 | exact P11 | exact P12 | exact P13 | exact P14 | exact P15 | exact P16 | exact P17 | exact P18 | exact P19 | exact P20 | exact P21 | exact P22 | exact P23)) | (apply Part.nilc))) ?_)
    first | exact ⟨rfl, rfl⟩ | (exfalso; omega) | (refine ⟨congrArg Value.bool (decide_eq_true ?_), rfl⟩; omega) | (exfalso; dsimp only at *; omega)
  rintro _ -
  refine SP_seq ?_
  refine SP_region ?_
  refine SPL_y (y_assign rfl) rfl ?_
  refine SPL_nil ?_
  refine thenP_n ?_
  refine SP_seq ?_
  refine SP_seq ?_
  refine SP_region ?_
  refine SPL_y (y_move rfl) rfl ?_
  refine SPL_y (y_nil rfl) rfl ?_
  refine SPL_y (y_fa fld_115_6 rfl) rfl ?_
  refine SPL_y (y_load Tryz.isAgg111 rfl (by repeat (first | exact (hlh _) | apply Cell.tail))) rfl ?_
  refine SPL_y (y_len_l Tryz.underlying111 rfl) rfl ?_
  refine SPL_y (y_move rfl) rfl ?_
  refine SPL_nil ?_
  refine thenP_n ?_
  refine SP_block ?_
  refine SP_loop (G := Nat × Int) (fun g => m.vs.clos.length - g.1) (fun g => [(0, pt b.vb), (1, I (-1)), (2, I 0), (9, I g.2), (269, .slice (some ⟨lq, 0, none⟩) m.vs.clos.length lc), (270, I m.vs.clos.length), (271, I ((g.1 : Nat) : Int))]) (fun _ => [seg]) (fun g => g.1 ≤ m.vs.clos.length ∧ g.2 = W g.1) ((0, 0)) (⟨Nat.zero_le _, hW0.symm⟩) (by repeat (first | exact Sub.nil _ | refine Sub.cons rfl ?_)) (by repeat (first | exact Part.nil _ | (apply Part.cons; with_reducible (first | exact P0 | exact P1 | exact P2 | exact P3 | exact P4 | exact P5 | exact P6 | exact P7 | exact P8 | exact P9 | exact P10 | exact P11 | exact P12 | exact P13 | exact P14 | exact P15 | exact P16 | exact P17 | exact P18 | exact P19 | exact P20 | exact P21 | exact P22 | exact P23)) | (apply Part.flat; simp only [List.cons_append, List.nil_append]) | (apply Part.cons; (first | exact P0 | exact P1 | exact P2 | exact P3 | exact P4 | exact P5 | exact P6 | exact P7 | exact P8 | exact P9 | exact P10 | exact P11 | exact P12 | exact P13 | exact P14 | exact P15 | exact P16 | exact P17 | exact P18 | exact P19 | exact P20 | exact P21 | exact P22 | exact P23)) | (apply Part.nilc))) ?_
  rintro ⟨j, up⟩ ⟨hj, hj1⟩
  dsimp only at hj hj1 ⊢
  refine SP_seq ?_
  refine SP_region ?_
  refine SPL_if (y_lss rfl rfl) rfl ?_ ?_
  · intro h27_0
    refine SPL_nil ?_
    refine thenP_n ?_
    refine SP_seq ?_
    refine SP_cond_t rfl ?_
    refine SP_skip ?_
    refine thenP_n ?_
    refine SP_seq ?_
    refine SP_block ?_
    refine SP_seq ?_
    obtain ⟨c, hc9⟩ : ∃ c, m.vs.clos[j]? = some c := ⟨_, List.getElem?_eq_getElem (by omega)⟩
    have hkg := getI_nat hc9 (by omega)
    obtain ⟨p, hp, hw1, hw2, hw3, hw4⟩ := hct j c hc9
    obtain ⟨hpb, hpl, _⟩ := getI_some hp
    refine SP_region ?_
    refine SPL_y (y_ia Tryz.underlying111 Tryz.sizeOf181 rfl rfl (by omega)) rfl ?_
    refine SPL_y (y_loads Tryz.isAgg181 Tryz.sizeOf181 rfl rfl (by repeat (first | exact (hL _ _ hkg _) | apply Cells.tail))) rfl ?_
    refine SPL_one rfl (SP1_alloc Tryz.zeroValue181 rfl rfl ?_)
    intro b15
    refine SPL_one rfl (SP1_storeAll Tryz.sizeOf181 rfl rfl rfl rfl rfl (by first | exact U0 | exact U1 | exact U2 | exact U3 | exact U4 | exact U5 | exact U6 | exact U7 | exact U8 | exact U9 | exact U10 | exact U11 | exact U12 | exact U13 | exact U14 | exact U15 | exact U16 | exact U17 | exact U18 | exact U19 | exact U20 | exact U21 | exact U22 | exact U23) (by rfl) ?_)
    refine SPL_nil ?_
    refine thenP_n ?_
    refine SP_mid (G := Unit) (fun _ => [(0, pt b.vb), (1, I (-1)), (2, I 0), (9, I up), (15, .pointer (some ⟨b15, 0, none⟩)), (269, .slice (some ⟨lq, 0, none⟩) m.vs.clos.length lc), (270, I m.vs.clos.length), (271, I j)]) (fun _ => [seg, blk b15 181 (clV c)]) (fun _ => True) ?_ ?_
    · refine SP_seq ?_
      refine SP_draw 999 [(0, 0), (1, 1), (2, 0), (3, 0), (4, 0), (6, 0), (7, 0), (8, 0), (5, 1), (9, 1), (10, 0), (11, 0), (12, 0), (13, 0), (14, 0), (16, 0), (15, 1), (17, 0), (18, 0), (19, 0), (20, 0), (22, 0), (23, 0), (24, 0), (26, 0), (21, 1), (25, 1), (27, 1), (28, 0), (29, 0), (30, 1), (31, 0), (32, 0)] mixed (by kernel_rfl) (fun _ _ _ _ _ h => h) (Part.refl _) ?_
      refine SPO_p rfl (y_fa fld_181_0 rfl) rfl ?_
      refine SPO_h rfl (y_load Tryz.isAgg3 rfl (by repeat (first | exact Cell.amid hpre rfl | exact Cell.head rfl | apply Cell.tail))) rfl ?_
      refine SPO_if rfl (y_lss rfl rfl) rfl ?_ ?_
      · intro h29_2
        refine SPO_p rfl (y_move rfl) rfl ?_
        refine SPO_gn (.inl rfl) rfl rfl rfl rfl rfl ?_
        refine SPO_gn (.inl rfl) rfl rfl rfl rfl rfl ?_
        refine SPO_gn (.inl rfl) rfl rfl rfl rfl rfl ?_
        refine SPO_gn (.inl rfl) rfl rfl rfl rfl rfl ?_
        refine SPO_gn (.inr rfl) rfl rfl rfl rfl rfl ?_
        refine SPO_gn (.inr rfl) rfl rfl rfl rfl rfl ?_
        refine SPO_gn (.inl rfl) rfl rfl rfl rfl rfl ?_
        refine SPO_gn (.inl rfl) rfl rfl rfl rfl rfl ?_
        refine SPO_p rfl (y_pick_t rfl rfl) rfl ?_
        refine SPO_p rfl (y_move rfl) rfl ?_
        refine SPO_gn (.inl rfl) rfl rfl rfl rfl rfl ?_
        refine SPO_gn (.inl rfl) rfl rfl rfl rfl rfl ?_
        refine SPO_gn (.inr rfl) rfl rfl rfl rfl rfl ?_
        refine SPO_gn (.inl rfl) rfl rfl rfl rfl rfl ?_
        refine SPO_p rfl (y_pick_t rfl rfl) rfl ?_
        refine SPO_p rfl (y_move rfl) rfl ?_
        refine SPO_gn (.inl rfl) rfl rfl rfl rfl rfl ?_
        refine SPO_gn (.inl rfl) rfl rfl rfl rfl rfl ?_
        refine SPO_gn (.inl rfl) rfl rfl rfl rfl rfl ?_
        refine SPO_gn (.inl rfl) rfl rfl rfl rfl rfl ?_
        refine SPO_gn (.inl rfl) rfl rfl rfl rfl rfl ?_
        refine SPO_gn (.inr rfl) rfl rfl rfl rfl rfl ?_
        refine SPO_gn (.inr rfl) rfl rfl rfl rfl rfl ?_
        refine SPO_gn (.inr rfl) rfl rfl rfl rfl rfl ?_
        refine SPO_gn (.inl rfl) rfl rfl rfl rfl rfl ?_
        refine SPO_gn (.inl rfl) rfl rfl rfl rfl rfl ?_
        refine SPO_gn (.inr rfl) rfl rfl rfl rfl rfl ?_
        refine SPO_gn (.inl rfl) rfl rfl rfl rfl rfl ?_
        refine SPO_p rfl (y_pick_t rfl rfl) rfl ?_
        refine SPO_nil ?_
        refine thenP_n ?_
        refine SP_cond_t rfl ?_
        refine SP_seq ?_
        refine SP_region ?_
        refine SPL_y (y_assign rfl) rfl ?_
        refine SPL_nil ?_
        refine thenP_n ?_
        refine SP_ret ?_
        refine thenP_ret (inBlockP_ret (thenP_ret (thenP_ret (inBlockP_ret (thenP_ret (bodyP_ret (H' := [seg]) (Res1 rfl rfl) (by repeat (first | exact Part.nil _ | (apply Part.cons; with_reducible (first | exact P0 | exact P1 | exact P2 | exact P3 | exact P4 | exact P5 | exact P6 | exact P7 | exact P8 | exact P9 | exact P10 | exact P11 | exact P12 | exact P13 | exact P14 | exact P15 | exact P16 | exact P17 | exact P18 | exact P19 | exact P20 | exact P21 | exact P22 | exact P23)) | (apply Part.flat; simp only [List.cons_append, List.nil_append]) | (apply Part.cons; (first | exact P0 | exact P1 | exact P2 | exact P3 | exact P4 | exact P5 | exact P6 | exact P7 | exact P8 | exact P9 | exact P10 | exact P11 | exact P12 | exact P13 | exact P14 | exact P15 | exact P16 | exact P17 | exact P18 | exact P19 | exact P20 | exact P21 | exact P22 | exact P23)) | (apply Part.nilc))) ?_))))))
        first | exact ⟨rfl, rfl⟩ | (exfalso; omega) | (refine ⟨congrArg Value.bool (decide_eq_true ?_), rfl⟩; omega) | (exfalso; dsimp only at *; omega)
      intro h29_2
      refine SPO_p rfl (y_move rfl) rfl ?_
      refine SPO_py rfl rfl rfl (y_fa fld_181_0 rfl) rfl ?_
      refine SPO_py rfl rfl rfl (y_move rfl) rfl ?_
      refine SPO_py rfl rfl rfl (y_nil rfl) rfl ?_
      refine SPO_py rfl rfl rfl (y_fa fld_115_2 rfl) rfl ?_
      refine SPO_hy rfl rfl rfl (y_load Tryz.isAgg3 rfl (by repeat (first | exact Cell.amid hpre rfl | exact Cell.head rfl | apply Cell.tail))) rfl ?_
      refine SPO_hy rfl rfl rfl (y_load Tryz.isAgg108 rfl (by repeat (first | exact (hpr0 _) | apply Cell.tail))) rfl ?_
      refine SPO_py rfl rfl rfl (y_len_l Tryz.underlying108 rfl) rfl ?_
      refine SPO_pyif rfl rfl rfl (y_geq rfl rfl) rfl ?_ ?_
      · intro h29_11
        refine SPO_p rfl (y_pick_f rfl rfl) rfl ?_
        refine SPO_p rfl (y_move rfl) rfl ?_
        refine SPO_gn (.inl rfl) rfl rfl rfl rfl rfl ?_
        refine SPO_gn (.inl rfl) rfl rfl rfl rfl rfl ?_
        refine SPO_gn (.inr rfl) rfl rfl rfl rfl rfl ?_
        refine SPO_gn (.inl rfl) rfl rfl rfl rfl rfl ?_
        refine SPO_p rfl (y_pick_t rfl rfl) rfl ?_
        refine SPO_p rfl (y_move rfl) rfl ?_
        refine SPO_gn (.inl rfl) rfl rfl rfl rfl rfl ?_
        refine SPO_gn (.inl rfl) rfl rfl rfl rfl rfl ?_
        refine SPO_gn (.inl rfl) rfl rfl rfl rfl rfl ?_
        refine SPO_gn (.inl rfl) rfl rfl rfl rfl rfl ?_
        refine SPO_gn (.inl rfl) rfl rfl rfl rfl rfl ?_
        refine SPO_gn (.inr rfl) rfl rfl rfl rfl rfl ?_
        refine SPO_gn (.inr rfl) rfl rfl rfl rfl rfl ?_
        refine SPO_gn (.inr rfl) rfl rfl rfl rfl rfl ?_
        refine SPO_gn (.inl rfl) rfl rfl rfl rfl rfl ?_
        refine SPO_gn (.inl rfl) rfl rfl rfl rfl rfl ?_
        refine SPO_gn (.inr rfl) rfl rfl rfl rfl rfl ?_
        refine SPO_gn (.inl rfl) rfl rfl rfl rfl rfl ?_
        refine SPO_p rfl (y_pick_t rfl rfl) rfl ?_
        refine SPO_nil ?_
        refine thenP_n ?_
        refine SP_cond_t rfl ?_
        refine SP_seq ?_
        refine SP_region ?_
        refine SPL_y (y_assign rfl) rfl ?_
        refine SPL_nil ?_
        refine thenP_n ?_
        refine SP_ret ?_
        refine thenP_ret (inBlockP_ret (thenP_ret (thenP_ret (inBlockP_ret (thenP_ret (bodyP_ret (H' := [seg]) (Res1 rfl rfl) (by repeat (first | exact Part.nil _ | (apply Part.cons; with_reducible (first | exact P0 | exact P1 | exact P2 | exact P3 | exact P4 | exact P5 | exact P6 | exact P7 | exact P8 | exact P9 | exact P10 | exact P11 | exact P12 | exact P13 | exact P14 | exact P15 | exact P16 | exact P17 | exact P18 | exact P19 | exact P20 | exact P21 | exact P22 | exact P23)) | (apply Part.flat; simp only [List.cons_append, List.nil_append]) | (apply Part.cons; (first | exact P0 | exact P1 | exact P2 | exact P3 | exact P4 | exact P5 | exact P6 | exact P7 | exact P8 | exact P9 | exact P10 | exact P11 | exact P12 | exact P13 | exact P14 | exact P15 | exact P16 | exact P17 | exact P18 | exact P19 | exact P20 | exact P21 | exact P22 | exact P23)) | (apply Part.nilc))) ?_))))))
        first | exact ⟨rfl, rfl⟩ | (exfalso; omega) | (refine ⟨congrArg Value.bool (decide_eq_true ?_), rfl⟩; omega) | (exfalso; dsimp only at *; omega)
      intro h29_11
      refine SPO_p rfl (y_pick_f rfl rfl) rfl ?_
      refine SPO_p rfl (y_move rfl) rfl ?_
      refine SPO_py rfl rfl rfl (y_fa fld_181_1 rfl) rfl ?_
      refine SPO_py rfl rfl rfl (y_move rfl) rfl ?_
      refine SPO_hy rfl rfl rfl (y_load Tryz.isAgg3 rfl (by repeat (first | exact Cell.amid hpre rfl | exact Cell.head rfl | apply Cell.tail))) rfl ?_
      refine SPO_pyif rfl rfl rfl (y_neq rfl rfl) rfl ?_ ?_
      · intro h29_17
        refine SPO_p rfl (y_pick_f rfl rfl) rfl ?_
        refine SPO_p rfl (y_move rfl) rfl ?_
        refine SPO_gn (.inl rfl) rfl rfl rfl rfl rfl ?_
        refine SPO_gn (.inl rfl) rfl rfl rfl rfl rfl ?_
        refine SPO_gn (.inl rfl) rfl rfl rfl rfl rfl ?_
        refine SPO_gn (.inl rfl) rfl rfl rfl rfl rfl ?_
        refine SPO_gn (.inl rfl) rfl rfl rfl rfl rfl ?_
        refine SPO_gn (.inr rfl) rfl rfl rfl rfl rfl ?_
        refine SPO_gn (.inr rfl) rfl rfl rfl rfl rfl ?_
        refine SPO_gn (.inr rfl) rfl rfl rfl rfl rfl ?_
        refine SPO_gn (.inl rfl) rfl rfl rfl rfl rfl ?_
        refine SPO_gn (.inl rfl) rfl rfl rfl rfl rfl ?_
        refine SPO_gn (.inr rfl) rfl rfl rfl rfl rfl ?_
        refine SPO_gn (.inl rfl) rfl rfl rfl rfl rfl ?_
        refine SPO_p rfl (y_pick_t rfl rfl) rfl ?_
        refine SPO_nil ?_
        refine thenP_n ?_
        refine SP_cond_t rfl ?_
        refine SP_seq ?_
        refine SP_region ?_
        refine SPL_y (y_assign rfl) rfl ?_
        refine SPL_nil ?_
        refine thenP_n ?_
        refine SP_ret ?_
        refine thenP_ret (inBlockP_ret (thenP_ret (thenP_ret (inBlockP_ret (thenP_ret (bodyP_ret (H' := [seg]) (Res1 rfl rfl) (by repeat (first | exact Part.nil _ | (apply Part.cons; with_reducible (first | exact P0 | exact P1 | exact P2 | exact P3 | exact P4 | exact P5 | exact P6 | exact P7 | exact P8 | exact P9 | exact P10 | exact P11 | exact P12 | exact P13 | exact P14 | exact P15 | exact P16 | exact P17 | exact P18 | exact P19 | exact P20 | exact P21 | exact P22 | exact P23)) | (apply Part.flat; simp only [List.cons_append, List.nil_append]) | (apply Part.cons; (first | exact P0 | exact P1 | exact P2 | exact P3 | exact P4 | exact P5 | exact P6 | exact P7 | exact P8 | exact P9 | exact P10 | exact P11 | exact P12 | exact P13 | exact P14 | exact P15 | exact P16 | exact P17 | exact P18 | exact P19 | exact P20 | exact P21 | exact P22 | exact P23)) | (apply Part.nilc))) ?_))))))
        first | exact ⟨rfl, rfl⟩ | (exfalso; omega) | (refine ⟨congrArg Value.bool (decide_eq_true ?_), rfl⟩; omega) | (exfalso; dsimp only at *; omega)
      intro h29_17
      refine SPO_p rfl (y_pick_f rfl rfl) rfl ?_
      refine SPO_p rfl (y_move rfl) rfl ?_
      refine SPO_py rfl rfl rfl (y_fa fld_181_2 rfl) rfl ?_
      refine SPO_py rfl rfl rfl (y_move rfl) rfl ?_
      refine SPO_py rfl rfl rfl (y_nil rfl) rfl ?_
      refine SPO_py rfl rfl rfl (y_fa fld_115_2 rfl) rfl ?_
      refine SPO_py rfl rfl rfl (y_fa fld_181_0 rfl) rfl ?_
      refine SPO_hy rfl rfl rfl (y_load Tryz.isAgg3 rfl (by repeat (first | exact Cell.amid hpre rfl | exact Cell.head rfl | apply Cell.tail))) rfl ?_
      refine SPO_hy rfl rfl rfl (y_load Tryz.isAgg108 rfl (by repeat (first | exact (hpr0 _) | apply Cell.tail))) rfl ?_
      refine SPO_hy rfl rfl rfl (y_load Tryz.isAgg3 rfl (by repeat (first | exact Cell.amid hpre rfl | exact Cell.head rfl | apply Cell.tail))) rfl ?_
      refine SPO_py rfl rfl rfl (y_ia Tryz.underlying108 Tryz.sizeOf252 rfl rfl (by omega)) rfl ?_
      refine SPO_py rfl rfl rfl (y_fa fld_252_3 rfl) rfl ?_
      refine SPO_hy rfl rfl rfl (y_load Tryz.isAgg3 rfl (by repeat (first | exact ((hPr _ _ hp _).cell rfl) | apply Cell.tail))) rfl ?_
      refine SPO_pyifn rfl rfl rfl (y_neq rfl rfl) rfl ?_ ?_
      · intro h29_31
        refine SPO_p rfl (y_pick_f rfl rfl) rfl ?_
        refine SPO_nil ?_
        refine thenP_n ?_
        refine SP_cond_f rfl ?_
        refine SP_skip ?_
        refine thenP_n ?_
        exact Mid.intro (()) (trivial) (by repeat (first | exact Sub.nil _ | refine Sub.cons rfl ?_)) (by repeat (first | exact Part.nil _ | (apply Part.cons; with_reducible (first | exact P0 | exact P1 | exact P2 | exact P3 | exact P4 | exact P5 | exact P6 | exact P7 | exact P8 | exact P9 | exact P10 | exact P11 | exact P12 | exact P13 | exact P14 | exact P15 | exact P16 | exact P17 | exact P18 | exact P19 | exact P20 | exact P21 | exact P22 | exact P23)) | (apply Part.flat; simp only [List.cons_append, List.nil_append]) | (apply Part.cons; (first | exact P0 | exact P1 | exact P2 | exact P3 | exact P4 | exact P5 | exact P6 | exact P7 | exact P8 | exact P9 | exact P10 | exact P11 | exact P12 | exact P13 | exact P14 | exact P15 | exact P16 | exact P17 | exact P18 | exact P19 | exact P20 | exact P21 | exact P22 | exact P23)) | (apply Part.nilc)))
      intro h29_31
      refine SPO_p rfl (y_pick_f rfl rfl) rfl ?_
      refine SPO_nil ?_
      refine thenP_n ?_
      refine SP_cond_t rfl ?_
      refine SP_seq ?_
      refine SP_region ?_
      refine SPL_y (y_assign rfl) rfl ?_
      refine SPL_nil ?_
      refine thenP_n ?_
      refine SP_ret ?_
      refine thenP_ret (inBlockP_ret (thenP_ret (thenP_ret (inBlockP_ret (thenP_ret (bodyP_ret (H' := [seg]) (Res1 rfl rfl) (by repeat (first | exact Part.nil _ | (apply Part.cons; with_reducible (first | exact P0 | exact P1 | exact P2 | exact P3 | exact P4 | exact P5 | exact P6 | exact P7 | exact P8 | exact P9 | exact P10 | exact P11 | exact P12 | exact P13 | exact P14 | exact P15 | exact P16 | exact P17 | exact P18 | exact P19 | exact P20 | exact P21 | exact P22 | exact P23)) | (apply Part.flat; simp only [List.cons_append, List.nil_append]) | (apply Part.cons; (first | exact P0 | exact P1 | exact P2 | exact P3 | exact P4 | exact P5 | exact P6 | exact P7 | exact P8 | exact P9 | exact P10 | exact P11 | exact P12 | exact P13 | exact P14 | exact P15 | exact P16 | exact P17 | exact P18 | exact P19 | exact P20 | exact P21 | exact P22 | exact P23)) | (apply Part.nilc))) ?_))))))
      first | exact ⟨rfl, rfl⟩ | (exfalso; omega) | (refine ⟨congrArg Value.bool (decide_eq_true ?_), rfl⟩; omega) | (exfalso; dsimp only at *; omega)
    rintro _ -
    refine SP_region ?_
    refine SPL_y (y_move rfl) rfl ?_
    refine SPL_y (y_fa fld_181_2 rfl) rfl ?_
    refine SPL_y (y_load Tryz.isAgg3 rfl (by repeat (first | exact Cell.amid hpre rfl | exact Cell.head rfl | apply Cell.tail))) rfl ?_
    refine SPL_y (y_add rfl rfl (by omega)) rfl ?_
    refine SPL_y (y_assign rfl) rfl ?_
    refine SPL_nil ?_
    refine inBlockP_n ?_
    refine thenP_n ?_
    refine SP_region ?_
    refine SPL_y (y_add rfl rfl (by omega)) rfl ?_
    refine SPL_y (y_move rfl) rfl ?_
    refine SPL_nil ?_
    refine thenP_n ?_
    exact Again.intro ((j + 1, up + c.nup)) (⟨by dsimp only; omega, by dsimp only; omega⟩) (by dsimp only; omega) (by repeat (first | exact Sub.nil _ | refine Sub.cons rfl ?_)) (by repeat (first | exact Part.nil _ | (apply Part.cons; with_reducible (first | exact P0 | exact P1 | exact P2 | exact P3 | exact P4 | exact P5 | exact P6 | exact P7 | exact P8 | exact P9 | exact P10 | exact P11 | exact P12 | exact P13 | exact P14 | exact P15 | exact P16 | exact P17 | exact P18 | exact P19 | exact P20 | exact P21 | exact P22 | exact P23)) | (apply Part.flat; simp only [List.cons_append, List.nil_append]) | (apply Part.cons; (first | exact P0 | exact P1 | exact P2 | exact P3 | exact P4 | exact P5 | exact P6 | exact P7 | exact P8 | exact P9 | exact P10 | exact P11 | exact P12 | exact P13 | exact P14 | exact P15 | exact P16 | exact P17 | exact P18 | exact P19 | exact P20 | exact P21 | exact P22 | exact P23)) | (apply Part.nilc)))
  intro h27_0
  refine SPL_nil ?_
  refine thenP_n ?_
  refine SP_seq ?_
  refine SP_cond_f rfl ?_
  refine SP_exit ?_
  refine thenP_exit ?_
  refine thenP_exit ?_
  refine inBlockP_hit ?_
  refine thenP_n ?_
  refine SP_seq ?_
  refine SP_seq ?_
  obtain rfl : j = m.vs.clos.length := by omega
  refine SP_region ?_
  refine SPL_y (y_move rfl) rfl ?_
  refine SPL_y (y_move rfl) rfl ?_
  refine SPL_y (y_nil rfl) rfl ?_
  refine SPL_y (y_fa fld_115_7 rfl) rfl ?_
  refine SPL_y (y_load Tryz.isAgg112 rfl (by repeat (first | exact (huh _) | apply Cell.tail))) rfl ?_
  refine SPL_y (y_len_l Tryz.underlying112 rfl) rfl ?_
  refine SPL_if (y_neq rfl rfl) rfl ?_ ?_
  · intro h33_6
    refine SPL_nil ?_
    refine thenP_n ?_
    refine SP_cond_t rfl ?_
    refine SP_seq ?_
    refine SP_region ?_
    refine SPL_y (y_assign rfl) rfl ?_
    refine SPL_nil ?_
    refine thenP_n ?_
    refine SP_ret ?_
    refine thenP_ret (bodyP_ret (H' := [seg]) (Res1 rfl rfl) (by repeat (first | exact Part.nil _ | (apply Part.cons; with_reducible (first | exact P0 | exact P1 | exact P2 | exact P3 | exact P4 | exact P5 | exact P6 | exact P7 | exact P8 | exact P9 | exact P10 | exact P11 | exact P12 | exact P13 | exact P14 | exact P15 | exact P16 | exact P17 | exact P18 | exact P19 | exact P20 | exact P21 | exact P22 | exact P23)) | (apply Part.flat; simp only [List.cons_append, List.nil_append]) | (apply Part.cons; (first | exact P0 | exact P1 | exact P2 | exact P3 | exact P4 | exact P5 | exact P6 | exact P7 | exact P8 | exact P9 | exact P10 | exact P11 | exact P12 | exact P13 | exact P14 | exact P15 | exact P16 | exact P17 | exact P18 | exact P19 | exact P20 | exact P21 | exact P22 | exact P23)) | (apply Part.nilc))) ?_)
    first | exact ⟨rfl, rfl⟩ | (exfalso; omega) | (refine ⟨congrArg Value.bool (decide_eq_true ?_), rfl⟩; omega) | (exfalso; dsimp only at *; omega)
  intro h33_6
  refine SPL_nil ?_
  refine thenP_n ?_
  refine SP_cond_f rfl ?_
  refine SP_skip ?_
  refine thenP_n ?_
  refine SP_seq ?_
  refine SP_seq ?_
  refine SP_region ?_
  refine SPL_y (y_move rfl) rfl ?_
  refine SPL_y (y_nil rfl) rfl ?_
  refine SPL_y (y_fa fld_115_7 rfl) rfl ?_
  refine SPL_y (y_load Tryz.isAgg112 rfl (by repeat (first | exact (huh _) | apply Cell.tail))) rfl ?_
  refine SPL_y (y_len_l Tryz.underlying112 rfl) rfl ?_
  refine SPL_y (y_move rfl) rfl ?_
  refine SPL_nil ?_
  refine thenP_n ?_
  refine SP_block ?_
  refine SP_loop (G := Nat) (fun j => m.vs.upix.length - j) (fun j => [(0, pt b.vb), (1, I (-1)), (2, I 0), (323, .slice ua m.vs.upix.length uc), (324, I m.vs.upix.length), (325, I ((j : Nat) : Int))]) (fun _ => [seg]) (fun j => j ≤ m.vs.upix.length) (0) (Nat.zero_le _) (by repeat (first | exact Sub.nil _ | refine Sub.cons rfl ?_)) (by repeat (first | exact Part.nil _ | (apply Part.cons; with_reducible (first | exact P0 | exact P1 | exact P2 | exact P3 | exact P4 | exact P5 | exact P6 | exact P7 | exact P8 | exact P9 | exact P10 | exact P11 | exact P12 | exact P13 | exact P14 | exact P15 | exact P16 | exact P17 | exact P18 | exact P19 | exact P20 | exact P21 | exact P22 | exact P23)) | (apply Part.flat; simp only [List.cons_append, List.nil_append]) | (apply Part.cons; (first | exact P0 | exact P1 | exact P2 | exact P3 | exact P4 | exact P5 | exact P6 | exact P7 | exact P8 | exact P9 | exact P10 | exact P11 | exact P12 | exact P13 | exact P14 | exact P15 | exact P16 | exact P17 | exact P18 | exact P19 | exact P20 | exact P21 | exact P22 | exact P23)) | (apply Part.nilc))) ?_
  intro j hj
  refine SP_seq ?_
  refine SP_region ?_
  refine SPL_if (y_lss rfl rfl) rfl ?_ ?_
  · intro h36_0
    refine SPL_nil ?_
    refine thenP_n ?_
    refine SP_seq ?_
    refine SP_cond_t rfl ?_
    refine SP_skip ?_
    refine thenP_n ?_
    refine SP_seq ?_
    refine SP_block ?_
    refine SP_seq ?_
    obtain ⟨x, hx9⟩ : ∃ x, m.vs.upix[j]? = some x := ⟨_, List.getElem?_eq_getElem (by omega)⟩
    obtain ⟨uq, hua, hxc⟩ := huxA _ _ (getI_nat hx9 (by omega))
    rw [hua]
    obtain ⟨hx1, hx2⟩ := hux j x hx9
    refine SP_region ?_
    refine SPL_y (y_ia Tryz.underlying112 Tryz.sizeOf3 rfl rfl (by omega)) rfl ?_
    refine SPL_y (y_load Tryz.isAgg3 rfl (by repeat (first | exact (hxc _) | apply Cell.tail))) rfl ?_
    refine SPL_y (y_assign rfl) rfl ?_
    refine SPL_nil ?_
    refine thenP_n ?_
    refine SP_seq ?_
    refine SP_region ?_
    refine SPL_y (y_move rfl) rfl ?_
    refine SPL_if (y_lss rfl rfl) rfl ?_ ?_
    · intro h38_1
      refine SPL_y (y_move rfl) rfl ?_
      refine SPL_gn rfl rfl rfl rfl ?_
      refine SPL_gn rfl rfl rfl rfl ?_
      refine SPL_gn rfl rfl rfl rfl ?_
      refine SPL_gn rfl rfl rfl rfl ?_
      refine SPL_gn rfl rfl rfl rfl ?_
      refine SPL_gn rfl rfl rfl rfl ?_
      refine SPL_gn rfl rfl rfl rfl ?_
      refine SPL_y (y_pick_t rfl rfl) rfl ?_
      refine SPL_nil ?_
      refine thenP_n ?_
      refine SP_cond_t rfl ?_
      refine SP_seq ?_
      refine SP_region ?_
      refine SPL_y (y_assign rfl) rfl ?_
      refine SPL_nil ?_
      refine thenP_n ?_
      refine SP_ret ?_
      refine inBlockP_ret (thenP_ret (thenP_ret (inBlockP_ret (thenP_ret (bodyP_ret (H' := [seg]) (Res1 rfl rfl) (by repeat (first | exact Part.nil _ | (apply Part.cons; with_reducible (first | exact P0 | exact P1 | exact P2 | exact P3 | exact P4 | exact P5 | exact P6 | exact P7 | exact P8 | exact P9 | exact P10 | exact P11 | exact P12 | exact P13 | exact P14 | exact P15 | exact P16 | exact P17 | exact P18 | exact P19 | exact P20 | exact P21 | exact P22 | exact P23)) | (apply Part.flat; simp only [List.cons_append, List.nil_append]) | (apply Part.cons; (first | exact P0 | exact P1 | exact P2 | exact P3 | exact P4 | exact P5 | exact P6 | exact P7 | exact P8 | exact P9 | exact P10 | exact P11 | exact P12 | exact P13 | exact P14 | exact P15 | exact P16 | exact P17 | exact P18 | exact P19 | exact P20 | exact P21 | exact P22 | exact P23)) | (apply Part.nilc))) ?_)))))
      first | exact ⟨rfl, rfl⟩ | (exfalso; omega) | (refine ⟨congrArg Value.bool (decide_eq_true ?_), rfl⟩; omega) | (exfalso; dsimp only at *; omega)
    intro h38_1
    refine SPL_y (y_move rfl) rfl ?_
    refine SPL_gy rfl rfl ?_
    refine SPL_y (y_move rfl) rfl ?_
    refine SPL_gy rfl rfl ?_
    refine SPL_y (y_move rfl) rfl ?_
    refine SPL_gy rfl rfl ?_
    refine SPL_y (y_nil rfl) rfl ?_
    refine SPL_gy rfl rfl ?_
    refine SPL_y (y_fa fld_115_8 rfl) rfl ?_
    refine SPL_gy rfl rfl ?_
    refine SPL_y (y_load Tryz.isAgg113 rfl (by repeat (first | exact (heh _) | apply Cell.tail))) rfl ?_
    refine SPL_gy rfl rfl ?_
    refine SPL_y (y_len_l Tryz.underlying113 rfl) rfl ?_
    refine SPL_gy rfl rfl ?_
    refine SPL_if (y_geq rfl rfl) rfl ?_ ?_
    · intro h38_9
      refine SPL_y (y_pick_f rfl rfl) rfl ?_
      refine SPL_nil ?_
      refine thenP_n ?_
      refine SP_cond_t rfl ?_
      refine SP_seq ?_
      refine SP_region ?_
      refine SPL_y (y_assign rfl) rfl ?_
      refine SPL_nil ?_
      refine thenP_n ?_
      refine SP_ret ?_
      refine inBlockP_ret (thenP_ret (thenP_ret (inBlockP_ret (thenP_ret (bodyP_ret (H' := [seg]) (Res1 rfl rfl) (by repeat (first | exact Part.nil _ | (apply Part.cons; with_reducible (first | exact P0 | exact P1 | exact P2 | exact P3 | exact P4 | exact P5 | exact P6 | exact P7 | exact P8 | exact P9 | exact P10 | exact P11 | exact P12 | exact P13 | exact P14 | exact P15 | exact P16 | exact P17 | exact P18 | exact P19 | exact P20 | exact P21 | exact P22 | exact P23)) | (apply Part.flat; simp only [List.cons_append, List.nil_append]) | (apply Part.cons; (first | exact P0 | exact P1 | exact P2 | exact P3 | exact P4 | exact P5 | exact P6 | exact P7 | exact P8 | exact P9 | exact P10 | exact P11 | exact P12 | exact P13 | exact P14 | exact P15 | exact P16 | exact P17 | exact P18 | exact P19 | exact P20 | exact P21 | exact P22 | exact P23)) | (apply Part.nilc))) ?_)))))
      first | exact ⟨rfl, rfl⟩ | (exfalso; omega) | (refine ⟨congrArg Value.bool (decide_eq_true ?_), rfl⟩; omega) | (exfalso; dsimp only at *; omega)
    intro h38_9
    refine SPL_y (y_pick_f rfl rfl) rfl ?_
    refine SPL_nil ?_
    refine thenP_n ?_
    refine SP_cond_f rfl ?_
    refine SP_skip ?_
    refine inBlockP_n ?_
    refine thenP_n ?_
    refine SP_region ?_
    refine SPL_y (y_add rfl rfl (by omega)) rfl ?_
    refine SPL_y (y_move rfl) rfl ?_
    refine SPL_nil ?_
    refine thenP_n ?_
    exact Again.intro (j + 1) ((by omega)) (by omega) (by repeat (first | exact Sub.nil _ | refine Sub.cons rfl ?_)) (by repeat (first | exact Part.nil _ | (apply Part.cons; with_reducible (first | exact P0 | exact P1 | exact P2 | exact P3 | exact P4 | exact P5 | exact P6 | exact P7 | exact P8 | exact P9 | exact P10 | exact P11 | exact P12 | exact P13 | exact P14 | exact P15 | exact P16 | exact P17 | exact P18 | exact P19 | exact P20 | exact P21 | exact P22 | exact P23)) | (apply Part.flat; simp only [List.cons_append, List.nil_append]) | (apply Part.cons; (first | exact P0 | exact P1 | exact P2 | exact P3 | exact P4 | exact P5 | exact P6 | exact P7 | exact P8 | exact P9 | exact P10 | exact P11 | exact P12 | exact P13 | exact P14 | exact P15 | exact P16 | exact P17 | exact P18 | exact P19 | exact P20 | exact P21 | exact P22 | exact P23)) | (apply Part.nilc)))
  intro h36_0
  refine SPL_nil ?_
  refine thenP_n ?_
  refine SP_seq ?_
  refine SP_cond_f rfl ?_
  refine SP_exit ?_
  refine thenP_exit ?_
  refine thenP_exit ?_
  refine inBlockP_hit ?_
  refine thenP_n ?_
  refine SP_seq ?_
  refine SP_region ?_
  refine SPL_y (y_assign rfl) rfl ?_
  refine SPL_nil ?_
  refine thenP_n ?_
  refine SP_seq ?_
  refine SP_seq ?_
  refine SP_region ?_
  refine SPL_y (y_move rfl) rfl ?_
  refine SPL_y (y_nil rfl) rfl ?_
  refine SPL_y (y_fa fld_115_9 rfl) rfl ?_
  refine SPL_y (y_load Tryz.isAgg107 rfl (by repeat (first | exact hM.threads | apply Cell.tail))) rfl ?_
  refine SPL_y (y_len_l Tryz.underlying107 rfl) rfl ?_
  refine SPL_y (y_move rfl) rfl ?_
  refine SPL_nil ?_
  refine thenP_n ?_
  refine SP_block ?_
  refine SP_loop (G := Nat × Int) (fun g => m.vs.threads.length - g.1) (fun g => [(0, pt b.vb), (1, I (-1)), (2, I 0), (18, I g.2), (345, I m.vs.threads.length), (346, I ((g.1 : Nat) : Int))]) (fun _ => [seg]) (fun g => g.1 ≤ m.vs.threads.length ∧ g.2 = O g.1) ((0, 0)) (⟨Nat.zero_le _, hO0.symm⟩) (by repeat (first | exact Sub.nil _ | refine Sub.cons rfl ?_)) (by repeat (first | exact Part.nil _ | (apply Part.cons; with_reducible (first | exact P0 | exact P1 | exact P2 | exact P3 | exact P4 | exact P5 | exact P6 | exact P7 | exact P8 | exact P9 | exact P10 | exact P11 | exact P12 | exact P13 | exact P14 | exact P15 | exact P16 | exact P17 | exact P18 | exact P19 | exact P20 | exact P21 | exact P22 | exact P23)) | (apply Part.flat; simp only [List.cons_append, List.nil_append]) | (apply Part.cons; (first | exact P0 | exact P1 | exact P2 | exact P3 | exact P4 | exact P5 | exact P6 | exact P7 | exact P8 | exact P9 | exact P10 | exact P11 | exact P12 | exact P13 | exact P14 | exact P15 | exact P16 | exact P17 | exact P18 | exact P19 | exact P20 | exact P21 | exact P22 | exact P23)) | (apply Part.nilc))) ?_
  rintro ⟨j, up⟩ ⟨hj, hj1⟩
  dsimp only at hj hj1 ⊢
  refine SP_seq ?_
  refine SP_region ?_
  refine SPL_if (y_lss rfl rfl) rfl ?_ ?_
  · intro h43_0
    refine SPL_nil ?_
    refine thenP_n ?_
    refine SP_seq ?_
    refine SP_cond_t rfl ?_
    refine SP_skip ?_
    refine thenP_n ?_
    refine SP_seq ?_
    refine SP_block ?_
    refine SP_seq ?_
    obtain ⟨t, ht9⟩ : ∃ t, m.vs.threads[j]? = some t := ⟨_, List.getElem?_eq_getElem (by omega)⟩
    obtain ⟨ho1, ho2, ho3⟩ := hop j t ht9
    obtain ⟨g, oa, oc, hg, _, hrow, _⟩ := hM.thr ht9
    refine SP_region ?_
    refine SPL_y (y_move rfl) rfl ?_
    refine SPL_y (y_assign rfl) rfl ?_
    refine SPL_nil ?_
    refine thenP_n ?_
    refine SP_seq ?_
    refine SP_region ?_
    refine SPL_y (y_assign rfl) rfl ?_
    refine SPL_nil ?_
    refine thenP_n ?_
    refine SP_seq ?_
    refine SP_seq ?_
    refine SP_region ?_
    refine SPL_y (y_move rfl) rfl ?_
    refine SPL_y (y_move rfl) rfl ?_
    refine SPL_if (y_eql rfl rfl) rfl ?_ ?_
    · intro h46_2
      omega
    intro h46_2
    refine SPL_nil ?_
    refine thenP_n ?_
    refine SP_cond_f rfl ?_
    refine SP_skip ?_
    refine thenP_n ?_
    refine SP_seq ?_
    refine SP_region ?_
    refine SPL_y (y_move rfl) rfl ?_
    refine SPL_y (y_move rfl) rfl ?_
    refine SPL_y (y_move rfl) rfl ?_
    refine SPL_y (y_move rfl) rfl ?_
    refine SPL_if (y_eql rfl rfl) rfl ?_ ?_
    · intro h48_4
      omega
    intro h48_4
    refine SPL_y (y_move rfl) rfl ?_
    refine SPL_one rfl (SP1_call (vm_checkThread b ph hh ht9 (hts j t ht9) hth.2 seg hM) Tryz.call179 rfl rfl (by repeat (first | exact Part.nil _ | (apply Part.cons; with_reducible (first | exact P0 | exact P1 | exact P2 | exact P3 | exact P4 | exact P5 | exact P6 | exact P7 | exact P8 | exact P9 | exact P10 | exact P11 | exact P12 | exact P13 | exact P14 | exact P15 | exact P16 | exact P17 | exact P18 | exact P19 | exact P20 | exact P21 | exact P22 | exact P23)) | (apply Part.flat; simp only [List.cons_append, List.nil_append]) | (apply Part.cons; (first | exact P0 | exact P1 | exact P2 | exact P3 | exact P4 | exact P5 | exact P6 | exact P7 | exact P8 | exact P9 | exact P10 | exact P11 | exact P12 | exact P13 | exact P14 | exact P15 | exact P16 | exact P17 | exact P18 | exact P19 | exact P20 | exact P21 | exact P22 | exact P23)) | (apply Part.nilc))) ?_)
    rintro v post H' ⟨rfl, rfl⟩ hH
    try simp only [List.cons_append, List.nil_append] at hH
    subst hH
    refine SPL_y (y_assign rfl) rfl ?_
    refine SPL_nil ?_
    refine thenP_n ?_
    refine SP_seq ?_
    refine SP_seq ?_
    refine SP_region ?_
    refine SPL_y (y_move rfl) rfl ?_
    refine SPL_y (y_not_t rfl) rfl ?_
    refine SPL_nil ?_
    refine thenP_n ?_
    refine SP_cond_f rfl ?_
    refine SP_skip ?_
    refine thenP_n ?_
    refine SP_region ?_
    refine SPL_y (y_move rfl) rfl ?_
    refine SPL_y (y_move rfl) rfl ?_
    refine SPL_y (y_nil rfl) rfl ?_
    refine SPL_y (y_fa fld_115_9 rfl) rfl ?_
    refine SPL_y (y_load Tryz.isAgg107 rfl (by repeat (first | exact hM.threads | apply Cell.tail))) rfl ?_
    refine SPL_y (y_move rfl) rfl ?_
    refine SPL_y (y_ia Tryz.underlying107 Tryz.sizeOf263 rfl rfl (by omega)) rfl ?_
    refine SPL_y (y_fa fld_263_4 rfl) rfl ?_
    refine SPL_y (y_load Tryz.isAgg112 rfl (by repeat (first | exact (hrow _ 4 _ rfl) | apply Cell.tail))) rfl ?_
    refine SPL_y (y_len_l Tryz.underlying112 rfl) rfl ?_
    refine SPL_y (y_add rfl rfl (by omega)) rfl ?_
    refine SPL_y (y_assign rfl) rfl ?_
    refine SPL_nil ?_
    refine inBlockP_n ?_
    refine thenP_n ?_
    refine SP_region ?_
    refine SPL_y (y_add rfl rfl (by omega)) rfl ?_
    refine SPL_y (y_move rfl) rfl ?_
    refine SPL_nil ?_
    refine thenP_n ?_
    exact Again.intro ((j + 1, up + t.opn.length)) (⟨by dsimp only; omega, by dsimp only; omega⟩) (by dsimp only; omega) (by repeat (first | exact Sub.nil _ | refine Sub.cons rfl ?_)) (by repeat (first | exact Part.nil _ | (apply Part.cons; with_reducible (first | exact P0 | exact P1 | exact P2 | exact P3 | exact P4 | exact P5 | exact P6 | exact P7 | exact P8 | exact P9 | exact P10 | exact P11 | exact P12 | exact P13 | exact P14 | exact P15 | exact P16 | exact P17 | exact P18 | exact P19 | exact P20 | exact P21 | exact P22 | exact P23)) | (apply Part.flat; simp only [List.cons_append, List.nil_append]) | (apply Part.cons; (first | exact P0 | exact P1 | exact P2 | exact P3 | exact P4 | exact P5 | exact P6 | exact P7 | exact P8 | exact P9 | exact P10 | exact P11 | exact P12 | exact P13 | exact P14 | exact P15 | exact P16 | exact P17 | exact P18 | exact P19 | exact P20 | exact P21 | exact P22 | exact P23)) | (apply Part.nilc)))
  intro h43_0
  refine SPL_nil ?_
  refine thenP_n ?_
  refine SP_seq ?_
  refine SP_cond_f rfl ?_
  refine SP_exit ?_
  refine thenP_exit ?_
  refine thenP_exit ?_
  refine inBlockP_hit ?_
  refine thenP_n ?_
  refine SP_seq ?_
  refine SP_seq ?_
  refine SP_region ?_
  refine SPL_y (y_move rfl) rfl ?_
  refine SPL_y (y_nil rfl) rfl ?_
  refine SPL_y (y_fa fld_115_8 rfl) rfl ?_
  refine SPL_y (y_load Tryz.isAgg113 rfl (by repeat (first | exact (heh _) | apply Cell.tail))) rfl ?_
  refine SPL_y (y_len_l Tryz.underlying113 rfl) rfl ?_
  refine SPL_y (y_move rfl) rfl ?_
  refine SPL_nil ?_
  refine thenP_n ?_
  refine SP_block ?_
  refine SP_loop (G := Nat × Int) (fun g => m.vs.cells.length - g.1) (fun g => [(0, pt b.vb), (1, I (-1)), (2, I 0), (18, I g.2), (377, .slice ea m.vs.cells.length ec), (378, I m.vs.cells.length), (379, I ((g.1 : Nat) : Int))]) (fun _ => [seg]) (fun g => g.1 ≤ m.vs.cells.length ∧ g.2 = D g.1) ((0, up)) (⟨Nat.zero_le _, by dsimp only; rw [hD0, hj1, show j = m.vs.threads.length by omega]⟩) (by repeat (first | exact Sub.nil _ | refine Sub.cons rfl ?_)) (by repeat (first | exact Part.nil _ | (apply Part.cons; with_reducible (first | exact P0 | exact P1 | exact P2 | exact P3 | exact P4 | exact P5 | exact P6 | exact P7 | exact P8 | exact P9 | exact P10 | exact P11 | exact P12 | exact P13 | exact P14 | exact P15 | exact P16 | exact P17 | exact P18 | exact P19 | exact P20 | exact P21 | exact P22 | exact P23)) | (apply Part.flat; simp only [List.cons_append, List.nil_append]) | (apply Part.cons; (first | exact P0 | exact P1 | exact P2 | exact P3 | exact P4 | exact P5 | exact P6 | exact P7 | exact P8 | exact P9 | exact P10 | exact P11 | exact P12 | exact P13 | exact P14 | exact P15 | exact P16 | exact P17 | exact P18 | exact P19 | exact P20 | exact P21 | exact P22 | exact P23)) | (apply Part.nilc))) ?_
  rintro ⟨j, up⟩ ⟨hj, hj1⟩
  dsimp only at hj hj1 ⊢
  refine SP_seq ?_
  refine SP_region ?_
  refine SPL_ifn (y_lss rfl rfl) rfl ?_ ?_
  · intro h54_0
    refine SPL_nil ?_
    refine thenP_n ?_
    refine SP_seq ?_
    refine SP_cond_f rfl ?_
    refine SP_exit ?_
    refine thenP_exit ?_
    refine thenP_exit ?_
    refine inBlockP_hit ?_
    refine thenP_n ?_
    refine SP_seq ?_
    refine SP_seq ?_
    obtain rfl : j = m.vs.cells.length := by omega
    refine SP_region ?_
    refine SPL_y (y_move rfl) rfl ?_
    refine SPL_if (y_neq rfl rfl) rfl ?_ ?_
    · intro h61_1
      refine SPL_nil ?_
      refine thenP_n ?_
      refine SP_cond_t rfl ?_
      refine SP_seq ?_
      refine SP_region ?_
      refine SPL_y (y_assign rfl) rfl ?_
      refine SPL_nil ?_
      refine thenP_n ?_
      refine SP_ret ?_
      refine thenP_ret (bodyP_ret (H' := [seg]) (Res1 rfl rfl) (by repeat (first | exact Part.nil _ | (apply Part.cons; with_reducible (first | exact P0 | exact P1 | exact P2 | exact P3 | exact P4 | exact P5 | exact P6 | exact P7 | exact P8 | exact P9 | exact P10 | exact P11 | exact P12 | exact P13 | exact P14 | exact P15 | exact P16 | exact P17 | exact P18 | exact P19 | exact P20 | exact P21 | exact P22 | exact P23)) | (apply Part.flat; simp only [List.cons_append, List.nil_append]) | (apply Part.cons; (first | exact P0 | exact P1 | exact P2 | exact P3 | exact P4 | exact P5 | exact P6 | exact P7 | exact P8 | exact P9 | exact P10 | exact P11 | exact P12 | exact P13 | exact P14 | exact P15 | exact P16 | exact P17 | exact P18 | exact P19 | exact P20 | exact P21 | exact P22 | exact P23)) | (apply Part.nilc))) ?_)
      first | exact ⟨rfl, rfl⟩ | (exfalso; omega) | (refine ⟨congrArg Value.bool (decide_eq_true ?_), rfl⟩; omega) | (exfalso; dsimp only at *; omega)
    intro h61_1
    refine SPL_nil ?_
    refine thenP_n ?_
    refine SP_cond_f rfl ?_
    refine SP_skip ?_
    refine thenP_n ?_
    refine SP_seq ?_
    refine SP_region ?_
    refine SPL_y (y_move rfl) rfl ?_
    refine SPL_one rfl (SP1_call (vm_checkVals b ph hh ⟨by omega, by omega, hth.2, hsl⟩ hvk hvc hvt seg hM) Tryz.call180 rfl rfl (by repeat (first | exact Part.nil _ | (apply Part.cons; with_reducible (first | exact P0 | exact P1 | exact P2 | exact P3 | exact P4 | exact P5 | exact P6 | exact P7 | exact P8 | exact P9 | exact P10 | exact P11 | exact P12 | exact P13 | exact P14 | exact P15 | exact P16 | exact P17 | exact P18 | exact P19 | exact P20 | exact P21 | exact P22 | exact P23)) | (apply Part.flat; simp only [List.cons_append, List.nil_append]) | (apply Part.cons; (first | exact P0 | exact P1 | exact P2 | exact P3 | exact P4 | exact P5 | exact P6 | exact P7 | exact P8 | exact P9 | exact P10 | exact P11 | exact P12 | exact P13 | exact P14 | exact P15 | exact P16 | exact P17 | exact P18 | exact P19 | exact P20 | exact P21 | exact P22 | exact P23)) | (apply Part.nilc))) ?_)
    rintro v post H' ⟨rfl, rfl⟩ hH
    try simp only [List.cons_append, List.nil_append] at hH
    subst hH
    refine SPL_y (y_assign rfl) rfl ?_
    refine SPL_nil ?_
    refine thenP_n ?_
    refine SP_ret ?_
    refine bodyP_ret (H' := [seg]) (Res1 rfl rfl) (by repeat (first | exact Part.nil _ | (apply Part.cons; with_reducible (first | exact P0 | exact P1 | exact P2 | exact P3 | exact P4 | exact P5 | exact P6 | exact P7 | exact P8 | exact P9 | exact P10 | exact P11 | exact P12 | exact P13 | exact P14 | exact P15 | exact P16 | exact P17 | exact P18 | exact P19 | exact P20 | exact P21 | exact P22 | exact P23)) | (apply Part.flat; simp only [List.cons_append, List.nil_append]) | (apply Part.cons; (first | exact P0 | exact P1 | exact P2 | exact P3 | exact P4 | exact P5 | exact P6 | exact P7 | exact P8 | exact P9 | exact P10 | exact P11 | exact P12 | exact P13 | exact P14 | exact P15 | exact P16 | exact P17 | exact P18 | exact P19 | exact P20 | exact P21 | exact P22 | exact P23)) | (apply Part.nilc))) ?_
    first | exact ⟨rfl, rfl⟩ | (exfalso; omega) | (refine ⟨congrArg Value.bool (decide_eq_true ?_), rfl⟩; omega) | (exfalso; dsimp only at *; omega)
  intro h54_0
  refine SPL_nil ?_
  refine thenP_n ?_
  refine SP_seq ?_
  refine SP_cond_t rfl ?_
  refine SP_skip ?_
  refine thenP_n ?_
  refine SP_seq ?_
  refine SP_block ?_
  refine SP_seq ?_
  obtain ⟨c, hc9⟩ : ∃ c, m.vs.cells[j]? = some c := ⟨_, List.getElem?_eq_getElem (by omega)⟩
  obtain ⟨kq, hka, hkq⟩ := hcelA _ _ (getI_nat hc9 (by omega))
  rw [hka]
  obtain ⟨hd1, hd2, hd3⟩ := hdc j c hc9
  refine SP_region ?_
  refine SPL_y (y_ia Tryz.underlying113 Tryz.sizeOf287 rfl rfl (by omega)) rfl ?_
  refine SPL_y (y_loads Tryz.isAgg287 Tryz.sizeOf287 rfl rfl (by repeat (first | exact (hkq _) | apply Cells.tail))) rfl ?_
  refine SPL_one rfl (SP1_alloc Tryz.zeroValue287 rfl rfl ?_)
  intro b23
  refine SPL_one rfl (SP1_storeAll Tryz.sizeOf287 rfl rfl rfl rfl rfl (by first | exact U0 | exact U1 | exact U2 | exact U3 | exact U4 | exact U5 | exact U6 | exact U7 | exact U8 | exact U9 | exact U10 | exact U11 | exact U12 | exact U13 | exact U14 | exact U15 | exact U16 | exact U17 | exact U18 | exact U19 | exact U20 | exact U21 | exact U22 | exact U23) (by rfl) ?_)
  refine SPL_nil ?_
  refine thenP_n ?_
  refine SP_seq ?_
  refine SP_region ?_
  refine SPL_y (y_fa fld_287_0 rfl) rfl ?_
  refine SPL_y (y_load Tryz.isAgg3 rfl (by repeat (first | exact Cell.amid hpre rfl | exact Cell.head rfl | apply Cell.tail))) rfl ?_
  refine SPL_if (y_geq rfl rfl) rfl ?_ ?_
  · intro h56_2
    refine SPL_nil ?_
    refine thenP_n ?_
    refine SP_cond_t rfl ?_
    refine SP_region ?_
    refine SPL_y (y_move rfl) rfl ?_
    have hd4 := hd1 (by omega)
    refine SPL_y (y_sub rfl rfl (by omega)) rfl ?_
    refine SPL_y (y_assign rfl) rfl ?_
    refine SPL_nil ?_
    refine inBlockP_n ?_
    refine thenP_n ?_
    refine SP_region ?_
    refine SPL_y (y_add rfl rfl (by omega)) rfl ?_
    refine SPL_y (y_move rfl) rfl ?_
    refine SPL_nil ?_
    refine thenP_n ?_
    exact Again.intro ((j + 1, up - 1)) (⟨by dsimp only; omega, by dsimp only; omega⟩) (by dsimp only; omega) (by repeat (first | exact Sub.nil _ | refine Sub.cons rfl ?_)) (by repeat (first | exact Part.nil _ | (apply Part.cons; with_reducible (first | exact P0 | exact P1 | exact P2 | exact P3 | exact P4 | exact P5 | exact P6 | exact P7 | exact P8 | exact P9 | exact P10 | exact P11 | exact P12 | exact P13 | exact P14 | exact P15 | exact P16 | exact P17 | exact P18 | exact P19 | exact P20 | exact P21 | exact P22 | exact P23)) | (apply Part.flat; simp only [List.cons_append, List.nil_append]) | (apply Part.cons; (first | exact P0 | exact P1 | exact P2 | exact P3 | exact P4 | exact P5 | exact P6 | exact P7 | exact P8 | exact P9 | exact P10 | exact P11 | exact P12 | exact P13 | exact P14 | exact P15 | exact P16 | exact P17 | exact P18 | exact P19 | exact P20 | exact P21 | exact P22 | exact P23)) | (apply Part.nilc)))
  intro h56_2
  refine SPL_nil ?_
  refine thenP_n ?_
  refine SP_cond_f rfl ?_
  refine SP_seq ?_
  refine SP_region ?_
  refine SPL_y (y_fa fld_287_0 rfl) rfl ?_
  obtain ⟨hd4, hd5, hd6⟩ := hd2 (by omega)
  refine SPL_y (y_load Tryz.isAgg3 rfl (by repeat (first | exact Cell.amid hpre rfl | exact Cell.head rfl | apply Cell.tail))) rfl ?_
  refine SPL_if (y_neq rfl rfl) rfl ?_ ?_
  · intro h58_2
    refine SPL_y (y_move rfl) rfl ?_
    refine SPL_gn rfl rfl rfl rfl ?_
    refine SPL_gn rfl rfl rfl rfl ?_
    refine SPL_gn rfl rfl rfl rfl ?_
    refine SPL_y (y_pick_t rfl rfl) rfl ?_
    refine SPL_nil ?_
    refine thenP_n ?_
    refine SP_cond_t rfl ?_
    refine SP_seq ?_
    refine SP_region ?_
    refine SPL_y (y_assign rfl) rfl ?_
    refine SPL_nil ?_
    refine thenP_n ?_
    refine SP_ret ?_
    refine inBlockP_ret (thenP_ret (thenP_ret (inBlockP_ret (thenP_ret (bodyP_ret (H' := [seg]) (Res1 rfl rfl) (by repeat (first | exact Part.nil _ | (apply Part.cons; with_reducible (first | exact P0 | exact P1 | exact P2 | exact P3 | exact P4 | exact P5 | exact P6 | exact P7 | exact P8 | exact P9 | exact P10 | exact P11 | exact P12 | exact P13 | exact P14 | exact P15 | exact P16 | exact P17 | exact P18 | exact P19 | exact P20 | exact P21 | exact P22 | exact P23)) | (apply Part.flat; simp only [List.cons_append, List.nil_append]) | (apply Part.cons; (first | exact P0 | exact P1 | exact P2 | exact P3 | exact P4 | exact P5 | exact P6 | exact P7 | exact P8 | exact P9 | exact P10 | exact P11 | exact P12 | exact P13 | exact P14 | exact P15 | exact P16 | exact P17 | exact P18 | exact P19 | exact P20 | exact P21 | exact P22 | exact P23)) | (apply Part.nilc))) ?_)))))
    first | exact ⟨rfl, rfl⟩ | (exfalso; omega) | (refine ⟨congrArg Value.bool (decide_eq_true ?_), rfl⟩; omega) | (exfalso; dsimp only at *; omega)
  intro h58_2
  refine SPL_y (y_move rfl) rfl ?_
  refine SPL_gy rfl rfl ?_
  refine SPL_y (y_fa fld_287_1 rfl) rfl ?_
  refine SPL_gy rfl rfl ?_
  refine SPL_y (y_load Tryz.isAgg3 rfl (by repeat (first | exact Cell.amid hpre rfl | exact Cell.head rfl | apply Cell.tail))) rfl ?_
  refine SPL_gy rfl rfl ?_
  refine SPL_if (y_neq rfl rfl) rfl ?_ ?_
  · intro h58_6
    refine SPL_y (y_pick_f rfl rfl) rfl ?_
    refine SPL_nil ?_
    refine thenP_n ?_
    refine SP_cond_t rfl ?_
    refine SP_seq ?_
    refine SP_region ?_
    refine SPL_y (y_assign rfl) rfl ?_
    refine SPL_nil ?_
    refine thenP_n ?_
    refine SP_ret ?_
    refine inBlockP_ret (thenP_ret (thenP_ret (inBlockP_ret (thenP_ret (bodyP_ret (H' := [seg]) (Res1 rfl rfl) (by repeat (first | exact Part.nil _ | (apply Part.cons; with_reducible (first | exact P0 | exact P1 | exact P2 | exact P3 | exact P4 | exact P5 | exact P6 | exact P7 | exact P8 | exact P9 | exact P10 | exact P11 | exact P12 | exact P13 | exact P14 | exact P15 | exact P16 | exact P17 | exact P18 | exact P19 | exact P20 | exact P21 | exact P22 | exact P23)) | (apply Part.flat; simp only [List.cons_append, List.nil_append]) | (apply Part.cons; (first | exact P0 | exact P1 | exact P2 | exact P3 | exact P4 | exact P5 | exact P6 | exact P7 | exact P8 | exact P9 | exact P10 | exact P11 | exact P12 | exact P13 | exact P14 | exact P15 | exact P16 | exact P17 | exact P18 | exact P19 | exact P20 | exact P21 | exact P22 | exact P23)) | (apply Part.nilc))) ?_)))))
    first | exact ⟨rfl, rfl⟩ | (exfalso; omega) | (refine ⟨congrArg Value.bool (decide_eq_true ?_), rfl⟩; omega) | (exfalso; dsimp only at *; omega)
  intro h58_6
  refine SPL_y (y_pick_f rfl rfl) rfl ?_
  refine SPL_nil ?_
  refine thenP_n ?_
  refine SP_cond_f rfl ?_
  refine SP_skip ?_
  refine inBlockP_n ?_
  refine thenP_n ?_
  refine SP_region ?_
  refine SPL_y (y_add rfl rfl (by omega)) rfl ?_
  refine SPL_y (y_move rfl) rfl ?_
  refine SPL_nil ?_
  refine thenP_n ?_
  exact Again.intro ((j + 1, up)) (⟨by dsimp only; omega, by dsimp only; omega⟩) (by dsimp only; omega) (by repeat (first | exact Sub.nil _ | refine Sub.cons rfl ?_)) (by repeat (first | exact Part.nil _ | (apply Part.cons; with_reducible (first | exact P0 | exact P1 | exact P2 | exact P3 | exact P4 | exact P5 | exact P6 | exact P7 | exact P8 | exact P9 | exact P10 | exact P11 | exact P12 | exact P13 | exact P14 | exact P15 | exact P16 | exact P17 | exact P18 | exact P19 | exact P20 | exact P21 | exact P22 | exact P23)) | (apply Part.flat; simp only [List.cons_append, List.nil_append]) | (apply Part.cons; (first | exact P0 | exact P1 | exact P2 | exact P3 | exact P4 | exact P5 | exact P6 | exact P7 | exact P8 | exact P9 | exact P10 | exact P11 | exact P12 | exact P13 | exact P14 | exact P15 | exact P16 | exact P17 | exact P18 | exact P19 | exact P20 | exact P21 | exact P22 | exact P23)) | (apply Part.nilc)))

end Go.Sl
