/- Walks: vm.checkThread (made by program out of short notes) -/
import Derived.Test.Qxb6500573aGreatDoorCK1
namespace Go.Sl
open Go Go.Wl Go.Proofs
set_option maxRecDepth 100000
set_option linter.unusedVariables false
set_option linter.unusedSimpArgs false
set_option maxHeartbeats 8000000 in
theorem vm_checkThread (b : VB) (ph : PH) (hh : List TH) {m : VM} {i : Nat} {t : Th} (ht : m.vs.threads[i]? = some t) (hC : ThC m i t) (hl5 : m.vs.threads.length ≤ 5) (seg : Seg) (hM : isVM b ph hh m seg) : Spec Tryz.prog 179 [pt b.vb, I i, .bool false, I 0] [seg] (Ret fun v H => v = .bool true ∧ H = [seg]) := by
  have hil := (List.getElem?_eq_some_iff.1 ht).1
  obtain ⟨hln1, hln2, hln3, hln4, hln5⟩ := hC.ln
  obtain ⟨hfn1, hfn2⟩ := hC.fn
  have hnr := hC.nr
  obtain ⟨la, lc, hlh, hloA⟩ := hM.cloA
  obtain ⟨ea, ec, hceh, hcelA⟩ := hM.celA
  obtain ⟨g, oa, oc, hg, _, hrow, hstk, hfrm, hopn⟩ := hM.thr ht
  obtain ⟨lq, rfl, _⟩ := hloA _ _ (getI_jn (l := m.vs.clos) (j := 0) (by omega) (by omega))
  have hL : ∀ (i : Int) p, getI m.vs.clos i = some p → ∀ H : Hp, Cells (seg :: H) lq (0 + i.toNat * 3) (clV p) := fun i p h H => by
    obtain ⟨q, e, hc⟩ := hloA i p h
    injection e with e
    injection e with e
    subst e
    exact hc H
  refine Spec_enter Tryz.func179 rfl Tryz.ntmps179 rfl ?_
  show SP _ _ _ _ _ [(0, _), (1, _), (2, _), (3, _)] _
  refine SP_seq ?_
  refine SP_region ?_
  refine SPL_y (y_assign rfl) rfl ?_
  refine SPL_nil ?_
  refine thenP_n ?_
  refine SP_seq ?_
  refine SP_region ?_
  refine SPL_y (y_move rfl) rfl ?_
  refine SPL_y (y_nil rfl) rfl ?_
  refine SPL_y (y_fa fld_115_9 rfl) rfl ?_
  refine SPL_y (y_load Tryz.isAgg107 rfl (by repeat (first | exact hM.threads | apply Cell.tail))) rfl ?_
  refine SPL_y (y_move rfl) rfl ?_
  refine SPL_y (y_ia Tryz.underlying107 Tryz.sizeOf263 rfl rfl (by omega)) rfl ?_
  refine SPL_y (y_assign rfl) rfl ?_
  refine SPL_nil ?_
  refine thenP_n ?_
  refine SP_mid (G := Unit) (fun _ => [(0, pt b.vb), (1, I i), (2, .bool false), (3, I 0), (9, .pointer (some ⟨b.thb, 0 + ((i : Nat) : Int).toNat * 5, none⟩))]) (fun _ => [seg]) (fun _ => True) ?_ ?_
  · refine SP_seq ?_
    refine SP_draw 999 [(0, 0), (1, 0), (2, 0), (3, 1), (4, 0), (5, 0), (6, 0), (7, 0), (8, 0), (10, 0), (11, 0), (12, 0), (9, 1), (13, 1), (14, 0), (15, 0), (16, 0), (17, 0), (18, 0), (19, 0), (20, 0), (21, 0), (22, 1), (23, 0), (24, 0), (25, 0)] mixed (by kernel_rfl) (fun _ _ _ _ _ h => h) (Part.refl _) ?_
    refine SPO_p rfl (y_move rfl) rfl ?_
    refine SPO_p rfl (y_nil rfl) rfl ?_
    refine SPO_p rfl (y_fa fld_263_1 rfl) rfl ?_
    refine SPO_h rfl (y_load Tryz.isAgg3 rfl (by repeat (first | exact (hrow _ 1 _ rfl) | apply Cell.tail))) rfl ?_
    refine SPO_if rfl (y_lss rfl rfl) rfl ?_ ?_
    · intro h2_4
      refine SPO_p rfl (y_move rfl) rfl ?_
      refine SPO_gn (.inl rfl) rfl rfl rfl rfl rfl ?_
      refine SPO_gn (.inl rfl) rfl rfl rfl rfl rfl ?_
      refine SPO_gn (.inl rfl) rfl rfl rfl rfl rfl ?_
      refine SPO_gn (.inl rfl) rfl rfl rfl rfl rfl ?_
      refine SPO_gn (.inl rfl) rfl rfl rfl rfl rfl ?_
      refine SPO_gn (.inl rfl) rfl rfl rfl rfl rfl ?_
      refine SPO_gn (.inr rfl) rfl rfl rfl rfl rfl ?_
      refine SPO_gn (.inr rfl) rfl rfl rfl rfl rfl ?_
      refine SPO_gn (.inl rfl) rfl rfl rfl rfl rfl ?_
      refine SPO_gn (.inl rfl) rfl rfl rfl rfl rfl ?_
      refine SPO_p rfl (y_pick_t rfl rfl) rfl ?_
      refine SPO_p rfl (y_move rfl) rfl ?_
      refine SPO_gn (.inl rfl) rfl rfl rfl rfl rfl ?_
      refine SPO_gn (.inl rfl) rfl rfl rfl rfl rfl ?_
      refine SPO_gn (.inl rfl) rfl rfl rfl rfl rfl ?_
      refine SPO_gn (.inl rfl) rfl rfl rfl rfl rfl ?_
      refine SPO_gn (.inr rfl) rfl rfl rfl rfl rfl ?_
      refine SPO_gn (.inl rfl) rfl rfl rfl rfl rfl ?_
      refine SPO_gn (.inl rfl) rfl rfl rfl rfl rfl ?_
      refine SPO_p rfl (y_pick_t rfl rfl) rfl ?_
      refine SPO_nil ?_
      refine thenP_n ?_
      refine SP_cond_t rfl ?_
      refine SP_seq ?_
      refine SP_region ?_
      refine SPL_y (y_assign rfl) rfl ?_
      refine SPL_nil ?_
      refine thenP_n ?_
      refine SP_ret ?_
      refine thenP_ret (bodyP_ret (H' := [seg]) (Res1 rfl rfl) (by repeat (first | exact Part.nil _ | (apply Part.cons; with_reducible (first | exact P0 | exact P1 | exact P2 | exact P3 | exact P4 | exact P5 | exact P6 | exact P7 | exact P8 | exact P9 | exact P10 | exact P11 | exact P12 | exact P13 | exact P14 | exact P15 | exact P16 | exact P17 | exact P18 | exact P19 | exact P20 | exact P21 | exact P22 | exact P23)) | (apply Part.flat; simp only [List.cons_append, List.nil_append]) | (apply Part.cons; (first | exact P0 | exact P1 | exact P2 | exact P3 | exact P4 | exact P5 | exact P6 | exact P7 | exact P8 | exact P9 | exact P10 | exact P11 | exact P12 | exact P13 | exact P14 | exact P15 | exact P16 | exact P17 | exact P18 | exact P19 | exact P20 | exact P21 | exact P22 | exact P23)) | (apply Part.nilc))) ?_)
      first | exact ⟨rfl, rfl⟩ | (exfalso; omega) | (refine ⟨congrArg Value.bool (decide_eq_true ?_), rfl⟩; omega) | (exfalso; dsimp only at *; omega)
    intro h2_4
    refine SPO_p rfl (y_move rfl) rfl ?_
    refine SPO_py rfl rfl rfl (y_move rfl) rfl ?_
    refine SPO_py rfl rfl rfl (y_nil rfl) rfl ?_
    refine SPO_py rfl rfl rfl (y_fa fld_263_1 rfl) rfl ?_
    refine SPO_py rfl rfl rfl (y_move rfl) rfl ?_
    refine SPO_py rfl rfl rfl (y_nil rfl) rfl ?_
    refine SPO_py rfl rfl rfl (y_fa fld_115_6 rfl) rfl ?_
    refine SPO_hy rfl rfl rfl (y_load Tryz.isAgg3 rfl (by repeat (first | exact (hrow _ 1 _ rfl) | apply Cell.tail))) rfl ?_
    refine SPO_hy rfl rfl rfl (y_load Tryz.isAgg111 rfl (by repeat (first | exact (hlh _) | apply Cell.tail))) rfl ?_
    refine SPO_py rfl rfl rfl (y_len_l Tryz.underlying111 rfl) rfl ?_
    refine SPO_pyifn rfl rfl rfl (y_geq rfl rfl) rfl ?_ ?_
    · intro h2_15
      refine SPO_p rfl (y_pick_f rfl rfl) rfl ?_
      refine SPO_p rfl (y_move rfl) rfl ?_
      refine SPO_py rfl rfl rfl (y_move rfl) rfl ?_
      refine SPO_py rfl rfl rfl (y_move rfl) rfl ?_
      refine SPO_py rfl rfl rfl (y_nil rfl) rfl ?_
      refine SPO_py rfl rfl rfl (y_fa fld_263_0 rfl) rfl ?_
      refine SPO_hy rfl rfl rfl (y_load Tryz.isAgg3 rfl (by repeat (first | exact (hrow _ 0 _ rfl) | apply Cell.tail))) rfl ?_
      refine SPO_py rfl rfl rfl (y_eql rfl rfl) rfl ?_
      refine SPO_py rfl rfl rfl (y_bne Tryz.underlying4 rfl rfl) rfl ?_
      refine SPO_p rfl (y_pick_f rfl rfl) rfl ?_
      refine SPO_nil ?_
      refine thenP_n ?_
      refine SP_cond_b rfl ?_ ?_
      · intro hc50
        simp at hc50
        exact absurd hc50 hnr
      intro hc50
      refine SP_skip ?_
      refine thenP_n ?_
      exact Mid.intro (()) (trivial) (by repeat (first | exact Sub.nil _ | refine Sub.cons rfl ?_)) (by repeat (first | exact Part.nil _ | (apply Part.cons; with_reducible (first | exact P0 | exact P1 | exact P2 | exact P3 | exact P4 | exact P5 | exact P6 | exact P7 | exact P8 | exact P9 | exact P10 | exact P11 | exact P12 | exact P13 | exact P14 | exact P15 | exact P16 | exact P17 | exact P18 | exact P19 | exact P20 | exact P21 | exact P22 | exact P23)) | (apply Part.flat; simp only [List.cons_append, List.nil_append]) | (apply Part.cons; (first | exact P0 | exact P1 | exact P2 | exact P3 | exact P4 | exact P5 | exact P6 | exact P7 | exact P8 | exact P9 | exact P10 | exact P11 | exact P12 | exact P13 | exact P14 | exact P15 | exact P16 | exact P17 | exact P18 | exact P19 | exact P20 | exact P21 | exact P22 | exact P23)) | (apply Part.nilc)))
    intro h2_15
    refine SPO_p rfl (y_pick_f rfl rfl) rfl ?_
    refine SPO_p rfl (y_move rfl) rfl ?_
    refine SPO_gn (.inl rfl) rfl rfl rfl rfl rfl ?_
    refine SPO_gn (.inl rfl) rfl rfl rfl rfl rfl ?_
    refine SPO_gn (.inl rfl) rfl rfl rfl rfl rfl ?_
    refine SPO_gn (.inl rfl) rfl rfl rfl rfl rfl ?_
    refine SPO_gn (.inr rfl) rfl rfl rfl rfl rfl ?_
    refine SPO_gn (.inl rfl) rfl rfl rfl rfl rfl ?_
    refine SPO_gn (.inl rfl) rfl rfl rfl rfl rfl ?_
    refine SPO_p rfl (y_pick_t rfl rfl) rfl ?_
    refine SPO_nil ?_
    refine thenP_n ?_
    refine SP_cond_t rfl ?_
    refine SP_seq ?_
    refine SP_region ?_
    refine SPL_y (y_assign rfl) rfl ?_
    refine SPL_nil ?_
    refine thenP_n ?_
    refine SP_ret ?_
    refine thenP_ret (bodyP_ret (H' := [seg]) (Res1 rfl rfl) (by repeat (first | exact Part.nil _ | (apply Part.cons; with_reducible (first | exact P0 | exact P1 | exact P2 | exact P3 | exact P4 | exact P5 | exact P6 | exact P7 | exact P8 | exact P9 | exact P10 | exact P11 | exact P12 | exact P13 | exact P14 | exact P15 | exact P16 | exact P17 | exact P18 | exact P19 | exact P20 | exact P21 | exact P22 | exact P23)) | (apply Part.flat; simp only [List.cons_append, List.nil_append]) | (apply Part.cons; (first | exact P0 | exact P1 | exact P2 | exact P3 | exact P4 | exact P5 | exact P6 | exact P7 | exact P8 | exact P9 | exact P10 | exact P11 | exact P12 | exact P13 | exact P14 | exact P15 | exact P16 | exact P17 | exact P18 | exact P19 | exact P20 | exact P21 | exact P22 | exact P23)) | (apply Part.nilc))) ?_)
    first | exact ⟨rfl, rfl⟩ | (exfalso; omega) | (refine ⟨congrArg Value.bool (decide_eq_true ?_), rfl⟩; omega) | (exfalso; dsimp only at *; omega)
  rintro _ -
  refine SP_mid (G := Unit) (fun _ => [(0, pt b.vb), (1, I i), (2, .bool false), (3, I 0), (9, .pointer (some ⟨b.thb, 0 + ((i : Nat) : Int).toNat * 5, none⟩))]) (fun _ => [seg]) (fun _ => True) ?_ ?_
  · refine SP_seq ?_
    refine SP_region ?_
    refine SPL_y (y_move rfl) rfl ?_
    refine SPL_ifn (y_eql rfl rfl) rfl ?_ ?_
    · intro h4_1
      refine SPL_y (y_move rfl) rfl ?_
      refine SPL_gn rfl rfl rfl rfl ?_
      refine SPL_gn rfl rfl rfl rfl ?_
      refine SPL_gn rfl rfl rfl rfl ?_
      refine SPL_gn rfl rfl rfl rfl ?_
      refine SPL_gn rfl rfl rfl rfl ?_
      refine SPL_y (y_pick_f rfl rfl) rfl ?_
      refine SPL_y (y_move rfl) rfl ?_
      refine SPL_gn rfl rfl rfl rfl ?_
      refine SPL_gn rfl rfl rfl rfl ?_
      refine SPL_gn rfl rfl rfl rfl ?_
      refine SPL_gn rfl rfl rfl rfl ?_
      refine SPL_gn rfl rfl rfl rfl ?_
      refine SPL_gn rfl rfl rfl rfl ?_
      refine SPL_y (y_pick_f rfl rfl) rfl ?_
      refine SPL_nil ?_
      refine thenP_n ?_
      refine SP_cond_f rfl ?_
      refine SP_skip ?_
      refine thenP_n ?_
      exact Mid.intro (()) (trivial) (by repeat (first | exact Sub.nil _ | refine Sub.cons rfl ?_)) (by repeat (first | exact Part.nil _ | (apply Part.cons; with_reducible (first | exact P0 | exact P1 | exact P2 | exact P3 | exact P4 | exact P5 | exact P6 | exact P7 | exact P8 | exact P9 | exact P10 | exact P11 | exact P12 | exact P13 | exact P14 | exact P15 | exact P16 | exact P17 | exact P18 | exact P19 | exact P20 | exact P21 | exact P22 | exact P23)) | (apply Part.flat; simp only [List.cons_append, List.nil_append]) | (apply Part.cons; (first | exact P0 | exact P1 | exact P2 | exact P3 | exact P4 | exact P5 | exact P6 | exact P7 | exact P8 | exact P9 | exact P10 | exact P11 | exact P12 | exact P13 | exact P14 | exact P15 | exact P16 | exact P17 | exact P18 | exact P19 | exact P20 | exact P21 | exact P22 | exact P23)) | (apply Part.nilc)))
    intro h4_1
    refine SPL_y (y_move rfl) rfl ?_
    refine SPL_gy rfl rfl ?_
    refine SPL_y (y_move rfl) rfl ?_
    refine SPL_gy rfl rfl ?_
    refine SPL_y (y_nil rfl) rfl ?_
    refine SPL_gy rfl rfl ?_
    refine SPL_y (y_fa fld_263_0 rfl) rfl ?_
    refine SPL_gy rfl rfl ?_
    refine SPL_y (y_load Tryz.isAgg3 rfl (by repeat (first | exact (hrow _ 0 _ rfl) | apply Cell.tail))) rfl ?_
    refine SPL_gy rfl rfl ?_
    refine SPL_ifn (y_eql rfl rfl) rfl ?_ ?_
    · intro h4_7
      refine SPL_y (y_pick_t rfl rfl) rfl ?_
      refine SPL_y (y_move rfl) rfl ?_
      refine SPL_gn rfl rfl rfl rfl ?_
      refine SPL_gn rfl rfl rfl rfl ?_
      refine SPL_gn rfl rfl rfl rfl ?_
      refine SPL_gn rfl rfl rfl rfl ?_
      refine SPL_gn rfl rfl rfl rfl ?_
      refine SPL_gn rfl rfl rfl rfl ?_
      refine SPL_y (y_pick_f rfl rfl) rfl ?_
      refine SPL_nil ?_
      refine thenP_n ?_
      refine SP_cond_f rfl ?_
      refine SP_skip ?_
      refine thenP_n ?_
      exact Mid.intro (()) (trivial) (by repeat (first | exact Sub.nil _ | refine Sub.cons rfl ?_)) (by repeat (first | exact Part.nil _ | (apply Part.cons; with_reducible (first | exact P0 | exact P1 | exact P2 | exact P3 | exact P4 | exact P5 | exact P6 | exact P7 | exact P8 | exact P9 | exact P10 | exact P11 | exact P12 | exact P13 | exact P14 | exact P15 | exact P16 | exact P17 | exact P18 | exact P19 | exact P20 | exact P21 | exact P22 | exact P23)) | (apply Part.flat; simp only [List.cons_append, List.nil_append]) | (apply Part.cons; (first | exact P0 | exact P1 | exact P2 | exact P3 | exact P4 | exact P5 | exact P6 | exact P7 | exact P8 | exact P9 | exact P10 | exact P11 | exact P12 | exact P13 | exact P14 | exact P15 | exact P16 | exact P17 | exact P18 | exact P19 | exact P20 | exact P21 | exact P22 | exact P23)) | (apply Part.nilc)))
    intro h4_7
    refine SPL_y (y_pick_t rfl rfl) rfl ?_
    refine SPL_y (y_move rfl) rfl ?_
    refine SPL_gy rfl rfl ?_
    refine SPL_y (y_move rfl) rfl ?_
    refine SPL_gy rfl rfl ?_
    refine SPL_y (y_nil rfl) rfl ?_
    refine SPL_gy rfl rfl ?_
    refine SPL_y (y_fa fld_115_9 rfl) rfl ?_
    refine SPL_gy rfl rfl ?_
    have hz := hC.z (by omega) (by omega)
    refine SPL_y (y_load Tryz.isAgg107 rfl (by repeat (first | exact hM.threads | apply Cell.tail))) rfl ?_
    refine SPL_gy rfl rfl ?_
    refine SPL_y (y_len_l Tryz.underlying107 rfl) rfl ?_
    refine SPL_gy rfl rfl ?_
    refine SPL_ifn (y_gtr rfl rfl) rfl ?_ ?_
    · intro h4_15
      refine SPL_y (y_pick_t rfl rfl) rfl ?_
      refine SPL_nil ?_
      refine thenP_n ?_
      refine SP_cond_f rfl ?_
      refine SP_skip ?_
      refine thenP_n ?_
      exact Mid.intro (()) (trivial) (by repeat (first | exact Sub.nil _ | refine Sub.cons rfl ?_)) (by repeat (first | exact Part.nil _ | (apply Part.cons; with_reducible (first | exact P0 | exact P1 | exact P2 | exact P3 | exact P4 | exact P5 | exact P6 | exact P7 | exact P8 | exact P9 | exact P10 | exact P11 | exact P12 | exact P13 | exact P14 | exact P15 | exact P16 | exact P17 | exact P18 | exact P19 | exact P20 | exact P21 | exact P22 | exact P23)) | (apply Part.flat; simp only [List.cons_append, List.nil_append]) | (apply Part.cons; (first | exact P0 | exact P1 | exact P2 | exact P3 | exact P4 | exact P5 | exact P6 | exact P7 | exact P8 | exact P9 | exact P10 | exact P11 | exact P12 | exact P13 | exact P14 | exact P15 | exact P16 | exact P17 | exact P18 | exact P19 | exact P20 | exact P21 | exact P22 | exact P23)) | (apply Part.nilc)))
    intro h4_15
    refine SPL_y (y_pick_t rfl rfl) rfl ?_
    refine SPL_nil ?_
    refine thenP_n ?_
    refine SP_cond_t rfl ?_
    refine SP_seq ?_
    refine SP_region ?_
    refine SPL_y (y_assign rfl) rfl ?_
    refine SPL_nil ?_
    refine thenP_n ?_
    refine SP_ret ?_
    refine thenP_ret (bodyP_ret (H' := [seg]) (Res1 rfl rfl) (by repeat (first | exact Part.nil _ | (apply Part.cons; with_reducible (first | exact P0 | exact P1 | exact P2 | exact P3 | exact P4 | exact P5 | exact P6 | exact P7 | exact P8 | exact P9 | exact P10 | exact P11 | exact P12 | exact P13 | exact P14 | exact P15 | exact P16 | exact P17 | exact P18 | exact P19 | exact P20 | exact P21 | exact P22 | exact P23)) | (apply Part.flat; simp only [List.cons_append, List.nil_append]) | (apply Part.cons; (first | exact P0 | exact P1 | exact P2 | exact P3 | exact P4 | exact P5 | exact P6 | exact P7 | exact P8 | exact P9 | exact P10 | exact P11 | exact P12 | exact P13 | exact P14 | exact P15 | exact P16 | exact P17 | exact P18 | exact P19 | exact P20 | exact P21 | exact P22 | exact P23)) | (apply Part.nilc))) ?_)
    first | exact ⟨rfl, rfl⟩ | (exfalso; omega) | (refine ⟨congrArg Value.bool (decide_eq_true ?_), rfl⟩; omega) | (exfalso; dsimp only at *; omega)
  rintro _ -
  refine SP_mid (G := Unit) (fun _ => [(0, pt b.vb), (1, I i), (2, .bool false), (3, I 0), (9, .pointer (some ⟨b.thb, 0 + ((i : Nat) : Int).toNat * 5, none⟩))]) (fun _ => [seg]) (fun _ => t.st ≠ 1 ∧ t.st ≠ 5) ?_ ?_
  · refine SP_seq ?_
    refine SP_region ?_
    refine SPL_y (y_move rfl) rfl ?_
    refine SPL_y (y_nil rfl) rfl ?_
    refine SPL_y (y_fa fld_263_0 rfl) rfl ?_
    refine SPL_y (y_load Tryz.isAgg3 rfl (by repeat (first | exact (hrow _ 0 _ rfl) | apply Cell.tail))) rfl ?_
    refine SPL_if (y_eql rfl rfl) rfl ?_ ?_
    · intro h6_4
      refine SPL_y (y_move rfl) rfl ?_
      refine SPL_gn rfl rfl rfl rfl ?_
      refine SPL_gn rfl rfl rfl rfl ?_
      refine SPL_gn rfl rfl rfl rfl ?_
      refine SPL_gn rfl rfl rfl rfl ?_
      refine SPL_gn rfl rfl rfl rfl ?_
      refine SPL_y (y_pick_t rfl rfl) rfl ?_
      refine SPL_nil ?_
      refine thenP_n ?_
      refine SP_cond_t rfl ?_
      refine SP_seq ?_
      obtain ⟨hz1, hz2, hz3⟩ := hC.fr (by omega)
      refine SP_draw 999 [(0, 0), (1, 0), (2, 0), (5, 0), (6, 0), (7, 0), (11, 0), (12, 0), (13, 0), (3, 1), (4, 0), (8, 1), (9, 0), (10, 0), (14, 1), (15, 0), (16, 0), (17, 0), (18, 0)] mixed (by kernel_rfl) (fun _ _ _ _ _ h => h) (Part.refl _) ?_
      refine SPO_p rfl (y_move rfl) rfl ?_
      refine SPO_p rfl (y_nil rfl) rfl ?_
      refine SPO_p rfl (y_fa fld_263_2 rfl) rfl ?_
      refine SPO_p rfl (y_move rfl) rfl ?_
      refine SPO_p rfl (y_nil rfl) rfl ?_
      refine SPO_p rfl (y_fa fld_263_3 rfl) rfl ?_
      refine SPO_p rfl (y_move rfl) rfl ?_
      refine SPO_p rfl (y_nil rfl) rfl ?_
      refine SPO_p rfl (y_fa fld_263_4 rfl) rfl ?_
      refine SPO_h rfl (y_load Tryz.isAgg90 rfl (by repeat (first | exact (hrow _ 2 _ rfl) | apply Cell.tail))) rfl ?_
      refine SPO_p rfl (y_len_l Tryz.underlying90 rfl) rfl ?_
      refine SPO_h rfl (y_load Tryz.isAgg261 rfl (by repeat (first | exact (hrow _ 3 _ rfl) | apply Cell.tail))) rfl ?_
      refine SPO_p rfl (y_len_l Tryz.underlying261 rfl) rfl ?_
      refine SPO_p rfl (y_add rfl rfl (by omega)) rfl ?_
      refine SPO_h rfl (y_load Tryz.isAgg112 rfl (by repeat (first | exact (hrow _ 4 _ rfl) | apply Cell.tail))) rfl ?_
      refine SPO_p rfl (y_len_l Tryz.underlying112 rfl) rfl ?_
      refine SPO_p rfl (y_add rfl rfl (by omega)) rfl ?_
      refine SPO_p rfl (y_eql rfl rfl) rfl ?_
      refine SPO_p rfl (y_assign rfl) rfl ?_
      refine SPO_nil ?_
      refine thenP_n ?_
      refine SP_ret ?_
      refine thenP_ret (bodyP_ret (H' := [seg]) (Res1 rfl rfl) (by repeat (first | exact Part.nil _ | (apply Part.cons; with_reducible (first | exact P0 | exact P1 | exact P2 | exact P3 | exact P4 | exact P5 | exact P6 | exact P7 | exact P8 | exact P9 | exact P10 | exact P11 | exact P12 | exact P13 | exact P14 | exact P15 | exact P16 | exact P17 | exact P18 | exact P19 | exact P20 | exact P21 | exact P22 | exact P23)) | (apply Part.flat; simp only [List.cons_append, List.nil_append]) | (apply Part.cons; (first | exact P0 | exact P1 | exact P2 | exact P3 | exact P4 | exact P5 | exact P6 | exact P7 | exact P8 | exact P9 | exact P10 | exact P11 | exact P12 | exact P13 | exact P14 | exact P15 | exact P16 | exact P17 | exact P18 | exact P19 | exact P20 | exact P21 | exact P22 | exact P23)) | (apply Part.nilc))) ?_)
      first | exact ⟨rfl, rfl⟩ | (exfalso; omega) | (refine ⟨congrArg Value.bool (decide_eq_true ?_), rfl⟩; omega) | (exfalso; dsimp only at *; omega)
    intro h6_4
    refine SPL_y (y_move rfl) rfl ?_
    refine SPL_gy rfl rfl ?_
    refine SPL_y (y_move rfl) rfl ?_
    refine SPL_gy rfl rfl ?_
    refine SPL_y (y_nil rfl) rfl ?_
    refine SPL_gy rfl rfl ?_
    refine SPL_y (y_fa fld_263_0 rfl) rfl ?_
    refine SPL_gy rfl rfl ?_
    refine SPL_y (y_load Tryz.isAgg3 rfl (by repeat (first | exact (hrow _ 0 _ rfl) | apply Cell.tail))) rfl ?_
    refine SPL_gy rfl rfl ?_
    refine SPL_ifn (y_eql rfl rfl) rfl ?_ ?_
    · intro h6_10
      refine SPL_y (y_pick_f rfl rfl) rfl ?_
      refine SPL_nil ?_
      refine thenP_n ?_
      refine SP_cond_f rfl ?_
      refine SP_skip ?_
      refine thenP_n ?_
      exact Mid.intro (()) (⟨by omega, by omega⟩) (by repeat (first | exact Sub.nil _ | refine Sub.cons rfl ?_)) (by repeat (first | exact Part.nil _ | (apply Part.cons; with_reducible (first | exact P0 | exact P1 | exact P2 | exact P3 | exact P4 | exact P5 | exact P6 | exact P7 | exact P8 | exact P9 | exact P10 | exact P11 | exact P12 | exact P13 | exact P14 | exact P15 | exact P16 | exact P17 | exact P18 | exact P19 | exact P20 | exact P21 | exact P22 | exact P23)) | (apply Part.flat; simp only [List.cons_append, List.nil_append]) | (apply Part.cons; (first | exact P0 | exact P1 | exact P2 | exact P3 | exact P4 | exact P5 | exact P6 | exact P7 | exact P8 | exact P9 | exact P10 | exact P11 | exact P12 | exact P13 | exact P14 | exact P15 | exact P16 | exact P17 | exact P18 | exact P19 | exact P20 | exact P21 | exact P22 | exact P23)) | (apply Part.nilc)))
    intro h6_10
    refine SPL_y (y_pick_f rfl rfl) rfl ?_
    refine SPL_nil ?_
    refine thenP_n ?_
    refine SP_cond_t rfl ?_
    refine SP_seq ?_
    obtain ⟨hz1, hz2, hz3⟩ := hC.fr (by omega)
    refine SP_draw 999 [(0, 0), (1, 0), (2, 0), (5, 0), (6, 0), (7, 0), (11, 0), (12, 0), (13, 0), (3, 1), (4, 0), (8, 1), (9, 0), (10, 0), (14, 1), (15, 0), (16, 0), (17, 0), (18, 0)] mixed (by kernel_rfl) (fun _ _ _ _ _ h => h) (Part.refl _) ?_
    refine SPO_p rfl (y_move rfl) rfl ?_
    refine SPO_p rfl (y_nil rfl) rfl ?_
    refine SPO_p rfl (y_fa fld_263_2 rfl) rfl ?_
    refine SPO_p rfl (y_move rfl) rfl ?_
    refine SPO_p rfl (y_nil rfl) rfl ?_
    refine SPO_p rfl (y_fa fld_263_3 rfl) rfl ?_
    refine SPO_p rfl (y_move rfl) rfl ?_
    refine SPO_p rfl (y_nil rfl) rfl ?_
    refine SPO_p rfl (y_fa fld_263_4 rfl) rfl ?_
    refine SPO_h rfl (y_load Tryz.isAgg90 rfl (by repeat (first | exact (hrow _ 2 _ rfl) | apply Cell.tail))) rfl ?_
    refine SPO_p rfl (y_len_l Tryz.underlying90 rfl) rfl ?_
    refine SPO_h rfl (y_load Tryz.isAgg261 rfl (by repeat (first | exact (hrow _ 3 _ rfl) | apply Cell.tail))) rfl ?_
    refine SPO_p rfl (y_len_l Tryz.underlying261 rfl) rfl ?_
    refine SPO_p rfl (y_add rfl rfl (by omega)) rfl ?_
    refine SPO_h rfl (y_load Tryz.isAgg112 rfl (by repeat (first | exact (hrow _ 4 _ rfl) | apply Cell.tail))) rfl ?_
    refine SPO_p rfl (y_len_l Tryz.underlying112 rfl) rfl ?_
    refine SPO_p rfl (y_add rfl rfl (by omega)) rfl ?_
    refine SPO_p rfl (y_eql rfl rfl) rfl ?_
    refine SPO_p rfl (y_assign rfl) rfl ?_
    refine SPO_nil ?_
    refine thenP_n ?_
    refine SP_ret ?_
    refine thenP_ret (bodyP_ret (H' := [seg]) (Res1 rfl rfl) (by repeat (first | exact Part.nil _ | (apply Part.cons; with_reducible (first | exact P0 | exact P1 | exact P2 | exact P3 | exact P4 | exact P5 | exact P6 | exact P7 | exact P8 | exact P9 | exact P10 | exact P11 | exact P12 | exact P13 | exact P14 | exact P15 | exact P16 | exact P17 | exact P18 | exact P19 | exact P20 | exact P21 | exact P22 | exact P23)) | (apply Part.flat; simp only [List.cons_append, List.nil_append]) | (apply Part.cons; (first | exact P0 | exact P1 | exact P2 | exact P3 | exact P4 | exact P5 | exact P6 | exact P7 | exact P8 | exact P9 | exact P10 | exact P11 | exact P12 | exact P13 | exact P14 | exact P15 | exact P16 | exact P17 | exact P18 | exact P19 | exact P20 | exact P21 | exact P22 | exact P23)) | (apply Part.nilc))) ?_)
    first | exact ⟨rfl, rfl⟩ | (exfalso; omega) | (refine ⟨congrArg Value.bool (decide_eq_true ?_), rfl⟩; omega) | (exfalso; dsimp only at *; omega)
  rintro _ ⟨hs1, hs5⟩
  obtain ⟨hst23, hn0, hfl, oN, aT, ho0, hoN, hop, hup, hfr⟩ := hC.sl hs1 hs5
  obtain ⟨fq, hfa, _⟩ := hfrm _ _ (getI_jn (l := t.frames) (j := 0) (by omega) (by omega))
  have hF : ∀ (i : Int) f, getI t.frames i = some f → ∀ H : Hp, Cells (seg :: H) fq (0 + i.toNat * 5) (frV f) := fun i f h H => by
    obtain ⟨q, e, hc⟩ := hfrm i f h
    rw [hfa] at e
    injection e with e
    injection e with e
    subst e
    exact hc H
  have hfs : ∀ H : Hp, Cell (seg :: H) b.thb (0 + i * 5 + 3) (.slice (some ⟨fq, 0, none⟩) t.frames.length g.fc) := fun H => by
    have := hrow H 3 _ rfl
    rw [hfa] at this
    exact this
  refine SP_mid (G := Unit) (fun _ => [(0, pt b.vb), (1, I i), (2, .bool false), (3, I 0), (9, .pointer (some ⟨b.thb, 0 + ((i : Nat) : Int).toNat * 5, none⟩))]) (fun _ => [seg]) (fun _ => True) ?_ ?_
  · refine SP_seq ?_
    refine SP_region ?_
    refine SPL_y (y_move rfl) rfl ?_
    refine SPL_y (y_not_f rfl) rfl ?_
    refine SPL_y (y_move rfl) rfl ?_
    refine SPL_gy rfl rfl ?_
    refine SPL_y (y_move rfl) rfl ?_
    refine SPL_gy rfl rfl ?_
    refine SPL_y (y_nil rfl) rfl ?_
    refine SPL_gy rfl rfl ?_
    refine SPL_y (y_fa fld_263_0 rfl) rfl ?_
    refine SPL_gy rfl rfl ?_
    refine SPL_y (y_load Tryz.isAgg3 rfl (by repeat (first | exact (hrow _ 0 _ rfl) | apply Cell.tail))) rfl ?_
    refine SPL_gy rfl rfl ?_
    refine SPL_ifn (y_neq rfl rfl) rfl ?_ ?_
    · intro h8_7
      refine SPL_y (y_pick_t rfl rfl) rfl ?_
      refine SPL_y (y_move rfl) rfl ?_
      refine SPL_gn rfl rfl rfl rfl ?_
      refine SPL_gn rfl rfl rfl rfl ?_
      refine SPL_gn rfl rfl rfl rfl ?_
      refine SPL_gn rfl rfl rfl rfl ?_
      refine SPL_gn rfl rfl rfl rfl ?_
      refine SPL_y (y_pick_f rfl rfl) rfl ?_
      refine SPL_y (y_move rfl) rfl ?_
      refine SPL_gy rfl rfl ?_
      refine SPL_y (y_move rfl) rfl ?_
      refine SPL_gy rfl rfl ?_
      refine SPL_ifn (y_eql rfl rfl) rfl ?_ ?_
      · intro h8_18
        refine SPL_gy rfl rfl ?_
        refine SPL_y (y_move rfl) rfl ?_
        refine SPL_gn rfl rfl rfl rfl ?_
        refine SPL_gn rfl rfl rfl rfl ?_
        refine SPL_gn rfl rfl rfl rfl ?_
        refine SPL_gn rfl rfl rfl rfl ?_
        refine SPL_gn rfl rfl rfl rfl ?_
        refine SPL_gy rfl rfl ?_
        refine SPL_y (y_pick_f rfl rfl) rfl ?_
        refine SPL_y (y_pick_f rfl rfl) rfl ?_
        refine SPL_nil ?_
        refine thenP_n ?_
        refine SP_cond_f rfl ?_
        refine SP_skip ?_
        refine thenP_n ?_
        exact Mid.intro (()) (trivial) (by repeat (first | exact Sub.nil _ | refine Sub.cons rfl ?_)) (by repeat (first | exact Part.nil _ | (apply Part.cons; with_reducible (first | exact P0 | exact P1 | exact P2 | exact P3 | exact P4 | exact P5 | exact P6 | exact P7 | exact P8 | exact P9 | exact P10 | exact P11 | exact P12 | exact P13 | exact P14 | exact P15 | exact P16 | exact P17 | exact P18 | exact P19 | exact P20 | exact P21 | exact P22 | exact P23)) | (apply Part.flat; simp only [List.cons_append, List.nil_append]) | (apply Part.cons; (first | exact P0 | exact P1 | exact P2 | exact P3 | exact P4 | exact P5 | exact P6 | exact P7 | exact P8 | exact P9 | exact P10 | exact P11 | exact P12 | exact P13 | exact P14 | exact P15 | exact P16 | exact P17 | exact P18 | exact P19 | exact P20 | exact P21 | exact P22 | exact P23)) | (apply Part.nilc)))
      intro h8_18
      refine SPL_gy rfl rfl ?_
      refine SPL_y (y_move rfl) rfl ?_
      refine SPL_gy rfl rfl ?_
      refine SPL_y (y_move rfl) rfl ?_
      refine SPL_gy rfl rfl ?_
      refine SPL_y (y_nil rfl) rfl ?_
      refine SPL_gy rfl rfl ?_
      refine SPL_y (y_fa fld_263_0 rfl) rfl ?_
      refine SPL_gy rfl rfl ?_
      refine SPL_y (y_load Tryz.isAgg3 rfl (by repeat (first | exact (hrow _ 0 _ rfl) | apply Cell.tail))) rfl ?_
      refine SPL_gy rfl rfl ?_
      refine SPL_ifn (y_eql rfl rfl) rfl ?_ ?_
      · intro h8_24
        refine SPL_gy rfl rfl ?_
        refine SPL_y (y_pick_t rfl rfl) rfl ?_
        refine SPL_y (y_pick_f rfl rfl) rfl ?_
        refine SPL_nil ?_
        refine thenP_n ?_
        refine SP_cond_f rfl ?_
        refine SP_skip ?_
        refine thenP_n ?_
        exact Mid.intro (()) (trivial) (by repeat (first | exact Sub.nil _ | refine Sub.cons rfl ?_)) (by repeat (first | exact Part.nil _ | (apply Part.cons; with_reducible (first | exact P0 | exact P1 | exact P2 | exact P3 | exact P4 | exact P5 | exact P6 | exact P7 | exact P8 | exact P9 | exact P10 | exact P11 | exact P12 | exact P13 | exact P14 | exact P15 | exact P16 | exact P17 | exact P18 | exact P19 | exact P20 | exact P21 | exact P22 | exact P23)) | (apply Part.flat; simp only [List.cons_append, List.nil_append]) | (apply Part.cons; (first | exact P0 | exact P1 | exact P2 | exact P3 | exact P4 | exact P5 | exact P6 | exact P7 | exact P8 | exact P9 | exact P10 | exact P11 | exact P12 | exact P13 | exact P14 | exact P15 | exact P16 | exact P17 | exact P18 | exact P19 | exact P20 | exact P21 | exact P22 | exact P23)) | (apply Part.nilc)))
      intro h8_24
      refine SPL_gy rfl rfl ?_
      refine SPL_y (y_pick_t rfl rfl) rfl ?_
      refine SPL_y (y_pick_f rfl rfl) rfl ?_
      refine SPL_nil ?_
      refine thenP_n ?_
      refine SP_cond_t rfl ?_
      refine SP_seq ?_
      refine SP_region ?_
      refine SPL_y (y_assign rfl) rfl ?_
      refine SPL_nil ?_
      refine thenP_n ?_
      refine SP_ret ?_
      refine thenP_ret (bodyP_ret (H' := [seg]) (Res1 rfl rfl) (by repeat (first | exact Part.nil _ | (apply Part.cons; with_reducible (first | exact P0 | exact P1 | exact P2 | exact P3 | exact P4 | exact P5 | exact P6 | exact P7 | exact P8 | exact P9 | exact P10 | exact P11 | exact P12 | exact P13 | exact P14 | exact P15 | exact P16 | exact P17 | exact P18 | exact P19 | exact P20 | exact P21 | exact P22 | exact P23)) | (apply Part.flat; simp only [List.cons_append, List.nil_append]) | (apply Part.cons; (first | exact P0 | exact P1 | exact P2 | exact P3 | exact P4 | exact P5 | exact P6 | exact P7 | exact P8 | exact P9 | exact P10 | exact P11 | exact P12 | exact P13 | exact P14 | exact P15 | exact P16 | exact P17 | exact P18 | exact P19 | exact P20 | exact P21 | exact P22 | exact P23)) | (apply Part.nilc))) ?_)
      first | exact ⟨rfl, rfl⟩ | (exfalso; omega) | (refine ⟨congrArg Value.bool (decide_eq_true ?_), rfl⟩; omega) | (exfalso; dsimp only at *; omega)
    intro h8_7
    refine SPL_y (y_pick_t rfl rfl) rfl ?_
    refine SPL_y (y_move rfl) rfl ?_
    refine SPL_gy rfl rfl ?_
    refine SPL_y (y_move rfl) rfl ?_
    refine SPL_gy rfl rfl ?_
    refine SPL_y (y_nil rfl) rfl ?_
    refine SPL_gy rfl rfl ?_
    refine SPL_y (y_fa fld_263_0 rfl) rfl ?_
    refine SPL_gy rfl rfl ?_
    refine SPL_y (y_load Tryz.isAgg3 rfl (by repeat (first | exact (hrow _ 0 _ rfl) | apply Cell.tail))) rfl ?_
    refine SPL_gy rfl rfl ?_
    refine SPL_if (y_neq rfl rfl) rfl ?_ ?_
    · intro h8_14
      refine SPL_y (y_pick_t rfl rfl) rfl ?_
      refine SPL_y (y_move rfl) rfl ?_
      refine SPL_gn rfl rfl rfl rfl ?_
      refine SPL_gn rfl rfl rfl rfl ?_
      refine SPL_gn rfl rfl rfl rfl ?_
      refine SPL_gu rfl rfl rfl ?_
      refine SPL_gu rfl rfl rfl ?_
      refine SPL_gu rfl rfl rfl ?_
      refine SPL_gu rfl rfl rfl ?_
      refine SPL_gu rfl rfl rfl ?_
      refine SPL_gn rfl rfl rfl rfl ?_
      refine SPL_y (y_pick_t rfl rfl) rfl ?_
      refine SPL_nil ?_
      refine thenP_n ?_
      refine SP_cond_t rfl ?_
      refine SP_seq ?_
      refine SP_region ?_
      refine SPL_y (y_assign rfl) rfl ?_
      refine SPL_nil ?_
      refine thenP_n ?_
      refine SP_ret ?_
      refine thenP_ret (bodyP_ret (H' := [seg]) (Res1 rfl rfl) (by repeat (first | exact Part.nil _ | (apply Part.cons; with_reducible (first | exact P0 | exact P1 | exact P2 | exact P3 | exact P4 | exact P5 | exact P6 | exact P7 | exact P8 | exact P9 | exact P10 | exact P11 | exact P12 | exact P13 | exact P14 | exact P15 | exact P16 | exact P17 | exact P18 | exact P19 | exact P20 | exact P21 | exact P22 | exact P23)) | (apply Part.flat; simp only [List.cons_append, List.nil_append]) | (apply Part.cons; (first | exact P0 | exact P1 | exact P2 | exact P3 | exact P4 | exact P5 | exact P6 | exact P7 | exact P8 | exact P9 | exact P10 | exact P11 | exact P12 | exact P13 | exact P14 | exact P15 | exact P16 | exact P17 | exact P18 | exact P19 | exact P20 | exact P21 | exact P22 | exact P23)) | (apply Part.nilc))) ?_)
      first | exact ⟨rfl, rfl⟩ | (exfalso; omega) | (refine ⟨congrArg Value.bool (decide_eq_true ?_), rfl⟩; omega) | (exfalso; dsimp only at *; omega)
    intro h8_14
    refine SPL_y (y_pick_t rfl rfl) rfl ?_
    refine SPL_y (y_move rfl) rfl ?_
    refine SPL_gy rfl rfl ?_
    refine SPL_y (y_move rfl) rfl ?_
    refine SPL_gy rfl rfl ?_
    refine SPL_ifn (y_eql rfl rfl) rfl ?_ ?_
    · intro h8_18
      refine SPL_gy rfl rfl ?_
      refine SPL_y (y_move rfl) rfl ?_
      refine SPL_gn rfl rfl rfl rfl ?_
      refine SPL_gn rfl rfl rfl rfl ?_
      refine SPL_gn rfl rfl rfl rfl ?_
      refine SPL_gn rfl rfl rfl rfl ?_
      refine SPL_gn rfl rfl rfl rfl ?_
      refine SPL_gy rfl rfl ?_
      refine SPL_y (y_pick_f rfl rfl) rfl ?_
      refine SPL_y (y_pick_f rfl rfl) rfl ?_
      refine SPL_nil ?_
      refine thenP_n ?_
      refine SP_cond_f rfl ?_
      refine SP_skip ?_
      refine thenP_n ?_
      exact Mid.intro (()) (trivial) (by repeat (first | exact Sub.nil _ | refine Sub.cons rfl ?_)) (by repeat (first | exact Part.nil _ | (apply Part.cons; with_reducible (first | exact P0 | exact P1 | exact P2 | exact P3 | exact P4 | exact P5 | exact P6 | exact P7 | exact P8 | exact P9 | exact P10 | exact P11 | exact P12 | exact P13 | exact P14 | exact P15 | exact P16 | exact P17 | exact P18 | exact P19 | exact P20 | exact P21 | exact P22 | exact P23)) | (apply Part.flat; simp only [List.cons_append, List.nil_append]) | (apply Part.cons; (first | exact P0 | exact P1 | exact P2 | exact P3 | exact P4 | exact P5 | exact P6 | exact P7 | exact P8 | exact P9 | exact P10 | exact P11 | exact P12 | exact P13 | exact P14 | exact P15 | exact P16 | exact P17 | exact P18 | exact P19 | exact P20 | exact P21 | exact P22 | exact P23)) | (apply Part.nilc)))
    intro h8_18
    refine SPL_gy rfl rfl ?_
    refine SPL_y (y_move rfl) rfl ?_
    refine SPL_gy rfl rfl ?_
    refine SPL_y (y_move rfl) rfl ?_
    refine SPL_gy rfl rfl ?_
    refine SPL_y (y_nil rfl) rfl ?_
    refine SPL_gy rfl rfl ?_
    refine SPL_y (y_fa fld_263_0 rfl) rfl ?_
    refine SPL_gy rfl rfl ?_
    refine SPL_y (y_load Tryz.isAgg3 rfl (by repeat (first | exact (hrow _ 0 _ rfl) | apply Cell.tail))) rfl ?_
    refine SPL_gy rfl rfl ?_
    refine SPL_ifn (y_eql rfl rfl) rfl ?_ ?_
    · intro h8_24
      refine SPL_gy rfl rfl ?_
      refine SPL_y (y_pick_t rfl rfl) rfl ?_
      refine SPL_y (y_pick_f rfl rfl) rfl ?_
      refine SPL_nil ?_
      refine thenP_n ?_
      refine SP_cond_f rfl ?_
      refine SP_skip ?_
      refine thenP_n ?_
      exact Mid.intro (()) (trivial) (by repeat (first | exact Sub.nil _ | refine Sub.cons rfl ?_)) (by repeat (first | exact Part.nil _ | (apply Part.cons; with_reducible (first | exact P0 | exact P1 | exact P2 | exact P3 | exact P4 | exact P5 | exact P6 | exact P7 | exact P8 | exact P9 | exact P10 | exact P11 | exact P12 | exact P13 | exact P14 | exact P15 | exact P16 | exact P17 | exact P18 | exact P19 | exact P20 | exact P21 | exact P22 | exact P23)) | (apply Part.flat; simp only [List.cons_append, List.nil_append]) | (apply Part.cons; (first | exact P0 | exact P1 | exact P2 | exact P3 | exact P4 | exact P5 | exact P6 | exact P7 | exact P8 | exact P9 | exact P10 | exact P11 | exact P12 | exact P13 | exact P14 | exact P15 | exact P16 | exact P17 | exact P18 | exact P19 | exact P20 | exact P21 | exact P22 | exact P23)) | (apply Part.nilc)))
    intro h8_24
    refine SPL_gy rfl rfl ?_
    refine SPL_y (y_pick_t rfl rfl) rfl ?_
    refine SPL_y (y_pick_f rfl rfl) rfl ?_
    refine SPL_nil ?_
    refine thenP_n ?_
    refine SP_cond_t rfl ?_
    refine SP_seq ?_
    refine SP_region ?_
    refine SPL_y (y_assign rfl) rfl ?_
    refine SPL_nil ?_
    refine thenP_n ?_
    refine SP_ret ?_
    refine thenP_ret (bodyP_ret (H' := [seg]) (Res1 rfl rfl) (by repeat (first | exact Part.nil _ | (apply Part.cons; with_reducible (first | exact P0 | exact P1 | exact P2 | exact P3 | exact P4 | exact P5 | exact P6 | exact P7 | exact P8 | exact P9 | exact P10 | exact P11 | exact P12 | exact P13 | exact P14 | exact P15 | exact P16 | exact P17 | exact P18 | exact P19 | exact P20 | exact P21 | exact P22 | exact P23)) | (apply Part.flat; simp only [List.cons_append, List.nil_append]) | (apply Part.cons; (first | exact P0 | exact P1 | exact P2 | exact P3 | exact P4 | exact P5 | exact P6 | exact P7 | exact P8 | exact P9 | exact P10 | exact P11 | exact P12 | exact P13 | exact P14 | exact P15 | exact P16 | exact P17 | exact P18 | exact P19 | exact P20 | exact P21 | exact P22 | exact P23)) | (apply Part.nilc))) ?_)
    first | exact ⟨rfl, rfl⟩ | (exfalso; omega) | (refine ⟨congrArg Value.bool (decide_eq_true ?_), rfl⟩; omega) | (exfalso; dsimp only at *; omega)
  rintro _ -
  refine SP_mid (G := Unit) (fun _ => [(0, pt b.vb), (1, I i), (2, .bool false), (3, I 0), (9, .pointer (some ⟨b.thb, 0 + ((i : Nat) : Int).toNat * 5, none⟩))]) (fun _ => [seg]) (fun _ => True) ?_ ?_
  · refine SP_seq ?_
    refine SP_region ?_
    refine SPL_y (y_move rfl) rfl ?_
    refine SPL_y (y_nil rfl) rfl ?_
    refine SPL_y (y_fa fld_263_3 rfl) rfl ?_
    refine SPL_y (y_load Tryz.isAgg261 rfl (by repeat (first | exact (hrow _ 3 _ rfl) | apply Cell.tail))) rfl ?_
    refine SPL_y (y_len_l Tryz.underlying261 rfl) rfl ?_
    refine SPL_if (y_lss rfl rfl) rfl ?_ ?_
    · intro h10_5
      refine SPL_y (y_move rfl) rfl ?_
      refine SPL_gn rfl rfl rfl rfl ?_
      refine SPL_gn rfl rfl rfl rfl ?_
      refine SPL_gn rfl rfl rfl rfl ?_
      refine SPL_gn rfl rfl rfl rfl ?_
      refine SPL_gn rfl rfl rfl rfl ?_
      refine SPL_gn rfl rfl rfl rfl ?_
      refine SPL_y (y_pick_t rfl rfl) rfl ?_
      refine SPL_nil ?_
      refine thenP_n ?_
      refine SP_cond_t rfl ?_
      refine SP_seq ?_
      refine SP_region ?_
      refine SPL_y (y_assign rfl) rfl ?_
      refine SPL_nil ?_
      refine thenP_n ?_
      refine SP_ret ?_
      refine thenP_ret (bodyP_ret (H' := [seg]) (Res1 rfl rfl) (by repeat (first | exact Part.nil _ | (apply Part.cons; with_reducible (first | exact P0 | exact P1 | exact P2 | exact P3 | exact P4 | exact P5 | exact P6 | exact P7 | exact P8 | exact P9 | exact P10 | exact P11 | exact P12 | exact P13 | exact P14 | exact P15 | exact P16 | exact P17 | exact P18 | exact P19 | exact P20 | exact P21 | exact P22 | exact P23)) | (apply Part.flat; simp only [List.cons_append, List.nil_append]) | (apply Part.cons; (first | exact P0 | exact P1 | exact P2 | exact P3 | exact P4 | exact P5 | exact P6 | exact P7 | exact P8 | exact P9 | exact P10 | exact P11 | exact P12 | exact P13 | exact P14 | exact P15 | exact P16 | exact P17 | exact P18 | exact P19 | exact P20 | exact P21 | exact P22 | exact P23)) | (apply Part.nilc))) ?_)
      first | exact ⟨rfl, rfl⟩ | (exfalso; omega) | (refine ⟨congrArg Value.bool (decide_eq_true ?_), rfl⟩; omega) | (exfalso; dsimp only at *; omega)
    intro h10_5
    refine SPL_y (y_move rfl) rfl ?_
    refine SPL_gy rfl rfl ?_
    refine SPL_y (y_move rfl) rfl ?_
    refine SPL_gy rfl rfl ?_
    refine SPL_y (y_nil rfl) rfl ?_
    refine SPL_gy rfl rfl ?_
    refine SPL_y (y_fa fld_263_3 rfl) rfl ?_
    refine SPL_gy rfl rfl ?_
    refine SPL_y (y_load Tryz.isAgg261 rfl (by repeat (first | exact (hrow _ 3 _ rfl) | apply Cell.tail))) rfl ?_
    refine SPL_gy rfl rfl ?_
    refine SPL_y (y_len_l Tryz.underlying261 rfl) rfl ?_
    refine SPL_gy rfl rfl ?_
    refine SPL_ifn (y_gtr rfl rfl) rfl ?_ ?_
    · intro h10_12
      refine SPL_y (y_pick_f rfl rfl) rfl ?_
      refine SPL_nil ?_
      refine thenP_n ?_
      refine SP_cond_f rfl ?_
      refine SP_skip ?_
      refine thenP_n ?_
      exact Mid.intro (()) (trivial) (by repeat (first | exact Sub.nil _ | refine Sub.cons rfl ?_)) (by repeat (first | exact Part.nil _ | (apply Part.cons; with_reducible (first | exact P0 | exact P1 | exact P2 | exact P3 | exact P4 | exact P5 | exact P6 | exact P7 | exact P8 | exact P9 | exact P10 | exact P11 | exact P12 | exact P13 | exact P14 | exact P15 | exact P16 | exact P17 | exact P18 | exact P19 | exact P20 | exact P21 | exact P22 | exact P23)) | (apply Part.flat; simp only [List.cons_append, List.nil_append]) | (apply Part.cons; (first | exact P0 | exact P1 | exact P2 | exact P3 | exact P4 | exact P5 | exact P6 | exact P7 | exact P8 | exact P9 | exact P10 | exact P11 | exact P12 | exact P13 | exact P14 | exact P15 | exact P16 | exact P17 | exact P18 | exact P19 | exact P20 | exact P21 | exact P22 | exact P23)) | (apply Part.nilc)))
    intro h10_12
    refine SPL_y (y_pick_f rfl rfl) rfl ?_
    refine SPL_nil ?_
    refine thenP_n ?_
    refine SP_cond_t rfl ?_
    refine SP_seq ?_
    refine SP_region ?_
    refine SPL_y (y_assign rfl) rfl ?_
    refine SPL_nil ?_
    refine thenP_n ?_
    refine SP_ret ?_
    refine thenP_ret (bodyP_ret (H' := [seg]) (Res1 rfl rfl) (by repeat (first | exact Part.nil _ | (apply Part.cons; with_reducible (first | exact P0 | exact P1 | exact P2 | exact P3 | exact P4 | exact P5 | exact P6 | exact P7 | exact P8 | exact P9 | exact P10 | exact P11 | exact P12 | exact P13 | exact P14 | exact P15 | exact P16 | exact P17 | exact P18 | exact P19 | exact P20 | exact P21 | exact P22 | exact P23)) | (apply Part.flat; simp only [List.cons_append, List.nil_append]) | (apply Part.cons; (first | exact P0 | exact P1 | exact P2 | exact P3 | exact P4 | exact P5 | exact P6 | exact P7 | exact P8 | exact P9 | exact P10 | exact P11 | exact P12 | exact P13 | exact P14 | exact P15 | exact P16 | exact P17 | exact P18 | exact P19 | exact P20 | exact P21 | exact P22 | exact P23)) | (apply Part.nilc))) ?_)
    first | exact ⟨rfl, rfl⟩ | (exfalso; omega) | (refine ⟨congrArg Value.bool (decide_eq_true ?_), rfl⟩; omega) | (exfalso; dsimp only at *; omega)
  rintro _ -
  refine SP_seq ?_
  refine SP_region ?_
  refine SPL_y (y_assign rfl) rfl ?_
  refine SPL_nil ?_
  refine thenP_n ?_
  refine SP_seq ?_
  refine SP_seq ?_
  refine SP_region ?_
  refine SPL_y (y_move rfl) rfl ?_
  refine SPL_y (y_nil rfl) rfl ?_
  refine SPL_y (y_fa fld_263_3 rfl) rfl ?_
  refine SPL_y (y_load Tryz.isAgg261 rfl (by repeat (first | exact (hrow _ 3 _ rfl) | apply Cell.tail))) rfl ?_
  refine SPL_y (y_len_l Tryz.underlying261 rfl) rfl ?_
  refine SPL_y (y_move rfl) rfl ?_
  refine SPL_nil ?_
  refine thenP_n ?_
  refine SP_block ?_
  refine SP_loop (G := Nat) (fun j => t.frames.length - j) (fun j => [(0, pt b.vb), (1, I i), (2, .bool false), (3, I 0), (9, .pointer (some ⟨b.thb, 0 + ((i : Nat) : Int).toNat * 5, none⟩)), (10, I (if j = 0 then 0 else ((oN j : Nat) : Int))), (143, I t.frames.length), (144, I j)]) (fun _ => [seg]) (fun j => j ≤ t.frames.length) (0) (Nat.zero_le _) (by repeat (first | exact Sub.nil _ | refine Sub.cons rfl ?_)) (by repeat (first | exact Part.nil _ | (apply Part.cons; with_reducible (first | exact P0 | exact P1 | exact P2 | exact P3 | exact P4 | exact P5 | exact P6 | exact P7 | exact P8 | exact P9 | exact P10 | exact P11 | exact P12 | exact P13 | exact P14 | exact P15 | exact P16 | exact P17 | exact P18 | exact P19 | exact P20 | exact P21 | exact P22 | exact P23)) | (apply Part.flat; simp only [List.cons_append, List.nil_append]) | (apply Part.cons; (first | exact P0 | exact P1 | exact P2 | exact P3 | exact P4 | exact P5 | exact P6 | exact P7 | exact P8 | exact P9 | exact P10 | exact P11 | exact P12 | exact P13 | exact P14 | exact P15 | exact P16 | exact P17 | exact P18 | exact P19 | exact P20 | exact P21 | exact P22 | exact P23)) | (apply Part.nilc))) ?_
  intro j hj
  rw [show (if j = 0 then (0 : Int) else ((oN j : Nat) : Int)) = ((oN j : Nat) : Int) from by by_cases q : j = 0 <;> simp [q, ho0]]
  refine SP_seq ?_
  refine SP_region ?_
  refine SPL_ifn (y_lss rfl rfl) rfl ?_ ?_
  · intro h14_0
    refine SPL_nil ?_
    refine thenP_n ?_
    refine SP_seq ?_
    refine SP_cond_f rfl ?_
    refine SP_exit ?_
    refine thenP_exit ?_
    refine thenP_exit ?_
    refine inBlockP_hit ?_
    refine thenP_n ?_
    refine SP_seq ?_
    have hoN2 : oN j = t.opn.length := by rw [show j = t.frames.length by omega]; exact hoN
    refine SP_region ?_
    refine SPL_y (y_move rfl) rfl ?_
    refine SPL_y (y_move rfl) rfl ?_
    refine SPL_y (y_nil rfl) rfl ?_
    refine SPL_y (y_fa fld_263_4 rfl) rfl ?_
    refine SPL_y (y_load Tryz.isAgg112 rfl (by repeat (first | exact (hrow _ 4 _ rfl) | apply Cell.tail))) rfl ?_
    refine SPL_y (y_len_l Tryz.underlying112 rfl) rfl ?_
    refine SPL_y (y_eql rfl rfl) rfl ?_
    refine SPL_y (y_assign rfl) rfl ?_
    refine SPL_nil ?_
    refine thenP_n ?_
    refine SP_ret ?_
    refine bodyP_ret (H' := [seg]) (Res1 rfl rfl) (by repeat (first | exact Part.nil _ | (apply Part.cons; with_reducible (first | exact P0 | exact P1 | exact P2 | exact P3 | exact P4 | exact P5 | exact P6 | exact P7 | exact P8 | exact P9 | exact P10 | exact P11 | exact P12 | exact P13 | exact P14 | exact P15 | exact P16 | exact P17 | exact P18 | exact P19 | exact P20 | exact P21 | exact P22 | exact P23)) | (apply Part.flat; simp only [List.cons_append, List.nil_append]) | (apply Part.cons; (first | exact P0 | exact P1 | exact P2 | exact P3 | exact P4 | exact P5 | exact P6 | exact P7 | exact P8 | exact P9 | exact P10 | exact P11 | exact P12 | exact P13 | exact P14 | exact P15 | exact P16 | exact P17 | exact P18 | exact P19 | exact P20 | exact P21 | exact P22 | exact P23)) | (apply Part.nilc))) ?_
    first | exact ⟨rfl, rfl⟩ | (exfalso; omega) | (refine ⟨congrArg Value.bool (decide_eq_true ?_), rfl⟩; omega) | (exfalso; dsimp only at *; omega)
  intro h14_0
  refine SPL_nil ?_
  refine thenP_n ?_
  refine SP_seq ?_
  refine SP_cond_t rfl ?_
  refine SP_skip ?_
  refine thenP_n ?_
  refine SP_seq ?_
  refine SP_block ?_
  refine SP_seq ?_
  refine SP_region ?_
  refine SPL_y (y_move rfl) rfl ?_
  refine SPL_y (y_assign rfl) rfl ?_
  refine SPL_nil ?_
  refine thenP_n ?_
  refine SP_seq ?_
  have hjl : j < t.frames.length := by omega
  obtain ⟨f, hf⟩ : ∃ f, t.frames[j]? = some f := ⟨_, List.getElem?_eq_getElem hjl⟩
  have hfc := hF _ _ (getI_nat hf (by omega))
  obtain ⟨cl, p, hcl, hp, hns, hpc, hrb, hnx, hlast, hbot, hoj, hok⟩ := hfr j f hf
  obtain ⟨hclb, hcll, _⟩ := getI_some hcl
  obtain ⟨hpb, hpl, _⟩ := getI_some hp
  obtain ⟨pq, hpa, hpq⟩ := hM.proto hp
  have hpr0 : ∀ H : Hp, Cell (seg :: H) b.vb (0 + 2) (.slice (some ⟨pq, 0, none⟩) m.pg.protos.length ph.pc) := fun H => by
    have := hM.protos (H := H)
    rw [hpa] at this
    exact this
  have hLc := hL _ _ hcl
  refine SP_region ?_
  refine SPL_y (y_move rfl) rfl ?_
  refine SPL_y (y_nil rfl) rfl ?_
  refine SPL_y (y_fa fld_263_3 rfl) rfl ?_
  refine SPL_y (y_load Tryz.isAgg261 rfl (by repeat (first | exact (hfs _) | apply Cell.tail))) rfl ?_
  refine SPL_y (y_move rfl) rfl ?_
  refine SPL_y (y_ia Tryz.underlying261 Tryz.sizeOf331 rfl rfl (by omega)) rfl ?_
  refine SPL_y (y_assign rfl) rfl ?_
  refine SPL_nil ?_
  refine thenP_n ?_
  refine SP_seq ?_
  refine SP_seq ?_
  refine SP_draw 999 [(0, 0), (1, 0), (2, 0), (3, 1), (4, 0), (5, 0), (6, 0), (7, 0), (8, 0), (10, 0), (11, 0), (12, 0), (9, 1), (13, 1), (14, 0), (15, 0), (16, 0)] mixed (by kernel_rfl) (fun _ _ _ _ _ h => h) (Part.refl _) ?_
  refine SPO_p rfl (y_move rfl) rfl ?_
  refine SPO_p rfl (y_nil rfl) rfl ?_
  refine SPO_p rfl (y_fa fld_331_0 rfl) rfl ?_
  refine SPO_h rfl (y_load Tryz.isAgg3 rfl (by repeat (first | exact ((hfc _).cell rfl) | apply Cell.tail))) rfl ?_
  refine SPO_if rfl (y_lss rfl rfl) rfl ?_ ?_
  · intro h17_4
    refine SPO_p rfl (y_move rfl) rfl ?_
    refine SPO_gn (.inl rfl) rfl rfl rfl rfl rfl ?_
    refine SPO_gn (.inl rfl) rfl rfl rfl rfl rfl ?_
    refine SPO_gn (.inl rfl) rfl rfl rfl rfl rfl ?_
    refine SPO_gn (.inl rfl) rfl rfl rfl rfl rfl ?_
    refine SPO_gn (.inl rfl) rfl rfl rfl rfl rfl ?_
    refine SPO_gn (.inl rfl) rfl rfl rfl rfl rfl ?_
    refine SPO_gn (.inr rfl) rfl rfl rfl rfl rfl ?_
    refine SPO_gn (.inr rfl) rfl rfl rfl rfl rfl ?_
    refine SPO_gn (.inl rfl) rfl rfl rfl rfl rfl ?_
    refine SPO_gn (.inl rfl) rfl rfl rfl rfl rfl ?_
    refine SPO_p rfl (y_pick_t rfl rfl) rfl ?_
    refine SPO_nil ?_
    refine thenP_n ?_
    refine SP_cond_t rfl ?_
    refine SP_seq ?_
    refine SP_region ?_
    refine SPL_y (y_assign rfl) rfl ?_
    refine SPL_nil ?_
    refine thenP_n ?_
    refine SP_ret ?_
    refine thenP_ret (inBlockP_ret (thenP_ret (thenP_ret (inBlockP_ret (thenP_ret (bodyP_ret (H' := [seg]) (Res1 rfl rfl) (by repeat (first | exact Part.nil _ | (apply Part.cons; with_reducible (first | exact P0 | exact P1 | exact P2 | exact P3 | exact P4 | exact P5 | exact P6 | exact P7 | exact P8 | exact P9 | exact P10 | exact P11 | exact P12 | exact P13 | exact P14 | exact P15 | exact P16 | exact P17 | exact P18 | exact P19 | exact P20 | exact P21 | exact P22 | exact P23)) | (apply Part.flat; simp only [List.cons_append, List.nil_append]) | (apply Part.cons; (first | exact P0 | exact P1 | exact P2 | exact P3 | exact P4 | exact P5 | exact P6 | exact P7 | exact P8 | exact P9 | exact P10 | exact P11 | exact P12 | exact P13 | exact P14 | exact P15 | exact P16 | exact P17 | exact P18 | exact P19 | exact P20 | exact P21 | exact P22 | exact P23)) | (apply Part.nilc))) ?_))))))
    first | exact ⟨rfl, rfl⟩ | (exfalso; omega) | (refine ⟨congrArg Value.bool (decide_eq_true ?_), rfl⟩; omega) | (exfalso; dsimp only at *; omega)
  intro h17_4
  refine SPO_p rfl (y_move rfl) rfl ?_
  refine SPO_py rfl rfl rfl (y_move rfl) rfl ?_
  refine SPO_py rfl rfl rfl (y_nil rfl) rfl ?_
  refine SPO_py rfl rfl rfl (y_fa fld_331_0 rfl) rfl ?_
  refine SPO_py rfl rfl rfl (y_move rfl) rfl ?_
  refine SPO_py rfl rfl rfl (y_nil rfl) rfl ?_
  refine SPO_py rfl rfl rfl (y_fa fld_115_6 rfl) rfl ?_
  refine SPO_hy rfl rfl rfl (y_load Tryz.isAgg3 rfl (by repeat (first | exact ((hfc _).cell rfl) | apply Cell.tail))) rfl ?_
  refine SPO_hy rfl rfl rfl (y_load Tryz.isAgg111 rfl (by repeat (first | exact (hlh _) | apply Cell.tail))) rfl ?_
  refine SPO_py rfl rfl rfl (y_len_l Tryz.underlying111 rfl) rfl ?_
  refine SPO_pyif rfl rfl rfl (y_geq rfl rfl) rfl ?_ ?_
  · intro h17_15
    refine SPO_p rfl (y_pick_f rfl rfl) rfl ?_
    refine SPO_nil ?_
    refine thenP_n ?_
    refine SP_cond_t rfl ?_
    refine SP_seq ?_
    refine SP_region ?_
    refine SPL_y (y_assign rfl) rfl ?_
    refine SPL_nil ?_
    refine thenP_n ?_
    refine SP_ret ?_
    refine thenP_ret (inBlockP_ret (thenP_ret (thenP_ret (inBlockP_ret (thenP_ret (bodyP_ret (H' := [seg]) (Res1 rfl rfl) (by repeat (first | exact Part.nil _ | (apply Part.cons; with_reducible (first | exact P0 | exact P1 | exact P2 | exact P3 | exact P4 | exact P5 | exact P6 | exact P7 | exact P8 | exact P9 | exact P10 | exact P11 | exact P12 | exact P13 | exact P14 | exact P15 | exact P16 | exact P17 | exact P18 | exact P19 | exact P20 | exact P21 | exact P22 | exact P23)) | (apply Part.flat; simp only [List.cons_append, List.nil_append]) | (apply Part.cons; (first | exact P0 | exact P1 | exact P2 | exact P3 | exact P4 | exact P5 | exact P6 | exact P7 | exact P8 | exact P9 | exact P10 | exact P11 | exact P12 | exact P13 | exact P14 | exact P15 | exact P16 | exact P17 | exact P18 | exact P19 | exact P20 | exact P21 | exact P22 | exact P23)) | (apply Part.nilc))) ?_))))))
    first | exact ⟨rfl, rfl⟩ | (exfalso; omega) | (refine ⟨congrArg Value.bool (decide_eq_true ?_), rfl⟩; omega) | (exfalso; dsimp only at *; omega)
  intro h17_15
  refine SPO_p rfl (y_pick_f rfl rfl) rfl ?_
  refine SPO_nil ?_
  refine thenP_n ?_
  refine SP_cond_f rfl ?_
  refine SP_skip ?_
  refine thenP_n ?_
  refine SP_seq ?_
  refine SP_draw 999 [(0, 0), (1, 0), (2, 0), (4, 0), (5, 0), (6, 0), (8, 0), (9, 0), (10, 0), (3, 1), (7, 1), (11, 1), (12, 0), (13, 0), (14, 1), (15, 0), (16, 0)] mixed (by kernel_rfl) (fun _ _ _ _ _ h => h) (Part.refl _) ?_
  refine SPO_p rfl (y_move rfl) rfl ?_
  refine SPO_p rfl (y_nil rfl) rfl ?_
  refine SPO_p rfl (y_fa fld_115_2 rfl) rfl ?_
  refine SPO_p rfl (y_move rfl) rfl ?_
  refine SPO_p rfl (y_nil rfl) rfl ?_
  refine SPO_p rfl (y_fa fld_115_6 rfl) rfl ?_
  refine SPO_p rfl (y_move rfl) rfl ?_
  refine SPO_p rfl (y_nil rfl) rfl ?_
  refine SPO_p rfl (y_fa fld_331_0 rfl) rfl ?_
  refine SPO_h rfl (y_load Tryz.isAgg108 rfl (by repeat (first | exact (hpr0 _) | apply Cell.tail))) rfl ?_
  refine SPO_h rfl (y_load Tryz.isAgg111 rfl (by repeat (first | exact (hlh _) | apply Cell.tail))) rfl ?_
  refine SPO_h rfl (y_load Tryz.isAgg3 rfl (by repeat (first | exact ((hfc _).cell rfl) | apply Cell.tail))) rfl ?_
  refine SPO_p rfl (y_ia Tryz.underlying111 Tryz.sizeOf181 rfl rfl (by omega)) rfl ?_
  refine SPO_p rfl (y_fa fld_181_0 rfl) rfl ?_
  refine SPO_h rfl (y_load Tryz.isAgg3 rfl (by repeat (first | exact ((hLc _).cell rfl) | apply Cell.tail))) rfl ?_
  refine SPO_p rfl (y_ia Tryz.underlying108 Tryz.sizeOf252 rfl rfl (by omega)) rfl ?_
  refine SPO_p rfl (y_assign rfl) rfl ?_
  refine SPO_nil ?_
  refine thenP_n ?_
  refine SP_seq ?_
  refine SP_draw 999 [(0, 0), (1, 0), (2, 0), (4, 0), (5, 0), (6, 0), (3, 1), (7, 1), (8, 0), (9, 0)] mixed (by kernel_rfl) (fun _ _ _ _ _ h => h) (Part.refl _) ?_
  refine SPO_p rfl (y_move rfl) rfl ?_
  refine SPO_p rfl (y_nil rfl) rfl ?_
  refine SPO_p rfl (y_fa fld_331_2 rfl) rfl ?_
  refine SPO_p rfl (y_move rfl) rfl ?_
  refine SPO_p rfl (y_nil rfl) rfl ?_
  refine SPO_p rfl (y_fa fld_252_1 rfl) rfl ?_
  refine SPO_h rfl (y_load Tryz.isAgg3 rfl (by repeat (first | exact ((hfc _).cell rfl) | apply Cell.tail))) rfl ?_
  refine SPO_h rfl (y_load Tryz.isAgg3 rfl (by repeat (first | exact ((hpq _).cell rfl) | apply Cell.tail))) rfl ?_
  refine SPO_p rfl (y_add rfl rfl (by omega)) rfl ?_
  refine SPO_p rfl (y_assign rfl) rfl ?_
  refine SPO_nil ?_
  refine thenP_n ?_
  refine SP_seq ?_
  refine SP_draw 999 [(0, 0), (1, 0), (2, 0), (5, 0), (7, 0), (8, 0), (9, 0), (3, 1), (4, 0), (6, 0), (12, 0), (10, 1), (11, 0), (13, 0), (14, 0)] mixed (by kernel_rfl) (fun _ _ _ _ _ h => h) (Part.refl _) ?_
  refine SPO_p rfl (y_move rfl) rfl ?_
  refine SPO_p rfl (y_nil rfl) rfl ?_
  refine SPO_p rfl (y_fa fld_263_2 rfl) rfl ?_
  refine SPO_p rfl (y_move rfl) rfl ?_
  refine SPO_p rfl (y_move rfl) rfl ?_
  refine SPO_p rfl (y_nil rfl) rfl ?_
  refine SPO_p rfl (y_fa fld_263_2 rfl) rfl ?_
  refine SPO_h rfl (y_load Tryz.isAgg90 rfl (by repeat (first | exact (hrow _ 2 _ rfl) | apply Cell.tail))) rfl ?_
  refine SPO_p rfl (y_len_l Tryz.underlying90 rfl) rfl ?_
  refine SPO_p rfl (y_sub rfl rfl (by omega)) rfl ?_
  refine SPO_p rfl (y_assign rfl) rfl ?_
  refine SPO_h rfl (y_load Tryz.isAgg90 rfl (by repeat (first | exact (hrow _ 2 _ rfl) | apply Cell.tail))) rfl ?_
  refine SPO_p rfl (y_len_l Tryz.underlying90 rfl) rfl ?_
  refine SPO_p rfl (y_assign rfl) rfl ?_
  refine SPO_p rfl (y_assign rfl) rfl ?_
  refine SPO_nil ?_
  refine thenP_n ?_
  refine SP_mid (G := Int × Int) (fun g => [(0, pt b.vb), (1, I i), (2, .bool false), (3, I 0), (9, .pointer (some ⟨b.thb, 0 + ((i : Nat) : Int).toNat * 5, none⟩)), (10, I ((oN j : Nat) : Int)), (11, I j), (12, .pointer (some ⟨fq, 0 + ((j : Nat) : Int).toNat * 5, none⟩)), (13, .pointer (some ⟨pq, 0 + cl.p.toNat * 8, none⟩)), (14, I (f.base + p.nslots)), (143, I t.frames.length), (144, I j), (15, I g.1), (16, I g.2), (17, I 2)]) (fun _ => [seg]) (fun g => f.base + p.nslots ≤ g.1 ∧ g.1 - (f.base + p.nslots) + 2 ≤ 128 ∧ g.1 ≤ g.2 ∧ g.2 ≤ t.stack.length ∧ (j + 1 < t.frames.length → 1 ≤ g.2 - g.1 ∧ g.2 - g.1 ≤ 4 ∧ g.2 - (f.base + p.nslots) ≤ 128)) ?_ ?_
  · refine SP_seq ?_
    refine SP_region ?_
    refine SPL_y (y_move rfl) rfl ?_
    refine SPL_y (y_add rfl rfl (by omega)) rfl ?_
    refine SPL_y (y_move rfl) rfl ?_
    refine SPL_y (y_nil rfl) rfl ?_
    refine SPL_y (y_fa fld_263_3 rfl) rfl ?_
    refine SPL_y (y_load Tryz.isAgg261 rfl (by repeat (first | exact (hfs _) | apply Cell.tail))) rfl ?_
    refine SPL_y (y_len_l Tryz.underlying261 rfl) rfl ?_
    refine SPL_ifn (y_lss rfl rfl) rfl ?_ ?_
    · intro h22_7
      refine SPL_nil ?_
      refine thenP_n ?_
      refine SP_cond_f rfl ?_
      refine SP_seq ?_
      obtain ⟨hx1, hx2⟩ := hlast (by omega)
      refine SP_region ?_
      refine SPL_y (y_move rfl) rfl ?_
      refine SPL_y (y_move rfl) rfl ?_
      refine SPL_gn rfl rfl rfl rfl ?_
      refine SPL_gn rfl rfl rfl rfl ?_
      refine SPL_y (y_pick_f rfl rfl) rfl ?_
      refine SPL_nil ?_
      refine thenP_n ?_
      refine SP_cond_f rfl ?_
      refine SP_skip ?_
      refine thenP_n ?_
      exact Mid.intro (((t.stack.length : Int) - 0, (t.stack.length : Int))) (⟨by dsimp only; omega, by dsimp only; omega, by dsimp only; omega, by dsimp only; omega, fun _ => by omega⟩) (by repeat (first | exact Sub.nil _ | refine Sub.cons rfl ?_)) (by repeat (first | exact Part.nil _ | (apply Part.cons; with_reducible (first | exact P0 | exact P1 | exact P2 | exact P3 | exact P4 | exact P5 | exact P6 | exact P7 | exact P8 | exact P9 | exact P10 | exact P11 | exact P12 | exact P13 | exact P14 | exact P15 | exact P16 | exact P17 | exact P18 | exact P19 | exact P20 | exact P21 | exact P22 | exact P23)) | (apply Part.flat; simp only [List.cons_append, List.nil_append]) | (apply Part.cons; (first | exact P0 | exact P1 | exact P2 | exact P3 | exact P4 | exact P5 | exact P6 | exact P7 | exact P8 | exact P9 | exact P10 | exact P11 | exact P12 | exact P13 | exact P14 | exact P15 | exact P16 | exact P17 | exact P18 | exact P19 | exact P20 | exact P21 | exact P22 | exact P23)) | (apply Part.nilc)))
    intro h22_7
    refine SPL_nil ?_
    refine thenP_n ?_
    refine SP_cond_t rfl ?_
    obtain ⟨f2, hf2⟩ : ∃ f, t.frames[j + 1]? = some f := ⟨_, List.getElem?_eq_getElem (by omega)⟩
    have hfg0 := getI_nat hf2 (by omega)
    have hfg2 : getI t.frames ((j : Int) + 1) = some f2 := hfg0
    have hfc2 := hF _ _ hfg2
    obtain ⟨hx1, hx2, hx3, hx4, hx5⟩ := hnx f2 hf2
    refine SP_draw 999 [(0, 0), (1, 0), (2, 0), (4, 0), (5, 0), (9, 0), (10, 0), (11, 0), (13, 0), (14, 0), (3, 1), (6, 0), (7, 0), (8, 1), (18, 0), (12, 1), (15, 0), (16, 0), (17, 1), (19, 0)] mixed (by kernel_rfl) (fun _ _ _ _ _ h => h) (Part.refl _) ?_
    refine SPO_p rfl (y_move rfl) rfl ?_
    refine SPO_p rfl (y_nil rfl) rfl ?_
    refine SPO_p rfl (y_fa fld_263_3 rfl) rfl ?_
    refine SPO_p rfl (y_move rfl) rfl ?_
    refine SPO_p rfl (y_add rfl rfl (by omega)) rfl ?_
    refine SPO_p rfl (y_move rfl) rfl ?_
    refine SPO_p rfl (y_nil rfl) rfl ?_
    refine SPO_p rfl (y_fa fld_263_3 rfl) rfl ?_
    refine SPO_p rfl (y_move rfl) rfl ?_
    refine SPO_p rfl (y_add rfl rfl (by omega)) rfl ?_
    refine SPO_h rfl (y_load Tryz.isAgg261 rfl (by repeat (first | exact (hfs _) | apply Cell.tail))) rfl ?_
    refine SPO_p rfl (y_ia Tryz.underlying261 Tryz.sizeOf331 rfl rfl (by omega)) rfl ?_
    refine SPO_p rfl (y_fa fld_331_3 rfl) rfl ?_
    refine SPO_h rfl (y_load Tryz.isAgg3 rfl (by repeat (first | exact ((hfc2 _).cell rfl) | apply Cell.tail))) rfl ?_
    refine SPO_p rfl (y_assign rfl) rfl ?_
    refine SPO_h rfl (y_load Tryz.isAgg261 rfl (by repeat (first | exact (hfs _) | apply Cell.tail))) rfl ?_
    refine SPO_p rfl (y_ia Tryz.underlying261 Tryz.sizeOf331 rfl rfl (by omega)) rfl ?_
    refine SPO_p rfl (y_fa fld_331_2 rfl) rfl ?_
    refine SPO_h rfl (y_load Tryz.isAgg3 rfl (by repeat (first | exact ((hfc2 _).cell rfl) | apply Cell.tail))) rfl ?_
    refine SPO_p rfl (y_assign rfl) rfl ?_
    refine SPO_nil ?_
    refine thenP_n ?_
    exact Mid.intro ((f2.ret, f2.base)) (⟨by dsimp only; omega, by dsimp only; omega, by dsimp only; omega, by dsimp only; omega, fun _ => ⟨by dsimp only; omega, by dsimp only; omega, by dsimp only; omega⟩⟩) (by repeat (first | exact Sub.nil _ | refine Sub.cons rfl ?_)) (by repeat (first | exact Part.nil _ | (apply Part.cons; with_reducible (first | exact P0 | exact P1 | exact P2 | exact P3 | exact P4 | exact P5 | exact P6 | exact P7 | exact P8 | exact P9 | exact P10 | exact P11 | exact P12 | exact P13 | exact P14 | exact P15 | exact P16 | exact P17 | exact P18 | exact P19 | exact P20 | exact P21 | exact P22 | exact P23)) | (apply Part.flat; simp only [List.cons_append, List.nil_append]) | (apply Part.cons; (first | exact P0 | exact P1 | exact P2 | exact P3 | exact P4 | exact P5 | exact P6 | exact P7 | exact P8 | exact P9 | exact P10 | exact P11 | exact P12 | exact P13 | exact P14 | exact P15 | exact P16 | exact P17 | exact P18 | exact P19 | exact P20 | exact P21 | exact P22 | exact P23)) | (apply Part.nilc)))
  rintro ⟨e1, e2⟩ ⟨hx1, hx2, hx3, hx4, hx5⟩
  dsimp only at hx1 hx2 hx3 hx4 hx5 ⊢
  refine SP_mid (G := Unit) (fun _ => [(0, pt b.vb), (1, I i), (2, .bool false), (3, I 0), (9, .pointer (some ⟨b.thb, 0 + ((i : Nat) : Int).toNat * 5, none⟩)), (10, I ((oN j : Nat) : Int)), (11, I j), (12, .pointer (some ⟨fq, 0 + ((j : Nat) : Int).toNat * 5, none⟩)), (13, .pointer (some ⟨pq, 0 + cl.p.toNat * 8, none⟩)), (14, I (f.base + p.nslots)), (143, I t.frames.length), (144, I j), (15, I e1), (16, I e2), (17, I 2)]) (fun _ => [seg]) (fun _ => True) ?_ ?_
  · refine SP_seq ?_
    refine SP_region ?_
    refine SPL_y (y_move rfl) rfl ?_
    refine SPL_ifn (y_eql rfl rfl) rfl ?_ ?_
    · intro h26_1
      refine SPL_y (y_move rfl) rfl ?_
      refine SPL_gn rfl rfl rfl rfl ?_
      refine SPL_gn rfl rfl rfl rfl ?_
      refine SPL_gn rfl rfl rfl rfl ?_
      refine SPL_gn rfl rfl rfl rfl ?_
      refine SPL_gn rfl rfl rfl rfl ?_
      refine SPL_gn rfl rfl rfl rfl ?_
      refine SPL_gu rfl rfl rfl ?_
      refine SPL_gu rfl rfl rfl ?_
      refine SPL_gu rfl rfl rfl ?_
      refine SPL_gu rfl rfl rfl ?_
      refine SPL_gu rfl rfl rfl ?_
      refine SPL_gn rfl rfl rfl rfl ?_
      refine SPL_gn rfl rfl rfl rfl ?_
      refine SPL_gu rfl rfl rfl ?_
      refine SPL_gu rfl rfl rfl ?_
      refine SPL_gu rfl rfl rfl ?_
      refine SPL_gu rfl rfl rfl ?_
      refine SPL_gn rfl rfl rfl rfl ?_
      refine SPL_y (y_pick_f rfl rfl) rfl ?_
      refine SPL_nil ?_
      refine thenP_n ?_
      refine SP_cond_f rfl ?_
      refine SP_skip ?_
      refine thenP_n ?_
      exact Mid.intro (()) (trivial) (by repeat (first | exact Sub.nil _ | refine Sub.cons rfl ?_)) (by repeat (first | exact Part.nil _ | (apply Part.cons; with_reducible (first | exact P0 | exact P1 | exact P2 | exact P3 | exact P4 | exact P5 | exact P6 | exact P7 | exact P8 | exact P9 | exact P10 | exact P11 | exact P12 | exact P13 | exact P14 | exact P15 | exact P16 | exact P17 | exact P18 | exact P19 | exact P20 | exact P21 | exact P22 | exact P23)) | (apply Part.flat; simp only [List.cons_append, List.nil_append]) | (apply Part.cons; (first | exact P0 | exact P1 | exact P2 | exact P3 | exact P4 | exact P5 | exact P6 | exact P7 | exact P8 | exact P9 | exact P10 | exact P11 | exact P12 | exact P13 | exact P14 | exact P15 | exact P16 | exact P17 | exact P18 | exact P19 | exact P20 | exact P21 | exact P22 | exact P23)) | (apply Part.nilc)))
    intro h26_1
    refine SPL_y (y_move rfl) rfl ?_
    refine SPL_gy rfl rfl ?_
    refine SPL_y (y_move rfl) rfl ?_
    refine SPL_gy rfl rfl ?_
    refine SPL_y (y_nil rfl) rfl ?_
    refine SPL_gy rfl rfl ?_
    refine SPL_y (y_fa fld_331_2 rfl) rfl ?_
    refine SPL_gy rfl rfl ?_
    obtain ⟨hb0, hb1, hb2⟩ := hbot (by omega)
    have hpf : ∀ H : Hp, Cell (seg :: H) fq (0 + ((j : Nat) : Int).toNat * 5 + 4) (.bool false) := fun H => by
      have := (hfc H).cell (j := 4) rfl
      rw [hb2] at this
      exact this
    refine SPL_y (y_load Tryz.isAgg3 rfl (by repeat (first | exact ((hfc _).cell rfl) | apply Cell.tail))) rfl ?_
    refine SPL_gy rfl rfl ?_
    refine SPL_if (y_neq rfl rfl) rfl ?_ ?_
    · intro h26_7
      refine SPL_gy rfl rfl ?_
      refine SPL_y (y_move rfl) rfl ?_
      refine SPL_gn rfl rfl rfl rfl ?_
      refine SPL_gn rfl rfl rfl rfl ?_
      refine SPL_gn rfl rfl rfl rfl ?_
      refine SPL_gn rfl rfl rfl rfl ?_
      refine SPL_gn rfl rfl rfl rfl ?_
      refine SPL_gy rfl rfl ?_
      refine SPL_y (y_pick_t rfl rfl) rfl ?_
      refine SPL_gy rfl rfl ?_
      refine SPL_y (y_move rfl) rfl ?_
      refine SPL_gn rfl rfl rfl rfl ?_
      refine SPL_gn rfl rfl rfl rfl ?_
      refine SPL_gn rfl rfl rfl rfl ?_
      refine SPL_gn rfl rfl rfl rfl ?_
      refine SPL_gy rfl rfl ?_
      refine SPL_y (y_pick_t rfl rfl) rfl ?_
      refine SPL_y (y_pick_t rfl rfl) rfl ?_
      refine SPL_nil ?_
      refine thenP_n ?_
      refine SP_cond_t rfl ?_
      refine SP_seq ?_
      refine SP_region ?_
      refine SPL_y (y_assign rfl) rfl ?_
      refine SPL_nil ?_
      refine thenP_n ?_
      refine SP_ret ?_
      refine thenP_ret (inBlockP_ret (thenP_ret (thenP_ret (inBlockP_ret (thenP_ret (bodyP_ret (H' := [seg]) (Res1 rfl rfl) (by repeat (first | exact Part.nil _ | (apply Part.cons; with_reducible (first | exact P0 | exact P1 | exact P2 | exact P3 | exact P4 | exact P5 | exact P6 | exact P7 | exact P8 | exact P9 | exact P10 | exact P11 | exact P12 | exact P13 | exact P14 | exact P15 | exact P16 | exact P17 | exact P18 | exact P19 | exact P20 | exact P21 | exact P22 | exact P23)) | (apply Part.flat; simp only [List.cons_append, List.nil_append]) | (apply Part.cons; (first | exact P0 | exact P1 | exact P2 | exact P3 | exact P4 | exact P5 | exact P6 | exact P7 | exact P8 | exact P9 | exact P10 | exact P11 | exact P12 | exact P13 | exact P14 | exact P15 | exact P16 | exact P17 | exact P18 | exact P19 | exact P20 | exact P21 | exact P22 | exact P23)) | (apply Part.nilc))) ?_))))))
      first | exact ⟨rfl, rfl⟩ | (exfalso; omega) | (refine ⟨congrArg Value.bool (decide_eq_true ?_), rfl⟩; omega) | (exfalso; dsimp only at *; omega)
    intro h26_7
    refine SPL_gy rfl rfl ?_
    refine SPL_y (y_move rfl) rfl ?_
    refine SPL_gy rfl rfl ?_
    refine SPL_y (y_move rfl) rfl ?_
    refine SPL_gy rfl rfl ?_
    refine SPL_y (y_nil rfl) rfl ?_
    refine SPL_gy rfl rfl ?_
    refine SPL_y (y_fa fld_331_3 rfl) rfl ?_
    refine SPL_gy rfl rfl ?_
    refine SPL_y (y_load Tryz.isAgg3 rfl (by repeat (first | exact ((hfc _).cell rfl) | apply Cell.tail))) rfl ?_
    refine SPL_gy rfl rfl ?_
    refine SPL_ifn (y_neq rfl rfl) rfl ?_ ?_
    · intro h26_13
      refine SPL_gy rfl rfl ?_
      refine SPL_y (y_pick_f rfl rfl) rfl ?_
      refine SPL_gy rfl rfl ?_
      refine SPL_y (y_move rfl) rfl ?_
      refine SPL_gy rfl rfl ?_
      refine SPL_y (y_move rfl) rfl ?_
      refine SPL_gy rfl rfl ?_
      refine SPL_y (y_nil rfl) rfl ?_
      refine SPL_gy rfl rfl ?_
      refine SPL_y (y_fa fld_331_4 rfl) rfl ?_
      refine SPL_gy rfl rfl ?_
      refine SPL_y (y_load Tryz.isAgg4 rfl (by repeat (first | exact (hpf _) | apply Cell.tail))) rfl ?_
      refine SPL_gy rfl rfl ?_
      refine SPL_y (y_pick_f rfl rfl) rfl ?_
      refine SPL_y (y_pick_t rfl rfl) rfl ?_
      refine SPL_nil ?_
      refine thenP_n ?_
      refine SP_cond_f rfl ?_
      refine SP_skip ?_
      refine thenP_n ?_
      exact Mid.intro (()) (trivial) (by repeat (first | exact Sub.nil _ | refine Sub.cons rfl ?_)) (by repeat (first | exact Part.nil _ | (apply Part.cons; with_reducible (first | exact P0 | exact P1 | exact P2 | exact P3 | exact P4 | exact P5 | exact P6 | exact P7 | exact P8 | exact P9 | exact P10 | exact P11 | exact P12 | exact P13 | exact P14 | exact P15 | exact P16 | exact P17 | exact P18 | exact P19 | exact P20 | exact P21 | exact P22 | exact P23)) | (apply Part.flat; simp only [List.cons_append, List.nil_append]) | (apply Part.cons; (first | exact P0 | exact P1 | exact P2 | exact P3 | exact P4 | exact P5 | exact P6 | exact P7 | exact P8 | exact P9 | exact P10 | exact P11 | exact P12 | exact P13 | exact P14 | exact P15 | exact P16 | exact P17 | exact P18 | exact P19 | exact P20 | exact P21 | exact P22 | exact P23)) | (apply Part.nilc)))
    intro h26_13
    refine SPL_gy rfl rfl ?_
    refine SPL_y (y_pick_f rfl rfl) rfl ?_
    refine SPL_gy rfl rfl ?_
    refine SPL_y (y_move rfl) rfl ?_
    refine SPL_gn rfl rfl rfl rfl ?_
    refine SPL_gn rfl rfl rfl rfl ?_
    refine SPL_gn rfl rfl rfl rfl ?_
    refine SPL_gn rfl rfl rfl rfl ?_
    refine SPL_gy rfl rfl ?_
    refine SPL_y (y_pick_t rfl rfl) rfl ?_
    refine SPL_y (y_pick_t rfl rfl) rfl ?_
    refine SPL_nil ?_
    refine thenP_n ?_
    refine SP_cond_t rfl ?_
    refine SP_seq ?_
    refine SP_region ?_
    refine SPL_y (y_assign rfl) rfl ?_
    refine SPL_nil ?_
    refine thenP_n ?_
    refine SP_ret ?_
    refine thenP_ret (inBlockP_ret (thenP_ret (thenP_ret (inBlockP_ret (thenP_ret (bodyP_ret (H' := [seg]) (Res1 rfl rfl) (by repeat (first | exact Part.nil _ | (apply Part.cons; with_reducible (first | exact P0 | exact P1 | exact P2 | exact P3 | exact P4 | exact P5 | exact P6 | exact P7 | exact P8 | exact P9 | exact P10 | exact P11 | exact P12 | exact P13 | exact P14 | exact P15 | exact P16 | exact P17 | exact P18 | exact P19 | exact P20 | exact P21 | exact P22 | exact P23)) | (apply Part.flat; simp only [List.cons_append, List.nil_append]) | (apply Part.cons; (first | exact P0 | exact P1 | exact P2 | exact P3 | exact P4 | exact P5 | exact P6 | exact P7 | exact P8 | exact P9 | exact P10 | exact P11 | exact P12 | exact P13 | exact P14 | exact P15 | exact P16 | exact P17 | exact P18 | exact P19 | exact P20 | exact P21 | exact P22 | exact P23)) | (apply Part.nilc))) ?_))))))
    first | exact ⟨rfl, rfl⟩ | (exfalso; omega) | (refine ⟨congrArg Value.bool (decide_eq_true ?_), rfl⟩; omega) | (exfalso; dsimp only at *; omega)
  rintro _ -
  refine SP_mid (G := Unit) (fun _ => [(0, pt b.vb), (1, I i), (2, .bool false), (3, I 0), (9, .pointer (some ⟨b.thb, 0 + ((i : Nat) : Int).toNat * 5, none⟩)), (10, I ((oN j : Nat) : Int)), (11, I j), (12, .pointer (some ⟨fq, 0 + ((j : Nat) : Int).toNat * 5, none⟩)), (13, .pointer (some ⟨pq, 0 + cl.p.toNat * 8, none⟩)), (14, I (f.base + p.nslots)), (143, I t.frames.length), (144, I j), (15, I e1), (16, I e2), (17, I 2)]) (fun _ => [seg]) (fun _ => True) ?_ ?_
  · refine SP_seq ?_
    refine SP_draw 999 [(0, 0), (1, 0), (2, 0), (3, 1), (4, 0), (5, 0), (6, 0), (7, 0), (8, 0), (10, 0), (11, 0), (12, 0), (9, 1), (13, 1), (14, 0), (15, 0), (16, 0), (17, 0), (18, 0), (19, 0), (21, 0), (22, 0), (23, 0), (20, 1), (24, 1), (25, 0), (26, 0), (27, 0), (28, 0), (29, 0), (30, 0), (31, 0), (32, 0), (33, 0), (34, 0), (35, 0), (36, 0), (37, 0), (38, 0), (39, 0), (40, 0), (41, 0), (42, 0), (43, 0), (44, 0), (45, 0), (46, 0), (47, 0), (48, 0), (49, 0), (50, 1), (51, 0), (52, 0), (53, 0)] mixed (by kernel_rfl) (fun _ _ _ _ _ h => h) (Part.refl _) ?_
    refine SPO_p rfl (y_move rfl) rfl ?_
    refine SPO_p rfl (y_nil rfl) rfl ?_
    refine SPO_p rfl (y_fa fld_331_1 rfl) rfl ?_
    refine SPO_h rfl (y_load Tryz.isAgg3 rfl (by repeat (first | exact ((hfc _).cell rfl) | apply Cell.tail))) rfl ?_
    refine SPO_if rfl (y_lss rfl rfl) rfl ?_ ?_
    · intro h28_4
      refine SPO_p rfl (y_move rfl) rfl ?_
      refine SPO_gn (.inl rfl) rfl rfl rfl rfl rfl ?_
      refine SPO_gn (.inl rfl) rfl rfl rfl rfl rfl ?_
      refine SPO_gn (.inl rfl) rfl rfl rfl rfl rfl ?_
      refine SPO_gn (.inl rfl) rfl rfl rfl rfl rfl ?_
      refine SPO_gn (.inl rfl) rfl rfl rfl rfl rfl ?_
      refine SPO_gn (.inl rfl) rfl rfl rfl rfl rfl ?_
      refine SPO_gn (.inr rfl) rfl rfl rfl rfl rfl ?_
      refine SPO_gn (.inr rfl) rfl rfl rfl rfl rfl ?_
      refine SPO_gn (.inl rfl) rfl rfl rfl rfl rfl ?_
      refine SPO_p rfl (y_pick_t rfl rfl) rfl ?_
      refine SPO_p rfl (y_move rfl) rfl ?_
      refine SPO_gn (.inl rfl) rfl rfl rfl rfl rfl ?_
      refine SPO_gn (.inl rfl) rfl rfl rfl rfl rfl ?_
      refine SPO_gn (.inl rfl) rfl rfl rfl rfl rfl ?_
      refine SPO_gn (.inl rfl) rfl rfl rfl rfl rfl ?_
      refine SPO_gn (.inl rfl) rfl rfl rfl rfl rfl ?_
      refine SPO_gn (.inl rfl) rfl rfl rfl rfl rfl ?_
      refine SPO_gn (.inr rfl) rfl rfl rfl rfl rfl ?_
      refine SPO_gn (.inr rfl) rfl rfl rfl rfl rfl ?_
      refine SPO_gn (.inl rfl) rfl rfl rfl rfl rfl ?_
      refine SPO_p rfl (y_pick_t rfl rfl) rfl ?_
      refine SPO_p rfl (y_move rfl) rfl ?_
      refine SPO_gn (.inl rfl) rfl rfl rfl rfl rfl ?_
      refine SPO_gn (.inl rfl) rfl rfl rfl rfl rfl ?_
      refine SPO_gn (.inl rfl) rfl rfl rfl rfl rfl ?_
      refine SPO_p rfl (y_pick_t rfl rfl) rfl ?_
      refine SPO_p rfl (y_move rfl) rfl ?_
      refine SPO_gn (.inl rfl) rfl rfl rfl rfl rfl ?_
      refine SPO_gn (.inl rfl) rfl rfl rfl rfl rfl ?_
      refine SPO_gn (.inl rfl) rfl rfl rfl rfl rfl ?_
      refine SPO_gn (.inl rfl) rfl rfl rfl rfl rfl ?_
      refine SPO_gn (.inl rfl) rfl rfl rfl rfl rfl ?_
      refine SPO_gn (.inl rfl) rfl rfl rfl rfl rfl ?_
      refine SPO_p rfl (y_pick_t rfl rfl) rfl ?_
      refine SPO_p rfl (y_move rfl) rfl ?_
      refine SPO_gn (.inl rfl) rfl rfl rfl rfl rfl ?_
      refine SPO_gn (.inl rfl) rfl rfl rfl rfl rfl ?_
      refine SPO_gn (.inl rfl) rfl rfl rfl rfl rfl ?_
      refine SPO_p rfl (y_pick_t rfl rfl) rfl ?_
      refine SPO_p rfl (y_move rfl) rfl ?_
      refine SPO_gn (.inl rfl) rfl rfl rfl rfl rfl ?_
      refine SPO_gn (.inl rfl) rfl rfl rfl rfl rfl ?_
      refine SPO_gn (.inl rfl) rfl rfl rfl rfl rfl ?_
      refine SPO_gn (.inl rfl) rfl rfl rfl rfl rfl ?_
      refine SPO_gn (.inr rfl) rfl rfl rfl rfl rfl ?_
      refine SPO_gn (.inl rfl) rfl rfl rfl rfl rfl ?_
      refine SPO_gn (.inl rfl) rfl rfl rfl rfl rfl ?_
      refine SPO_p rfl (y_pick_t rfl rfl) rfl ?_
      refine SPO_nil ?_
      refine thenP_n ?_
      refine SP_cond_t rfl ?_
      refine SP_seq ?_
      refine SP_region ?_
      refine SPL_y (y_assign rfl) rfl ?_
      refine SPL_nil ?_
      refine thenP_n ?_
      refine SP_ret ?_
      refine thenP_ret (inBlockP_ret (thenP_ret (thenP_ret (inBlockP_ret (thenP_ret (bodyP_ret (H' := [seg]) (Res1 rfl rfl) (by repeat (first | exact Part.nil _ | (apply Part.cons; with_reducible (first | exact P0 | exact P1 | exact P2 | exact P3 | exact P4 | exact P5 | exact P6 | exact P7 | exact P8 | exact P9 | exact P10 | exact P11 | exact P12 | exact P13 | exact P14 | exact P15 | exact P16 | exact P17 | exact P18 | exact P19 | exact P20 | exact P21 | exact P22 | exact P23)) | (apply Part.flat; simp only [List.cons_append, List.nil_append]) | (apply Part.cons; (first | exact P0 | exact P1 | exact P2 | exact P3 | exact P4 | exact P5 | exact P6 | exact P7 | exact P8 | exact P9 | exact P10 | exact P11 | exact P12 | exact P13 | exact P14 | exact P15 | exact P16 | exact P17 | exact P18 | exact P19 | exact P20 | exact P21 | exact P22 | exact P23)) | (apply Part.nilc))) ?_))))))
      first | exact ⟨rfl, rfl⟩ | (exfalso; omega) | (refine ⟨congrArg Value.bool (decide_eq_true ?_), rfl⟩; omega) | (exfalso; dsimp only at *; omega)
    intro h28_4
    refine SPO_p rfl (y_move rfl) rfl ?_
    refine SPO_py rfl rfl rfl (y_move rfl) rfl ?_
    refine SPO_py rfl rfl rfl (y_nil rfl) rfl ?_
    refine SPO_py rfl rfl rfl (y_fa fld_331_1 rfl) rfl ?_
    refine SPO_py rfl rfl rfl (y_move rfl) rfl ?_
    refine SPO_py rfl rfl rfl (y_nil rfl) rfl ?_
    refine SPO_py rfl rfl rfl (y_fa fld_252_7 rfl) rfl ?_
    refine SPO_hy rfl rfl rfl (y_load Tryz.isAgg3 rfl (by repeat (first | exact ((hfc _).cell rfl) | apply Cell.tail))) rfl ?_
    refine SPO_hy rfl rfl rfl (y_load Tryz.isAgg3 rfl (by repeat (first | exact ((hpq _).cell rfl) | apply Cell.tail))) rfl ?_
    refine SPO_pyif rfl rfl rfl (y_gtr rfl rfl) rfl ?_ ?_
    · intro h28_14
      refine SPO_p rfl (y_pick_f rfl rfl) rfl ?_
      refine SPO_p rfl (y_move rfl) rfl ?_
      refine SPO_gn (.inl rfl) rfl rfl rfl rfl rfl ?_
      refine SPO_gn (.inl rfl) rfl rfl rfl rfl rfl ?_
      refine SPO_gn (.inl rfl) rfl rfl rfl rfl rfl ?_
      refine SPO_gn (.inl rfl) rfl rfl rfl rfl rfl ?_
      refine SPO_gn (.inl rfl) rfl rfl rfl rfl rfl ?_
      refine SPO_gn (.inl rfl) rfl rfl rfl rfl rfl ?_
      refine SPO_gn (.inr rfl) rfl rfl rfl rfl rfl ?_
      refine SPO_gn (.inr rfl) rfl rfl rfl rfl rfl ?_
      refine SPO_gn (.inl rfl) rfl rfl rfl rfl rfl ?_
      refine SPO_p rfl (y_pick_t rfl rfl) rfl ?_
      refine SPO_p rfl (y_move rfl) rfl ?_
      refine SPO_gn (.inl rfl) rfl rfl rfl rfl rfl ?_
      refine SPO_gn (.inl rfl) rfl rfl rfl rfl rfl ?_
      refine SPO_gn (.inl rfl) rfl rfl rfl rfl rfl ?_
      refine SPO_p rfl (y_pick_t rfl rfl) rfl ?_
      refine SPO_p rfl (y_move rfl) rfl ?_
      refine SPO_gn (.inl rfl) rfl rfl rfl rfl rfl ?_
      refine SPO_gn (.inl rfl) rfl rfl rfl rfl rfl ?_
      refine SPO_gn (.inl rfl) rfl rfl rfl rfl rfl ?_
      refine SPO_gn (.inl rfl) rfl rfl rfl rfl rfl ?_
      refine SPO_gn (.inl rfl) rfl rfl rfl rfl rfl ?_
      refine SPO_gn (.inl rfl) rfl rfl rfl rfl rfl ?_
      refine SPO_p rfl (y_pick_t rfl rfl) rfl ?_
      refine SPO_p rfl (y_move rfl) rfl ?_
      refine SPO_gn (.inl rfl) rfl rfl rfl rfl rfl ?_
      refine SPO_gn (.inl rfl) rfl rfl rfl rfl rfl ?_
      refine SPO_gn (.inl rfl) rfl rfl rfl rfl rfl ?_
      refine SPO_p rfl (y_pick_t rfl rfl) rfl ?_
      refine SPO_p rfl (y_move rfl) rfl ?_
      refine SPO_gn (.inl rfl) rfl rfl rfl rfl rfl ?_
      refine SPO_gn (.inl rfl) rfl rfl rfl rfl rfl ?_
      refine SPO_gn (.inl rfl) rfl rfl rfl rfl rfl ?_
      refine SPO_gn (.inl rfl) rfl rfl rfl rfl rfl ?_
      refine SPO_gn (.inr rfl) rfl rfl rfl rfl rfl ?_
      refine SPO_gn (.inl rfl) rfl rfl rfl rfl rfl ?_
      refine SPO_gn (.inl rfl) rfl rfl rfl rfl rfl ?_
      refine SPO_p rfl (y_pick_t rfl rfl) rfl ?_
      refine SPO_nil ?_
      refine thenP_n ?_
      refine SP_cond_t rfl ?_
      refine SP_seq ?_
      refine SP_region ?_
      refine SPL_y (y_assign rfl) rfl ?_
      refine SPL_nil ?_
      refine thenP_n ?_
      refine SP_ret ?_
      refine thenP_ret (inBlockP_ret (thenP_ret (thenP_ret (inBlockP_ret (thenP_ret (bodyP_ret (H' := [seg]) (Res1 rfl rfl) (by repeat (first | exact Part.nil _ | (apply Part.cons; with_reducible (first | exact P0 | exact P1 | exact P2 | exact P3 | exact P4 | exact P5 | exact P6 | exact P7 | exact P8 | exact P9 | exact P10 | exact P11 | exact P12 | exact P13 | exact P14 | exact P15 | exact P16 | exact P17 | exact P18 | exact P19 | exact P20 | exact P21 | exact P22 | exact P23)) | (apply Part.flat; simp only [List.cons_append, List.nil_append]) | (apply Part.cons; (first | exact P0 | exact P1 | exact P2 | exact P3 | exact P4 | exact P5 | exact P6 | exact P7 | exact P8 | exact P9 | exact P10 | exact P11 | exact P12 | exact P13 | exact P14 | exact P15 | exact P16 | exact P17 | exact P18 | exact P19 | exact P20 | exact P21 | exact P22 | exact P23)) | (apply Part.nilc))) ?_))))))
      first | exact ⟨rfl, rfl⟩ | (exfalso; omega) | (refine ⟨congrArg Value.bool (decide_eq_true ?_), rfl⟩; omega) | (exfalso; dsimp only at *; omega)
    intro h28_14
    refine SPO_p rfl (y_pick_f rfl rfl) rfl ?_
    refine SPO_p rfl (y_move rfl) rfl ?_
    refine SPO_py rfl rfl rfl (y_move rfl) rfl ?_
    refine SPO_py rfl rfl rfl (y_nil rfl) rfl ?_
    refine SPO_py rfl rfl rfl (y_fa fld_331_3 rfl) rfl ?_
    refine SPO_py rfl rfl rfl (y_move rfl) rfl ?_
    refine SPO_py rfl rfl rfl (y_nil rfl) rfl ?_
    refine SPO_py rfl rfl rfl (y_fa fld_331_2 rfl) rfl ?_
    refine SPO_hy rfl rfl rfl (y_load Tryz.isAgg3 rfl (by repeat (first | exact ((hfc _).cell rfl) | apply Cell.tail))) rfl ?_
    refine SPO_hy rfl rfl rfl (y_load Tryz.isAgg3 rfl (by repeat (first | exact ((hfc _).cell rfl) | apply Cell.tail))) rfl ?_
    refine SPO_pyif rfl rfl rfl (y_gtr rfl rfl) rfl ?_ ?_
    · intro h28_25
      refine SPO_p rfl (y_pick_f rfl rfl) rfl ?_
      refine SPO_p rfl (y_move rfl) rfl ?_
      refine SPO_gn (.inl rfl) rfl rfl rfl rfl rfl ?_
      refine SPO_gn (.inl rfl) rfl rfl rfl rfl rfl ?_
      refine SPO_gn (.inl rfl) rfl rfl rfl rfl rfl ?_
      refine SPO_p rfl (y_pick_t rfl rfl) rfl ?_
      refine SPO_p rfl (y_move rfl) rfl ?_
      refine SPO_gn (.inl rfl) rfl rfl rfl rfl rfl ?_
      refine SPO_gn (.inl rfl) rfl rfl rfl rfl rfl ?_
      refine SPO_gn (.inl rfl) rfl rfl rfl rfl rfl ?_
      refine SPO_gn (.inl rfl) rfl rfl rfl rfl rfl ?_
      refine SPO_gn (.inl rfl) rfl rfl rfl rfl rfl ?_
      refine SPO_gn (.inl rfl) rfl rfl rfl rfl rfl ?_
      refine SPO_p rfl (y_pick_t rfl rfl) rfl ?_
      refine SPO_p rfl (y_move rfl) rfl ?_
      refine SPO_gn (.inl rfl) rfl rfl rfl rfl rfl ?_
      refine SPO_gn (.inl rfl) rfl rfl rfl rfl rfl ?_
      refine SPO_gn (.inl rfl) rfl rfl rfl rfl rfl ?_
      refine SPO_p rfl (y_pick_t rfl rfl) rfl ?_
      refine SPO_p rfl (y_move rfl) rfl ?_
      refine SPO_gn (.inl rfl) rfl rfl rfl rfl rfl ?_
      refine SPO_gn (.inl rfl) rfl rfl rfl rfl rfl ?_
      refine SPO_gn (.inl rfl) rfl rfl rfl rfl rfl ?_
      refine SPO_gn (.inl rfl) rfl rfl rfl rfl rfl ?_
      refine SPO_gn (.inr rfl) rfl rfl rfl rfl rfl ?_
      refine SPO_gn (.inl rfl) rfl rfl rfl rfl rfl ?_
      refine SPO_gn (.inl rfl) rfl rfl rfl rfl rfl ?_
      refine SPO_p rfl (y_pick_t rfl rfl) rfl ?_
      refine SPO_nil ?_
      refine thenP_n ?_
      refine SP_cond_t rfl ?_
      refine SP_seq ?_
      refine SP_region ?_
      refine SPL_y (y_assign rfl) rfl ?_
      refine SPL_nil ?_
      refine thenP_n ?_
      refine SP_ret ?_
      refine thenP_ret (inBlockP_ret (thenP_ret (thenP_ret (inBlockP_ret (thenP_ret (bodyP_ret (H' := [seg]) (Res1 rfl rfl) (by repeat (first | exact Part.nil _ | (apply Part.cons; with_reducible (first | exact P0 | exact P1 | exact P2 | exact P3 | exact P4 | exact P5 | exact P6 | exact P7 | exact P8 | exact P9 | exact P10 | exact P11 | exact P12 | exact P13 | exact P14 | exact P15 | exact P16 | exact P17 | exact P18 | exact P19 | exact P20 | exact P21 | exact P22 | exact P23)) | (apply Part.flat; simp only [List.cons_append, List.nil_append]) | (apply Part.cons; (first | exact P0 | exact P1 | exact P2 | exact P3 | exact P4 | exact P5 | exact P6 | exact P7 | exact P8 | exact P9 | exact P10 | exact P11 | exact P12 | exact P13 | exact P14 | exact P15 | exact P16 | exact P17 | exact P18 | exact P19 | exact P20 | exact P21 | exact P22 | exact P23)) | (apply Part.nilc))) ?_))))))
      first | exact ⟨rfl, rfl⟩ | (exfalso; omega) | (refine ⟨congrArg Value.bool (decide_eq_true ?_), rfl⟩; omega) | (exfalso; dsimp only at *; omega)
    intro h28_25
    refine SPO_p rfl (y_pick_f rfl rfl) rfl ?_
    refine SPO_p rfl (y_move rfl) rfl ?_
    refine SPO_py rfl rfl rfl (y_move rfl) rfl ?_
    refine SPO_py rfl rfl rfl (y_move rfl) rfl ?_
    refine SPO_pyif rfl rfl rfl (y_lss rfl rfl) rfl ?_ ?_
    · intro h28_30
      refine SPO_p rfl (y_pick_f rfl rfl) rfl ?_
      refine SPO_p rfl (y_move rfl) rfl ?_
      refine SPO_gn (.inl rfl) rfl rfl rfl rfl rfl ?_
      refine SPO_gn (.inl rfl) rfl rfl rfl rfl rfl ?_
      refine SPO_gn (.inl rfl) rfl rfl rfl rfl rfl ?_
      refine SPO_gn (.inl rfl) rfl rfl rfl rfl rfl ?_
      refine SPO_gn (.inl rfl) rfl rfl rfl rfl rfl ?_
      refine SPO_gn (.inl rfl) rfl rfl rfl rfl rfl ?_
      refine SPO_p rfl (y_pick_t rfl rfl) rfl ?_
      refine SPO_p rfl (y_move rfl) rfl ?_
      refine SPO_gn (.inl rfl) rfl rfl rfl rfl rfl ?_
      refine SPO_gn (.inl rfl) rfl rfl rfl rfl rfl ?_
      refine SPO_gn (.inl rfl) rfl rfl rfl rfl rfl ?_
      refine SPO_p rfl (y_pick_t rfl rfl) rfl ?_
      refine SPO_p rfl (y_move rfl) rfl ?_
      refine SPO_gn (.inl rfl) rfl rfl rfl rfl rfl ?_
      refine SPO_gn (.inl rfl) rfl rfl rfl rfl rfl ?_
      refine SPO_gn (.inl rfl) rfl rfl rfl rfl rfl ?_
      refine SPO_gn (.inl rfl) rfl rfl rfl rfl rfl ?_
      refine SPO_gn (.inr rfl) rfl rfl rfl rfl rfl ?_
      refine SPO_gn (.inl rfl) rfl rfl rfl rfl rfl ?_
      refine SPO_gn (.inl rfl) rfl rfl rfl rfl rfl ?_
      refine SPO_p rfl (y_pick_t rfl rfl) rfl ?_
      refine SPO_nil ?_
      refine thenP_n ?_
      refine SP_cond_t rfl ?_
      refine SP_seq ?_
      refine SP_region ?_
      refine SPL_y (y_assign rfl) rfl ?_
      refine SPL_nil ?_
      refine thenP_n ?_
      refine SP_ret ?_
      refine thenP_ret (inBlockP_ret (thenP_ret (thenP_ret (inBlockP_ret (thenP_ret (bodyP_ret (H' := [seg]) (Res1 rfl rfl) (by repeat (first | exact Part.nil _ | (apply Part.cons; with_reducible (first | exact P0 | exact P1 | exact P2 | exact P3 | exact P4 | exact P5 | exact P6 | exact P7 | exact P8 | exact P9 | exact P10 | exact P11 | exact P12 | exact P13 | exact P14 | exact P15 | exact P16 | exact P17 | exact P18 | exact P19 | exact P20 | exact P21 | exact P22 | exact P23)) | (apply Part.flat; simp only [List.cons_append, List.nil_append]) | (apply Part.cons; (first | exact P0 | exact P1 | exact P2 | exact P3 | exact P4 | exact P5 | exact P6 | exact P7 | exact P8 | exact P9 | exact P10 | exact P11 | exact P12 | exact P13 | exact P14 | exact P15 | exact P16 | exact P17 | exact P18 | exact P19 | exact P20 | exact P21 | exact P22 | exact P23)) | (apply Part.nilc))) ?_))))))
      first | exact ⟨rfl, rfl⟩ | (exfalso; omega) | (refine ⟨congrArg Value.bool (decide_eq_true ?_), rfl⟩; omega) | (exfalso; dsimp only at *; omega)
    intro h28_30
    refine SPO_p rfl (y_pick_f rfl rfl) rfl ?_
    refine SPO_p rfl (y_move rfl) rfl ?_
    refine SPO_py rfl rfl rfl (y_move rfl) rfl ?_
    refine SPO_py rfl rfl rfl (y_move rfl) rfl ?_
    refine SPO_py rfl rfl rfl (y_sub rfl rfl (by omega)) rfl ?_
    refine SPO_py rfl rfl rfl (y_move rfl) rfl ?_
    refine SPO_py rfl rfl rfl (y_add rfl rfl (by omega)) rfl ?_
    refine SPO_pyif rfl rfl rfl (y_gtr rfl rfl) rfl ?_ ?_
    · intro h28_38
      refine SPO_p rfl (y_pick_f rfl rfl) rfl ?_
      refine SPO_p rfl (y_move rfl) rfl ?_
      refine SPO_gn (.inl rfl) rfl rfl rfl rfl rfl ?_
      refine SPO_gn (.inl rfl) rfl rfl rfl rfl rfl ?_
      refine SPO_gn (.inl rfl) rfl rfl rfl rfl rfl ?_
      refine SPO_p rfl (y_pick_t rfl rfl) rfl ?_
      refine SPO_p rfl (y_move rfl) rfl ?_
      refine SPO_gn (.inl rfl) rfl rfl rfl rfl rfl ?_
      refine SPO_gn (.inl rfl) rfl rfl rfl rfl rfl ?_
      refine SPO_gn (.inl rfl) rfl rfl rfl rfl rfl ?_
      refine SPO_gn (.inl rfl) rfl rfl rfl rfl rfl ?_
      refine SPO_gn (.inr rfl) rfl rfl rfl rfl rfl ?_
      refine SPO_gn (.inl rfl) rfl rfl rfl rfl rfl ?_
      refine SPO_gn (.inl rfl) rfl rfl rfl rfl rfl ?_
      refine SPO_p rfl (y_pick_t rfl rfl) rfl ?_
      refine SPO_nil ?_
      refine thenP_n ?_
      refine SP_cond_t rfl ?_
      refine SP_seq ?_
      refine SP_region ?_
      refine SPL_y (y_assign rfl) rfl ?_
      refine SPL_nil ?_
      refine thenP_n ?_
      refine SP_ret ?_
      refine thenP_ret (inBlockP_ret (thenP_ret (thenP_ret (inBlockP_ret (thenP_ret (bodyP_ret (H' := [seg]) (Res1 rfl rfl) (by repeat (first | exact Part.nil _ | (apply Part.cons; with_reducible (first | exact P0 | exact P1 | exact P2 | exact P3 | exact P4 | exact P5 | exact P6 | exact P7 | exact P8 | exact P9 | exact P10 | exact P11 | exact P12 | exact P13 | exact P14 | exact P15 | exact P16 | exact P17 | exact P18 | exact P19 | exact P20 | exact P21 | exact P22 | exact P23)) | (apply Part.flat; simp only [List.cons_append, List.nil_append]) | (apply Part.cons; (first | exact P0 | exact P1 | exact P2 | exact P3 | exact P4 | exact P5 | exact P6 | exact P7 | exact P8 | exact P9 | exact P10 | exact P11 | exact P12 | exact P13 | exact P14 | exact P15 | exact P16 | exact P17 | exact P18 | exact P19 | exact P20 | exact P21 | exact P22 | exact P23)) | (apply Part.nilc))) ?_))))))
      first | exact ⟨rfl, rfl⟩ | (exfalso; omega) | (refine ⟨congrArg Value.bool (decide_eq_true ?_), rfl⟩; omega) | (exfalso; dsimp only at *; omega)
    intro h28_38
    refine SPO_p rfl (y_pick_f rfl rfl) rfl ?_
    refine SPO_p rfl (y_move rfl) rfl ?_
    refine SPO_py rfl rfl rfl (y_move rfl) rfl ?_
    refine SPO_py rfl rfl rfl (y_move rfl) rfl ?_
    refine SPO_pyif rfl rfl rfl (y_lss rfl rfl) rfl ?_ ?_
    · intro h28_43
      refine SPO_p rfl (y_pick_f rfl rfl) rfl ?_
      refine SPO_p rfl (y_move rfl) rfl ?_
      refine SPO_gn (.inl rfl) rfl rfl rfl rfl rfl ?_
      refine SPO_gn (.inl rfl) rfl rfl rfl rfl rfl ?_
      refine SPO_gn (.inl rfl) rfl rfl rfl rfl rfl ?_
      refine SPO_gn (.inl rfl) rfl rfl rfl rfl rfl ?_
      refine SPO_gn (.inr rfl) rfl rfl rfl rfl rfl ?_
      refine SPO_gn (.inl rfl) rfl rfl rfl rfl rfl ?_
      refine SPO_gn (.inl rfl) rfl rfl rfl rfl rfl ?_
      refine SPO_p rfl (y_pick_t rfl rfl) rfl ?_
      refine SPO_nil ?_
      refine thenP_n ?_
      refine SP_cond_t rfl ?_
      refine SP_seq ?_
      refine SP_region ?_
      refine SPL_y (y_assign rfl) rfl ?_
      refine SPL_nil ?_
      refine thenP_n ?_
      refine SP_ret ?_
      refine thenP_ret (inBlockP_ret (thenP_ret (thenP_ret (inBlockP_ret (thenP_ret (bodyP_ret (H' := [seg]) (Res1 rfl rfl) (by repeat (first | exact Part.nil _ | (apply Part.cons; with_reducible (first | exact P0 | exact P1 | exact P2 | exact P3 | exact P4 | exact P5 | exact P6 | exact P7 | exact P8 | exact P9 | exact P10 | exact P11 | exact P12 | exact P13 | exact P14 | exact P15 | exact P16 | exact P17 | exact P18 | exact P19 | exact P20 | exact P21 | exact P22 | exact P23)) | (apply Part.flat; simp only [List.cons_append, List.nil_append]) | (apply Part.cons; (first | exact P0 | exact P1 | exact P2 | exact P3 | exact P4 | exact P5 | exact P6 | exact P7 | exact P8 | exact P9 | exact P10 | exact P11 | exact P12 | exact P13 | exact P14 | exact P15 | exact P16 | exact P17 | exact P18 | exact P19 | exact P20 | exact P21 | exact P22 | exact P23)) | (apply Part.nilc))) ?_))))))
      first | exact ⟨rfl, rfl⟩ | (exfalso; omega) | (refine ⟨congrArg Value.bool (decide_eq_true ?_), rfl⟩; omega) | (exfalso; dsimp only at *; omega)
    intro h28_43
    refine SPO_p rfl (y_pick_f rfl rfl) rfl ?_
    refine SPO_p rfl (y_move rfl) rfl ?_
    refine SPO_py rfl rfl rfl (y_move rfl) rfl ?_
    refine SPO_py rfl rfl rfl (y_move rfl) rfl ?_
    refine SPO_py rfl rfl rfl (y_nil rfl) rfl ?_
    refine SPO_py rfl rfl rfl (y_fa fld_263_2 rfl) rfl ?_
    refine SPO_hy rfl rfl rfl (y_load Tryz.isAgg90 rfl (by repeat (first | exact (hrow _ 2 _ rfl) | apply Cell.tail))) rfl ?_
    refine SPO_py rfl rfl rfl (y_len_l Tryz.underlying90 rfl) rfl ?_
    refine SPO_pyifn rfl rfl rfl (y_gtr rfl rfl) rfl ?_ ?_
    · intro h28_52
      refine SPO_p rfl (y_pick_f rfl rfl) rfl ?_
      refine SPO_nil ?_
      refine thenP_n ?_
      refine SP_cond_f rfl ?_
      refine SP_skip ?_
      refine thenP_n ?_
      exact Mid.intro (()) (trivial) (by repeat (first | exact Sub.nil _ | refine Sub.cons rfl ?_)) (by repeat (first | exact Part.nil _ | (apply Part.cons; with_reducible (first | exact P0 | exact P1 | exact P2 | exact P3 | exact P4 | exact P5 | exact P6 | exact P7 | exact P8 | exact P9 | exact P10 | exact P11 | exact P12 | exact P13 | exact P14 | exact P15 | exact P16 | exact P17 | exact P18 | exact P19 | exact P20 | exact P21 | exact P22 | exact P23)) | (apply Part.flat; simp only [List.cons_append, List.nil_append]) | (apply Part.cons; (first | exact P0 | exact P1 | exact P2 | exact P3 | exact P4 | exact P5 | exact P6 | exact P7 | exact P8 | exact P9 | exact P10 | exact P11 | exact P12 | exact P13 | exact P14 | exact P15 | exact P16 | exact P17 | exact P18 | exact P19 | exact P20 | exact P21 | exact P22 | exact P23)) | (apply Part.nilc)))
    intro h28_52
    refine SPO_p rfl (y_pick_f rfl rfl) rfl ?_
    refine SPO_nil ?_
    refine thenP_n ?_
    refine SP_cond_t rfl ?_
    refine SP_seq ?_
    refine SP_region ?_
    refine SPL_y (y_assign rfl) rfl ?_
    refine SPL_nil ?_
    refine thenP_n ?_
    refine SP_ret ?_
    refine thenP_ret (inBlockP_ret (thenP_ret (thenP_ret (inBlockP_ret (thenP_ret (bodyP_ret (H' := [seg]) (Res1 rfl rfl) (by repeat (first | exact Part.nil _ | (apply Part.cons; with_reducible (first | exact P0 | exact P1 | exact P2 | exact P3 | exact P4 | exact P5 | exact P6 | exact P7 | exact P8 | exact P9 | exact P10 | exact P11 | exact P12 | exact P13 | exact P14 | exact P15 | exact P16 | exact P17 | exact P18 | exact P19 | exact P20 | exact P21 | exact P22 | exact P23)) | (apply Part.flat; simp only [List.cons_append, List.nil_append]) | (apply Part.cons; (first | exact P0 | exact P1 | exact P2 | exact P3 | exact P4 | exact P5 | exact P6 | exact P7 | exact P8 | exact P9 | exact P10 | exact P11 | exact P12 | exact P13 | exact P14 | exact P15 | exact P16 | exact P17 | exact P18 | exact P19 | exact P20 | exact P21 | exact P22 | exact P23)) | (apply Part.nilc))) ?_))))))
    first | exact ⟨rfl, rfl⟩ | (exfalso; omega) | (refine ⟨congrArg Value.bool (decide_eq_true ?_), rfl⟩; omega) | (exfalso; dsimp only at *; omega)
  rintro _ -
  refine SP_mid (G := Unit) (fun _ => [(0, pt b.vb), (1, I i), (2, .bool false), (3, I 0), (9, .pointer (some ⟨b.thb, 0 + ((i : Nat) : Int).toNat * 5, none⟩)), (10, I ((oN j : Nat) : Int)), (11, I j), (12, .pointer (some ⟨fq, 0 + ((j : Nat) : Int).toNat * 5, none⟩)), (13, .pointer (some ⟨pq, 0 + cl.p.toNat * 8, none⟩)), (14, I (f.base + p.nslots)), (143, I t.frames.length), (144, I j)]) (fun _ => [seg]) (fun _ => True) ?_ ?_
  · refine SP_seq ?_
    refine SP_region ?_
    refine SPL_y (y_move rfl) rfl ?_
    refine SPL_y (y_add rfl rfl (by omega)) rfl ?_
    refine SPL_y (y_move rfl) rfl ?_
    refine SPL_y (y_nil rfl) rfl ?_
    refine SPL_y (y_fa fld_263_3 rfl) rfl ?_
    refine SPL_y (y_load Tryz.isAgg261 rfl (by repeat (first | exact (hfs _) | apply Cell.tail))) rfl ?_
    refine SPL_y (y_len_l Tryz.underlying261 rfl) rfl ?_
    refine SPL_ifn (y_lss rfl rfl) rfl ?_ ?_
    · intro h30_7
      refine SPL_y (y_move rfl) rfl ?_
      refine SPL_gn rfl rfl rfl rfl ?_
      refine SPL_gn rfl rfl rfl rfl ?_
      refine SPL_gn rfl rfl rfl rfl ?_
      refine SPL_gn rfl rfl rfl rfl ?_
      refine SPL_gn rfl rfl rfl rfl ?_
      refine SPL_gu rfl rfl rfl ?_
      refine SPL_gu rfl rfl rfl ?_
      refine SPL_gu rfl rfl rfl ?_
      refine SPL_gu rfl rfl rfl ?_
      refine SPL_gn rfl rfl rfl rfl ?_
      refine SPL_gn rfl rfl rfl rfl ?_
      refine SPL_gu rfl rfl rfl ?_
      refine SPL_gu rfl rfl rfl ?_
      refine SPL_gu rfl rfl rfl ?_
      refine SPL_gu rfl rfl rfl ?_
      refine SPL_gn rfl rfl rfl rfl ?_
      refine SPL_y (y_pick_f rfl rfl) rfl ?_
      refine SPL_nil ?_
      refine thenP_n ?_
      refine SP_cond_f rfl ?_
      refine SP_skip ?_
      refine thenP_n ?_
      exact Mid.intro (()) (trivial) (by repeat (first | exact Sub.nil _ | refine Sub.cons rfl ?_)) (by repeat (first | exact Part.nil _ | (apply Part.cons; with_reducible (first | exact P0 | exact P1 | exact P2 | exact P3 | exact P4 | exact P5 | exact P6 | exact P7 | exact P8 | exact P9 | exact P10 | exact P11 | exact P12 | exact P13 | exact P14 | exact P15 | exact P16 | exact P17 | exact P18 | exact P19 | exact P20 | exact P21 | exact P22 | exact P23)) | (apply Part.flat; simp only [List.cons_append, List.nil_append]) | (apply Part.cons; (first | exact P0 | exact P1 | exact P2 | exact P3 | exact P4 | exact P5 | exact P6 | exact P7 | exact P8 | exact P9 | exact P10 | exact P11 | exact P12 | exact P13 | exact P14 | exact P15 | exact P16 | exact P17 | exact P18 | exact P19 | exact P20 | exact P21 | exact P22 | exact P23)) | (apply Part.nilc)))
    intro h30_7
    refine SPL_y (y_move rfl) rfl ?_
    refine SPL_gy rfl rfl ?_
    refine SPL_y (y_move rfl) rfl ?_
    refine SPL_gy rfl rfl ?_
    refine SPL_y (y_move rfl) rfl ?_
    refine SPL_gy rfl rfl ?_
    obtain ⟨hy1, hy2, hy3⟩ := hx5 (by omega)
    refine SPL_y (y_sub rfl rfl (by omega)) rfl ?_
    refine SPL_gy rfl rfl ?_
    refine SPL_if (y_lss rfl rfl) rfl ?_ ?_
    · intro h30_12
      refine SPL_gy rfl rfl ?_
      refine SPL_y (y_move rfl) rfl ?_
      refine SPL_gn rfl rfl rfl rfl ?_
      refine SPL_gn rfl rfl rfl rfl ?_
      refine SPL_gn rfl rfl rfl rfl ?_
      refine SPL_gn rfl rfl rfl rfl ?_
      refine SPL_gy rfl rfl ?_
      refine SPL_y (y_pick_t rfl rfl) rfl ?_
      refine SPL_gy rfl rfl ?_
      refine SPL_y (y_move rfl) rfl ?_
      refine SPL_gn rfl rfl rfl rfl ?_
      refine SPL_gn rfl rfl rfl rfl ?_
      refine SPL_gn rfl rfl rfl rfl ?_
      refine SPL_gn rfl rfl rfl rfl ?_
      refine SPL_gy rfl rfl ?_
      refine SPL_y (y_pick_t rfl rfl) rfl ?_
      refine SPL_y (y_pick_t rfl rfl) rfl ?_
      refine SPL_nil ?_
      refine thenP_n ?_
      refine SP_cond_t rfl ?_
      refine SP_seq ?_
      refine SP_region ?_
      refine SPL_y (y_assign rfl) rfl ?_
      refine SPL_nil ?_
      refine thenP_n ?_
      refine SP_ret ?_
      refine thenP_ret (inBlockP_ret (thenP_ret (thenP_ret (inBlockP_ret (thenP_ret (bodyP_ret (H' := [seg]) (Res1 rfl rfl) (by repeat (first | exact Part.nil _ | (apply Part.cons; with_reducible (first | exact P0 | exact P1 | exact P2 | exact P3 | exact P4 | exact P5 | exact P6 | exact P7 | exact P8 | exact P9 | exact P10 | exact P11 | exact P12 | exact P13 | exact P14 | exact P15 | exact P16 | exact P17 | exact P18 | exact P19 | exact P20 | exact P21 | exact P22 | exact P23)) | (apply Part.flat; simp only [List.cons_append, List.nil_append]) | (apply Part.cons; (first | exact P0 | exact P1 | exact P2 | exact P3 | exact P4 | exact P5 | exact P6 | exact P7 | exact P8 | exact P9 | exact P10 | exact P11 | exact P12 | exact P13 | exact P14 | exact P15 | exact P16 | exact P17 | exact P18 | exact P19 | exact P20 | exact P21 | exact P22 | exact P23)) | (apply Part.nilc))) ?_))))))
      first | exact ⟨rfl, rfl⟩ | (exfalso; omega) | (refine ⟨congrArg Value.bool (decide_eq_true ?_), rfl⟩; omega) | (exfalso; dsimp only at *; omega)
    intro h30_12
    refine SPL_gy rfl rfl ?_
    refine SPL_y (y_move rfl) rfl ?_
    refine SPL_gy rfl rfl ?_
    refine SPL_y (y_move rfl) rfl ?_
    refine SPL_gy rfl rfl ?_
    refine SPL_y (y_move rfl) rfl ?_
    refine SPL_gy rfl rfl ?_
    refine SPL_y (y_sub rfl rfl (by omega)) rfl ?_
    refine SPL_gy rfl rfl ?_
    refine SPL_if (y_gtr rfl rfl) rfl ?_ ?_
    · intro h30_17
      refine SPL_gy rfl rfl ?_
      refine SPL_y (y_pick_f rfl rfl) rfl ?_
      refine SPL_gy rfl rfl ?_
      refine SPL_y (y_move rfl) rfl ?_
      refine SPL_gn rfl rfl rfl rfl ?_
      refine SPL_gn rfl rfl rfl rfl ?_
      refine SPL_gn rfl rfl rfl rfl ?_
      refine SPL_gn rfl rfl rfl rfl ?_
      refine SPL_gy rfl rfl ?_
      refine SPL_y (y_pick_t rfl rfl) rfl ?_
      refine SPL_y (y_pick_t rfl rfl) rfl ?_
      refine SPL_nil ?_
      refine thenP_n ?_
      refine SP_cond_t rfl ?_
      refine SP_seq ?_
      refine SP_region ?_
      refine SPL_y (y_assign rfl) rfl ?_
      refine SPL_nil ?_
      refine thenP_n ?_
      refine SP_ret ?_
      refine thenP_ret (inBlockP_ret (thenP_ret (thenP_ret (inBlockP_ret (thenP_ret (bodyP_ret (H' := [seg]) (Res1 rfl rfl) (by repeat (first | exact Part.nil _ | (apply Part.cons; with_reducible (first | exact P0 | exact P1 | exact P2 | exact P3 | exact P4 | exact P5 | exact P6 | exact P7 | exact P8 | exact P9 | exact P10 | exact P11 | exact P12 | exact P13 | exact P14 | exact P15 | exact P16 | exact P17 | exact P18 | exact P19 | exact P20 | exact P21 | exact P22 | exact P23)) | (apply Part.flat; simp only [List.cons_append, List.nil_append]) | (apply Part.cons; (first | exact P0 | exact P1 | exact P2 | exact P3 | exact P4 | exact P5 | exact P6 | exact P7 | exact P8 | exact P9 | exact P10 | exact P11 | exact P12 | exact P13 | exact P14 | exact P15 | exact P16 | exact P17 | exact P18 | exact P19 | exact P20 | exact P21 | exact P22 | exact P23)) | (apply Part.nilc))) ?_))))))
      first | exact ⟨rfl, rfl⟩ | (exfalso; omega) | (refine ⟨congrArg Value.bool (decide_eq_true ?_), rfl⟩; omega) | (exfalso; dsimp only at *; omega)
    intro h30_17
    refine SPL_gy rfl rfl ?_
    refine SPL_y (y_pick_f rfl rfl) rfl ?_
    refine SPL_gy rfl rfl ?_
    refine SPL_y (y_move rfl) rfl ?_
    refine SPL_gy rfl rfl ?_
    refine SPL_y (y_move rfl) rfl ?_
    refine SPL_gy rfl rfl ?_
    refine SPL_y (y_move rfl) rfl ?_
    refine SPL_gy rfl rfl ?_
    refine SPL_y (y_sub rfl rfl (by omega)) rfl ?_
    refine SPL_gy rfl rfl ?_
    refine SPL_ifn (y_gtr rfl rfl) rfl ?_ ?_
    · intro h30_23
      refine SPL_gy rfl rfl ?_
      refine SPL_y (y_pick_f rfl rfl) rfl ?_
      refine SPL_y (y_pick_t rfl rfl) rfl ?_
      refine SPL_nil ?_
      refine thenP_n ?_
      refine SP_cond_f rfl ?_
      refine SP_skip ?_
      refine thenP_n ?_
      exact Mid.intro (()) (trivial) (by repeat (first | exact Sub.nil _ | refine Sub.cons rfl ?_)) (by repeat (first | exact Part.nil _ | (apply Part.cons; with_reducible (first | exact P0 | exact P1 | exact P2 | exact P3 | exact P4 | exact P5 | exact P6 | exact P7 | exact P8 | exact P9 | exact P10 | exact P11 | exact P12 | exact P13 | exact P14 | exact P15 | exact P16 | exact P17 | exact P18 | exact P19 | exact P20 | exact P21 | exact P22 | exact P23)) | (apply Part.flat; simp only [List.cons_append, List.nil_append]) | (apply Part.cons; (first | exact P0 | exact P1 | exact P2 | exact P3 | exact P4 | exact P5 | exact P6 | exact P7 | exact P8 | exact P9 | exact P10 | exact P11 | exact P12 | exact P13 | exact P14 | exact P15 | exact P16 | exact P17 | exact P18 | exact P19 | exact P20 | exact P21 | exact P22 | exact P23)) | (apply Part.nilc)))
    intro h30_23
    refine SPL_gy rfl rfl ?_
    refine SPL_y (y_pick_f rfl rfl) rfl ?_
    refine SPL_y (y_pick_t rfl rfl) rfl ?_
    refine SPL_nil ?_
    refine thenP_n ?_
    refine SP_cond_t rfl ?_
    refine SP_seq ?_
    refine SP_region ?_
    refine SPL_y (y_assign rfl) rfl ?_
    refine SPL_nil ?_
    refine thenP_n ?_
    refine SP_ret ?_
    refine thenP_ret (inBlockP_ret (thenP_ret (thenP_ret (inBlockP_ret (thenP_ret (bodyP_ret (H' := [seg]) (Res1 rfl rfl) (by repeat (first | exact Part.nil _ | (apply Part.cons; with_reducible (first | exact P0 | exact P1 | exact P2 | exact P3 | exact P4 | exact P5 | exact P6 | exact P7 | exact P8 | exact P9 | exact P10 | exact P11 | exact P12 | exact P13 | exact P14 | exact P15 | exact P16 | exact P17 | exact P18 | exact P19 | exact P20 | exact P21 | exact P22 | exact P23)) | (apply Part.flat; simp only [List.cons_append, List.nil_append]) | (apply Part.cons; (first | exact P0 | exact P1 | exact P2 | exact P3 | exact P4 | exact P5 | exact P6 | exact P7 | exact P8 | exact P9 | exact P10 | exact P11 | exact P12 | exact P13 | exact P14 | exact P15 | exact P16 | exact P17 | exact P18 | exact P19 | exact P20 | exact P21 | exact P22 | exact P23)) | (apply Part.nilc))) ?_))))))
    first | exact ⟨rfl, rfl⟩ | (exfalso; omega) | (refine ⟨congrArg Value.bool (decide_eq_true ?_), rfl⟩; omega) | (exfalso; dsimp only at *; omega)
  rintro _ -
  refine SP_block ?_
  refine SP_loop (G := Nat) (fun k => t.opn.length - k) (fun k => [(0, pt b.vb), (1, I i), (2, .bool false), (3, I 0), (9, .pointer (some ⟨b.thb, 0 + ((i : Nat) : Int).toNat * 5, none⟩)), (10, I ((k : Nat) : Int)), (11, I j), (12, .pointer (some ⟨fq, 0 + ((j : Nat) : Int).toNat * 5, none⟩)), (14, I (f.base + p.nslots)), (143, I t.frames.length), (144, I j)]) (fun _ => [seg]) (fun k => oN j ≤ k ∧ k ≤ oN (j + 1)) (oN j) (⟨Nat.le_refl _, hoj.1⟩) (by repeat (first | exact Sub.nil _ | refine Sub.cons rfl ?_)) (by repeat (first | exact Part.nil _ | (apply Part.cons; with_reducible (first | exact P0 | exact P1 | exact P2 | exact P3 | exact P4 | exact P5 | exact P6 | exact P7 | exact P8 | exact P9 | exact P10 | exact P11 | exact P12 | exact P13 | exact P14 | exact P15 | exact P16 | exact P17 | exact P18 | exact P19 | exact P20 | exact P21 | exact P22 | exact P23)) | (apply Part.flat; simp only [List.cons_append, List.nil_append]) | (apply Part.cons; (first | exact P0 | exact P1 | exact P2 | exact P3 | exact P4 | exact P5 | exact P6 | exact P7 | exact P8 | exact P9 | exact P10 | exact P11 | exact P12 | exact P13 | exact P14 | exact P15 | exact P16 | exact P17 | exact P18 | exact P19 | exact P20 | exact P21 | exact P22 | exact P23)) | (apply Part.nilc))) ?_
  rintro k ⟨hk1, hk2⟩
  refine SP_seq ?_
  refine SP_seq ?_
  refine SP_region ?_
  refine SPL_y (y_move rfl) rfl ?_
  refine SPL_y (y_move rfl) rfl ?_
  refine SPL_y (y_nil rfl) rfl ?_
  refine SPL_y (y_fa fld_263_4 rfl) rfl ?_
  refine SPL_y (y_load Tryz.isAgg112 rfl (by repeat (first | exact (hrow _ 4 _ rfl) | apply Cell.tail))) rfl ?_
  refine SPL_y (y_len_l Tryz.underlying112 rfl) rfl ?_
  refine SPL_ifn (y_lss rfl rfl) rfl ?_ ?_
  · intro h32_6
    refine SPL_nil ?_
    refine thenP_n ?_
    refine SP_cond_f rfl ?_
    refine SP_exit ?_
    refine thenP_exit ?_
    refine thenP_exit ?_
    refine inBlockP_hit ?_
    refine inBlockP_n ?_
    refine thenP_n ?_
    refine SP_region ?_
    refine SPL_y (y_add rfl rfl (by omega)) rfl ?_
    refine SPL_y (y_move rfl) rfl ?_
    refine SPL_nil ?_
    refine thenP_n ?_
    obtain rfl : k = oN (j + 1) := by omega
    exact Again.intro (j + 1) ((by omega)) (by omega) (by repeat (first | exact Sub.nil _ | refine Sub.cons rfl ?_)) (by repeat (first | exact Part.nil _ | (apply Part.cons; with_reducible (first | exact P0 | exact P1 | exact P2 | exact P3 | exact P4 | exact P5 | exact P6 | exact P7 | exact P8 | exact P9 | exact P10 | exact P11 | exact P12 | exact P13 | exact P14 | exact P15 | exact P16 | exact P17 | exact P18 | exact P19 | exact P20 | exact P21 | exact P22 | exact P23)) | (apply Part.flat; simp only [List.cons_append, List.nil_append]) | (apply Part.cons; (first | exact P0 | exact P1 | exact P2 | exact P3 | exact P4 | exact P5 | exact P6 | exact P7 | exact P8 | exact P9 | exact P10 | exact P11 | exact P12 | exact P13 | exact P14 | exact P15 | exact P16 | exact P17 | exact P18 | exact P19 | exact P20 | exact P21 | exact P22 | exact P23)) | (apply Part.nilc)))
  intro h32_6
  refine SPL_nil ?_
  refine thenP_n ?_
  refine SP_cond_t rfl ?_
  refine SP_skip ?_
  refine thenP_n ?_
  refine SP_block ?_
  refine SP_seq ?_
  have hkl : k < t.opn.length := by omega
  obtain ⟨x, hx⟩ : ∃ x, t.opn[k]? = some x := ⟨_, List.getElem?_eq_getElem hkl⟩
  obtain ⟨oq, hoa, hoc2⟩ := hopn _ _ (getI_nat hx (by omega))
  obtain ⟨ce, hce, hct, hca⟩ := hop k x hx
  obtain ⟨hxb, hxl, _⟩ := getI_some hce
  obtain ⟨cq, hea, hcq⟩ := hcelA _ _ hce
  have hoh : ∀ H : Hp, Cell (seg :: H) b.thb (0 + i * 5 + 4) (.slice (some ⟨oq, 0, none⟩) t.opn.length oc) := fun H => by
    have := hrow H 4 _ rfl
    rw [hoa] at this
    exact this
  have hceh2 : ∀ H : Hp, Cell (seg :: H) b.vb (0 + 8) (.slice (some ⟨cq, 0, none⟩) m.vs.cells.length ec) := fun H => by
    have := hceh H
    rw [hea] at this
    exact this
  obtain ⟨hok1, hok2⟩ := hok k (by omega) hkl
  refine SP_region ?_
  refine SPL_y (y_move rfl) rfl ?_
  refine SPL_y (y_nil rfl) rfl ?_
  refine SPL_y (y_fa fld_263_4 rfl) rfl ?_
  refine SPL_y (y_load Tryz.isAgg112 rfl (by repeat (first | exact (hoh _) | apply Cell.tail))) rfl ?_
  refine SPL_y (y_move rfl) rfl ?_
  refine SPL_y (y_ia Tryz.underlying112 Tryz.sizeOf3 rfl rfl (by omega)) rfl ?_
  refine SPL_y (y_load Tryz.isAgg3 rfl (by repeat (first | exact (hoc2 _) | apply Cell.tail))) rfl ?_
  refine SPL_y (y_assign rfl) rfl ?_
  refine SPL_nil ?_
  refine thenP_n ?_
  refine SP_mid (G := Unit) (fun _ => [(0, pt b.vb), (1, I i), (2, .bool false), (3, I 0), (9, .pointer (some ⟨b.thb, 0 + ((i : Nat) : Int).toNat * 5, none⟩)), (10, I ((k : Nat) : Int)), (11, I j), (12, .pointer (some ⟨fq, 0 + ((j : Nat) : Int).toNat * 5, none⟩)), (14, I (f.base + p.nslots)), (18, I x), (143, I t.frames.length), (144, I j)]) (fun _ => [seg]) (fun _ => True) ?_ ?_
  · refine SP_seq ?_
    refine SP_draw 999 [(0, 0), (1, 0), (2, 0), (3, 0), (4, 0), (5, 0), (6, 0), (7, 1), (8, 0), (9, 0), (10, 0), (11, 0), (12, 0), (13, 0), (14, 0), (16, 0), (20, 0), (15, 1), (17, 0), (18, 0), (19, 1), (21, 0), (22, 0), (23, 0), (24, 0), (25, 0), (26, 0), (28, 0), (32, 0), (33, 0), (34, 0), (27, 1), (29, 0), (30, 0), (31, 1), (35, 1), (36, 0), (37, 0)] mixed (by kernel_rfl) (fun _ _ _ _ _ h => h) (Part.refl _) ?_
    refine SPO_p rfl (y_move rfl) rfl ?_
    refine SPO_if rfl (y_lss rfl rfl) rfl ?_ ?_
    · intro h34_1
      refine SPO_p rfl (y_move rfl) rfl ?_
      refine SPO_gn (.inl rfl) rfl rfl rfl rfl rfl ?_
      refine SPO_gn (.inl rfl) rfl rfl rfl rfl rfl ?_
      refine SPO_gn (.inl rfl) rfl rfl rfl rfl rfl ?_
      refine SPO_gn (.inl rfl) rfl rfl rfl rfl rfl ?_
      refine SPO_gn (.inr rfl) rfl rfl rfl rfl rfl ?_
      refine SPO_gn (.inl rfl) rfl rfl rfl rfl rfl ?_
      refine SPO_gn (.inl rfl) rfl rfl rfl rfl rfl ?_
      refine SPO_p rfl (y_pick_t rfl rfl) rfl ?_
      refine SPO_p rfl (y_move rfl) rfl ?_
      refine SPO_gn (.inl rfl) rfl rfl rfl rfl rfl ?_
      refine SPO_gn (.inl rfl) rfl rfl rfl rfl rfl ?_
      refine SPO_gn (.inl rfl) rfl rfl rfl rfl rfl ?_
      refine SPO_gn (.inl rfl) rfl rfl rfl rfl rfl ?_
      refine SPO_gn (.inl rfl) rfl rfl rfl rfl rfl ?_
      refine SPO_gn (.inr rfl) rfl rfl rfl rfl rfl ?_
      refine SPO_gn (.inl rfl) rfl rfl rfl rfl rfl ?_
      refine SPO_gn (.inl rfl) rfl rfl rfl rfl rfl ?_
      refine SPO_gn (.inr rfl) rfl rfl rfl rfl rfl ?_
      refine SPO_gn (.inl rfl) rfl rfl rfl rfl rfl ?_
      refine SPO_p rfl (y_pick_t rfl rfl) rfl ?_
      refine SPO_p rfl (y_move rfl) rfl ?_
      refine SPO_gn (.inl rfl) rfl rfl rfl rfl rfl ?_
      refine SPO_gn (.inl rfl) rfl rfl rfl rfl rfl ?_
      refine SPO_gn (.inl rfl) rfl rfl rfl rfl rfl ?_
      refine SPO_gn (.inl rfl) rfl rfl rfl rfl rfl ?_
      refine SPO_gn (.inl rfl) rfl rfl rfl rfl rfl ?_
      refine SPO_gn (.inl rfl) rfl rfl rfl rfl rfl ?_
      refine SPO_gn (.inl rfl) rfl rfl rfl rfl rfl ?_
      refine SPO_gn (.inr rfl) rfl rfl rfl rfl rfl ?_
      refine SPO_gn (.inl rfl) rfl rfl rfl rfl rfl ?_
      refine SPO_gn (.inl rfl) rfl rfl rfl rfl rfl ?_
      refine SPO_gn (.inr rfl) rfl rfl rfl rfl rfl ?_
      refine SPO_gn (.inr rfl) rfl rfl rfl rfl rfl ?_
      refine SPO_gn (.inl rfl) rfl rfl rfl rfl rfl ?_
      refine SPO_p rfl (y_pick_t rfl rfl) rfl ?_
      refine SPO_nil ?_
      refine thenP_n ?_
      refine SP_cond_t rfl ?_
      refine SP_seq ?_
      refine SP_region ?_
      refine SPL_y (y_assign rfl) rfl ?_
      refine SPL_nil ?_
      refine thenP_n ?_
      refine SP_ret ?_
      refine thenP_ret (inBlockP_ret (thenP_ret (inBlockP_ret (inBlockP_ret (thenP_ret (thenP_ret (inBlockP_ret (thenP_ret (bodyP_ret (H' := [seg]) (Res1 rfl rfl) (by repeat (first | exact Part.nil _ | (apply Part.cons; with_reducible (first | exact P0 | exact P1 | exact P2 | exact P3 | exact P4 | exact P5 | exact P6 | exact P7 | exact P8 | exact P9 | exact P10 | exact P11 | exact P12 | exact P13 | exact P14 | exact P15 | exact P16 | exact P17 | exact P18 | exact P19 | exact P20 | exact P21 | exact P22 | exact P23)) | (apply Part.flat; simp only [List.cons_append, List.nil_append]) | (apply Part.cons; (first | exact P0 | exact P1 | exact P2 | exact P3 | exact P4 | exact P5 | exact P6 | exact P7 | exact P8 | exact P9 | exact P10 | exact P11 | exact P12 | exact P13 | exact P14 | exact P15 | exact P16 | exact P17 | exact P18 | exact P19 | exact P20 | exact P21 | exact P22 | exact P23)) | (apply Part.nilc))) ?_)))))))))
      first | exact ⟨rfl, rfl⟩ | (exfalso; omega) | (refine ⟨congrArg Value.bool (decide_eq_true ?_), rfl⟩; omega) | (exfalso; dsimp only at *; omega)
    intro h34_1
    refine SPO_p rfl (y_move rfl) rfl ?_
    refine SPO_py rfl rfl rfl (y_move rfl) rfl ?_
    refine SPO_py rfl rfl rfl (y_move rfl) rfl ?_
    refine SPO_py rfl rfl rfl (y_nil rfl) rfl ?_
    refine SPO_py rfl rfl rfl (y_fa fld_115_8 rfl) rfl ?_
    refine SPO_hy rfl rfl rfl (y_load Tryz.isAgg113 rfl (by repeat (first | exact (hceh2 _) | apply Cell.tail))) rfl ?_
    refine SPO_py rfl rfl rfl (y_len_l Tryz.underlying113 rfl) rfl ?_
    refine SPO_pyif rfl rfl rfl (y_geq rfl rfl) rfl ?_ ?_
    · intro h34_9
      refine SPO_p rfl (y_pick_f rfl rfl) rfl ?_
      refine SPO_p rfl (y_move rfl) rfl ?_
      refine SPO_gn (.inl rfl) rfl rfl rfl rfl rfl ?_
      refine SPO_gn (.inl rfl) rfl rfl rfl rfl rfl ?_
      refine SPO_gn (.inl rfl) rfl rfl rfl rfl rfl ?_
      refine SPO_gn (.inl rfl) rfl rfl rfl rfl rfl ?_
      refine SPO_gn (.inl rfl) rfl rfl rfl rfl rfl ?_
      refine SPO_gn (.inr rfl) rfl rfl rfl rfl rfl ?_
      refine SPO_gn (.inl rfl) rfl rfl rfl rfl rfl ?_
      refine SPO_gn (.inl rfl) rfl rfl rfl rfl rfl ?_
      refine SPO_gn (.inr rfl) rfl rfl rfl rfl rfl ?_
      refine SPO_gn (.inl rfl) rfl rfl rfl rfl rfl ?_
      refine SPO_p rfl (y_pick_t rfl rfl) rfl ?_
      refine SPO_p rfl (y_move rfl) rfl ?_
      refine SPO_gn (.inl rfl) rfl rfl rfl rfl rfl ?_
      refine SPO_gn (.inl rfl) rfl rfl rfl rfl rfl ?_
      refine SPO_gn (.inl rfl) rfl rfl rfl rfl rfl ?_
      refine SPO_gn (.inl rfl) rfl rfl rfl rfl rfl ?_
      refine SPO_gn (.inl rfl) rfl rfl rfl rfl rfl ?_
      refine SPO_gn (.inl rfl) rfl rfl rfl rfl rfl ?_
      refine SPO_gn (.inl rfl) rfl rfl rfl rfl rfl ?_
      refine SPO_gn (.inr rfl) rfl rfl rfl rfl rfl ?_
      refine SPO_gn (.inl rfl) rfl rfl rfl rfl rfl ?_
      refine SPO_gn (.inl rfl) rfl rfl rfl rfl rfl ?_
      refine SPO_gn (.inr rfl) rfl rfl rfl rfl rfl ?_
      refine SPO_gn (.inr rfl) rfl rfl rfl rfl rfl ?_
      refine SPO_gn (.inl rfl) rfl rfl rfl rfl rfl ?_
      refine SPO_p rfl (y_pick_t rfl rfl) rfl ?_
      refine SPO_nil ?_
      refine thenP_n ?_
      refine SP_cond_t rfl ?_
      refine SP_seq ?_
      refine SP_region ?_
      refine SPL_y (y_assign rfl) rfl ?_
      refine SPL_nil ?_
      refine thenP_n ?_
      refine SP_ret ?_
      refine thenP_ret (inBlockP_ret (thenP_ret (inBlockP_ret (inBlockP_ret (thenP_ret (thenP_ret (inBlockP_ret (thenP_ret (bodyP_ret (H' := [seg]) (Res1 rfl rfl) (by repeat (first | exact Part.nil _ | (apply Part.cons; with_reducible (first | exact P0 | exact P1 | exact P2 | exact P3 | exact P4 | exact P5 | exact P6 | exact P7 | exact P8 | exact P9 | exact P10 | exact P11 | exact P12 | exact P13 | exact P14 | exact P15 | exact P16 | exact P17 | exact P18 | exact P19 | exact P20 | exact P21 | exact P22 | exact P23)) | (apply Part.flat; simp only [List.cons_append, List.nil_append]) | (apply Part.cons; (first | exact P0 | exact P1 | exact P2 | exact P3 | exact P4 | exact P5 | exact P6 | exact P7 | exact P8 | exact P9 | exact P10 | exact P11 | exact P12 | exact P13 | exact P14 | exact P15 | exact P16 | exact P17 | exact P18 | exact P19 | exact P20 | exact P21 | exact P22 | exact P23)) | (apply Part.nilc))) ?_)))))))))
      first | exact ⟨rfl, rfl⟩ | (exfalso; omega) | (refine ⟨congrArg Value.bool (decide_eq_true ?_), rfl⟩; omega) | (exfalso; dsimp only at *; omega)
    intro h34_9
    refine SPO_p rfl (y_pick_f rfl rfl) rfl ?_
    refine SPO_p rfl (y_move rfl) rfl ?_
    refine SPO_py rfl rfl rfl (y_move rfl) rfl ?_
    refine SPO_py rfl rfl rfl (y_nil rfl) rfl ?_
    refine SPO_py rfl rfl rfl (y_fa fld_115_8 rfl) rfl ?_
    refine SPO_py rfl rfl rfl (y_move rfl) rfl ?_
    refine SPO_py rfl rfl rfl (y_move rfl) rfl ?_
    refine SPO_hy rfl rfl rfl (y_load Tryz.isAgg113 rfl (by repeat (first | exact (hceh2 _) | apply Cell.tail))) rfl ?_
    refine SPO_py rfl rfl rfl (y_ia Tryz.underlying113 Tryz.sizeOf287 rfl rfl (by omega)) rfl ?_
    refine SPO_py rfl rfl rfl (y_fa fld_287_0 rfl) rfl ?_
    refine SPO_hy rfl rfl rfl (y_load Tryz.isAgg3 rfl (by repeat (first | exact ((hcq _).cell rfl) | apply Cell.tail))) rfl ?_
    refine SPO_pyif rfl rfl rfl (y_neq rfl rfl) rfl ?_ ?_
    · intro h34_21
      refine SPO_p rfl (y_pick_f rfl rfl) rfl ?_
      refine SPO_p rfl (y_move rfl) rfl ?_
      refine SPO_gn (.inl rfl) rfl rfl rfl rfl rfl ?_
      refine SPO_gn (.inl rfl) rfl rfl rfl rfl rfl ?_
      refine SPO_gn (.inl rfl) rfl rfl rfl rfl rfl ?_
      refine SPO_gn (.inl rfl) rfl rfl rfl rfl rfl ?_
      refine SPO_gn (.inl rfl) rfl rfl rfl rfl rfl ?_
      refine SPO_gn (.inl rfl) rfl rfl rfl rfl rfl ?_
      refine SPO_gn (.inl rfl) rfl rfl rfl rfl rfl ?_
      refine SPO_gn (.inr rfl) rfl rfl rfl rfl rfl ?_
      refine SPO_gn (.inl rfl) rfl rfl rfl rfl rfl ?_
      refine SPO_gn (.inl rfl) rfl rfl rfl rfl rfl ?_
      refine SPO_gn (.inr rfl) rfl rfl rfl rfl rfl ?_
      refine SPO_gn (.inr rfl) rfl rfl rfl rfl rfl ?_
      refine SPO_gn (.inl rfl) rfl rfl rfl rfl rfl ?_
      refine SPO_p rfl (y_pick_t rfl rfl) rfl ?_
      refine SPO_nil ?_
      refine thenP_n ?_
      refine SP_cond_t rfl ?_
      refine SP_seq ?_
      refine SP_region ?_
      refine SPL_y (y_assign rfl) rfl ?_
      refine SPL_nil ?_
      refine thenP_n ?_
      refine SP_ret ?_
      refine thenP_ret (inBlockP_ret (thenP_ret (inBlockP_ret (inBlockP_ret (thenP_ret (thenP_ret (inBlockP_ret (thenP_ret (bodyP_ret (H' := [seg]) (Res1 rfl rfl) (by repeat (first | exact Part.nil _ | (apply Part.cons; with_reducible (first | exact P0 | exact P1 | exact P2 | exact P3 | exact P4 | exact P5 | exact P6 | exact P7 | exact P8 | exact P9 | exact P10 | exact P11 | exact P12 | exact P13 | exact P14 | exact P15 | exact P16 | exact P17 | exact P18 | exact P19 | exact P20 | exact P21 | exact P22 | exact P23)) | (apply Part.flat; simp only [List.cons_append, List.nil_append]) | (apply Part.cons; (first | exact P0 | exact P1 | exact P2 | exact P3 | exact P4 | exact P5 | exact P6 | exact P7 | exact P8 | exact P9 | exact P10 | exact P11 | exact P12 | exact P13 | exact P14 | exact P15 | exact P16 | exact P17 | exact P18 | exact P19 | exact P20 | exact P21 | exact P22 | exact P23)) | (apply Part.nilc))) ?_)))))))))
      first | exact ⟨rfl, rfl⟩ | (exfalso; omega) | (refine ⟨congrArg Value.bool (decide_eq_true ?_), rfl⟩; omega) | (exfalso; dsimp only at *; omega)
    intro h34_21
    refine SPO_p rfl (y_pick_f rfl rfl) rfl ?_
    refine SPO_p rfl (y_move rfl) rfl ?_
    refine SPO_py rfl rfl rfl (y_move rfl) rfl ?_
    refine SPO_py rfl rfl rfl (y_nil rfl) rfl ?_
    refine SPO_py rfl rfl rfl (y_fa fld_115_8 rfl) rfl ?_
    refine SPO_py rfl rfl rfl (y_move rfl) rfl ?_
    refine SPO_py rfl rfl rfl (y_move rfl) rfl ?_
    refine SPO_py rfl rfl rfl (y_nil rfl) rfl ?_
    refine SPO_py rfl rfl rfl (y_fa fld_331_2 rfl) rfl ?_
    refine SPO_hy rfl rfl rfl (y_load Tryz.isAgg113 rfl (by repeat (first | exact (hceh2 _) | apply Cell.tail))) rfl ?_
    refine SPO_py rfl rfl rfl (y_ia Tryz.underlying113 Tryz.sizeOf287 rfl rfl (by omega)) rfl ?_
    refine SPO_py rfl rfl rfl (y_fa fld_287_1 rfl) rfl ?_
    refine SPO_hy rfl rfl rfl (y_load Tryz.isAgg3 rfl (by repeat (first | exact ((hcq _).cell rfl) | apply Cell.tail))) rfl ?_
    refine SPO_hy rfl rfl rfl (y_load Tryz.isAgg3 rfl (by repeat (first | exact ((hfc _).cell rfl) | apply Cell.tail))) rfl ?_
    refine SPO_pyifn rfl rfl rfl (y_lss rfl rfl) rfl ?_ ?_
    · intro h34_36
      refine SPO_p rfl (y_pick_f rfl rfl) rfl ?_
      refine SPO_nil ?_
      refine thenP_n ?_
      refine SP_cond_f rfl ?_
      refine SP_skip ?_
      refine thenP_n ?_
      exact Mid.intro (()) (trivial) (by repeat (first | exact Sub.nil _ | refine Sub.cons rfl ?_)) (by repeat (first | exact Part.nil _ | (apply Part.cons; with_reducible (first | exact P0 | exact P1 | exact P2 | exact P3 | exact P4 | exact P5 | exact P6 | exact P7 | exact P8 | exact P9 | exact P10 | exact P11 | exact P12 | exact P13 | exact P14 | exact P15 | exact P16 | exact P17 | exact P18 | exact P19 | exact P20 | exact P21 | exact P22 | exact P23)) | (apply Part.flat; simp only [List.cons_append, List.nil_append]) | (apply Part.cons; (first | exact P0 | exact P1 | exact P2 | exact P3 | exact P4 | exact P5 | exact P6 | exact P7 | exact P8 | exact P9 | exact P10 | exact P11 | exact P12 | exact P13 | exact P14 | exact P15 | exact P16 | exact P17 | exact P18 | exact P19 | exact P20 | exact P21 | exact P22 | exact P23)) | (apply Part.nilc)))
    intro h34_36
    refine SPO_p rfl (y_pick_f rfl rfl) rfl ?_
    refine SPO_nil ?_
    refine thenP_n ?_
    refine SP_cond_t rfl ?_
    refine SP_seq ?_
    refine SP_region ?_
    refine SPL_y (y_assign rfl) rfl ?_
    refine SPL_nil ?_
    refine thenP_n ?_
    refine SP_ret ?_
    refine thenP_ret (inBlockP_ret (thenP_ret (inBlockP_ret (inBlockP_ret (thenP_ret (thenP_ret (inBlockP_ret (thenP_ret (bodyP_ret (H' := [seg]) (Res1 rfl rfl) (by repeat (first | exact Part.nil _ | (apply Part.cons; with_reducible (first | exact P0 | exact P1 | exact P2 | exact P3 | exact P4 | exact P5 | exact P6 | exact P7 | exact P8 | exact P9 | exact P10 | exact P11 | exact P12 | exact P13 | exact P14 | exact P15 | exact P16 | exact P17 | exact P18 | exact P19 | exact P20 | exact P21 | exact P22 | exact P23)) | (apply Part.flat; simp only [List.cons_append, List.nil_append]) | (apply Part.cons; (first | exact P0 | exact P1 | exact P2 | exact P3 | exact P4 | exact P5 | exact P6 | exact P7 | exact P8 | exact P9 | exact P10 | exact P11 | exact P12 | exact P13 | exact P14 | exact P15 | exact P16 | exact P17 | exact P18 | exact P19 | exact P20 | exact P21 | exact P22 | exact P23)) | (apply Part.nilc))) ?_)))))))))
    first | exact ⟨rfl, rfl⟩ | (exfalso; omega) | (refine ⟨congrArg Value.bool (decide_eq_true ?_), rfl⟩; omega) | (exfalso; dsimp only at *; omega)
  rintro _ -
  refine SP_seq ?_
  refine SP_seq ?_
  refine SP_region ?_
  refine SPL_y (y_move rfl) rfl ?_
  refine SPL_y (y_nil rfl) rfl ?_
  refine SPL_y (y_fa fld_115_8 rfl) rfl ?_
  refine SPL_y (y_load Tryz.isAgg113 rfl (by repeat (first | exact (hceh2 _) | apply Cell.tail))) rfl ?_
  refine SPL_y (y_move rfl) rfl ?_
  refine SPL_y (y_ia Tryz.underlying113 Tryz.sizeOf287 rfl rfl (by omega)) rfl ?_
  refine SPL_y (y_fa fld_287_1 rfl) rfl ?_
  refine SPL_y (y_load Tryz.isAgg3 rfl (by repeat (first | exact ((hcq _).cell rfl) | apply Cell.tail))) rfl ?_
  refine SPL_y (y_move rfl) rfl ?_
  refine SPL_if (y_geq rfl rfl) rfl ?_ ?_
  · intro h36_9
    refine SPL_nil ?_
    refine thenP_n ?_
    refine SP_cond_t rfl ?_
    refine SP_exit ?_
    refine thenP_exit ?_
    refine inBlockP_miss rfl ?_
    refine thenP_exit ?_
    refine inBlockP_hit ?_
    refine inBlockP_n ?_
    refine thenP_n ?_
    refine SP_region ?_
    refine SPL_y (y_add rfl rfl (by omega)) rfl ?_
    refine SPL_y (y_move rfl) rfl ?_
    refine SPL_nil ?_
    refine thenP_n ?_
    have hq9 : ¬ k < oN (j + 1) := fun q => by have := hok2.2 q; omega
    obtain rfl : k = oN (j + 1) := by omega
    exact Again.intro (j + 1) ((by omega)) (by omega) (by repeat (first | exact Sub.nil _ | refine Sub.cons rfl ?_)) (by repeat (first | exact Part.nil _ | (apply Part.cons; with_reducible (first | exact P0 | exact P1 | exact P2 | exact P3 | exact P4 | exact P5 | exact P6 | exact P7 | exact P8 | exact P9 | exact P10 | exact P11 | exact P12 | exact P13 | exact P14 | exact P15 | exact P16 | exact P17 | exact P18 | exact P19 | exact P20 | exact P21 | exact P22 | exact P23)) | (apply Part.flat; simp only [List.cons_append, List.nil_append]) | (apply Part.cons; (first | exact P0 | exact P1 | exact P2 | exact P3 | exact P4 | exact P5 | exact P6 | exact P7 | exact P8 | exact P9 | exact P10 | exact P11 | exact P12 | exact P13 | exact P14 | exact P15 | exact P16 | exact P17 | exact P18 | exact P19 | exact P20 | exact P21 | exact P22 | exact P23)) | (apply Part.nilc)))
  intro h36_9
  refine SPL_nil ?_
  refine thenP_n ?_
  refine SP_cond_f rfl ?_
  refine SP_skip ?_
  refine thenP_n ?_
  refine SP_mid (G := Unit) (fun _ => [(0, pt b.vb), (1, I i), (2, .bool false), (3, I 0), (9, .pointer (some ⟨b.thb, 0 + ((i : Nat) : Int).toNat * 5, none⟩)), (10, I ((k : Nat) : Int)), (11, I j), (12, .pointer (some ⟨fq, 0 + ((j : Nat) : Int).toNat * 5, none⟩)), (14, I (f.base + p.nslots)), (18, I x), (143, I t.frames.length), (144, I j)]) (fun _ => [seg]) (fun _ => True) ?_ ?_
  · refine SP_seq ?_
    refine SP_draw 999 [(0, 0), (1, 0), (2, 0), (3, 0), (4, 0), (5, 0), (7, 0), (8, 0), (9, 0), (11, 0), (12, 0), (18, 0), (19, 0), (20, 0), (22, 0), (6, 1), (10, 1), (13, 0), (14, 1), (15, 0), (16, 0), (17, 1), (21, 1), (23, 0), (24, 0), (25, 1), (26, 0), (27, 0)] mixed (by kernel_rfl) (fun _ _ _ _ _ h => h) (Part.refl _) ?_
    refine SPO_p rfl (y_move rfl) rfl ?_
    refine SPO_ifn rfl (y_gtr rfl rfl) rfl ?_ ?_
    · intro h37_1
      refine SPO_p rfl (y_move rfl) rfl ?_
      refine SPO_gn (.inl rfl) rfl rfl rfl rfl rfl ?_
      refine SPO_gn (.inl rfl) rfl rfl rfl rfl rfl ?_
      refine SPO_gn (.inl rfl) rfl rfl rfl rfl rfl ?_
      refine SPO_gn (.inl rfl) rfl rfl rfl rfl rfl ?_
      refine SPO_gn (.inl rfl) rfl rfl rfl rfl rfl ?_
      refine SPO_gn (.inl rfl) rfl rfl rfl rfl rfl ?_
      refine SPO_gn (.inl rfl) rfl rfl rfl rfl rfl ?_
      refine SPO_gn (.inl rfl) rfl rfl rfl rfl rfl ?_
      refine SPO_gn (.inl rfl) rfl rfl rfl rfl rfl ?_
      refine SPO_gn (.inl rfl) rfl rfl rfl rfl rfl ?_
      refine SPO_gn (.inl rfl) rfl rfl rfl rfl rfl ?_
      refine SPO_gn (.inl rfl) rfl rfl rfl rfl rfl ?_
      refine SPO_gn (.inr rfl) rfl rfl rfl rfl rfl ?_
      refine SPO_gn (.inr rfl) rfl rfl rfl rfl rfl ?_
      refine SPO_gn (.inl rfl) rfl rfl rfl rfl rfl ?_
      refine SPO_gn (.inr rfl) rfl rfl rfl rfl rfl ?_
      refine SPO_gn (.inl rfl) rfl rfl rfl rfl rfl ?_
      refine SPO_gn (.inl rfl) rfl rfl rfl rfl rfl ?_
      refine SPO_gn (.inr rfl) rfl rfl rfl rfl rfl ?_
      refine SPO_gn (.inr rfl) rfl rfl rfl rfl rfl ?_
      refine SPO_gn (.inl rfl) rfl rfl rfl rfl rfl ?_
      refine SPO_gn (.inl rfl) rfl rfl rfl rfl rfl ?_
      refine SPO_gn (.inr rfl) rfl rfl rfl rfl rfl ?_
      refine SPO_gn (.inl rfl) rfl rfl rfl rfl rfl ?_
      refine SPO_p rfl (y_pick_f rfl rfl) rfl ?_
      refine SPO_nil ?_
      refine thenP_n ?_
      refine SP_cond_f rfl ?_
      refine SP_skip ?_
      refine thenP_n ?_
      exact Mid.intro (()) (trivial) (by repeat (first | exact Sub.nil _ | refine Sub.cons rfl ?_)) (by repeat (first | exact Part.nil _ | (apply Part.cons; with_reducible (first | exact P0 | exact P1 | exact P2 | exact P3 | exact P4 | exact P5 | exact P6 | exact P7 | exact P8 | exact P9 | exact P10 | exact P11 | exact P12 | exact P13 | exact P14 | exact P15 | exact P16 | exact P17 | exact P18 | exact P19 | exact P20 | exact P21 | exact P22 | exact P23)) | (apply Part.flat; simp only [List.cons_append, List.nil_append]) | (apply Part.cons; (first | exact P0 | exact P1 | exact P2 | exact P3 | exact P4 | exact P5 | exact P6 | exact P7 | exact P8 | exact P9 | exact P10 | exact P11 | exact P12 | exact P13 | exact P14 | exact P15 | exact P16 | exact P17 | exact P18 | exact P19 | exact P20 | exact P21 | exact P22 | exact P23)) | (apply Part.nilc)))
    intro h37_1
    refine SPO_p rfl (y_move rfl) rfl ?_
    refine SPO_py rfl rfl rfl (y_move rfl) rfl ?_
    refine SPO_py rfl rfl rfl (y_nil rfl) rfl ?_
    refine SPO_py rfl rfl rfl (y_fa fld_115_8 rfl) rfl ?_
    refine SPO_py rfl rfl rfl (y_move rfl) rfl ?_
    refine SPO_py rfl rfl rfl (y_nil rfl) rfl ?_
    refine SPO_py rfl rfl rfl (y_fa fld_263_4 rfl) rfl ?_
    refine SPO_py rfl rfl rfl (y_move rfl) rfl ?_
    refine SPO_py rfl rfl rfl (y_sub rfl rfl (by omega)) rfl ?_
    refine SPO_py rfl rfl rfl (y_move rfl) rfl ?_
    refine SPO_py rfl rfl rfl (y_nil rfl) rfl ?_
    refine SPO_py rfl rfl rfl (y_fa fld_115_8 rfl) rfl ?_
    refine SPO_py rfl rfl rfl (y_move rfl) rfl ?_
    obtain ⟨y, hy⟩ : ∃ x, t.opn[k - 1]? = some x := ⟨_, List.getElem?_eq_getElem (by omega)⟩
    have hyg : getI t.opn ((k : Int) - 1) = some y := by
      have := getI_nat hy (by omega)
      rwa [show ((k - 1 : Nat) : Int) = (k : Int) - 1 from by omega] at this
    obtain ⟨oq2, hoa2, hoc3⟩ := hopn _ _ hyg
    rw [hoa] at hoa2
    injection hoa2 with hoa2
    injection hoa2 with hoa2
    subst hoa2
    obtain ⟨ce2, hce2, hct2, hca2⟩ := hop (k - 1) y hy
    obtain ⟨hyb, hyl, _⟩ := getI_some hce2
    obtain ⟨cq2, hea2, hcq3⟩ := hcelA _ _ hce2
    rw [hea] at hea2
    injection hea2 with hea2
    injection hea2 with hea2
    subst hea2
    have hlt := hup (k - 1) (by omega)
    rw [show k - 1 + 1 = k from by omega] at hlt
    refine SPO_hy rfl rfl rfl (y_load Tryz.isAgg113 rfl (by repeat (first | exact (hceh2 _) | apply Cell.tail))) rfl ?_
    refine SPO_hy rfl rfl rfl (y_load Tryz.isAgg112 rfl (by repeat (first | exact (hoh _) | apply Cell.tail))) rfl ?_
    refine SPO_py rfl rfl rfl (y_ia Tryz.underlying112 Tryz.sizeOf3 rfl rfl (by omega)) rfl ?_
    refine SPO_hy rfl rfl rfl (y_load Tryz.isAgg3 rfl (by repeat (first | exact (hoc3 _) | apply Cell.tail))) rfl ?_
    refine SPO_py rfl rfl rfl (y_ia Tryz.underlying113 Tryz.sizeOf287 rfl rfl (by omega)) rfl ?_
    refine SPO_py rfl rfl rfl (y_fa fld_287_1 rfl) rfl ?_
    refine SPO_hy rfl rfl rfl (y_load Tryz.isAgg3 rfl (by repeat (first | exact ((hcq3 _).cell rfl) | apply Cell.tail))) rfl ?_
    refine SPO_hy rfl rfl rfl (y_load Tryz.isAgg113 rfl (by repeat (first | exact (hceh2 _) | apply Cell.tail))) rfl ?_
    refine SPO_py rfl rfl rfl (y_ia Tryz.underlying113 Tryz.sizeOf287 rfl rfl (by omega)) rfl ?_
    refine SPO_py rfl rfl rfl (y_fa fld_287_1 rfl) rfl ?_
    refine SPO_hy rfl rfl rfl (y_load Tryz.isAgg3 rfl (by repeat (first | exact ((hcq _).cell rfl) | apply Cell.tail))) rfl ?_
    refine SPO_pyifn rfl rfl rfl (y_geq rfl rfl) rfl ?_ ?_
    · intro h37_26
      refine SPO_p rfl (y_pick_t rfl rfl) rfl ?_
      refine SPO_nil ?_
      refine thenP_n ?_
      refine SP_cond_f rfl ?_
      refine SP_skip ?_
      refine thenP_n ?_
      exact Mid.intro (()) (trivial) (by repeat (first | exact Sub.nil _ | refine Sub.cons rfl ?_)) (by repeat (first | exact Part.nil _ | (apply Part.cons; with_reducible (first | exact P0 | exact P1 | exact P2 | exact P3 | exact P4 | exact P5 | exact P6 | exact P7 | exact P8 | exact P9 | exact P10 | exact P11 | exact P12 | exact P13 | exact P14 | exact P15 | exact P16 | exact P17 | exact P18 | exact P19 | exact P20 | exact P21 | exact P22 | exact P23)) | (apply Part.flat; simp only [List.cons_append, List.nil_append]) | (apply Part.cons; (first | exact P0 | exact P1 | exact P2 | exact P3 | exact P4 | exact P5 | exact P6 | exact P7 | exact P8 | exact P9 | exact P10 | exact P11 | exact P12 | exact P13 | exact P14 | exact P15 | exact P16 | exact P17 | exact P18 | exact P19 | exact P20 | exact P21 | exact P22 | exact P23)) | (apply Part.nilc)))
    intro h37_26
    refine SPO_p rfl (y_pick_t rfl rfl) rfl ?_
    refine SPO_nil ?_
    refine thenP_n ?_
    refine SP_cond_t rfl ?_
    refine SP_seq ?_
    refine SP_region ?_
    refine SPL_y (y_assign rfl) rfl ?_
    refine SPL_nil ?_
    refine thenP_n ?_
    refine SP_ret ?_
    refine thenP_ret (inBlockP_ret (thenP_ret (inBlockP_ret (inBlockP_ret (thenP_ret (thenP_ret (inBlockP_ret (thenP_ret (bodyP_ret (H' := [seg]) (Res1 rfl rfl) (by repeat (first | exact Part.nil _ | (apply Part.cons; with_reducible (first | exact P0 | exact P1 | exact P2 | exact P3 | exact P4 | exact P5 | exact P6 | exact P7 | exact P8 | exact P9 | exact P10 | exact P11 | exact P12 | exact P13 | exact P14 | exact P15 | exact P16 | exact P17 | exact P18 | exact P19 | exact P20 | exact P21 | exact P22 | exact P23)) | (apply Part.flat; simp only [List.cons_append, List.nil_append]) | (apply Part.cons; (first | exact P0 | exact P1 | exact P2 | exact P3 | exact P4 | exact P5 | exact P6 | exact P7 | exact P8 | exact P9 | exact P10 | exact P11 | exact P12 | exact P13 | exact P14 | exact P15 | exact P16 | exact P17 | exact P18 | exact P19 | exact P20 | exact P21 | exact P22 | exact P23)) | (apply Part.nilc))) ?_)))))))))
    first | exact ⟨rfl, rfl⟩ | (exfalso; omega) | (refine ⟨congrArg Value.bool (decide_eq_true ?_), rfl⟩; omega) | (exfalso; dsimp only at *; omega)
  rintro _ -
  refine SP_region ?_
  refine SPL_y (y_move rfl) rfl ?_
  refine SPL_y (y_add rfl rfl (by omega)) rfl ?_
  refine SPL_y (y_assign rfl) rfl ?_
  refine SPL_nil ?_
  refine inBlockP_n ?_
  refine thenP_n ?_
  have hq9 := hok2.1 (by omega)
  exact Again.intro (k + 1) (⟨by omega, by omega⟩) (by omega) (by repeat (first | exact Sub.nil _ | refine Sub.cons rfl ?_)) (by repeat (first | exact Part.nil _ | (apply Part.cons; with_reducible (first | exact P0 | exact P1 | exact P2 | exact P3 | exact P4 | exact P5 | exact P6 | exact P7 | exact P8 | exact P9 | exact P10 | exact P11 | exact P12 | exact P13 | exact P14 | exact P15 | exact P16 | exact P17 | exact P18 | exact P19 | exact P20 | exact P21 | exact P22 | exact P23)) | (apply Part.flat; simp only [List.cons_append, List.nil_append]) | (apply Part.cons; (first | exact P0 | exact P1 | exact P2 | exact P3 | exact P4 | exact P5 | exact P6 | exact P7 | exact P8 | exact P9 | exact P10 | exact P11 | exact P12 | exact P13 | exact P14 | exact P15 | exact P16 | exact P17 | exact P18 | exact P19 | exact P20 | exact P21 | exact P22 | exact P23)) | (apply Part.nilc)))

end Go.Sl
