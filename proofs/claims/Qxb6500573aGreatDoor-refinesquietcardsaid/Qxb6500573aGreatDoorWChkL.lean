/- Walks: package comp: Check (made by program out of short notes) -/
import Derived.Test.Qxb6500573aGreatDoorCK7
import Derived.Test.Qxb6500573aGreatDoorWChkK
namespace Go.Sl
open Go Go.Wl Go.Proofs
set_option maxRecDepth 100000
set_option linter.unusedVariables false
set_option linter.unusedSimpArgs false
set_option maxHeartbeats 4000000 in
theorem cp_Check (xb fb sx co : Nat) (nv : Value) (b : VB) (ph : PH) (hh : List TH) {cn : Int} {c : CSt} {m : VM} (hSy : SyC c.toks c.nodes) (hCr : CrC c) (hV : VCk m) (hT : TsC m.vs.tabs) (hcn : 0 ≤ cn ∧ cn < 5) (s1 seg : Seg) (hC : isCst xb fb sx nv (pt co) c s1) (hM : isVM b ph hh m seg) : Spec Tryz.prog 22 [pt xb] [s1, seg, blk co 117 [pt b.vb, I cn, I 0]] (Ret fun v H => v = .bool true ∧ ∃ seg', isVM b ph hh m seg' ∧ H = [s1, seg', blk co 117 [pt b.vb, I cn, I 0]]) := by
  obtain ⟨sy, sc, rfl, hsy, hcr⟩ := hC
  refine Spec_openAt [sy, sc] (by first | exact P0 | exact P1 | exact P2 | exact P3 | exact P4 | exact P5 | exact P6 | exact P7 | exact P8 | exact P9 | exact P10 | exact P11 | exact P12 | exact P13 | exact P14 | exact P15 | exact P16 | exact P17 | exact P18 | exact P19 | exact P20 | exact P21 | exact P22 | exact P23) ?_
  simp only [List.cons_append, List.nil_append]
  obtain ⟨⟨hnp1, hnp2⟩, h13, hbl, hfn, Z, K, hZ0, hZn, hZs⟩ := hCr
  obtain ⟨ba, bc, hhd⟩ := hcr.hd
  refine Spec_enter Tryz.func22 rfl Tryz.ntmps22 rfl ?_
  show SP _ _ _ _ _ [(0, _)] _
  refine SP_seq ?_
  refine SP_region ?_
  refine SPL_y (y_assign rfl) rfl ?_
  refine SPL_nil ?_
  refine thenP_n ?_
  refine SP_mid (G := Unit) (fun _ => [(0, pt xb)]) (fun _ => [sy, sc, seg, blk co 117 [pt b.vb, I cn, I 0]]) (fun _ => True) ?_ ?_
  · refine SP_seq ?_
    refine SP_region ?_
    refine SPL_y (y_move rfl) rfl ?_
    refine SPL_y (y_nil rfl) rfl ?_
    refine SPL_y (y_fa fld_69_0 rfl) rfl ?_
    refine SPL_y (y_load Tryz.isAgg56 rfl (by repeat (first | exact (hhd _ 0 _ rfl) | apply Cell.tail))) rfl ?_
    refine SPL_one rfl (SP1_call (syn_Check sx nv c.toks c.nodes hSy sy hsy) Tryz.call45 rfl rfl (by repeat (first | exact Part.nil _ | (apply Part.cons; with_reducible (first | exact P0 | exact P1 | exact P2 | exact P3 | exact P4 | exact P5 | exact P6 | exact P7 | exact P8 | exact P9 | exact P10 | exact P11 | exact P12 | exact P13 | exact P14 | exact P15 | exact P16 | exact P17 | exact P18 | exact P19 | exact P20 | exact P21 | exact P22 | exact P23)) | (apply Part.flat; simp only [List.cons_append, List.nil_append]) | (apply Part.cons; (first | exact P0 | exact P1 | exact P2 | exact P3 | exact P4 | exact P5 | exact P6 | exact P7 | exact P8 | exact P9 | exact P10 | exact P11 | exact P12 | exact P13 | exact P14 | exact P15 | exact P16 | exact P17 | exact P18 | exact P19 | exact P20 | exact P21 | exact P22 | exact P23)) | (apply Part.nilc))) ?_)
    rintro v post H' ⟨rfl, rfl⟩ hH
    try simp only [List.cons_append, List.nil_append] at hH
    subst hH
    refine SPL_y (y_not_t rfl) rfl ?_
    refine SPL_nil ?_
    refine thenP_n ?_
    refine SP_cond_f rfl ?_
    refine SP_skip ?_
    refine thenP_n ?_
    exact Mid.intro (()) (trivial) (by repeat (first | exact Sub.nil _ | refine Sub.cons rfl ?_)) (by repeat (first | exact Part.nil _ | (apply Part.cons; with_reducible (first | exact P0 | exact P1 | exact P2 | exact P3 | exact P4 | exact P5 | exact P6 | exact P7 | exact P8 | exact P9 | exact P10 | exact P11 | exact P12 | exact P13 | exact P14 | exact P15 | exact P16 | exact P17 | exact P18 | exact P19 | exact P20 | exact P21 | exact P22 | exact P23)) | (apply Part.flat; simp only [List.cons_append, List.nil_append]) | (apply Part.cons; (first | exact P0 | exact P1 | exact P2 | exact P3 | exact P4 | exact P5 | exact P6 | exact P7 | exact P8 | exact P9 | exact P10 | exact P11 | exact P12 | exact P13 | exact P14 | exact P15 | exact P16 | exact P17 | exact P18 | exact P19 | exact P20 | exact P21 | exact P22 | exact P23)) | (apply Part.nilc)))
  rintro _ -
  refine SP_mid (G := Seg) (fun _ => [(0, pt xb)]) (fun g => [sy, sc, g, blk co 117 [pt b.vb, I cn, I 0]]) (fun g => isVM b ph hh m g) ?_ ?_
  · refine SP_seq ?_
    refine SP_region ?_
    refine SPL_y (y_move rfl) rfl ?_
    refine SPL_y (y_nil rfl) rfl ?_
    refine SPL_y (y_fa fld_69_1 rfl) rfl ?_
    refine SPL_y (y_load Tryz.isAgg60 rfl (by repeat (first | exact (hhd _ 1 _ rfl) | apply Cell.tail))) rfl ?_
    refine SPL_one rfl (SP1_call (co_Check b ph hh co hV hT hcn seg hM) Tryz.call46 rfl rfl (by repeat (first | exact Part.nil _ | (apply Part.cons; with_reducible (first | exact P0 | exact P1 | exact P2 | exact P3 | exact P4 | exact P5 | exact P6 | exact P7 | exact P8 | exact P9 | exact P10 | exact P11 | exact P12 | exact P13 | exact P14 | exact P15 | exact P16 | exact P17 | exact P18 | exact P19 | exact P20 | exact P21 | exact P22 | exact P23)) | (apply Part.flat; simp only [List.cons_append, List.nil_append]) | (apply Part.cons; (first | exact P0 | exact P1 | exact P2 | exact P3 | exact P4 | exact P5 | exact P6 | exact P7 | exact P8 | exact P9 | exact P10 | exact P11 | exact P12 | exact P13 | exact P14 | exact P15 | exact P16 | exact P17 | exact P18 | exact P19 | exact P20 | exact P21 | exact P22 | exact P23)) | (apply Part.nilc))) ?_)
    rintro v post H' ⟨rfl, seg1, hM1, rfl⟩ hH
    try simp only [List.cons_append, List.nil_append] at hH
    subst hH
    refine SPL_y (y_not_t rfl) rfl ?_
    refine SPL_nil ?_
    refine thenP_n ?_
    refine SP_cond_f rfl ?_
    refine SP_skip ?_
    refine thenP_n ?_
    exact Mid.intro (seg1) (hM1) (by repeat (first | exact Sub.nil _ | refine Sub.cons rfl ?_)) (by repeat (first | exact Part.nil _ | (apply Part.cons; with_reducible (first | exact P0 | exact P1 | exact P2 | exact P3 | exact P4 | exact P5 | exact P6 | exact P7 | exact P8 | exact P9 | exact P10 | exact P11 | exact P12 | exact P13 | exact P14 | exact P15 | exact P16 | exact P17 | exact P18 | exact P19 | exact P20 | exact P21 | exact P22 | exact P23)) | (apply Part.flat; simp only [List.cons_append, List.nil_append]) | (apply Part.cons; (first | exact P0 | exact P1 | exact P2 | exact P3 | exact P4 | exact P5 | exact P6 | exact P7 | exact P8 | exact P9 | exact P10 | exact P11 | exact P12 | exact P13 | exact P14 | exact P15 | exact P16 | exact P17 | exact P18 | exact P19 | exact P20 | exact P21 | exact P22 | exact P23)) | (apply Part.nilc)))
  clear hM
  rintro seg hM
  refine SP_mid (G := Unit) (fun _ => [(0, pt xb)]) (fun _ => [sy, sc, seg, blk co 117 [pt b.vb, I cn, I 0]]) (fun _ => True) ?_ ?_
  · refine SP_seq ?_
    refine SP_draw 999 [(0, 0), (1, 0), (2, 0), (3, 1), (4, 0), (5, 0), (6, 0), (7, 0), (8, 0), (9, 1), (10, 0), (11, 0), (12, 0), (13, 0), (14, 0), (15, 0), (16, 0), (17, 1), (18, 0), (19, 0), (20, 0), (21, 0), (22, 0), (23, 0), (25, 0), (26, 0), (27, 0), (24, 1), (28, 1), (29, 0), (30, 0), (31, 0), (32, 0), (33, 0), (34, 0), (35, 0), (36, 1), (37, 0), (38, 0), (39, 0)] mixed (by kernel_rfl) (fun _ _ _ _ _ h => h) (Part.refl _) ?_
    refine SPO_p rfl (y_move rfl) rfl ?_
    refine SPO_p rfl (y_nil rfl) rfl ?_
    refine SPO_p rfl (y_fa fld_69_2 rfl) rfl ?_
    refine SPO_h rfl (y_load Tryz.isAgg65 rfl (by repeat (first | exact (hhd _ 2 _ rfl) | apply Cell.tail))) rfl ?_
    refine SPO_p rfl (y_slNil Tryz.underlying65 rfl rfl) rfl ?_
    refine SPO_p rfl (y_move rfl) rfl ?_
    refine SPO_py rfl rfl rfl (y_move rfl) rfl ?_
    refine SPO_py rfl rfl rfl (y_nil rfl) rfl ?_
    refine SPO_py rfl rfl rfl (y_fa fld_69_3 rfl) rfl ?_
    refine SPO_hy rfl rfl rfl (y_load Tryz.isAgg66 rfl (by repeat (first | exact (hhd _ 3 _ rfl) | apply Cell.tail))) rfl ?_
    refine SPO_py rfl rfl rfl (y_len_l Tryz.underlying66 rfl) rfl ?_
    refine SPO_pyif rfl rfl rfl (y_neq rfl rfl) rfl ?_ ?_
    · intro h5_11
      exact absurd rfl h5_11
    intro h5_11
    refine SPO_p rfl (y_pick_f rfl rfl) rfl ?_
    refine SPO_p rfl (y_move rfl) rfl ?_
    refine SPO_py rfl rfl rfl (y_move rfl) rfl ?_
    refine SPO_py rfl rfl rfl (y_nil rfl) rfl ?_
    refine SPO_py rfl rfl rfl (y_fa fld_69_4 rfl) rfl ?_
    refine SPO_hy rfl rfl rfl (y_load Tryz.isAgg3 rfl (by repeat (first | exact (hhd _ 4 _ rfl) | apply Cell.tail))) rfl ?_
    refine SPO_pyif rfl rfl rfl (y_lss rfl rfl) rfl ?_ ?_
    · intro h5_18
      refine SPO_p rfl (y_pick_f rfl rfl) rfl ?_
      refine SPO_p rfl (y_move rfl) rfl ?_
      refine SPO_gn (.inl rfl) rfl rfl rfl rfl rfl ?_
      refine SPO_gn (.inl rfl) rfl rfl rfl rfl rfl ?_
      refine SPO_gn (.inl rfl) rfl rfl rfl rfl rfl ?_
      refine SPO_gn (.inl rfl) rfl rfl rfl rfl rfl ?_
      refine SPO_gn (.inl rfl) rfl rfl rfl rfl rfl ?_
      refine SPO_gn (.inl rfl) rfl rfl rfl rfl rfl ?_
      refine SPO_gn (.inr rfl) rfl rfl rfl rfl rfl ?_
      refine SPO_gn (.inr rfl) rfl rfl rfl rfl rfl ?_
      refine SPO_gn (.inl rfl) rfl rfl rfl rfl rfl ?_
      refine SPO_gn (.inl rfl) rfl rfl rfl rfl rfl ?_
      refine SPO_p rfl (y_pick_t rfl rfl) rfl ?_
      refine SPO_p rfl (y_move rfl) rfl ?_
      refine SPO_gn (.inl rfl) rfl rfl rfl rfl rfl ?_
      refine SPO_gn (.inl rfl) rfl rfl rfl rfl rfl ?_
      refine SPO_gn (.inl rfl) rfl rfl rfl rfl rfl ?_
      refine SPO_gn (.inr rfl) rfl rfl rfl rfl rfl ?_
      refine SPO_gn (.inl rfl) rfl rfl rfl rfl rfl ?_
      refine SPO_gn (.inl rfl) rfl rfl rfl rfl rfl ?_
      refine SPO_p rfl (y_pick_t rfl rfl) rfl ?_
      refine SPO_nil ?_
      refine thenP_n ?_
      refine SP_cond_t rfl ?_
      refine SP_seq ?_
      refine SP_region ?_
      refine SPL_y (y_assign rfl) rfl ?_
      refine SPL_nil ?_
      refine thenP_n ?_
      refine SP_ret ?_
      refine thenP_ret (bodyP_ret (H' := [List.flatten [sy, sc], seg, blk co 117 [pt b.vb, I cn, I 0]]) (Res1 rfl rfl) (by repeat (first | exact Part.nil _ | (apply Part.cons; with_reducible (first | exact P0 | exact P1 | exact P2 | exact P3 | exact P4 | exact P5 | exact P6 | exact P7 | exact P8 | exact P9 | exact P10 | exact P11 | exact P12 | exact P13 | exact P14 | exact P15 | exact P16 | exact P17 | exact P18 | exact P19 | exact P20 | exact P21 | exact P22 | exact P23)) | (apply Part.flat; simp only [List.cons_append, List.nil_append]) | (apply Part.cons; (first | exact P0 | exact P1 | exact P2 | exact P3 | exact P4 | exact P5 | exact P6 | exact P7 | exact P8 | exact P9 | exact P10 | exact P11 | exact P12 | exact P13 | exact P14 | exact P15 | exact P16 | exact P17 | exact P18 | exact P19 | exact P20 | exact P21 | exact P22 | exact P23)) | (apply Part.nilc))) ?_)
      first | exact ⟨rfl, _, hM, rfl⟩ | (exfalso; omega) | (refine ⟨congrArg Value.bool (decide_eq_true ?_), _, hM, rfl⟩; omega)
    intro h5_18
    refine SPO_p rfl (y_pick_f rfl rfl) rfl ?_
    refine SPO_p rfl (y_move rfl) rfl ?_
    refine SPO_py rfl rfl rfl (y_move rfl) rfl ?_
    refine SPO_py rfl rfl rfl (y_nil rfl) rfl ?_
    refine SPO_py rfl rfl rfl (y_fa fld_69_4 rfl) rfl ?_
    refine SPO_py rfl rfl rfl (y_move rfl) rfl ?_
    refine SPO_py rfl rfl rfl (y_nil rfl) rfl ?_
    refine SPO_py rfl rfl rfl (y_fa fld_69_3 rfl) rfl ?_
    refine SPO_hy rfl rfl rfl (y_load Tryz.isAgg3 rfl (by repeat (first | exact (hhd _ 4 _ rfl) | apply Cell.tail))) rfl ?_
    refine SPO_hy rfl rfl rfl (y_load Tryz.isAgg66 rfl (by repeat (first | exact (hhd _ 3 _ rfl) | apply Cell.tail))) rfl ?_
    refine SPO_py rfl rfl rfl (y_len_l Tryz.underlying66 rfl) rfl ?_
    refine SPO_pyif rfl rfl rfl (y_gtr rfl rfl) rfl ?_ ?_
    · intro h5_30
      refine SPO_p rfl (y_pick_f rfl rfl) rfl ?_
      refine SPO_p rfl (y_move rfl) rfl ?_
      refine SPO_gn (.inl rfl) rfl rfl rfl rfl rfl ?_
      refine SPO_gn (.inl rfl) rfl rfl rfl rfl rfl ?_
      refine SPO_gn (.inl rfl) rfl rfl rfl rfl rfl ?_
      refine SPO_gn (.inr rfl) rfl rfl rfl rfl rfl ?_
      refine SPO_gn (.inl rfl) rfl rfl rfl rfl rfl ?_
      refine SPO_gn (.inl rfl) rfl rfl rfl rfl rfl ?_
      refine SPO_p rfl (y_pick_t rfl rfl) rfl ?_
      refine SPO_nil ?_
      refine thenP_n ?_
      refine SP_cond_t rfl ?_
      refine SP_seq ?_
      refine SP_region ?_
      refine SPL_y (y_assign rfl) rfl ?_
      refine SPL_nil ?_
      refine thenP_n ?_
      refine SP_ret ?_
      refine thenP_ret (bodyP_ret (H' := [List.flatten [sy, sc], seg, blk co 117 [pt b.vb, I cn, I 0]]) (Res1 rfl rfl) (by repeat (first | exact Part.nil _ | (apply Part.cons; with_reducible (first | exact P0 | exact P1 | exact P2 | exact P3 | exact P4 | exact P5 | exact P6 | exact P7 | exact P8 | exact P9 | exact P10 | exact P11 | exact P12 | exact P13 | exact P14 | exact P15 | exact P16 | exact P17 | exact P18 | exact P19 | exact P20 | exact P21 | exact P22 | exact P23)) | (apply Part.flat; simp only [List.cons_append, List.nil_append]) | (apply Part.cons; (first | exact P0 | exact P1 | exact P2 | exact P3 | exact P4 | exact P5 | exact P6 | exact P7 | exact P8 | exact P9 | exact P10 | exact P11 | exact P12 | exact P13 | exact P14 | exact P15 | exact P16 | exact P17 | exact P18 | exact P19 | exact P20 | exact P21 | exact P22 | exact P23)) | (apply Part.nilc))) ?_)
      first | exact ⟨rfl, _, hM, rfl⟩ | (exfalso; omega) | (refine ⟨congrArg Value.bool (decide_eq_true ?_), _, hM, rfl⟩; omega)
    intro h5_30
    refine SPO_p rfl (y_pick_f rfl rfl) rfl ?_
    refine SPO_p rfl (y_move rfl) rfl ?_
    refine SPO_py rfl rfl rfl (y_move rfl) rfl ?_
    refine SPO_py rfl rfl rfl (y_nil rfl) rfl ?_
    refine SPO_py rfl rfl rfl (y_fa fld_69_5 rfl) rfl ?_
    refine SPO_hy rfl rfl rfl (y_load Tryz.isAgg67 rfl (by repeat (first | exact (hhd _ 5 _ rfl) | apply Cell.tail))) rfl ?_
    refine SPO_py rfl rfl rfl (y_len_l Tryz.underlying67 rfl) rfl ?_
    refine SPO_pyifn rfl rfl rfl (y_gtr rfl rfl) rfl ?_ ?_
    · intro h5_38
      refine SPO_p rfl (y_pick_f rfl rfl) rfl ?_
      refine SPO_nil ?_
      refine thenP_n ?_
      refine SP_cond_f rfl ?_
      refine SP_skip ?_
      refine thenP_n ?_
      exact Mid.intro (()) (trivial) (by repeat (first | exact Sub.nil _ | refine Sub.cons rfl ?_)) (by repeat (first | exact Part.nil _ | (apply Part.cons; with_reducible (first | exact P0 | exact P1 | exact P2 | exact P3 | exact P4 | exact P5 | exact P6 | exact P7 | exact P8 | exact P9 | exact P10 | exact P11 | exact P12 | exact P13 | exact P14 | exact P15 | exact P16 | exact P17 | exact P18 | exact P19 | exact P20 | exact P21 | exact P22 | exact P23)) | (apply Part.flat; simp only [List.cons_append, List.nil_append]) | (apply Part.cons; (first | exact P0 | exact P1 | exact P2 | exact P3 | exact P4 | exact P5 | exact P6 | exact P7 | exact P8 | exact P9 | exact P10 | exact P11 | exact P12 | exact P13 | exact P14 | exact P15 | exact P16 | exact P17 | exact P18 | exact P19 | exact P20 | exact P21 | exact P22 | exact P23)) | (apply Part.nilc)))
    intro h5_38
    refine SPO_p rfl (y_pick_f rfl rfl) rfl ?_
    refine SPO_nil ?_
    refine thenP_n ?_
    refine SP_cond_t rfl ?_
    refine SP_seq ?_
    refine SP_region ?_
    refine SPL_y (y_assign rfl) rfl ?_
    refine SPL_nil ?_
    refine thenP_n ?_
    refine SP_ret ?_
    refine thenP_ret (bodyP_ret (H' := [List.flatten [sy, sc], seg, blk co 117 [pt b.vb, I cn, I 0]]) (Res1 rfl rfl) (by repeat (first | exact Part.nil _ | (apply Part.cons; with_reducible (first | exact P0 | exact P1 | exact P2 | exact P3 | exact P4 | exact P5 | exact P6 | exact P7 | exact P8 | exact P9 | exact P10 | exact P11 | exact P12 | exact P13 | exact P14 | exact P15 | exact P16 | exact P17 | exact P18 | exact P19 | exact P20 | exact P21 | exact P22 | exact P23)) | (apply Part.flat; simp only [List.cons_append, List.nil_append]) | (apply Part.cons; (first | exact P0 | exact P1 | exact P2 | exact P3 | exact P4 | exact P5 | exact P6 | exact P7 | exact P8 | exact P9 | exact P10 | exact P11 | exact P12 | exact P13 | exact P14 | exact P15 | exact P16 | exact P17 | exact P18 | exact P19 | exact P20 | exact P21 | exact P22 | exact P23)) | (apply Part.nilc))) ?_)
    first | exact ⟨rfl, _, hM, rfl⟩ | (exfalso; omega) | (refine ⟨congrArg Value.bool (decide_eq_true ?_), _, hM, rfl⟩; omega)
  rintro _ -
  refine SP_seq ?_
  refine SP_region ?_
  refine SPL_y (y_move rfl) rfl ?_
  refine SPL_y (y_nil rfl) rfl ?_
  refine SPL_y (y_fa fld_69_4 rfl) rfl ?_
  refine SPL_y (y_load Tryz.isAgg3 rfl (by repeat (first | exact (hhd _ 4 _ rfl) | apply Cell.tail))) rfl ?_
  refine SPL_y (y_minE rfl rfl rfl) rfl ?_
  refine SPL_y (y_assign rfl) rfl ?_
  refine SPL_nil ?_
  refine thenP_n ?_
  refine SP_seq ?_
  refine SP_seq ?_
  refine SP_region ?_
  refine SPL_y (y_move rfl) rfl ?_
  refine SPL_y (y_nil rfl) rfl ?_
  refine SPL_y (y_fa fld_69_4 rfl) rfl ?_
  refine SPL_y (y_load Tryz.isAgg3 rfl (by repeat (first | exact (hhd _ 4 _ rfl) | apply Cell.tail))) rfl ?_
  refine SPL_y (y_move rfl) rfl ?_
  refine SPL_nil ?_
  refine thenP_n ?_
  refine SP_block ?_
  refine SP_loop (G := Nat × Int) (fun g => c.s.np.toNat - g.1) (fun g => [(0, pt xb), (3, I g.2), (71, I c.s.np), (72, I ((g.1 : Nat) : Int))]) (fun _ => [sy, sc, seg, blk co 117 [pt b.vb, I cn, I 0]]) (fun g => (g.1 : Int) ≤ c.s.np ∧ g.2 = Z g.1) ((0, if 1 < c.s.np then 1 else c.s.np)) (⟨by dsimp only; omega, hZ0.symm⟩) (by repeat (first | exact Sub.nil _ | refine Sub.cons rfl ?_)) (by repeat (first | exact Part.nil _ | (apply Part.cons; with_reducible (first | exact P0 | exact P1 | exact P2 | exact P3 | exact P4 | exact P5 | exact P6 | exact P7 | exact P8 | exact P9 | exact P10 | exact P11 | exact P12 | exact P13 | exact P14 | exact P15 | exact P16 | exact P17 | exact P18 | exact P19 | exact P20 | exact P21 | exact P22 | exact P23)) | (apply Part.flat; simp only [List.cons_append, List.nil_append]) | (apply Part.cons; (first | exact P0 | exact P1 | exact P2 | exact P3 | exact P4 | exact P5 | exact P6 | exact P7 | exact P8 | exact P9 | exact P10 | exact P11 | exact P12 | exact P13 | exact P14 | exact P15 | exact P16 | exact P17 | exact P18 | exact P19 | exact P20 | exact P21 | exact P22 | exact P23)) | (apply Part.nilc))) ?_
  rintro ⟨x, z⟩ ⟨hx, hz⟩
  dsimp only at hx hz ⊢
  refine SP_seq ?_
  refine SP_region ?_
  refine SPL_ifn (y_lss rfl rfl) rfl ?_ ?_
  · intro h9_0
    refine SPL_nil ?_
    refine thenP_n ?_
    refine SP_seq ?_
    refine SP_cond_f rfl ?_
    refine SP_exit ?_
    refine thenP_exit ?_
    refine thenP_exit ?_
    refine inBlockP_hit ?_
    refine thenP_n ?_
    refine SP_seq ?_
    have hxn : c.s.np.toNat = x := by omega
    rw [hxn] at hZn
    refine SP_region ?_
    refine SPL_y (y_move rfl) rfl ?_
    refine SPL_y (y_move rfl) rfl ?_
    refine SPL_y (y_nil rfl) rfl ?_
    refine SPL_y (y_fa fld_69_5 rfl) rfl ?_
    refine SPL_y (y_load Tryz.isAgg67 rfl (by repeat (first | exact (hhd _ 5 _ rfl) | apply Cell.tail))) rfl ?_
    refine SPL_y (y_len_l Tryz.underlying67 rfl) rfl ?_
    refine SPL_y (y_eql rfl rfl) rfl ?_
    refine SPL_y (y_assign rfl) rfl ?_
    refine SPL_nil ?_
    refine thenP_n ?_
    refine SP_ret ?_
    refine bodyP_ret (H' := [List.flatten [sy, sc], seg, blk co 117 [pt b.vb, I cn, I 0]]) (Res1 rfl rfl) (by repeat (first | exact Part.nil _ | (apply Part.cons; with_reducible (first | exact P0 | exact P1 | exact P2 | exact P3 | exact P4 | exact P5 | exact P6 | exact P7 | exact P8 | exact P9 | exact P10 | exact P11 | exact P12 | exact P13 | exact P14 | exact P15 | exact P16 | exact P17 | exact P18 | exact P19 | exact P20 | exact P21 | exact P22 | exact P23)) | (apply Part.flat; simp only [List.cons_append, List.nil_append]) | (apply Part.cons; (first | exact P0 | exact P1 | exact P2 | exact P3 | exact P4 | exact P5 | exact P6 | exact P7 | exact P8 | exact P9 | exact P10 | exact P11 | exact P12 | exact P13 | exact P14 | exact P15 | exact P16 | exact P17 | exact P18 | exact P19 | exact P20 | exact P21 | exact P22 | exact P23)) | (apply Part.nilc))) ?_
    first | exact ⟨rfl, _, hM, rfl⟩ | (exfalso; omega) | (refine ⟨congrArg Value.bool (decide_eq_true ?_), _, hM, rfl⟩; omega)
  intro h9_0
  refine SPL_nil ?_
  refine thenP_n ?_
  refine SP_seq ?_
  refine SP_cond_t rfl ?_
  refine SP_skip ?_
  refine thenP_n ?_
  refine SP_seq ?_
  refine SP_block ?_
  refine SP_seq ?_
  refine SP_region ?_
  refine SPL_y (y_move rfl) rfl ?_
  refine SPL_y (y_assign rfl) rfl ?_
  refine SPL_nil ?_
  refine thenP_n ?_
  refine SP_seq ?_
  obtain ⟨f, hf⟩ : ∃ f, c.s.fs[x]? = some f := ⟨_, List.getElem?_eq_getElem (by omega)⟩
  have hFC := hfn x f (by omega) hf
  obtain ⟨hz1, hz2, hz3, hz4, hz5⟩ := hZs x f (by omega) hf
  have hl1 := hFC.ln
  have hl2 := hFC.np
  have hl3 := hFC.en.1
  obtain ⟨la, lc, ua, uc, ka, kc, oa, oc, qa, qc, bn, bs, sn, ss, hrow, hup, hco, hcd, hmn, hms⟩ := hcr.fn hf hFC.lv
  refine SP_region ?_
  refine SPL_y (y_move rfl) rfl ?_
  refine SPL_y (y_nil rfl) rfl ?_
  refine SPL_y (y_fa fld_69_3 rfl) rfl ?_
  refine SPL_y (y_load Tryz.isAgg66 rfl (by repeat (first | exact (hhd _ 3 _ rfl) | apply Cell.tail))) rfl ?_
  refine SPL_y (y_move rfl) rfl ?_
  refine SPL_y (y_ia Tryz.underlying66 Tryz.sizeOf96 rfl rfl (by omega)) rfl ?_
  refine SPL_y (y_assign rfl) rfl ?_
  refine SPL_nil ?_
  refine thenP_n ?_
  refine SP_seq ?_
  refine SP_seq ?_
  refine SP_region ?_
  refine SPL_y (y_move rfl) rfl ?_
  refine SPL_one rfl (SP1_call (fn_CheckMid xb fb (pt sx) (pt co) hf hFC hnp2 sc hcr) Tryz.call47 rfl rfl (by repeat (first | exact Part.nil _ | (apply Part.cons; with_reducible (first | exact P0 | exact P1 | exact P2 | exact P3 | exact P4 | exact P5 | exact P6 | exact P7 | exact P8 | exact P9 | exact P10 | exact P11 | exact P12 | exact P13 | exact P14 | exact P15 | exact P16 | exact P17 | exact P18 | exact P19 | exact P20 | exact P21 | exact P22 | exact P23)) | (apply Part.flat; simp only [List.cons_append, List.nil_append]) | (apply Part.cons; (first | exact P0 | exact P1 | exact P2 | exact P3 | exact P4 | exact P5 | exact P6 | exact P7 | exact P8 | exact P9 | exact P10 | exact P11 | exact P12 | exact P13 | exact P14 | exact P15 | exact P16 | exact P17 | exact P18 | exact P19 | exact P20 | exact P21 | exact P22 | exact P23)) | (apply Part.nilc))) ?_)
  rintro v post H' ⟨rfl, rfl⟩ hH
  try simp only [List.cons_append, List.nil_append] at hH
  subst hH
  refine SPL_y (y_not_t rfl) rfl ?_
  refine SPL_nil ?_
  refine thenP_n ?_
  refine SP_cond_f rfl ?_
  refine SP_skip ?_
  refine thenP_n ?_
  refine SP_seq ?_
  refine SP_region ?_
  refine SPL_y (y_move rfl) rfl ?_
  refine SPL_y (y_nil rfl) rfl ?_
  refine SPL_y (y_fa fld_96_9 rfl) rfl ?_
  refine SPL_y (y_load Tryz.isAgg93 rfl (by repeat (first | exact (hrow _ 9 _ rfl) | apply Cell.tail))) rfl ?_
  refine SPL_y (y_len_l Tryz.underlying93 rfl) rfl ?_
  refine SPL_y (y_assign rfl) rfl ?_
  refine SPL_nil ?_
  refine thenP_n ?_
  refine SP_mid (G := Unit) (fun _ => [(0, pt xb), (3, I z), (4, I ((x : Nat) : Int)), (5, .pointer (some ⟨fb, 0 + ((x : Nat) : Int).toNat * 11, none⟩)), (71, I c.s.np), (72, I ((x : Nat) : Int)), (6, I (f.code.length : Int))]) (fun _ => [sy, sc, seg, blk co 117 [pt b.vb, I cn, I 0]]) (fun _ => True) ?_ ?_
  · refine SP_seq ?_
    refine SP_draw 999 [(0, 0), (1, 0), (2, 0), (5, 0), (6, 0), (7, 0), (3, 1), (4, 0), (8, 1), (9, 0), (10, 0), (11, 0), (12, 0), (13, 0), (14, 1), (15, 0), (16, 0), (17, 0), (18, 0), (19, 0), (20, 0), (21, 0), (22, 0), (23, 0), (24, 0), (25, 0), (26, 0), (27, 0), (28, 1), (29, 0), (30, 0), (31, 0)] mixed (by kernel_rfl) (fun _ _ _ _ _ h => h) (Part.refl _) ?_
    refine SPO_p rfl (y_move rfl) rfl ?_
    refine SPO_p rfl (y_nil rfl) rfl ?_
    refine SPO_p rfl (y_fa fld_96_3 rfl) rfl ?_
    refine SPO_p rfl (y_move rfl) rfl ?_
    refine SPO_p rfl (y_nil rfl) rfl ?_
    refine SPO_p rfl (y_fa fld_96_2 rfl) rfl ?_
    refine SPO_h rfl (y_load Tryz.isAgg88 rfl (by repeat (first | exact (hrow _ 3 _ rfl) | apply Cell.tail))) rfl ?_
    refine SPO_p rfl (y_len_l Tryz.underlying88 rfl) rfl ?_
    refine SPO_h rfl (y_load Tryz.isAgg3 rfl (by repeat (first | exact (hrow _ 2 _ rfl) | apply Cell.tail))) rfl ?_
    refine SPO_if rfl (y_neq rfl rfl) rfl ?_ ?_
    · intro h15_9
      refine SPO_p rfl (y_move rfl) rfl ?_
      refine SPO_gn (.inl rfl) rfl rfl rfl rfl rfl ?_
      refine SPO_gn (.inl rfl) rfl rfl rfl rfl rfl ?_
      refine SPO_gn (.inl rfl) rfl rfl rfl rfl rfl ?_
      refine SPO_gn (.inr rfl) rfl rfl rfl rfl rfl ?_
      refine SPO_gn (.inl rfl) rfl rfl rfl rfl rfl ?_
      refine SPO_gn (.inl rfl) rfl rfl rfl rfl rfl ?_
      refine SPO_p rfl (y_pick_t rfl rfl) rfl ?_
      refine SPO_p rfl (y_move rfl) rfl ?_
      refine SPO_gn (.inl rfl) rfl rfl rfl rfl rfl ?_
      refine SPO_gn (.inl rfl) rfl rfl rfl rfl rfl ?_
      refine SPO_p rfl (y_pick_t rfl rfl) rfl ?_
      refine SPO_p rfl (y_move rfl) rfl ?_
      refine SPO_gn (.inl rfl) rfl rfl rfl rfl rfl ?_
      refine SPO_gn (.inl rfl) rfl rfl rfl rfl rfl ?_
      refine SPO_gn (.inl rfl) rfl rfl rfl rfl rfl ?_
      refine SPO_gn (.inl rfl) rfl rfl rfl rfl rfl ?_
      refine SPO_gn (.inl rfl) rfl rfl rfl rfl rfl ?_
      refine SPO_gn (.inr rfl) rfl rfl rfl rfl rfl ?_
      refine SPO_gn (.inl rfl) rfl rfl rfl rfl rfl ?_
      refine SPO_gn (.inl rfl) rfl rfl rfl rfl rfl ?_
      refine SPO_p rfl (y_pick_t rfl rfl) rfl ?_
      refine SPO_nil ?_
      refine thenP_n ?_
      refine SP_cond_t rfl ?_
      refine SP_seq ?_
      refine SP_region ?_
      refine SPL_y (y_assign rfl) rfl ?_
      refine SPL_nil ?_
      refine thenP_n ?_
      refine SP_ret ?_
      refine thenP_ret (inBlockP_ret (thenP_ret (thenP_ret (inBlockP_ret (thenP_ret (bodyP_ret (H' := [List.flatten [sy, sc], seg, blk co 117 [pt b.vb, I cn, I 0]]) (Res1 rfl rfl) (by repeat (first | exact Part.nil _ | (apply Part.cons; with_reducible (first | exact P0 | exact P1 | exact P2 | exact P3 | exact P4 | exact P5 | exact P6 | exact P7 | exact P8 | exact P9 | exact P10 | exact P11 | exact P12 | exact P13 | exact P14 | exact P15 | exact P16 | exact P17 | exact P18 | exact P19 | exact P20 | exact P21 | exact P22 | exact P23)) | (apply Part.flat; simp only [List.cons_append, List.nil_append]) | (apply Part.cons; (first | exact P0 | exact P1 | exact P2 | exact P3 | exact P4 | exact P5 | exact P6 | exact P7 | exact P8 | exact P9 | exact P10 | exact P11 | exact P12 | exact P13 | exact P14 | exact P15 | exact P16 | exact P17 | exact P18 | exact P19 | exact P20 | exact P21 | exact P22 | exact P23)) | (apply Part.nilc))) ?_))))))
      first | exact ⟨rfl, _, hM, rfl⟩ | (exfalso; omega) | (refine ⟨congrArg Value.bool (decide_eq_true ?_), _, hM, rfl⟩; omega)
    intro h15_9
    refine SPO_p rfl (y_move rfl) rfl ?_
    refine SPO_py rfl rfl rfl (y_move rfl) rfl ?_
    refine SPO_py rfl rfl rfl (y_nil rfl) rfl ?_
    refine SPO_py rfl rfl rfl (y_fa fld_96_10 rfl) rfl ?_
    refine SPO_hy rfl rfl rfl (y_load Tryz.isAgg94 rfl (by repeat (first | exact (hrow _ 10 _ rfl) | apply Cell.tail))) rfl ?_
    refine SPO_py rfl rfl rfl (y_len_l Tryz.underlying94 rfl) rfl ?_
    refine SPO_pyif rfl rfl rfl (y_neq rfl rfl) rfl ?_ ?_
    · intro h15_16
      refine SPO_p rfl (y_pick_f rfl rfl) rfl ?_
      refine SPO_p rfl (y_move rfl) rfl ?_
      refine SPO_gn (.inl rfl) rfl rfl rfl rfl rfl ?_
      refine SPO_gn (.inl rfl) rfl rfl rfl rfl rfl ?_
      refine SPO_p rfl (y_pick_t rfl rfl) rfl ?_
      refine SPO_p rfl (y_move rfl) rfl ?_
      refine SPO_gn (.inl rfl) rfl rfl rfl rfl rfl ?_
      refine SPO_gn (.inl rfl) rfl rfl rfl rfl rfl ?_
      refine SPO_gn (.inl rfl) rfl rfl rfl rfl rfl ?_
      refine SPO_gn (.inl rfl) rfl rfl rfl rfl rfl ?_
      refine SPO_gn (.inl rfl) rfl rfl rfl rfl rfl ?_
      refine SPO_gn (.inr rfl) rfl rfl rfl rfl rfl ?_
      refine SPO_gn (.inl rfl) rfl rfl rfl rfl rfl ?_
      refine SPO_gn (.inl rfl) rfl rfl rfl rfl rfl ?_
      refine SPO_p rfl (y_pick_t rfl rfl) rfl ?_
      refine SPO_nil ?_
      refine thenP_n ?_
      refine SP_cond_t rfl ?_
      refine SP_seq ?_
      refine SP_region ?_
      refine SPL_y (y_assign rfl) rfl ?_
      refine SPL_nil ?_
      refine thenP_n ?_
      refine SP_ret ?_
      refine thenP_ret (inBlockP_ret (thenP_ret (thenP_ret (inBlockP_ret (thenP_ret (bodyP_ret (H' := [List.flatten [sy, sc], seg, blk co 117 [pt b.vb, I cn, I 0]]) (Res1 rfl rfl) (by repeat (first | exact Part.nil _ | (apply Part.cons; with_reducible (first | exact P0 | exact P1 | exact P2 | exact P3 | exact P4 | exact P5 | exact P6 | exact P7 | exact P8 | exact P9 | exact P10 | exact P11 | exact P12 | exact P13 | exact P14 | exact P15 | exact P16 | exact P17 | exact P18 | exact P19 | exact P20 | exact P21 | exact P22 | exact P23)) | (apply Part.flat; simp only [List.cons_append, List.nil_append]) | (apply Part.cons; (first | exact P0 | exact P1 | exact P2 | exact P3 | exact P4 | exact P5 | exact P6 | exact P7 | exact P8 | exact P9 | exact P10 | exact P11 | exact P12 | exact P13 | exact P14 | exact P15 | exact P16 | exact P17 | exact P18 | exact P19 | exact P20 | exact P21 | exact P22 | exact P23)) | (apply Part.nilc))) ?_))))))
      first | exact ⟨rfl, _, hM, rfl⟩ | (exfalso; omega) | (refine ⟨congrArg Value.bool (decide_eq_true ?_), _, hM, rfl⟩; omega)
    intro h15_16
    refine SPO_p rfl (y_pick_f rfl rfl) rfl ?_
    refine SPO_p rfl (y_move rfl) rfl ?_
    refine SPO_py rfl rfl rfl (y_move rfl) rfl ?_
    refine SPO_pyif rfl rfl rfl (y_lss rfl rfl) rfl ?_ ?_
    · intro h15_20
      refine SPO_p rfl (y_pick_f rfl rfl) rfl ?_
      refine SPO_p rfl (y_move rfl) rfl ?_
      refine SPO_gn (.inl rfl) rfl rfl rfl rfl rfl ?_
      refine SPO_gn (.inl rfl) rfl rfl rfl rfl rfl ?_
      refine SPO_gn (.inl rfl) rfl rfl rfl rfl rfl ?_
      refine SPO_gn (.inl rfl) rfl rfl rfl rfl rfl ?_
      refine SPO_gn (.inl rfl) rfl rfl rfl rfl rfl ?_
      refine SPO_gn (.inr rfl) rfl rfl rfl rfl rfl ?_
      refine SPO_gn (.inl rfl) rfl rfl rfl rfl rfl ?_
      refine SPO_gn (.inl rfl) rfl rfl rfl rfl rfl ?_
      refine SPO_p rfl (y_pick_t rfl rfl) rfl ?_
      refine SPO_nil ?_
      refine thenP_n ?_
      refine SP_cond_t rfl ?_
      refine SP_seq ?_
      refine SP_region ?_
      refine SPL_y (y_assign rfl) rfl ?_
      refine SPL_nil ?_
      refine thenP_n ?_
      refine SP_ret ?_
      refine thenP_ret (inBlockP_ret (thenP_ret (thenP_ret (inBlockP_ret (thenP_ret (bodyP_ret (H' := [List.flatten [sy, sc], seg, blk co 117 [pt b.vb, I cn, I 0]]) (Res1 rfl rfl) (by repeat (first | exact Part.nil _ | (apply Part.cons; with_reducible (first | exact P0 | exact P1 | exact P2 | exact P3 | exact P4 | exact P5 | exact P6 | exact P7 | exact P8 | exact P9 | exact P10 | exact P11 | exact P12 | exact P13 | exact P14 | exact P15 | exact P16 | exact P17 | exact P18 | exact P19 | exact P20 | exact P21 | exact P22 | exact P23)) | (apply Part.flat; simp only [List.cons_append, List.nil_append]) | (apply Part.cons; (first | exact P0 | exact P1 | exact P2 | exact P3 | exact P4 | exact P5 | exact P6 | exact P7 | exact P8 | exact P9 | exact P10 | exact P11 | exact P12 | exact P13 | exact P14 | exact P15 | exact P16 | exact P17 | exact P18 | exact P19 | exact P20 | exact P21 | exact P22 | exact P23)) | (apply Part.nilc))) ?_))))))
      first | exact ⟨rfl, _, hM, rfl⟩ | (exfalso; omega) | (refine ⟨congrArg Value.bool (decide_eq_true ?_), _, hM, rfl⟩; omega)
    intro h15_20
    refine SPO_p rfl (y_pick_f rfl rfl) rfl ?_
    refine SPO_p rfl (y_move rfl) rfl ?_
    refine SPO_py rfl rfl rfl (y_move rfl) rfl ?_
    refine SPO_pyif rfl rfl rfl (y_eql rfl rfl) rfl ?_ ?_
    · intro h15_24
      refine SPO_py rfl rfl rfl (y_move rfl) rfl ?_
      refine SPO_py rfl rfl rfl (y_nil rfl) rfl ?_
      refine SPO_py rfl rfl rfl (y_fa fld_96_1 rfl) rfl ?_
      have hpv : ∀ H : Hp, Cell (sc :: H) fb (0 + x * 11 + 1) (.pointer none) := fun H => by
        have := hrow H 1 _ rfl
        rw [(hFC.pa.1 (by omega)).1] at this
        exact this
      refine SPO_hy rfl rfl rfl (y_load Tryz.isAgg87 rfl (by repeat (first | exact (hpv _) | apply Cell.tail))) rfl ?_
      refine SPO_py rfl rfl rfl (y_peql_F Tryz.underlying87 rfl rfl) rfl ?_
      refine SPO_py rfl rfl rfl (y_bne Tryz.underlying4 rfl rfl) rfl ?_
      refine SPO_p rfl (y_pick_f rfl rfl) rfl ?_
      refine SPO_nil ?_
      refine thenP_n ?_
      refine SP_cond_f rfl ?_
      refine SP_skip ?_
      refine thenP_n ?_
      exact Mid.intro (()) (trivial) (by repeat (first | exact Sub.nil _ | refine Sub.cons rfl ?_)) (by repeat (first | exact Part.nil _ | (apply Part.cons; with_reducible (first | exact P0 | exact P1 | exact P2 | exact P3 | exact P4 | exact P5 | exact P6 | exact P7 | exact P8 | exact P9 | exact P10 | exact P11 | exact P12 | exact P13 | exact P14 | exact P15 | exact P16 | exact P17 | exact P18 | exact P19 | exact P20 | exact P21 | exact P22 | exact P23)) | (apply Part.flat; simp only [List.cons_append, List.nil_append]) | (apply Part.cons; (first | exact P0 | exact P1 | exact P2 | exact P3 | exact P4 | exact P5 | exact P6 | exact P7 | exact P8 | exact P9 | exact P10 | exact P11 | exact P12 | exact P13 | exact P14 | exact P15 | exact P16 | exact P17 | exact P18 | exact P19 | exact P20 | exact P21 | exact P22 | exact P23)) | (apply Part.nilc)))
    intro h15_24
    refine SPO_py rfl rfl rfl (y_move rfl) rfl ?_
    refine SPO_py rfl rfl rfl (y_nil rfl) rfl ?_
    refine SPO_py rfl rfl rfl (y_fa fld_96_1 rfl) rfl ?_
    obtain ⟨pp, g, hpp, _⟩ := hFC.pa.2 (by omega)
    have hpv : ∀ H : Hp, Cell (sc :: H) fb (0 + x * 11 + 1) (fp fb pp) := fun H => by
      have := hrow H 1 _ rfl
      rw [hpp] at this
      exact this
    refine SPO_hy rfl rfl rfl (y_load Tryz.isAgg87 rfl (by repeat (first | exact (hpv _) | apply Cell.tail))) rfl ?_
    refine SPO_py rfl rfl rfl (y_peql_T Tryz.underlying87 rfl rfl) rfl ?_
    refine SPO_py rfl rfl rfl (y_bne Tryz.underlying4 rfl rfl) rfl ?_
    refine SPO_p rfl (y_pick_f rfl rfl) rfl ?_
    refine SPO_nil ?_
    refine thenP_n ?_
    refine SP_cond_f rfl ?_
    refine SP_skip ?_
    refine thenP_n ?_
    exact Mid.intro (()) (trivial) (by repeat (first | exact Sub.nil _ | refine Sub.cons rfl ?_)) (by repeat (first | exact Part.nil _ | (apply Part.cons; with_reducible (first | exact P0 | exact P1 | exact P2 | exact P3 | exact P4 | exact P5 | exact P6 | exact P7 | exact P8 | exact P9 | exact P10 | exact P11 | exact P12 | exact P13 | exact P14 | exact P15 | exact P16 | exact P17 | exact P18 | exact P19 | exact P20 | exact P21 | exact P22 | exact P23)) | (apply Part.flat; simp only [List.cons_append, List.nil_append]) | (apply Part.cons; (first | exact P0 | exact P1 | exact P2 | exact P3 | exact P4 | exact P5 | exact P6 | exact P7 | exact P8 | exact P9 | exact P10 | exact P11 | exact P12 | exact P13 | exact P14 | exact P15 | exact P16 | exact P17 | exact P18 | exact P19 | exact P20 | exact P21 | exact P22 | exact P23)) | (apply Part.nilc)))
  rintro _ -
  refine SP_mid (G := Unit) (fun _ => [(0, pt xb), (3, I z), (4, I ((x : Nat) : Int)), (5, .pointer (some ⟨fb, 0 + ((x : Nat) : Int).toNat * 11, none⟩)), (71, I c.s.np), (72, I ((x : Nat) : Int)), (6, I (f.code.length : Int))]) (fun _ => [sy, sc, seg, blk co 117 [pt b.vb, I cn, I 0]]) (fun _ => True) ?_ ?_
  · refine SP_seq ?_
    obtain ⟨v3, hv3⟩ : ∃ v, f.code[f.code.length - 3]? = some v := ⟨_, List.getElem?_eq_getElem (by omega)⟩
    obtain ⟨cq3, hq3, hcc3⟩ := hcd _ _ hv3
    rw [show ((f.code.length - 3 : Nat) : Int) = (f.code.length : Int) - 3 from by omega] at hcc3
    have he3 := hFC.en.2.1 v3 hv3
    obtain ⟨v2, hv2⟩ : ∃ v, f.code[f.code.length - 2]? = some v := ⟨_, List.getElem?_eq_getElem (by omega)⟩
    obtain ⟨cq2, hq2, hcc2⟩ := hcd _ _ hv2
    rw [show ((f.code.length - 2 : Nat) : Int) = (f.code.length : Int) - 2 from by omega] at hcc2
    have he2 := hFC.en.2.2.1 v2 hv2
    obtain ⟨v1, hv1⟩ : ∃ v, f.code[f.code.length - 1]? = some v := ⟨_, List.getElem?_eq_getElem (by omega)⟩
    obtain ⟨cq1, hq1, hcc1⟩ := hcd _ _ hv1
    rw [show ((f.code.length - 1 : Nat) : Int) = (f.code.length : Int) - 1 from by omega] at hcc1
    have he1 := hFC.en.2.2.2 v1 hv1
    rw [hq3] at hq2
    injection hq2 with hq2
    injection hq2 with hq2
    subst hq2
    rw [hq3] at hq1
    injection hq1 with hq1
    injection hq1 with hq1
    subst hq1
    have hch9 : ∀ H : Hp, Cell (sc :: H) fb (0 + x * 11 + 9) (.slice (some ⟨cq3, 0, none⟩) f.code.length oc) := fun H => by
      have := hrow H 9 _ rfl
      rw [hq3] at this
      exact this
    refine SP_region ?_
    refine SPL_y (y_move rfl) rfl ?_
    refine SPL_y (y_nil rfl) rfl ?_
    refine SPL_y (y_fa fld_96_9 rfl) rfl ?_
    refine SPL_y (y_load Tryz.isAgg93 rfl (by repeat (first | exact (hch9 _) | apply Cell.tail))) rfl ?_
    refine SPL_y (y_move rfl) rfl ?_
    refine SPL_y (y_sub rfl rfl (by omega)) rfl ?_
    refine SPL_y (y_ia Tryz.underlying93 Tryz.sizeOf99 rfl rfl (by omega)) rfl ?_
    refine SPL_y (y_fa fld_99_0 rfl) rfl ?_
    refine SPL_y (y_load Tryz.isAgg5 rfl (by repeat (first | exact ((hcc3 _).cell rfl) | apply Cell.tail))) rfl ?_
    refine SPL_if (y_neq rfl rfl) rfl ?_ ?_
    · intro h17_9
      refine SPL_y (y_move rfl) rfl ?_
      refine SPL_gn rfl rfl rfl rfl ?_
      refine SPL_gn rfl rfl rfl rfl ?_
      refine SPL_gn rfl rfl rfl rfl ?_
      refine SPL_gn rfl rfl rfl rfl ?_
      refine SPL_gn rfl rfl rfl rfl ?_
      refine SPL_gn rfl rfl rfl rfl ?_
      refine SPL_gn rfl rfl rfl rfl ?_
      refine SPL_gn rfl rfl rfl rfl ?_
      refine SPL_gn rfl rfl rfl rfl ?_
      refine SPL_gn rfl rfl rfl rfl ?_
      refine SPL_y (y_pick_t rfl rfl) rfl ?_
      refine SPL_y (y_move rfl) rfl ?_
      refine SPL_gn rfl rfl rfl rfl ?_
      refine SPL_gn rfl rfl rfl rfl ?_
      refine SPL_gn rfl rfl rfl rfl ?_
      refine SPL_gn rfl rfl rfl rfl ?_
      refine SPL_gn rfl rfl rfl rfl ?_
      refine SPL_gn rfl rfl rfl rfl ?_
      refine SPL_gn rfl rfl rfl rfl ?_
      refine SPL_gn rfl rfl rfl rfl ?_
      refine SPL_gn rfl rfl rfl rfl ?_
      refine SPL_gn rfl rfl rfl rfl ?_
      refine SPL_y (y_pick_t rfl rfl) rfl ?_
      refine SPL_nil ?_
      refine thenP_n ?_
      refine SP_cond_t rfl ?_
      refine SP_seq ?_
      refine SP_region ?_
      refine SPL_y (y_assign rfl) rfl ?_
      refine SPL_nil ?_
      refine thenP_n ?_
      refine SP_ret ?_
      refine thenP_ret (inBlockP_ret (thenP_ret (thenP_ret (inBlockP_ret (thenP_ret (bodyP_ret (H' := [List.flatten [sy, sc], seg, blk co 117 [pt b.vb, I cn, I 0]]) (Res1 rfl rfl) (by repeat (first | exact Part.nil _ | (apply Part.cons; with_reducible (first | exact P0 | exact P1 | exact P2 | exact P3 | exact P4 | exact P5 | exact P6 | exact P7 | exact P8 | exact P9 | exact P10 | exact P11 | exact P12 | exact P13 | exact P14 | exact P15 | exact P16 | exact P17 | exact P18 | exact P19 | exact P20 | exact P21 | exact P22 | exact P23)) | (apply Part.flat; simp only [List.cons_append, List.nil_append]) | (apply Part.cons; (first | exact P0 | exact P1 | exact P2 | exact P3 | exact P4 | exact P5 | exact P6 | exact P7 | exact P8 | exact P9 | exact P10 | exact P11 | exact P12 | exact P13 | exact P14 | exact P15 | exact P16 | exact P17 | exact P18 | exact P19 | exact P20 | exact P21 | exact P22 | exact P23)) | (apply Part.nilc))) ?_))))))
      first | exact ⟨rfl, _, hM, rfl⟩ | (exfalso; omega) | (refine ⟨congrArg Value.bool (decide_eq_true ?_), _, hM, rfl⟩; omega)
    intro h17_9
    refine SPL_y (y_move rfl) rfl ?_
    refine SPL_gy rfl rfl ?_
    refine SPL_y (y_move rfl) rfl ?_
    refine SPL_gy rfl rfl ?_
    refine SPL_y (y_nil rfl) rfl ?_
    refine SPL_gy rfl rfl ?_
    refine SPL_y (y_fa fld_96_9 rfl) rfl ?_
    refine SPL_gy rfl rfl ?_
    refine SPL_y (y_load Tryz.isAgg93 rfl (by repeat (first | exact (hch9 _) | apply Cell.tail))) rfl ?_
    refine SPL_gy rfl rfl ?_
    refine SPL_y (y_move rfl) rfl ?_
    refine SPL_gy rfl rfl ?_
    refine SPL_y (y_sub rfl rfl (by omega)) rfl ?_
    refine SPL_gy rfl rfl ?_
    refine SPL_y (y_ia Tryz.underlying93 Tryz.sizeOf99 rfl rfl (by omega)) rfl ?_
    refine SPL_gy rfl rfl ?_
    refine SPL_y (y_fa fld_99_0 rfl) rfl ?_
    refine SPL_gy rfl rfl ?_
    refine SPL_y (y_load Tryz.isAgg5 rfl (by repeat (first | exact ((hcc2 _).cell rfl) | apply Cell.tail))) rfl ?_
    refine SPL_gy rfl rfl ?_
    refine SPL_if (y_neq rfl rfl) rfl ?_ ?_
    · intro h17_20
      refine SPL_y (y_pick_f rfl rfl) rfl ?_
      refine SPL_y (y_move rfl) rfl ?_
      refine SPL_gn rfl rfl rfl rfl ?_
      refine SPL_gn rfl rfl rfl rfl ?_
      refine SPL_gn rfl rfl rfl rfl ?_
      refine SPL_gn rfl rfl rfl rfl ?_
      refine SPL_gn rfl rfl rfl rfl ?_
      refine SPL_gn rfl rfl rfl rfl ?_
      refine SPL_gn rfl rfl rfl rfl ?_
      refine SPL_gn rfl rfl rfl rfl ?_
      refine SPL_gn rfl rfl rfl rfl ?_
      refine SPL_gn rfl rfl rfl rfl ?_
      refine SPL_y (y_pick_t rfl rfl) rfl ?_
      refine SPL_nil ?_
      refine thenP_n ?_
      refine SP_cond_t rfl ?_
      refine SP_seq ?_
      refine SP_region ?_
      refine SPL_y (y_assign rfl) rfl ?_
      refine SPL_nil ?_
      refine thenP_n ?_
      refine SP_ret ?_
      refine thenP_ret (inBlockP_ret (thenP_ret (thenP_ret (inBlockP_ret (thenP_ret (bodyP_ret (H' := [List.flatten [sy, sc], seg, blk co 117 [pt b.vb, I cn, I 0]]) (Res1 rfl rfl) (by repeat (first | exact Part.nil _ | (apply Part.cons; with_reducible (first | exact P0 | exact P1 | exact P2 | exact P3 | exact P4 | exact P5 | exact P6 | exact P7 | exact P8 | exact P9 | exact P10 | exact P11 | exact P12 | exact P13 | exact P14 | exact P15 | exact P16 | exact P17 | exact P18 | exact P19 | exact P20 | exact P21 | exact P22 | exact P23)) | (apply Part.flat; simp only [List.cons_append, List.nil_append]) | (apply Part.cons; (first | exact P0 | exact P1 | exact P2 | exact P3 | exact P4 | exact P5 | exact P6 | exact P7 | exact P8 | exact P9 | exact P10 | exact P11 | exact P12 | exact P13 | exact P14 | exact P15 | exact P16 | exact P17 | exact P18 | exact P19 | exact P20 | exact P21 | exact P22 | exact P23)) | (apply Part.nilc))) ?_))))))
      first | exact ⟨rfl, _, hM, rfl⟩ | (exfalso; omega) | (refine ⟨congrArg Value.bool (decide_eq_true ?_), _, hM, rfl⟩; omega)
    intro h17_20
    refine SPL_y (y_pick_f rfl rfl) rfl ?_
    refine SPL_y (y_move rfl) rfl ?_
    refine SPL_gy rfl rfl ?_
    refine SPL_y (y_move rfl) rfl ?_
    refine SPL_gy rfl rfl ?_
    refine SPL_y (y_nil rfl) rfl ?_
    refine SPL_gy rfl rfl ?_
    refine SPL_y (y_fa fld_96_9 rfl) rfl ?_
    refine SPL_gy rfl rfl ?_
    refine SPL_y (y_load Tryz.isAgg93 rfl (by repeat (first | exact (hch9 _) | apply Cell.tail))) rfl ?_
    refine SPL_gy rfl rfl ?_
    refine SPL_y (y_move rfl) rfl ?_
    refine SPL_gy rfl rfl ?_
    refine SPL_y (y_sub rfl rfl (by omega)) rfl ?_
    refine SPL_gy rfl rfl ?_
    refine SPL_y (y_ia Tryz.underlying93 Tryz.sizeOf99 rfl rfl (by omega)) rfl ?_
    refine SPL_gy rfl rfl ?_
    refine SPL_y (y_fa fld_99_0 rfl) rfl ?_
    refine SPL_gy rfl rfl ?_
    refine SPL_y (y_load Tryz.isAgg5 rfl (by repeat (first | exact ((hcc1 _).cell rfl) | apply Cell.tail))) rfl ?_
    refine SPL_gy rfl rfl ?_
    refine SPL_ifn (y_neq rfl rfl) rfl ?_ ?_
    · intro h17_32
      refine SPL_y (y_pick_f rfl rfl) rfl ?_
      refine SPL_nil ?_
      refine thenP_n ?_
      refine SP_cond_f rfl ?_
      refine SP_skip ?_
      refine thenP_n ?_
      exact Mid.intro (()) (trivial) (by repeat (first | exact Sub.nil _ | refine Sub.cons rfl ?_)) (by repeat (first | exact Part.nil _ | (apply Part.cons; with_reducible (first | exact P0 | exact P1 | exact P2 | exact P3 | exact P4 | exact P5 | exact P6 | exact P7 | exact P8 | exact P9 | exact P10 | exact P11 | exact P12 | exact P13 | exact P14 | exact P15 | exact P16 | exact P17 | exact P18 | exact P19 | exact P20 | exact P21 | exact P22 | exact P23)) | (apply Part.flat; simp only [List.cons_append, List.nil_append]) | (apply Part.cons; (first | exact P0 | exact P1 | exact P2 | exact P3 | exact P4 | exact P5 | exact P6 | exact P7 | exact P8 | exact P9 | exact P10 | exact P11 | exact P12 | exact P13 | exact P14 | exact P15 | exact P16 | exact P17 | exact P18 | exact P19 | exact P20 | exact P21 | exact P22 | exact P23)) | (apply Part.nilc)))
    intro h17_32
    refine SPL_y (y_pick_f rfl rfl) rfl ?_
    refine SPL_nil ?_
    refine thenP_n ?_
    refine SP_cond_t rfl ?_
    refine SP_seq ?_
    refine SP_region ?_
    refine SPL_y (y_assign rfl) rfl ?_
    refine SPL_nil ?_
    refine thenP_n ?_
    refine SP_ret ?_
    refine thenP_ret (inBlockP_ret (thenP_ret (thenP_ret (inBlockP_ret (thenP_ret (bodyP_ret (H' := [List.flatten [sy, sc], seg, blk co 117 [pt b.vb, I cn, I 0]]) (Res1 rfl rfl) (by repeat (first | exact Part.nil _ | (apply Part.cons; with_reducible (first | exact P0 | exact P1 | exact P2 | exact P3 | exact P4 | exact P5 | exact P6 | exact P7 | exact P8 | exact P9 | exact P10 | exact P11 | exact P12 | exact P13 | exact P14 | exact P15 | exact P16 | exact P17 | exact P18 | exact P19 | exact P20 | exact P21 | exact P22 | exact P23)) | (apply Part.flat; simp only [List.cons_append, List.nil_append]) | (apply Part.cons; (first | exact P0 | exact P1 | exact P2 | exact P3 | exact P4 | exact P5 | exact P6 | exact P7 | exact P8 | exact P9 | exact P10 | exact P11 | exact P12 | exact P13 | exact P14 | exact P15 | exact P16 | exact P17 | exact P18 | exact P19 | exact P20 | exact P21 | exact P22 | exact P23)) | (apply Part.nilc))) ?_))))))
    first | exact ⟨rfl, _, hM, rfl⟩ | (exfalso; omega) | (refine ⟨congrArg Value.bool (decide_eq_true ?_), _, hM, rfl⟩; omega)
  rintro _ -
  refine SP_seq ?_
  refine SP_seq ?_
  refine SP_region ?_
  refine SPL_y (y_move rfl) rfl ?_
  refine SPL_y (y_nil rfl) rfl ?_
  refine SPL_y (y_fa fld_96_9 rfl) rfl ?_
  refine SPL_y (y_load Tryz.isAgg93 rfl (by repeat (first | exact (hrow _ 9 _ rfl) | apply Cell.tail))) rfl ?_
  refine SPL_y (y_len_l Tryz.underlying93 rfl) rfl ?_
  refine SPL_y (y_move rfl) rfl ?_
  refine SPL_nil ?_
  refine thenP_n ?_
  refine SP_block ?_
  refine SP_loop (G := Nat) (fun i => f.code.length - i) (fun i => [(0, pt xb), (3, I z), (4, I ((x : Nat) : Int)), (5, .pointer (some ⟨fb, 0 + ((x : Nat) : Int).toNat * 11, none⟩)), (71, I c.s.np), (72, I ((x : Nat) : Int)), (6, I (f.code.length : Int)), (158, .slice oa f.code.length oc), (159, I (f.code.length : Int)), (160, I ((i : Nat) : Int))]) (fun _ => [sy, sc, seg, blk co 117 [pt b.vb, I cn, I 0]]) (fun i => i ≤ f.code.length) (0) (Nat.zero_le _) (by repeat (first | exact Sub.nil _ | refine Sub.cons rfl ?_)) (by repeat (first | exact Part.nil _ | (apply Part.cons; with_reducible (first | exact P0 | exact P1 | exact P2 | exact P3 | exact P4 | exact P5 | exact P6 | exact P7 | exact P8 | exact P9 | exact P10 | exact P11 | exact P12 | exact P13 | exact P14 | exact P15 | exact P16 | exact P17 | exact P18 | exact P19 | exact P20 | exact P21 | exact P22 | exact P23)) | (apply Part.flat; simp only [List.cons_append, List.nil_append]) | (apply Part.cons; (first | exact P0 | exact P1 | exact P2 | exact P3 | exact P4 | exact P5 | exact P6 | exact P7 | exact P8 | exact P9 | exact P10 | exact P11 | exact P12 | exact P13 | exact P14 | exact P15 | exact P16 | exact P17 | exact P18 | exact P19 | exact P20 | exact P21 | exact P22 | exact P23)) | (apply Part.nilc))) ?_
  intro i hi
  refine SP_seq ?_
  refine SP_region ?_
  refine SPL_if (y_lss rfl rfl) rfl ?_ ?_
  · intro h20_0
    refine SPL_nil ?_
    refine thenP_n ?_
    refine SP_seq ?_
    refine SP_cond_t rfl ?_
    refine SP_skip ?_
    refine thenP_n ?_
    refine SP_seq ?_
    refine SP_block ?_
    refine SP_seq ?_
    obtain ⟨v, hv⟩ : ∃ v, f.code[i]? = some v := ⟨_, List.getElem?_eq_getElem (by omega)⟩
    obtain ⟨cq, hq, hcv⟩ := hcd i v hv
    rw [hq]
    refine SP_region ?_
    refine SPL_y (y_ia Tryz.underlying93 Tryz.sizeOf99 rfl rfl (by omega)) rfl ?_
    refine SPL_y (y_loads Tryz.isAgg99 Tryz.sizeOf99 rfl rfl (by repeat (first | exact (hcv _) | apply Cells.tail))) rfl ?_
    refine SPL_one rfl (SP1_alloc Tryz.zeroValue99 rfl rfl ?_)
    intro b8
    refine SPL_one rfl (SP1_storeAll Tryz.sizeOf99 rfl rfl rfl rfl rfl (by first | exact U0 | exact U1 | exact U2 | exact U3 | exact U4 | exact U5 | exact U6 | exact U7 | exact U8 | exact U9 | exact U10 | exact U11 | exact U12 | exact U13 | exact U14 | exact U15 | exact U16 | exact U17 | exact U18 | exact U19 | exact U20 | exact U21 | exact U22 | exact U23) (by rfl) ?_)
    refine SPL_nil ?_
    refine thenP_n ?_
    refine SP_seq ?_
    refine SP_region ?_
    refine SPL_y (y_move rfl) rfl ?_
    refine SPL_y (y_loads Tryz.isAgg99 Tryz.sizeOf99 rfl rfl (by repeat (first | exact (Cells.all _) | apply Cells.tail))) rfl ?_
    refine SPL_y (y_move rfl) rfl ?_
    refine SPL_one rfl (SP1_call (fn_closed xb fb (pt sx) (pt co) hf hFC.lv ⟨hFC.ln.2.1, hFC.ln.1, hFC.ln.2.2.1, hFC.np.2.2.2⟩ v (hFC.fi i v hv) (hFC.ch i v hv) (by omega) h13 sc hcr) Tryz.call48 rfl rfl (by repeat (first | exact Part.nil _ | (apply Part.cons; with_reducible (first | exact P0 | exact P1 | exact P2 | exact P3 | exact P4 | exact P5 | exact P6 | exact P7 | exact P8 | exact P9 | exact P10 | exact P11 | exact P12 | exact P13 | exact P14 | exact P15 | exact P16 | exact P17 | exact P18 | exact P19 | exact P20 | exact P21 | exact P22 | exact P23)) | (apply Part.flat; simp only [List.cons_append, List.nil_append]) | (apply Part.cons; (first | exact P0 | exact P1 | exact P2 | exact P3 | exact P4 | exact P5 | exact P6 | exact P7 | exact P8 | exact P9 | exact P10 | exact P11 | exact P12 | exact P13 | exact P14 | exact P15 | exact P16 | exact P17 | exact P18 | exact P19 | exact P20 | exact P21 | exact P22 | exact P23)) | (apply Part.nilc))) ?_)
    rintro v post H' ⟨rfl, rfl⟩ hH
    try simp only [List.cons_append, List.nil_append] at hH
    subst hH
    refine SPL_y (y_not_t rfl) rfl ?_
    refine SPL_nil ?_
    refine thenP_n ?_
    refine SP_cond_f rfl ?_
    refine SP_skip ?_
    refine inBlockP_n ?_
    refine thenP_n ?_
    refine SP_region ?_
    refine SPL_y (y_add rfl rfl (by omega)) rfl ?_
    refine SPL_y (y_move rfl) rfl ?_
    refine SPL_nil ?_
    refine thenP_n ?_
    exact Again.intro (i + 1) ((by omega)) (by omega) (by repeat (first | exact Sub.nil _ | refine Sub.cons rfl ?_)) (by repeat (first | exact Part.nil _ | (apply Part.cons; with_reducible (first | exact P0 | exact P1 | exact P2 | exact P3 | exact P4 | exact P5 | exact P6 | exact P7 | exact P8 | exact P9 | exact P10 | exact P11 | exact P12 | exact P13 | exact P14 | exact P15 | exact P16 | exact P17 | exact P18 | exact P19 | exact P20 | exact P21 | exact P22 | exact P23)) | (apply Part.flat; simp only [List.cons_append, List.nil_append]) | (apply Part.cons; (first | exact P0 | exact P1 | exact P2 | exact P3 | exact P4 | exact P5 | exact P6 | exact P7 | exact P8 | exact P9 | exact P10 | exact P11 | exact P12 | exact P13 | exact P14 | exact P15 | exact P16 | exact P17 | exact P18 | exact P19 | exact P20 | exact P21 | exact P22 | exact P23)) | (apply Part.nilc)))
  intro h20_0
  refine SPL_nil ?_
  refine thenP_n ?_
  refine SP_seq ?_
  refine SP_cond_f rfl ?_
  refine SP_exit ?_
  refine thenP_exit ?_
  refine thenP_exit ?_
  refine inBlockP_hit ?_
  refine thenP_n ?_
  refine SP_seq ?_
  refine SP_region ?_
  refine SPL_y (y_move rfl) rfl ?_
  refine SPL_y (y_move rfl) rfl ?_
  refine SPL_y (y_nil rfl) rfl ?_
  refine SPL_y (y_fa fld_96_5 rfl) rfl ?_
  refine SPL_y (y_load Tryz.isAgg89 rfl (by repeat (first | exact (hrow _ 5 _ rfl) | apply Cell.tail))) rfl ?_
  refine SPL_y (y_len_l Tryz.underlying89 rfl) rfl ?_
  refine SPL_y (y_mul rfl rfl (by omega)) rfl ?_
  refine SPL_y (y_add rfl rfl (by omega)) rfl ?_
  refine SPL_y (y_move rfl) rfl ?_
  refine SPL_y (y_mul rfl rfl (by omega)) rfl ?_
  refine SPL_y (y_add rfl rfl (by omega)) rfl ?_
  refine SPL_y (y_add rfl rfl (by omega)) rfl ?_
  refine SPL_y (y_assign rfl) rfl ?_
  refine SPL_nil ?_
  refine thenP_n ?_
  refine SP_seq ?_
  refine SP_region ?_
  refine SPL_y (y_move rfl) rfl ?_
  refine SPL_y (y_nil rfl) rfl ?_
  refine SPL_y (y_fa fld_96_6 rfl) rfl ?_
  refine SPL_y (y_load Tryz.isAgg90 rfl (by repeat (first | exact (hrow _ 6 _ rfl) | apply Cell.tail))) rfl ?_
  refine SPL_y (y_len_l Tryz.underlying90 rfl) rfl ?_
  refine SPL_y (y_move rfl) rfl ?_
  refine SPL_nil ?_
  refine thenP_n ?_
  refine SP_block ?_
  refine SP_loop (G := Nat × Int) (fun g => f.consts.length - g.1) (fun g => [(0, pt xb), (3, I g.2), (4, I ((x : Nat) : Int)), (5, .pointer (some ⟨fb, 0 + ((x : Nat) : Int).toNat * 11, none⟩)), (71, I c.s.np), (72, I ((x : Nat) : Int)), (185, .slice ka f.consts.length kc), (186, I f.consts.length), (187, I ((g.1 : Nat) : Int))]) (fun _ => [sy, sc, seg, blk co 117 [pt b.vb, I cn, I 0]]) (fun g => g.1 ≤ f.consts.length ∧ g.2 = K x g.1) ((0, z + (7 + 2 * (f.ups.length : Int) + 3 * (f.code.length : Int)))) (⟨Nat.zero_le _, by dsimp only; rw [hz1, hz]⟩) (by repeat (first | exact Sub.nil _ | refine Sub.cons rfl ?_)) (by repeat (first | exact Part.nil _ | (apply Part.cons; with_reducible (first | exact P0 | exact P1 | exact P2 | exact P3 | exact P4 | exact P5 | exact P6 | exact P7 | exact P8 | exact P9 | exact P10 | exact P11 | exact P12 | exact P13 | exact P14 | exact P15 | exact P16 | exact P17 | exact P18 | exact P19 | exact P20 | exact P21 | exact P22 | exact P23)) | (apply Part.flat; simp only [List.cons_append, List.nil_append]) | (apply Part.cons; (first | exact P0 | exact P1 | exact P2 | exact P3 | exact P4 | exact P5 | exact P6 | exact P7 | exact P8 | exact P9 | exact P10 | exact P11 | exact P12 | exact P13 | exact P14 | exact P15 | exact P16 | exact P17 | exact P18 | exact P19 | exact P20 | exact P21 | exact P22 | exact P23)) | (apply Part.nilc))) ?_
  rintro ⟨i, z2⟩ ⟨hi, hi2⟩
  dsimp only at hi hi2 ⊢
  refine SP_seq ?_
  refine SP_region ?_
  refine SPL_ifn (y_lss rfl rfl) rfl ?_ ?_
  · intro h27_0
    refine SPL_nil ?_
    refine thenP_n ?_
    refine SP_seq ?_
    refine SP_cond_f rfl ?_
    refine SP_exit ?_
    refine thenP_exit ?_
    refine thenP_exit ?_
    refine inBlockP_hit ?_
    refine inBlockP_n ?_
    refine thenP_n ?_
    refine SP_region ?_
    refine SPL_y (y_add rfl rfl (by omega)) rfl ?_
    refine SPL_y (y_move rfl) rfl ?_
    refine SPL_nil ?_
    refine thenP_n ?_
    exact Again.intro ((x + 1, z2)) (⟨by dsimp only; omega, by dsimp only; rw [hz3, hi2, show i = f.consts.length by omega]⟩) (by dsimp only; omega) (by repeat (first | exact Sub.nil _ | refine Sub.cons rfl ?_)) (by repeat (first | exact Part.nil _ | (apply Part.cons; with_reducible (first | exact P0 | exact P1 | exact P2 | exact P3 | exact P4 | exact P5 | exact P6 | exact P7 | exact P8 | exact P9 | exact P10 | exact P11 | exact P12 | exact P13 | exact P14 | exact P15 | exact P16 | exact P17 | exact P18 | exact P19 | exact P20 | exact P21 | exact P22 | exact P23)) | (apply Part.flat; simp only [List.cons_append, List.nil_append]) | (apply Part.cons; (first | exact P0 | exact P1 | exact P2 | exact P3 | exact P4 | exact P5 | exact P6 | exact P7 | exact P8 | exact P9 | exact P10 | exact P11 | exact P12 | exact P13 | exact P14 | exact P15 | exact P16 | exact P17 | exact P18 | exact P19 | exact P20 | exact P21 | exact P22 | exact P23)) | (apply Part.nilc)))
  intro h27_0
  refine SPL_nil ?_
  refine thenP_n ?_
  refine SP_seq ?_
  refine SP_cond_t rfl ?_
  refine SP_skip ?_
  refine thenP_n ?_
  refine SP_seq ?_
  refine SP_block ?_
  refine SP_seq ?_
  obtain ⟨v, hv⟩ : ∃ v, f.consts[i]? = some v := ⟨_, List.getElem?_eq_getElem (by omega)⟩
  obtain ⟨kq, hq, hkv⟩ := hco i v hv
  rw [hq]
  obtain ⟨hk1, hk2, hk3⟩ := hz2 i v hv
  have hvs := (hFC.ks i v hv).2.2.1
  obtain ⟨vt, vn, vs⟩ := v
  dsimp only at hk1 hvs
  refine SP_region ?_
  refine SPL_y (y_ia Tryz.underlying90 Tryz.sizeOf42 rfl rfl (by omega)) rfl ?_
  refine SPL_y (y_loads Tryz.isAgg42 Tryz.sizeOf42 rfl rfl (by repeat (first | exact (hkv _) | apply Cells.tail))) rfl ?_
  refine SPL_one rfl (SP1_alloc Tryz.zeroValue42 rfl rfl ?_)
  intro b10
  refine SPL_one rfl (SP1_storeAll Tryz.sizeOf42 rfl rfl rfl rfl rfl (by first | exact U0 | exact U1 | exact U2 | exact U3 | exact U4 | exact U5 | exact U6 | exact U7 | exact U8 | exact U9 | exact U10 | exact U11 | exact U12 | exact U13 | exact U14 | exact U15 | exact U16 | exact U17 | exact U18 | exact U19 | exact U20 | exact U21 | exact U22 | exact U23) (by rfl) ?_)
  refine SPL_nil ?_
  refine thenP_n ?_
  refine SP_seq ?_
  refine SP_region ?_
  refine SPL_y (y_move rfl) rfl ?_
  refine SPL_y (y_fa fld_42_2 rfl) rfl ?_
  refine SPL_y (y_load Tryz.isAgg9 rfl (by repeat (first | exact Cell.amid hpre rfl | exact Cell.head rfl | apply Cell.tail))) rfl ?_
  dsimp only [valV]
  refine SPL_y (y_len_s Tryz.underlying9 rfl) rfl ?_
  refine SPL_y (y_add rfl rfl (by omega)) rfl ?_
  refine SPL_y (y_add rfl rfl (by omega)) rfl ?_
  refine SPL_y (y_assign rfl) rfl ?_
  refine SPL_nil ?_
  refine thenP_n ?_
  refine SP_seq ?_
  refine SP_region ?_
  refine SPL_y (y_fa fld_42_0 rfl) rfl ?_
  refine SPL_y (y_load Tryz.isAgg3 rfl (by repeat (first | exact Cell.amid hpre rfl | exact Cell.head rfl | apply Cell.tail))) rfl ?_
  refine SPL_ifn (y_eql rfl rfl) rfl ?_ ?_
  · intro h30_2
    refine SPL_nil ?_
    refine thenP_n ?_
    refine SP_cond_f rfl ?_
    refine SP_skip ?_
    refine inBlockP_n ?_
    refine thenP_n ?_
    refine SP_region ?_
    refine SPL_y (y_add rfl rfl (by omega)) rfl ?_
    refine SPL_y (y_move rfl) rfl ?_
    refine SPL_nil ?_
    refine thenP_n ?_
    exact Again.intro ((i + 1, z2 + (2 + (vs.length : Int)))) (⟨by dsimp only; omega, by dsimp only; rw [hk1, hi2, if_neg h30_2, Int.add_zero]⟩) (by dsimp only; omega) (by repeat (first | exact Sub.nil _ | refine Sub.cons rfl ?_)) (by repeat (first | exact Part.nil _ | (apply Part.cons; with_reducible (first | exact P0 | exact P1 | exact P2 | exact P3 | exact P4 | exact P5 | exact P6 | exact P7 | exact P8 | exact P9 | exact P10 | exact P11 | exact P12 | exact P13 | exact P14 | exact P15 | exact P16 | exact P17 | exact P18 | exact P19 | exact P20 | exact P21 | exact P22 | exact P23)) | (apply Part.flat; simp only [List.cons_append, List.nil_append]) | (apply Part.cons; (first | exact P0 | exact P1 | exact P2 | exact P3 | exact P4 | exact P5 | exact P6 | exact P7 | exact P8 | exact P9 | exact P10 | exact P11 | exact P12 | exact P13 | exact P14 | exact P15 | exact P16 | exact P17 | exact P18 | exact P19 | exact P20 | exact P21 | exact P22 | exact P23)) | (apply Part.nilc)))
  intro h30_2
  refine SPL_nil ?_
  refine thenP_n ?_
  refine SP_cond_t rfl ?_
  refine SP_region ?_
  refine SPL_y (y_move rfl) rfl ?_
  refine SPL_y (y_add rfl rfl (by omega)) rfl ?_
  refine SPL_y (y_assign rfl) rfl ?_
  refine SPL_nil ?_
  refine inBlockP_n ?_
  refine thenP_n ?_
  refine SP_region ?_
  refine SPL_y (y_add rfl rfl (by omega)) rfl ?_
  refine SPL_y (y_move rfl) rfl ?_
  refine SPL_nil ?_
  refine thenP_n ?_
  exact Again.intro ((i + 1, z2 + (2 + (vs.length : Int)) + 7)) (⟨by dsimp only; omega, by dsimp only; rw [hk1, hi2, if_pos h30_2]⟩) (by dsimp only; omega) (by repeat (first | exact Sub.nil _ | refine Sub.cons rfl ?_)) (by repeat (first | exact Part.nil _ | (apply Part.cons; with_reducible (first | exact P0 | exact P1 | exact P2 | exact P3 | exact P4 | exact P5 | exact P6 | exact P7 | exact P8 | exact P9 | exact P10 | exact P11 | exact P12 | exact P13 | exact P14 | exact P15 | exact P16 | exact P17 | exact P18 | exact P19 | exact P20 | exact P21 | exact P22 | exact P23)) | (apply Part.flat; simp only [List.cons_append, List.nil_append]) | (apply Part.cons; (first | exact P0 | exact P1 | exact P2 | exact P3 | exact P4 | exact P5 | exact P6 | exact P7 | exact P8 | exact P9 | exact P10 | exact P11 | exact P12 | exact P13 | exact P14 | exact P15 | exact P16 | exact P17 | exact P18 | exact P19 | exact P20 | exact P21 | exact P22 | exact P23)) | (apply Part.nilc)))

end Go.Sl
