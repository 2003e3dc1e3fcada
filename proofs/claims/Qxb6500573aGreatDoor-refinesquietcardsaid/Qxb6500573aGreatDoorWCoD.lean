/- Walks: package co, run, depth and rounds apart (made by program out of short notes) -/
import Derived.Test.Qxb6500573aGreatDoorWVnB
import Derived.Test.Qxb6500573aGreatDoorBFd
import Derived.Test.Qxb6500573aGreatDoorWVmU
namespace Go.Sl
open Go Go.Wl Go.Proofs
set_option maxRecDepth 100000
set_option linter.unusedVariables false
set_option linter.unusedSimpArgs false
/-- What run answers, by the mirror's number. -/
def CoSpecD (b : VB) (cb n k R f : Nat) : Prop := ∀ (ph : PH) (hh : List TH) (m m' : VM) (th : Nat) (a c : V) (cn cn' dep : Int) (r : An), coD n k R f th a c cn m = some (r, cn', m') → (0 ≤ dep ∧ dep + f ≤ 1000000) → ∀ seg : Seg, isVM b ph hh m seg →
  Spec Tryz.prog 54 [pt cb, I th, .agg (valV a).toArray, .agg (valV c).toArray] [seg, blk cb 117 [pt b.vb, I cn, I dep]] (Ret fun v H => v = .agg (anV r).toArray ∧ ∃ hh' seg', isVM b ph hh' m' seg' ∧ H = [seg', blk cb 117 [pt b.vb, I cn', I dep]])
set_option maxHeartbeats 4000000 in
theorem co_run_stepD (hN : NextSpec) (b : VB) (cb n k R : Nat) (d0 : Nat) (ih : CoSpecD b cb n k R d0) : CoSpecD b cb n k R (d0 + 1) := by
  intro ph hh m m' th a c cn cn' dep r hP hdep seg hM
  refine Spec_enter Tryz.func54 rfl Tryz.ntmps54 rfl ?_
  show SP _ _ _ _ _ [(0, _), (1, _), (2, _), (3, _)] _
  refine SP_seq ?_
  refine SP_region ?_
  refine SPL_one rfl (SP1_box rfl rfl rfl ?_)
  intro b6
  refine SPL_one rfl (SP1_box rfl rfl rfl ?_)
  intro b7
  refine SPL_one rfl (SP1_alloc Tryz.zeroValue127 rfl rfl ?_)
  intro b8
  refine SPL_nil ?_
  refine thenP_n ?_
  refine SP_seq ?_
  refine SP_region ?_
  refine SPL_y (y_move rfl) rfl ?_
  refine SPL_y (y_nil rfl) rfl ?_
  refine SPL_y (y_fa fld_117_2 rfl) rfl ?_
  refine SPL_y (y_load Tryz.isAgg3 rfl (by repeat (first | exact Cell.amid hpre rfl | exact Cell.head rfl | apply Cell.tail))) rfl ?_
  refine SPL_y (y_add rfl rfl (by omega)) rfl ?_
  refine SPL_y (y_nil rfl) rfl ?_
  refine SPL_y (y_fa fld_117_2 rfl) rfl ?_
  refine SPL_one rfl (SP1_store Tryz.sizeOf3 rfl rfl rfl (by first | exact U0 | exact U1 | exact U2 | exact U3 | exact U4 | exact U5 | exact U6 | exact U7 | exact U8 | exact U9 | exact U10 | exact U11 | exact U12 | exact U13 | exact U14 | exact U15 | exact U16 | exact U17 | exact U18 | exact U19 | exact U20 | exact U21 | exact U22 | exact U23) (by rfl) ?_)
  refine SPL_nil ?_
  refine thenP_n ?_
  refine SP_block ?_
  refine SP_loop (G := Nat × V × V × Int × VM × List TH × Seg) (fun g => g.1) (fun g => [(0, pt cb), (1, I th), (6, pt b6), (7, pt b7), (8, pt b8)]) (fun g => [blk cb 117 [pt b.vb, I g.2.2.2.1, I (dep + 1)], blk b6 42 (valV g.2.1), blk b7 42 (valV g.2.2.1), blk b8 127 (anV ⟨0, V.nil, 0⟩), g.2.2.2.2.2.2]) (fun g => coR n k (coD n k R d0) g.1 th g.2.1 g.2.2.1 g.2.2.2.1 g.2.2.2.2.1 = some (r, cn', m') ∧ isVM b ph g.2.2.2.2.2.1 g.2.2.2.2.1 g.2.2.2.2.2.2) ((R, a, c, cn, m, hh, seg)) (⟨hP, hM⟩) (by repeat (first | exact Sub.nil _ | refine Sub.cons rfl ?_)) (by repeat (first | exact Part.nil _ | (apply Part.cons; with_reducible (first | exact P0 | exact P1 | exact P2 | exact P3 | exact P4 | exact P5 | exact P6 | exact P7 | exact P8 | exact P9 | exact P10 | exact P11 | exact P12 | exact P13 | exact P14 | exact P15 | exact P16 | exact P17 | exact P18 | exact P19 | exact P20 | exact P21 | exact P22 | exact P23)) | (apply Part.flat; simp only [List.cons_append, List.nil_append]) | (apply Part.cons; (first | exact P0 | exact P1 | exact P2 | exact P3 | exact P4 | exact P5 | exact P6 | exact P7 | exact P8 | exact P9 | exact P10 | exact P11 | exact P12 | exact P13 | exact P14 | exact P15 | exact P16 | exact P17 | exact P18 | exact P19 | exact P20 | exact P21 | exact P22 | exact P23)) | (apply Part.nilc))) ?_
  clear hP hM
  rintro ⟨f1, a1, c1, cn1, m1, hh1, sg1⟩ ⟨hP, hM⟩
  dsimp only at hP hM
  obtain ⟨f2, rfl⟩ : ∃ f2, f1 = f2 + 1 := by
    cases f1 with
    | zero => unfold coR at hP; cases hP
    | succ f2 => exact ⟨f2, rfl⟩
  unfold coR at hP
  obtain ⟨e, m2, hq2, hP⟩ := bnd2 hP
  refine SP_block ?_
  refine SP_seq ?_
  refine SP_drawG 7 mixed (Part.refl _) ?_
  refine SPG_pre (fuel' := 3) [(0, 0), (1, 0), (2, 0), (4, 0), (3, 1), (5, 1), (6, 1)] (by kernel_rfl) (fun _ _ _ _ _ h => h) ?_
  refine SPP_p rfl (y_move rfl) rfl ?_
  refine SPP_p rfl (y_nil rfl) rfl ?_
  refine SPP_p rfl (y_fa fld_117_0 rfl) rfl ?_
  refine SPP_p rfl (y_move rfl) rfl ?_
  refine SPP_h rfl (y_load Tryz.isAgg58 rfl (by repeat (first | exact Cell.amid hpre rfl | exact Cell.head rfl | apply Cell.tail))) rfl ?_
  refine SPP_h rfl (y_loads Tryz.isAgg42 Tryz.sizeOf42 rfl rfl (by repeat (first | exact Cells.all _ | exact Cells.amid hpre rfl (by decide) | exact Cells.head rfl | apply Cells.tail))) rfl ?_
  refine SPP_h rfl (y_loads Tryz.isAgg42 Tryz.sizeOf42 rfl rfl (by repeat (first | exact Cells.all _ | exact Cells.amid hpre rfl (by decide) | exact Cells.head rfl | apply Cells.tail))) rfl ?_
  refine SPP_nil ?_
  refine SPG_two (i := 7) (j := 8) (by kernel_rfl) rfl rfl rfl rfl ?_ ?_
  · refine SP1_call (vm_Exec hN b ph hh1 hq2 _ hM) Tryz.call82 rfl rfl (by repeat (first | exact Part.nil _ | (apply Part.cons; with_reducible (first | exact P0 | exact P1 | exact P2 | exact P3 | exact P4 | exact P5 | exact P6 | exact P7 | exact P8 | exact P9 | exact P10 | exact P11 | exact P12 | exact P13 | exact P14 | exact P15 | exact P16 | exact P17 | exact P18 | exact P19 | exact P20 | exact P21 | exact P22 | exact P23)) | (apply Part.flat; simp only [List.cons_append, List.nil_append]) | (apply Part.cons; (first | exact P0 | exact P1 | exact P2 | exact P3 | exact P4 | exact P5 | exact P6 | exact P7 | exact P8 | exact P9 | exact P10 | exact P11 | exact P12 | exact P13 | exact P14 | exact P15 | exact P16 | exact P17 | exact P18 | exact P19 | exact P20 | exact P21 | exact P22 | exact P23)) | (apply Part.nilc))) ?_
    rintro v post H' ⟨rfl, hh2, sg2, hM, rfl⟩ hH
    try simp only [List.cons_append, List.nil_append] at hH
    subst hH
    refine ⟨fun h => absurd rfl h, ?_⟩
    obtain ⟨ek, eco, ee, ea, ec⟩ := e
    dsimp only at hP
    refine SPG_ord [(8, 3), (9, 3)] (by kernel_rfl) (fun _ _ _ _ _ h => h) ?_
    refine SPO_z (k := 0) rfl rfl (SP1_alloc Tryz.zeroValue184 rfl rfl ?_)
    intro b9
    refine SPO_z (k := 0) rfl rfl (SP1_storeAll Tryz.sizeOf184 rfl rfl rfl rfl rfl (by first | exact U0 | exact U1 | exact U2 | exact U3 | exact U4 | exact U5 | exact U6 | exact U7 | exact U8 | exact U9 | exact U10 | exact U11 | exact U12 | exact U13 | exact U14 | exact U15 | exact U16 | exact U17 | exact U18 | exact U19 | exact U20 | exact U21 | exact U22 | exact U23) (by rfl) ?_)
    refine SPO_nil ?_
    refine thenP_n ?_
    refine SP_seq ?_
    refine SP_seq ?_
    refine SP_region ?_
    refine SPL_y (y_fa fld_184_0 rfl) rfl ?_
    refine SPL_y (y_load Tryz.isAgg3 rfl (by repeat (first | exact Cell.amid hpre rfl | exact Cell.head rfl | apply Cell.tail))) rfl ?_
    refine SPL_nil ?_
    refine thenP_n ?_
    refine SP_block ?_
    refine SP_seq ?_
    refine SP_region ?_
    refine SPL_ifn (y_eql rfl rfl) rfl ?_ ?_
    · intro h4_0
      refine SPL_y (y_assign rfl) rfl ?_
      refine SPL_nil ?_
      refine thenP_n ?_
      refine SP_cond_f rfl ?_
      refine SP_seq ?_
      refine SP_seq ?_
      rw [if_neg h4_0] at hP
      refine SP_region ?_
      refine SPL_if (y_eql rfl rfl) rfl ?_ ?_
      · intro h14_0
        refine SPL_y (y_assign rfl) rfl ?_
        refine SPL_nil ?_
        refine thenP_n ?_
        refine SP_cond_t rfl ?_
        refine SP_skip ?_
        refine thenP_n ?_
        refine SP_cond_t rfl ?_
        refine SP_seq ?_
        rw [if_pos h14_0] at hP
        refine SP_region ?_
        refine SPL_y (y_move rfl) rfl ?_
        refine SPL_y (y_nil rfl) rfl ?_
        refine SPL_y (y_fa fld_117_2 rfl) rfl ?_
        refine SPL_y (y_load Tryz.isAgg3 rfl (by repeat (first | exact Cell.amid hpre rfl | exact Cell.head rfl | apply Cell.tail))) rfl ?_
        refine SPL_y (y_subE rfl rfl (c := dep) (by omega) (by omega)) rfl ?_
        refine SPL_y (y_nil rfl) rfl ?_
        refine SPL_y (y_fa fld_117_2 rfl) rfl ?_
        refine SPL_one rfl (SP1_store Tryz.sizeOf3 rfl rfl rfl (by first | exact U0 | exact U1 | exact U2 | exact U3 | exact U4 | exact U5 | exact U6 | exact U7 | exact U8 | exact U9 | exact U10 | exact U11 | exact U12 | exact U13 | exact U14 | exact U15 | exact U16 | exact U17 | exact U18 | exact U19 | exact U20 | exact U21 | exact U22 | exact U23) (by rfl) ?_)
        refine SPL_nil ?_
        refine thenP_n ?_
        refine SP_seq ?_
        refine SP_region ?_
        refine SPL_y (y_fa fld_184_3 rfl) rfl ?_
        refine SPL_y (y_loads (vs := valV ea) Tryz.isAgg42 Tryz.sizeOf42 rfl rfl (by repeat (first | exact Cells.head rfl | apply Cells.tail))) rfl ?_
        refine SPL_y (y_buildN (l := anV ⟨1, ea, 0⟩) BN127 rfl rfl) rfl ?_
        refine SPL_one rfl (SP1_storeAll Tryz.sizeOf127 rfl rfl rfl rfl rfl (by first | exact U0 | exact U1 | exact U2 | exact U3 | exact U4 | exact U5 | exact U6 | exact U7 | exact U8 | exact U9 | exact U10 | exact U11 | exact U12 | exact U13 | exact U14 | exact U15 | exact U16 | exact U17 | exact U18 | exact U19 | exact U20 | exact U21 | exact U22 | exact U23) (by rfl) ?_)
        refine SPL_nil ?_
        refine thenP_n ?_
        refine SP_ret ?_
        refine inBlockP_ret (thenP_ret (inBlockP_ret (thenP_ret (inBlockP_ret (bodyP_ret (H' := [sg2, blk cb 117 [pt b.vb, I cn1, I dep]]) (ResC rfl rfl Tryz.isAgg127 Tryz.sizeOf127 rfl (by repeat (first | exact Cells.all _ | exact Cells.amid hpre rfl (by decide) | exact Cells.head rfl | apply Cells.tail))) (by repeat (first | exact Part.nil _ | (apply Part.cons; with_reducible (first | exact P0 | exact P1 | exact P2 | exact P3 | exact P4 | exact P5 | exact P6 | exact P7 | exact P8 | exact P9 | exact P10 | exact P11 | exact P12 | exact P13 | exact P14 | exact P15 | exact P16 | exact P17 | exact P18 | exact P19 | exact P20 | exact P21 | exact P22 | exact P23)) | (apply Part.flat; simp only [List.cons_append, List.nil_append]) | (apply Part.cons; (first | exact P0 | exact P1 | exact P2 | exact P3 | exact P4 | exact P5 | exact P6 | exact P7 | exact P8 | exact P9 | exact P10 | exact P11 | exact P12 | exact P13 | exact P14 | exact P15 | exact P16 | exact P17 | exact P18 | exact P19 | exact P20 | exact P21 | exact P22 | exact P23)) | (apply Part.nilc))) ?_)))))
        injection hP with hP
        injection hP with q1 q2
        injection q2 with q2 q3
        subst q1
        subst q2
        subst q3
        exact ⟨rfl, _, _, hM, rfl⟩
      intro h14_0
      refine SPL_y (y_assign rfl) rfl ?_
      refine SPL_nil ?_
      refine thenP_n ?_
      refine SP_cond_f rfl ?_
      rw [if_neg h14_0] at hP
      refine SP_region ?_
      refine SPL_if (y_eql rfl rfl) rfl ?_ ?_
      · intro h15_0
        refine SPL_y (y_assign rfl) rfl ?_
        refine SPL_nil ?_
        refine thenP_n ?_
        refine SP_cond_t rfl ?_
        refine SP_seq ?_
        rw [if_pos h15_0] at hP
        refine SP_region ?_
        refine SPL_y (y_move rfl) rfl ?_
        refine SPL_y (y_nil rfl) rfl ?_
        refine SPL_y (y_fa fld_117_2 rfl) rfl ?_
        refine SPL_y (y_load Tryz.isAgg3 rfl (by repeat (first | exact Cell.amid hpre rfl | exact Cell.head rfl | apply Cell.tail))) rfl ?_
        refine SPL_y (y_subE rfl rfl (c := dep) (by omega) (by omega)) rfl ?_
        refine SPL_y (y_nil rfl) rfl ?_
        refine SPL_y (y_fa fld_117_2 rfl) rfl ?_
        refine SPL_one rfl (SP1_store Tryz.sizeOf3 rfl rfl rfl (by first | exact U0 | exact U1 | exact U2 | exact U3 | exact U4 | exact U5 | exact U6 | exact U7 | exact U8 | exact U9 | exact U10 | exact U11 | exact U12 | exact U13 | exact U14 | exact U15 | exact U16 | exact U17 | exact U18 | exact U19 | exact U20 | exact U21 | exact U22 | exact U23) (by rfl) ?_)
        refine SPL_nil ?_
        refine thenP_n ?_
        refine SP_seq ?_
        refine SP_region ?_
        refine SPL_y (y_fa fld_184_3 rfl) rfl ?_
        refine SPL_y (y_loads (vs := valV ea) Tryz.isAgg42 Tryz.sizeOf42 rfl rfl (by repeat (first | exact Cells.head rfl | apply Cells.tail))) rfl ?_
        refine SPL_y (y_buildN (l := anV ⟨1, ea, 0⟩) BN127 rfl rfl) rfl ?_
        refine SPL_one rfl (SP1_storeAll Tryz.sizeOf127 rfl rfl rfl rfl rfl (by first | exact U0 | exact U1 | exact U2 | exact U3 | exact U4 | exact U5 | exact U6 | exact U7 | exact U8 | exact U9 | exact U10 | exact U11 | exact U12 | exact U13 | exact U14 | exact U15 | exact U16 | exact U17 | exact U18 | exact U19 | exact U20 | exact U21 | exact U22 | exact U23) (by rfl) ?_)
        refine SPL_nil ?_
        refine thenP_n ?_
        refine SP_ret ?_
        refine inBlockP_ret (thenP_ret (inBlockP_ret (thenP_ret (inBlockP_ret (bodyP_ret (H' := [sg2, blk cb 117 [pt b.vb, I cn1, I dep]]) (ResC rfl rfl Tryz.isAgg127 Tryz.sizeOf127 rfl (by repeat (first | exact Cells.all _ | exact Cells.amid hpre rfl (by decide) | exact Cells.head rfl | apply Cells.tail))) (by repeat (first | exact Part.nil _ | (apply Part.cons; with_reducible (first | exact P0 | exact P1 | exact P2 | exact P3 | exact P4 | exact P5 | exact P6 | exact P7 | exact P8 | exact P9 | exact P10 | exact P11 | exact P12 | exact P13 | exact P14 | exact P15 | exact P16 | exact P17 | exact P18 | exact P19 | exact P20 | exact P21 | exact P22 | exact P23)) | (apply Part.flat; simp only [List.cons_append, List.nil_append]) | (apply Part.cons; (first | exact P0 | exact P1 | exact P2 | exact P3 | exact P4 | exact P5 | exact P6 | exact P7 | exact P8 | exact P9 | exact P10 | exact P11 | exact P12 | exact P13 | exact P14 | exact P15 | exact P16 | exact P17 | exact P18 | exact P19 | exact P20 | exact P21 | exact P22 | exact P23)) | (apply Part.nilc))) ?_)))))
        injection hP with hP
        injection hP with q1 q2
        injection q2 with q2 q3
        subst q1
        subst q2
        subst q3
        exact ⟨rfl, _, _, hM, rfl⟩
      intro h15_0
      refine SPL_y (y_assign rfl) rfl ?_
      refine SPL_nil ?_
      refine thenP_n ?_
      refine SP_cond_f rfl ?_
      refine SP_seq ?_
      rw [if_neg h15_0] at hP
      refine SP_region ?_
      refine SPL_if (y_eql rfl rfl) rfl ?_ ?_
      · intro h18_0
        refine SPL_y (y_assign rfl) rfl ?_
        refine SPL_nil ?_
        refine thenP_n ?_
        refine SP_cond_t rfl ?_
        refine SP_seq ?_
        rw [if_pos h18_0] at hP
        refine SP_region ?_
        refine SPL_y (y_move rfl) rfl ?_
        refine SPL_y (y_nil rfl) rfl ?_
        refine SPL_y (y_fa fld_117_2 rfl) rfl ?_
        refine SPL_y (y_load Tryz.isAgg3 rfl (by repeat (first | exact Cell.amid hpre rfl | exact Cell.head rfl | apply Cell.tail))) rfl ?_
        refine SPL_y (y_subE rfl rfl (c := dep) (by omega) (by omega)) rfl ?_
        refine SPL_y (y_nil rfl) rfl ?_
        refine SPL_y (y_fa fld_117_2 rfl) rfl ?_
        refine SPL_one rfl (SP1_store Tryz.sizeOf3 rfl rfl rfl (by first | exact U0 | exact U1 | exact U2 | exact U3 | exact U4 | exact U5 | exact U6 | exact U7 | exact U8 | exact U9 | exact U10 | exact U11 | exact U12 | exact U13 | exact U14 | exact U15 | exact U16 | exact U17 | exact U18 | exact U19 | exact U20 | exact U21 | exact U22 | exact U23) (by rfl) ?_)
        refine SPL_nil ?_
        refine thenP_n ?_
        refine SP_seq ?_
        refine SP_region ?_
        refine SPL_y (y_fa fld_184_3 rfl) rfl ?_
        refine SPL_y (y_loads (vs := valV ea) Tryz.isAgg42 Tryz.sizeOf42 rfl rfl (by repeat (first | exact Cells.head rfl | apply Cells.tail))) rfl ?_
        refine SPL_y (y_buildN (l := anV ⟨2, ea, 0⟩) BN127 rfl rfl) rfl ?_
        refine SPL_one rfl (SP1_storeAll Tryz.sizeOf127 rfl rfl rfl rfl rfl (by first | exact U0 | exact U1 | exact U2 | exact U3 | exact U4 | exact U5 | exact U6 | exact U7 | exact U8 | exact U9 | exact U10 | exact U11 | exact U12 | exact U13 | exact U14 | exact U15 | exact U16 | exact U17 | exact U18 | exact U19 | exact U20 | exact U21 | exact U22 | exact U23) (by rfl) ?_)
        refine SPL_nil ?_
        refine thenP_n ?_
        refine SP_ret ?_
        refine inBlockP_ret (thenP_ret (inBlockP_ret (thenP_ret (inBlockP_ret (bodyP_ret (H' := [sg2, blk cb 117 [pt b.vb, I cn1, I dep]]) (ResC rfl rfl Tryz.isAgg127 Tryz.sizeOf127 rfl (by repeat (first | exact Cells.all _ | exact Cells.amid hpre rfl (by decide) | exact Cells.head rfl | apply Cells.tail))) (by repeat (first | exact Part.nil _ | (apply Part.cons; with_reducible (first | exact P0 | exact P1 | exact P2 | exact P3 | exact P4 | exact P5 | exact P6 | exact P7 | exact P8 | exact P9 | exact P10 | exact P11 | exact P12 | exact P13 | exact P14 | exact P15 | exact P16 | exact P17 | exact P18 | exact P19 | exact P20 | exact P21 | exact P22 | exact P23)) | (apply Part.flat; simp only [List.cons_append, List.nil_append]) | (apply Part.cons; (first | exact P0 | exact P1 | exact P2 | exact P3 | exact P4 | exact P5 | exact P6 | exact P7 | exact P8 | exact P9 | exact P10 | exact P11 | exact P12 | exact P13 | exact P14 | exact P15 | exact P16 | exact P17 | exact P18 | exact P19 | exact P20 | exact P21 | exact P22 | exact P23)) | (apply Part.nilc))) ?_)))))
        injection hP with hP
        injection hP with q1 q2
        injection q2 with q2 q3
        subst q1
        subst q2
        subst q3
        exact ⟨rfl, _, _, hM, rfl⟩
      intro h18_0
      refine SPL_y (y_assign rfl) rfl ?_
      refine SPL_nil ?_
      refine thenP_n ?_
      refine SP_cond_f rfl ?_
      refine SP_seq ?_
      rw [if_neg h18_0] at hP
      refine SP_region ?_
      refine SPL_if (y_eql rfl rfl) rfl ?_ ?_
      · intro h21_0
        refine SPL_y (y_assign rfl) rfl ?_
        refine SPL_nil ?_
        refine thenP_n ?_
        refine SP_cond_t rfl ?_
        refine SP_seq ?_
        rw [if_pos h21_0] at hP
        refine SP_region ?_
        refine SPL_y (y_move rfl) rfl ?_
        refine SPL_y (y_nil rfl) rfl ?_
        refine SPL_y (y_fa fld_117_2 rfl) rfl ?_
        refine SPL_y (y_load Tryz.isAgg3 rfl (by repeat (first | exact Cell.amid hpre rfl | exact Cell.head rfl | apply Cell.tail))) rfl ?_
        refine SPL_y (y_subE rfl rfl (c := dep) (by omega) (by omega)) rfl ?_
        refine SPL_y (y_nil rfl) rfl ?_
        refine SPL_y (y_fa fld_117_2 rfl) rfl ?_
        refine SPL_one rfl (SP1_store Tryz.sizeOf3 rfl rfl rfl (by first | exact U0 | exact U1 | exact U2 | exact U3 | exact U4 | exact U5 | exact U6 | exact U7 | exact U8 | exact U9 | exact U10 | exact U11 | exact U12 | exact U13 | exact U14 | exact U15 | exact U16 | exact U17 | exact U18 | exact U19 | exact U20 | exact U21 | exact U22 | exact U23) (by rfl) ?_)
        refine SPL_nil ?_
        refine thenP_n ?_
        refine SP_seq ?_
        refine SP_region ?_
        refine SPL_y (y_fa fld_184_2 rfl) rfl ?_
        refine SPL_y (y_load Tryz.isAgg30 rfl (by repeat (first | exact Cell.amid hpre rfl | exact Cell.head rfl | apply Cell.tail))) rfl ?_
        refine SPL_y (y_buildN (l := anV ⟨3, V.nil, ee⟩) BN127 rfl rfl) rfl ?_
        refine SPL_one rfl (SP1_storeAll Tryz.sizeOf127 rfl rfl rfl rfl rfl (by first | exact U0 | exact U1 | exact U2 | exact U3 | exact U4 | exact U5 | exact U6 | exact U7 | exact U8 | exact U9 | exact U10 | exact U11 | exact U12 | exact U13 | exact U14 | exact U15 | exact U16 | exact U17 | exact U18 | exact U19 | exact U20 | exact U21 | exact U22 | exact U23) (by rfl) ?_)
        refine SPL_nil ?_
        refine thenP_n ?_
        refine SP_ret ?_
        refine inBlockP_ret (thenP_ret (inBlockP_ret (thenP_ret (inBlockP_ret (bodyP_ret (H' := [sg2, blk cb 117 [pt b.vb, I cn1, I dep]]) (ResC rfl rfl Tryz.isAgg127 Tryz.sizeOf127 rfl (by repeat (first | exact Cells.all _ | exact Cells.amid hpre rfl (by decide) | exact Cells.head rfl | apply Cells.tail))) (by repeat (first | exact Part.nil _ | (apply Part.cons; with_reducible (first | exact P0 | exact P1 | exact P2 | exact P3 | exact P4 | exact P5 | exact P6 | exact P7 | exact P8 | exact P9 | exact P10 | exact P11 | exact P12 | exact P13 | exact P14 | exact P15 | exact P16 | exact P17 | exact P18 | exact P19 | exact P20 | exact P21 | exact P22 | exact P23)) | (apply Part.flat; simp only [List.cons_append, List.nil_append]) | (apply Part.cons; (first | exact P0 | exact P1 | exact P2 | exact P3 | exact P4 | exact P5 | exact P6 | exact P7 | exact P8 | exact P9 | exact P10 | exact P11 | exact P12 | exact P13 | exact P14 | exact P15 | exact P16 | exact P17 | exact P18 | exact P19 | exact P20 | exact P21 | exact P22 | exact P23)) | (apply Part.nilc))) ?_)))))
        injection hP with hP
        injection hP with q1 q2
        injection q2 with q2 q3
        subst q1
        subst q2
        subst q3
        exact ⟨rfl, _, _, hM, rfl⟩
      intro h21_0
      refine SPL_y (y_assign rfl) rfl ?_
      refine SPL_nil ?_
      refine thenP_n ?_
      refine SP_cond_f rfl ?_
      refine SP_skip ?_
      refine inBlockP_n ?_
      refine thenP_n ?_
      refine SP_seq ?_
      rw [if_neg h21_0] at hP
      refine SP_region ?_
      refine SPL_y (y_move rfl) rfl ?_
      refine SPL_y (y_nil rfl) rfl ?_
      refine SPL_y (y_fa fld_117_2 rfl) rfl ?_
      refine SPL_y (y_load Tryz.isAgg3 rfl (by repeat (first | exact Cell.amid hpre rfl | exact Cell.head rfl | apply Cell.tail))) rfl ?_
      refine SPL_y (y_subE rfl rfl (c := dep) (by omega) (by omega)) rfl ?_
      refine SPL_y (y_nil rfl) rfl ?_
      refine SPL_y (y_fa fld_117_2 rfl) rfl ?_
      refine SPL_one rfl (SP1_store Tryz.sizeOf3 rfl rfl rfl (by first | exact U0 | exact U1 | exact U2 | exact U3 | exact U4 | exact U5 | exact U6 | exact U7 | exact U8 | exact U9 | exact U10 | exact U11 | exact U12 | exact U13 | exact U14 | exact U15 | exact U16 | exact U17 | exact U18 | exact U19 | exact U20 | exact U21 | exact U22 | exact U23) (by rfl) ?_)
      refine SPL_nil ?_
      refine thenP_n ?_
      refine SP_seq ?_
      refine SP_region ?_
      refine SPL_y (y_buildN (l := anV ⟨3, V.nil, 21⟩) BN127 rfl rfl) rfl ?_
      refine SPL_one rfl (SP1_storeAll Tryz.sizeOf127 rfl rfl rfl rfl rfl (by first | exact U0 | exact U1 | exact U2 | exact U3 | exact U4 | exact U5 | exact U6 | exact U7 | exact U8 | exact U9 | exact U10 | exact U11 | exact U12 | exact U13 | exact U14 | exact U15 | exact U16 | exact U17 | exact U18 | exact U19 | exact U20 | exact U21 | exact U22 | exact U23) (by rfl) ?_)
      refine SPL_nil ?_
      refine thenP_n ?_
      refine SP_ret ?_
      refine inBlockP_ret (thenP_ret (inBlockP_ret (bodyP_ret (H' := [sg2, blk cb 117 [pt b.vb, I cn1, I dep]]) (ResC rfl rfl Tryz.isAgg127 Tryz.sizeOf127 rfl (by repeat (first | exact Cells.all _ | exact Cells.amid hpre rfl (by decide) | exact Cells.head rfl | apply Cells.tail))) (by repeat (first | exact Part.nil _ | (apply Part.cons; with_reducible (first | exact P0 | exact P1 | exact P2 | exact P3 | exact P4 | exact P5 | exact P6 | exact P7 | exact P8 | exact P9 | exact P10 | exact P11 | exact P12 | exact P13 | exact P14 | exact P15 | exact P16 | exact P17 | exact P18 | exact P19 | exact P20 | exact P21 | exact P22 | exact P23)) | (apply Part.flat; simp only [List.cons_append, List.nil_append]) | (apply Part.cons; (first | exact P0 | exact P1 | exact P2 | exact P3 | exact P4 | exact P5 | exact P6 | exact P7 | exact P8 | exact P9 | exact P10 | exact P11 | exact P12 | exact P13 | exact P14 | exact P15 | exact P16 | exact P17 | exact P18 | exact P19 | exact P20 | exact P21 | exact P22 | exact P23)) | (apply Part.nilc))) ?_)))
      injection hP with hP
      injection hP with q1 q2
      injection q2 with q2 q3
      subst q1
      subst q2
      subst q3
      exact ⟨rfl, _, _, hM, rfl⟩
    intro h4_0
    refine SPL_y (y_assign rfl) rfl ?_
    refine SPL_nil ?_
    refine thenP_n ?_
    refine SP_cond_t rfl ?_
    refine SP_seq ?_
    rw [if_pos h4_0] at hP
    have hco : (0 ≤ eco ∧ eco ≤ 1000000) ∧ 0 ≤ cn1 ∧ cn1 ≤ 1000000000 := Decidable.byContradiction fun q => by rw [if_neg q] at hP; cases hP
    rw [if_pos hco] at hP
    obtain ⟨tc, rfl⟩ : ∃ tc : Nat, eco = tc := ⟨eco.toNat, by omega⟩
    rw [Int.toNat_natCast] at hP
    refine SP_draw 6 [(0, 0), (1, 0), (2, 0), (4, 0), (3, 1), (5, 1), (6, 3), (7, 0)] mixed (by kernel_rfl) (fun _ _ _ _ _ h => h) (Part.refl _) ?_
    refine SPO_p rfl (y_move rfl) rfl ?_
    refine SPO_p rfl (y_nil rfl) rfl ?_
    refine SPO_p rfl (y_fa fld_117_0 rfl) rfl ?_
    refine SPO_p rfl (y_fa fld_184_1 rfl) rfl ?_
    refine SPO_h rfl (y_load Tryz.isAgg58 rfl (by repeat (first | exact Cell.amid hpre rfl | exact Cell.head rfl | apply Cell.tail))) rfl ?_
    refine SPO_h rfl (y_load Tryz.isAgg3 rfl (by repeat (first | exact Cell.amid hpre rfl | exact Cell.head rfl | apply Cell.tail))) rfl ?_
    refine SPO_z (k := 0) rfl rfl (SP1_call (vm_Status b ph hh2 ((tc : Nat) : Int) _ hM) Tryz.call83 rfl rfl (by repeat (first | exact Part.nil _ | (apply Part.cons; with_reducible (first | exact P0 | exact P1 | exact P2 | exact P3 | exact P4 | exact P5 | exact P6 | exact P7 | exact P8 | exact P9 | exact P10 | exact P11 | exact P12 | exact P13 | exact P14 | exact P15 | exact P16 | exact P17 | exact P18 | exact P19 | exact P20 | exact P21 | exact P22 | exact P23)) | (apply Part.flat; simp only [List.cons_append, List.nil_append]) | (apply Part.cons; (first | exact P0 | exact P1 | exact P2 | exact P3 | exact P4 | exact P5 | exact P6 | exact P7 | exact P8 | exact P9 | exact P10 | exact P11 | exact P12 | exact P13 | exact P14 | exact P15 | exact P16 | exact P17 | exact P18 | exact P19 | exact P20 | exact P21 | exact P22 | exact P23)) | (apply Part.nilc))) ?_)
    rintro v post H' ⟨rfl, rfl⟩ hH
    try simp only [List.cons_append, List.nil_append] at hH
    subst hH
    refine SPO_p rfl (y_assign rfl) rfl ?_
    refine SPO_nil ?_
    refine thenP_n ?_
    refine SP_seq ?_
    refine SP_seq ?_
    refine SP_region ?_
    refine SPL_y (y_move rfl) rfl ?_
    refine SPL_ifn (y_eql rfl rfl) rfl ?_ ?_
    · intro h6_1
      refine SPL_nil ?_
      refine thenP_n ?_
      refine SP_cond_f rfl ?_
      refine SP_skip ?_
      refine thenP_n ?_
      refine SP_seq ?_
      refine SP_region ?_
      refine SPL_y (y_move rfl) rfl ?_
      refine SPL_y (y_fa fld_184_1 rfl) rfl ?_
      refine SPL_y (y_load Tryz.isAgg3 rfl (by repeat (first | exact Cell.amid hpre rfl | exact Cell.head rfl | apply Cell.tail))) rfl ?_
      refine SPL_y (y_fa fld_184_3 rfl) rfl ?_
      refine SPL_y (y_loads (vs := valV ea) Tryz.isAgg42 Tryz.sizeOf42 rfl rfl (by repeat (first | exact Cells.head rfl | apply Cells.tail))) rfl ?_
      refine SPL_y (y_build B42 rfl rfl (by simp only [fillL, List.foldl_cons, List.foldl_nil, List.set_cons_zero, List.set_cons_succ]; exact rfl)) rfl ?_
      rw [if_neg h6_1] at hP
      obtain ⟨x8, hq8, hP⟩ := bnd1 hP
      obtain ⟨r8, cn8, m8⟩ := x8
      dsimp only at hP
      refine SPL_one rfl (SP1_call (ih ph hh2 m2 m8 tc ea V.nil cn1 cn8 (dep + 1) r8 hq8 (by omega) _ hM) Tryz.call54 rfl rfl (by repeat (first | exact Part.nil _ | (apply Part.cons; with_reducible (first | exact P0 | exact P1 | exact P2 | exact P3 | exact P4 | exact P5 | exact P6 | exact P7 | exact P8 | exact P9 | exact P10 | exact P11 | exact P12 | exact P13 | exact P14 | exact P15 | exact P16 | exact P17 | exact P18 | exact P19 | exact P20 | exact P21 | exact P22 | exact P23)) | (apply Part.flat; simp only [List.cons_append, List.nil_append]) | (apply Part.cons; (first | exact P0 | exact P1 | exact P2 | exact P3 | exact P4 | exact P5 | exact P6 | exact P7 | exact P8 | exact P9 | exact P10 | exact P11 | exact P12 | exact P13 | exact P14 | exact P15 | exact P16 | exact P17 | exact P18 | exact P19 | exact P20 | exact P21 | exact P22 | exact P23)) | (apply Part.nilc))) ?_)
      rintro v post H' ⟨rfl, hh8, sg8, hM, rfl⟩ hH
      try simp only [List.cons_append, List.nil_append] at hH
      subst hH
      refine SPL_one rfl (SP1_alloc Tryz.zeroValue127 rfl rfl ?_)
      intro b11
      refine SPL_one rfl (SP1_storeAll Tryz.sizeOf127 rfl rfl rfl rfl rfl (by first | exact U0 | exact U1 | exact U2 | exact U3 | exact U4 | exact U5 | exact U6 | exact U7 | exact U8 | exact U9 | exact U10 | exact U11 | exact U12 | exact U13 | exact U14 | exact U15 | exact U16 | exact U17 | exact U18 | exact U19 | exact U20 | exact U21 | exact U22 | exact U23) (by rfl) ?_)
      refine SPL_nil ?_
      refine thenP_n ?_
      refine SP_seq ?_
      refine SP_seq ?_
      refine SP_region ?_
      refine SPL_y (y_fa fld_127_0 rfl) rfl ?_
      refine SPL_y (y_load Tryz.isAgg3 rfl (by repeat (first | exact Cell.amid hpre rfl | exact Cell.head rfl | apply Cell.tail))) rfl ?_
      refine SPL_if (y_eql rfl rfl) rfl ?_ ?_
      · intro h9_2
        refine SPL_nil ?_
        refine thenP_n ?_
        refine SP_cond_t rfl ?_
        refine SP_seq ?_
        rw [if_pos h9_2] at hP
        refine SP_region ?_
        refine SPL_y (y_move rfl) rfl ?_
        refine SPL_y (y_nil rfl) rfl ?_
        refine SPL_y (y_fa fld_117_2 rfl) rfl ?_
        refine SPL_y (y_load Tryz.isAgg3 rfl (by repeat (first | exact Cell.amid hpre rfl | exact Cell.head rfl | apply Cell.tail))) rfl ?_
        refine SPL_y (y_subE rfl rfl (c := dep) (by omega) (by omega)) rfl ?_
        refine SPL_y (y_nil rfl) rfl ?_
        refine SPL_y (y_fa fld_117_2 rfl) rfl ?_
        refine SPL_one rfl (SP1_store Tryz.sizeOf3 rfl rfl rfl (by first | exact U0 | exact U1 | exact U2 | exact U3 | exact U4 | exact U5 | exact U6 | exact U7 | exact U8 | exact U9 | exact U10 | exact U11 | exact U12 | exact U13 | exact U14 | exact U15 | exact U16 | exact U17 | exact U18 | exact U19 | exact U20 | exact U21 | exact U22 | exact U23) (by rfl) ?_)
        refine SPL_nil ?_
        refine thenP_n ?_
        refine SP_seq ?_
        refine SP_region ?_
        refine SPL_y (y_loads Tryz.isAgg127 Tryz.sizeOf127 rfl rfl (by repeat (first | exact Cells.all _ | exact Cells.amid hpre rfl (by decide) | exact Cells.head rfl | apply Cells.tail))) rfl ?_
        refine SPL_one rfl (SP1_storeAll Tryz.sizeOf127 rfl rfl rfl rfl rfl (by first | exact U0 | exact U1 | exact U2 | exact U3 | exact U4 | exact U5 | exact U6 | exact U7 | exact U8 | exact U9 | exact U10 | exact U11 | exact U12 | exact U13 | exact U14 | exact U15 | exact U16 | exact U17 | exact U18 | exact U19 | exact U20 | exact U21 | exact U22 | exact U23) (by rfl) ?_)
        refine SPL_nil ?_
        refine thenP_n ?_
        refine SP_ret ?_
        refine thenP_ret (inBlockP_ret (thenP_ret (inBlockP_ret (thenP_ret (inBlockP_ret (bodyP_ret (H' := [sg8, blk cb 117 [pt b.vb, I cn8, I dep]]) (ResC rfl rfl Tryz.isAgg127 Tryz.sizeOf127 rfl (by repeat (first | exact Cells.all _ | exact Cells.amid hpre rfl (by decide) | exact Cells.head rfl | apply Cells.tail))) (by repeat (first | exact Part.nil _ | (apply Part.cons; with_reducible (first | exact P0 | exact P1 | exact P2 | exact P3 | exact P4 | exact P5 | exact P6 | exact P7 | exact P8 | exact P9 | exact P10 | exact P11 | exact P12 | exact P13 | exact P14 | exact P15 | exact P16 | exact P17 | exact P18 | exact P19 | exact P20 | exact P21 | exact P22 | exact P23)) | (apply Part.flat; simp only [List.cons_append, List.nil_append]) | (apply Part.cons; (first | exact P0 | exact P1 | exact P2 | exact P3 | exact P4 | exact P5 | exact P6 | exact P7 | exact P8 | exact P9 | exact P10 | exact P11 | exact P12 | exact P13 | exact P14 | exact P15 | exact P16 | exact P17 | exact P18 | exact P19 | exact P20 | exact P21 | exact P22 | exact P23)) | (apply Part.nilc))) ?_))))))
        injection hP with hP
        injection hP with q1 q2
        injection q2 with q2 q3
        subst q1
        subst q2
        subst q3
        exact ⟨rfl, _, _, hM, rfl⟩
      intro h9_2
      refine SPL_nil ?_
      refine thenP_n ?_
      refine SP_cond_f rfl ?_
      refine SP_skip ?_
      refine thenP_n ?_
      refine SP_seq ?_
      rw [if_neg h9_2] at hP
      refine SP_region ?_
      refine SPL_y (y_fa fld_127_0 rfl) rfl ?_
      refine SPL_y (y_load Tryz.isAgg3 rfl (by repeat (first | exact Cell.amid hpre rfl | exact Cell.head rfl | apply Cell.tail))) rfl ?_
      refine SPL_y (y_eql rfl rfl) rfl ?_
      refine SPL_one rfl (SP1_call (api_Bool (decide (r8.k = 1))) Tryz.call84 rfl rfl (by repeat (first | exact Part.nil _ | (apply Part.cons; with_reducible (first | exact P0 | exact P1 | exact P2 | exact P3 | exact P4 | exact P5 | exact P6 | exact P7 | exact P8 | exact P9 | exact P10 | exact P11 | exact P12 | exact P13 | exact P14 | exact P15 | exact P16 | exact P17 | exact P18 | exact P19 | exact P20 | exact P21 | exact P22 | exact P23)) | (apply Part.flat; simp only [List.cons_append, List.nil_append]) | (apply Part.cons; (first | exact P0 | exact P1 | exact P2 | exact P3 | exact P4 | exact P5 | exact P6 | exact P7 | exact P8 | exact P9 | exact P10 | exact P11 | exact P12 | exact P13 | exact P14 | exact P15 | exact P16 | exact P17 | exact P18 | exact P19 | exact P20 | exact P21 | exact P22 | exact P23)) | (apply Part.nilc))) ?_)
      rintro v post H' ⟨rfl, rfl⟩ hH
      try simp only [List.cons_append, List.nil_append] at hH
      subst hH
      refine SPL_one rfl (SP1_storeAll Tryz.sizeOf42 rfl rfl rfl rfl rfl (by first | exact U0 | exact U1 | exact U2 | exact U3 | exact U4 | exact U5 | exact U6 | exact U7 | exact U8 | exact U9 | exact U10 | exact U11 | exact U12 | exact U13 | exact U14 | exact U15 | exact U16 | exact U17 | exact U18 | exact U19 | exact U20 | exact U21 | exact U22 | exact U23) (by rfl) ?_)
      refine SPL_nil ?_
      refine thenP_n ?_
      refine SP_seq ?_
      refine SP_region ?_
      refine SPL_y (y_fa fld_127_1 rfl) rfl ?_
      refine SPL_y (y_loads (vs := valV r8.v) Tryz.isAgg42 Tryz.sizeOf42 rfl rfl (by repeat (first | exact Cells.head rfl | apply Cells.tail))) rfl ?_
      refine SPL_one rfl (SP1_storeAll Tryz.sizeOf42 rfl rfl rfl rfl rfl (by first | exact U0 | exact U1 | exact U2 | exact U3 | exact U4 | exact U5 | exact U6 | exact U7 | exact U8 | exact U9 | exact U10 | exact U11 | exact U12 | exact U13 | exact U14 | exact U15 | exact U16 | exact U17 | exact U18 | exact U19 | exact U20 | exact U21 | exact U22 | exact U23) (by rfl) ?_)
      refine SPL_nil ?_
      refine thenP_n ?_
      refine SP_exit ?_
      refine inBlockP_miss rfl ?_
      refine thenP_exit ?_
      refine inBlockP_hit ?_
      refine thenP_n ?_
      exact Again.intro ((f2, boolV (decide (r8.k = 1)), r8.v, cn8, m8, hh8, sg8)) (⟨hP, hM⟩) (by dsimp only; omega) (by repeat (first | exact Sub.nil _ | refine Sub.cons rfl ?_)) (by repeat (first | exact Part.nil _ | (apply Part.cons; with_reducible (first | exact P0 | exact P1 | exact P2 | exact P3 | exact P4 | exact P5 | exact P6 | exact P7 | exact P8 | exact P9 | exact P10 | exact P11 | exact P12 | exact P13 | exact P14 | exact P15 | exact P16 | exact P17 | exact P18 | exact P19 | exact P20 | exact P21 | exact P22 | exact P23)) | (apply Part.flat; simp only [List.cons_append, List.nil_append]) | (apply Part.cons; (first | exact P0 | exact P1 | exact P2 | exact P3 | exact P4 | exact P5 | exact P6 | exact P7 | exact P8 | exact P9 | exact P10 | exact P11 | exact P12 | exact P13 | exact P14 | exact P15 | exact P16 | exact P17 | exact P18 | exact P19 | exact P20 | exact P21 | exact P22 | exact P23)) | (apply Part.nilc)))
    intro h6_1
    refine SPL_nil ?_
    refine thenP_n ?_
    refine SP_cond_t rfl ?_
    refine SP_region ?_
    refine SPL_y (y_move rfl) rfl ?_
    refine SPL_y (y_nil rfl) rfl ?_
    refine SPL_y (y_fa fld_117_1 rfl) rfl ?_
    refine SPL_y (y_load Tryz.isAgg3 rfl (by repeat (first | exact Cell.amid hpre rfl | exact Cell.head rfl | apply Cell.tail))) rfl ?_
    refine SPL_y (y_add rfl rfl (by omega)) rfl ?_
    refine SPL_y (y_nil rfl) rfl ?_
    refine SPL_y (y_fa fld_117_1 rfl) rfl ?_
    refine SPL_one rfl (SP1_store Tryz.sizeOf3 rfl rfl rfl (by first | exact U0 | exact U1 | exact U2 | exact U3 | exact U4 | exact U5 | exact U6 | exact U7 | exact U8 | exact U9 | exact U10 | exact U11 | exact U12 | exact U13 | exact U14 | exact U15 | exact U16 | exact U17 | exact U18 | exact U19 | exact U20 | exact U21 | exact U22 | exact U23) (by rfl) ?_)
    refine SPL_nil ?_
    refine thenP_n ?_
    refine SP_seq ?_
    refine SP_region ?_
    refine SPL_y (y_move rfl) rfl ?_
    refine SPL_y (y_fa fld_184_1 rfl) rfl ?_
    refine SPL_y (y_load Tryz.isAgg3 rfl (by repeat (first | exact Cell.amid hpre rfl | exact Cell.head rfl | apply Cell.tail))) rfl ?_
    refine SPL_y (y_fa fld_184_3 rfl) rfl ?_
    refine SPL_y (y_loads (vs := valV ea) Tryz.isAgg42 Tryz.sizeOf42 rfl rfl (by repeat (first | exact Cells.head rfl | apply Cells.tail))) rfl ?_
    refine SPL_y (y_build B42 rfl rfl (by simp only [fillL, List.foldl_cons, List.foldl_nil, List.set_cons_zero, List.set_cons_succ]; exact rfl)) rfl ?_
    rw [if_pos h6_1] at hP
    obtain ⟨x8, hq8, hP⟩ := bnd1 hP
    obtain ⟨r8, cn8, m8⟩ := x8
    dsimp only at hP
    refine SPL_one rfl (SP1_call (ih ph hh2 m2 m8 tc ea V.nil (cn1 + 1) cn8 (dep + 1) r8 hq8 (by omega) _ hM) Tryz.call54 rfl rfl (by repeat (first | exact Part.nil _ | (apply Part.cons; with_reducible (first | exact P0 | exact P1 | exact P2 | exact P3 | exact P4 | exact P5 | exact P6 | exact P7 | exact P8 | exact P9 | exact P10 | exact P11 | exact P12 | exact P13 | exact P14 | exact P15 | exact P16 | exact P17 | exact P18 | exact P19 | exact P20 | exact P21 | exact P22 | exact P23)) | (apply Part.flat; simp only [List.cons_append, List.nil_append]) | (apply Part.cons; (first | exact P0 | exact P1 | exact P2 | exact P3 | exact P4 | exact P5 | exact P6 | exact P7 | exact P8 | exact P9 | exact P10 | exact P11 | exact P12 | exact P13 | exact P14 | exact P15 | exact P16 | exact P17 | exact P18 | exact P19 | exact P20 | exact P21 | exact P22 | exact P23)) | (apply Part.nilc))) ?_)
    rintro v post H' ⟨rfl, hh8, sg8, hM, rfl⟩ hH
    try simp only [List.cons_append, List.nil_append] at hH
    subst hH
    refine SPL_one rfl (SP1_alloc Tryz.zeroValue127 rfl rfl ?_)
    intro b11
    refine SPL_one rfl (SP1_storeAll Tryz.sizeOf127 rfl rfl rfl rfl rfl (by first | exact U0 | exact U1 | exact U2 | exact U3 | exact U4 | exact U5 | exact U6 | exact U7 | exact U8 | exact U9 | exact U10 | exact U11 | exact U12 | exact U13 | exact U14 | exact U15 | exact U16 | exact U17 | exact U18 | exact U19 | exact U20 | exact U21 | exact U22 | exact U23) (by rfl) ?_)
    refine SPL_nil ?_
    refine thenP_n ?_
    refine SP_seq ?_
    refine SP_seq ?_
    refine SP_region ?_
    refine SPL_y (y_fa fld_127_0 rfl) rfl ?_
    refine SPL_y (y_load Tryz.isAgg3 rfl (by repeat (first | exact Cell.amid hpre rfl | exact Cell.head rfl | apply Cell.tail))) rfl ?_
    refine SPL_if (y_eql rfl rfl) rfl ?_ ?_
    · intro h9_2
      refine SPL_nil ?_
      refine thenP_n ?_
      refine SP_cond_t rfl ?_
      refine SP_seq ?_
      rw [if_pos h9_2] at hP
      refine SP_region ?_
      refine SPL_y (y_move rfl) rfl ?_
      refine SPL_y (y_nil rfl) rfl ?_
      refine SPL_y (y_fa fld_117_2 rfl) rfl ?_
      refine SPL_y (y_load Tryz.isAgg3 rfl (by repeat (first | exact Cell.amid hpre rfl | exact Cell.head rfl | apply Cell.tail))) rfl ?_
      refine SPL_y (y_subE rfl rfl (c := dep) (by omega) (by omega)) rfl ?_
      refine SPL_y (y_nil rfl) rfl ?_
      refine SPL_y (y_fa fld_117_2 rfl) rfl ?_
      refine SPL_one rfl (SP1_store Tryz.sizeOf3 rfl rfl rfl (by first | exact U0 | exact U1 | exact U2 | exact U3 | exact U4 | exact U5 | exact U6 | exact U7 | exact U8 | exact U9 | exact U10 | exact U11 | exact U12 | exact U13 | exact U14 | exact U15 | exact U16 | exact U17 | exact U18 | exact U19 | exact U20 | exact U21 | exact U22 | exact U23) (by rfl) ?_)
      refine SPL_nil ?_
      refine thenP_n ?_
      refine SP_seq ?_
      refine SP_region ?_
      refine SPL_y (y_loads Tryz.isAgg127 Tryz.sizeOf127 rfl rfl (by repeat (first | exact Cells.all _ | exact Cells.amid hpre rfl (by decide) | exact Cells.head rfl | apply Cells.tail))) rfl ?_
      refine SPL_one rfl (SP1_storeAll Tryz.sizeOf127 rfl rfl rfl rfl rfl (by first | exact U0 | exact U1 | exact U2 | exact U3 | exact U4 | exact U5 | exact U6 | exact U7 | exact U8 | exact U9 | exact U10 | exact U11 | exact U12 | exact U13 | exact U14 | exact U15 | exact U16 | exact U17 | exact U18 | exact U19 | exact U20 | exact U21 | exact U22 | exact U23) (by rfl) ?_)
      refine SPL_nil ?_
      refine thenP_n ?_
      refine SP_ret ?_
      refine thenP_ret (inBlockP_ret (thenP_ret (inBlockP_ret (thenP_ret (inBlockP_ret (bodyP_ret (H' := [sg8, blk cb 117 [pt b.vb, I cn8, I dep]]) (ResC rfl rfl Tryz.isAgg127 Tryz.sizeOf127 rfl (by repeat (first | exact Cells.all _ | exact Cells.amid hpre rfl (by decide) | exact Cells.head rfl | apply Cells.tail))) (by repeat (first | exact Part.nil _ | (apply Part.cons; with_reducible (first | exact P0 | exact P1 | exact P2 | exact P3 | exact P4 | exact P5 | exact P6 | exact P7 | exact P8 | exact P9 | exact P10 | exact P11 | exact P12 | exact P13 | exact P14 | exact P15 | exact P16 | exact P17 | exact P18 | exact P19 | exact P20 | exact P21 | exact P22 | exact P23)) | (apply Part.flat; simp only [List.cons_append, List.nil_append]) | (apply Part.cons; (first | exact P0 | exact P1 | exact P2 | exact P3 | exact P4 | exact P5 | exact P6 | exact P7 | exact P8 | exact P9 | exact P10 | exact P11 | exact P12 | exact P13 | exact P14 | exact P15 | exact P16 | exact P17 | exact P18 | exact P19 | exact P20 | exact P21 | exact P22 | exact P23)) | (apply Part.nilc))) ?_))))))
      injection hP with hP
      injection hP with q1 q2
      injection q2 with q2 q3
      subst q1
      subst q2
      subst q3
      exact ⟨rfl, _, _, hM, rfl⟩
    intro h9_2
    refine SPL_nil ?_
    refine thenP_n ?_
    refine SP_cond_f rfl ?_
    refine SP_skip ?_
    refine thenP_n ?_
    refine SP_seq ?_
    rw [if_neg h9_2] at hP
    refine SP_region ?_
    refine SPL_y (y_fa fld_127_0 rfl) rfl ?_
    refine SPL_y (y_load Tryz.isAgg3 rfl (by repeat (first | exact Cell.amid hpre rfl | exact Cell.head rfl | apply Cell.tail))) rfl ?_
    refine SPL_y (y_eql rfl rfl) rfl ?_
    refine SPL_one rfl (SP1_call (api_Bool (decide (r8.k = 1))) Tryz.call84 rfl rfl (by repeat (first | exact Part.nil _ | (apply Part.cons; with_reducible (first | exact P0 | exact P1 | exact P2 | exact P3 | exact P4 | exact P5 | exact P6 | exact P7 | exact P8 | exact P9 | exact P10 | exact P11 | exact P12 | exact P13 | exact P14 | exact P15 | exact P16 | exact P17 | exact P18 | exact P19 | exact P20 | exact P21 | exact P22 | exact P23)) | (apply Part.flat; simp only [List.cons_append, List.nil_append]) | (apply Part.cons; (first | exact P0 | exact P1 | exact P2 | exact P3 | exact P4 | exact P5 | exact P6 | exact P7 | exact P8 | exact P9 | exact P10 | exact P11 | exact P12 | exact P13 | exact P14 | exact P15 | exact P16 | exact P17 | exact P18 | exact P19 | exact P20 | exact P21 | exact P22 | exact P23)) | (apply Part.nilc))) ?_)
    rintro v post H' ⟨rfl, rfl⟩ hH
    try simp only [List.cons_append, List.nil_append] at hH
    subst hH
    refine SPL_one rfl (SP1_storeAll Tryz.sizeOf42 rfl rfl rfl rfl rfl (by first | exact U0 | exact U1 | exact U2 | exact U3 | exact U4 | exact U5 | exact U6 | exact U7 | exact U8 | exact U9 | exact U10 | exact U11 | exact U12 | exact U13 | exact U14 | exact U15 | exact U16 | exact U17 | exact U18 | exact U19 | exact U20 | exact U21 | exact U22 | exact U23) (by rfl) ?_)
    refine SPL_nil ?_
    refine thenP_n ?_
    refine SP_seq ?_
    refine SP_region ?_
    refine SPL_y (y_fa fld_127_1 rfl) rfl ?_
    refine SPL_y (y_loads (vs := valV r8.v) Tryz.isAgg42 Tryz.sizeOf42 rfl rfl (by repeat (first | exact Cells.head rfl | apply Cells.tail))) rfl ?_
    refine SPL_one rfl (SP1_storeAll Tryz.sizeOf42 rfl rfl rfl rfl rfl (by first | exact U0 | exact U1 | exact U2 | exact U3 | exact U4 | exact U5 | exact U6 | exact U7 | exact U8 | exact U9 | exact U10 | exact U11 | exact U12 | exact U13 | exact U14 | exact U15 | exact U16 | exact U17 | exact U18 | exact U19 | exact U20 | exact U21 | exact U22 | exact U23) (by rfl) ?_)
    refine SPL_nil ?_
    refine thenP_n ?_
    refine SP_exit ?_
    refine inBlockP_miss rfl ?_
    refine thenP_exit ?_
    refine inBlockP_hit ?_
    refine thenP_n ?_
    exact Again.intro ((f2, boolV (decide (r8.k = 1)), r8.v, cn8, m8, hh8, sg8)) (⟨hP, hM⟩) (by dsimp only; omega) (by repeat (first | exact Sub.nil _ | refine Sub.cons rfl ?_)) (by repeat (first | exact Part.nil _ | (apply Part.cons; with_reducible (first | exact P0 | exact P1 | exact P2 | exact P3 | exact P4 | exact P5 | exact P6 | exact P7 | exact P8 | exact P9 | exact P10 | exact P11 | exact P12 | exact P13 | exact P14 | exact P15 | exact P16 | exact P17 | exact P18 | exact P19 | exact P20 | exact P21 | exact P22 | exact P23)) | (apply Part.flat; simp only [List.cons_append, List.nil_append]) | (apply Part.cons; (first | exact P0 | exact P1 | exact P2 | exact P3 | exact P4 | exact P5 | exact P6 | exact P7 | exact P8 | exact P9 | exact P10 | exact P11 | exact P12 | exact P13 | exact P14 | exact P15 | exact P16 | exact P17 | exact P18 | exact P19 | exact P20 | exact P21 | exact P22 | exact P23)) | (apply Part.nilc)))
  refine SP1_alloc Tryz.zeroValue184 rfl rfl ?_
  intro b9
  refine ⟨fun _ => ⟨_, (by repeat (first | exact Part.nil _ | (apply Part.cons; with_reducible (first | exact P0 | exact P1 | exact P2 | exact P3 | exact P4 | exact P5 | exact P6 | exact P7 | exact P8 | exact P9 | exact P10 | exact P11 | exact P12 | exact P13 | exact P14 | exact P15 | exact P16 | exact P17 | exact P18 | exact P19 | exact P20 | exact P21 | exact P22 | exact P23)) | (apply Part.flat; simp only [List.cons_append, List.nil_append]) | (apply Part.cons; (first | exact P0 | exact P1 | exact P2 | exact P3 | exact P4 | exact P5 | exact P6 | exact P7 | exact P8 | exact P9 | exact P10 | exact P11 | exact P12 | exact P13 | exact P14 | exact P15 | exact P16 | exact P17 | exact P18 | exact P19 | exact P20 | exact P21 | exact P22 | exact P23)) | (apply Part.nilc)))⟩, ?_⟩
  refine SPG_ord [(7, 3), (9, 3)] (by kernel_rfl) (fun _ _ _ _ _ h => h) ?_
  refine SPO_z (k := 0) rfl rfl (SP1_call (vm_Exec hN b ph hh1 hq2 _ hM) Tryz.call82 rfl rfl (by repeat (first | exact Part.nil _ | (apply Part.cons; with_reducible (first | exact P0 | exact P1 | exact P2 | exact P3 | exact P4 | exact P5 | exact P6 | exact P7 | exact P8 | exact P9 | exact P10 | exact P11 | exact P12 | exact P13 | exact P14 | exact P15 | exact P16 | exact P17 | exact P18 | exact P19 | exact P20 | exact P21 | exact P22 | exact P23)) | (apply Part.flat; simp only [List.cons_append, List.nil_append]) | (apply Part.cons; (first | exact P0 | exact P1 | exact P2 | exact P3 | exact P4 | exact P5 | exact P6 | exact P7 | exact P8 | exact P9 | exact P10 | exact P11 | exact P12 | exact P13 | exact P14 | exact P15 | exact P16 | exact P17 | exact P18 | exact P19 | exact P20 | exact P21 | exact P22 | exact P23)) | (apply Part.nilc))) ?_)
  rintro v post H' ⟨rfl, hh2, sg2, hM, rfl⟩ hH
  try simp only [List.cons_append, List.nil_append] at hH
  subst hH
  obtain ⟨ek, eco, ee, ea, ec⟩ := e
  dsimp only at hP
  refine SPO_z (k := 0) rfl rfl (SP1_storeAll Tryz.sizeOf184 rfl rfl rfl rfl rfl (by first | exact U0 | exact U1 | exact U2 | exact U3 | exact U4 | exact U5 | exact U6 | exact U7 | exact U8 | exact U9 | exact U10 | exact U11 | exact U12 | exact U13 | exact U14 | exact U15 | exact U16 | exact U17 | exact U18 | exact U19 | exact U20 | exact U21 | exact U22 | exact U23) (by rfl) ?_)
  refine SPO_nil ?_
  refine thenP_n ?_
  refine SP_seq ?_
  refine SP_seq ?_
  refine SP_region ?_
  refine SPL_y (y_fa fld_184_0 rfl) rfl ?_
  refine SPL_y (y_load Tryz.isAgg3 rfl (by repeat (first | exact Cell.amid hpre rfl | exact Cell.head rfl | apply Cell.tail))) rfl ?_
  refine SPL_nil ?_
  refine thenP_n ?_
  refine SP_block ?_
  refine SP_seq ?_
  refine SP_region ?_
  refine SPL_ifn (y_eql rfl rfl) rfl ?_ ?_
  · intro h4_0
    refine SPL_y (y_assign rfl) rfl ?_
    refine SPL_nil ?_
    refine thenP_n ?_
    refine SP_cond_f rfl ?_
    refine SP_seq ?_
    refine SP_seq ?_
    rw [if_neg h4_0] at hP
    refine SP_region ?_
    refine SPL_if (y_eql rfl rfl) rfl ?_ ?_
    · intro h14_0
      refine SPL_y (y_assign rfl) rfl ?_
      refine SPL_nil ?_
      refine thenP_n ?_
      refine SP_cond_t rfl ?_
      refine SP_skip ?_
      refine thenP_n ?_
      refine SP_cond_t rfl ?_
      refine SP_seq ?_
      rw [if_pos h14_0] at hP
      refine SP_region ?_
      refine SPL_y (y_move rfl) rfl ?_
      refine SPL_y (y_nil rfl) rfl ?_
      refine SPL_y (y_fa fld_117_2 rfl) rfl ?_
      refine SPL_y (y_load Tryz.isAgg3 rfl (by repeat (first | exact Cell.amid hpre rfl | exact Cell.head rfl | apply Cell.tail))) rfl ?_
      refine SPL_y (y_subE rfl rfl (c := dep) (by omega) (by omega)) rfl ?_
      refine SPL_y (y_nil rfl) rfl ?_
      refine SPL_y (y_fa fld_117_2 rfl) rfl ?_
      refine SPL_one rfl (SP1_store Tryz.sizeOf3 rfl rfl rfl (by first | exact U0 | exact U1 | exact U2 | exact U3 | exact U4 | exact U5 | exact U6 | exact U7 | exact U8 | exact U9 | exact U10 | exact U11 | exact U12 | exact U13 | exact U14 | exact U15 | exact U16 | exact U17 | exact U18 | exact U19 | exact U20 | exact U21 | exact U22 | exact U23) (by rfl) ?_)
      refine SPL_nil ?_
      refine thenP_n ?_
      refine SP_seq ?_
      refine SP_region ?_
      refine SPL_y (y_fa fld_184_3 rfl) rfl ?_
      refine SPL_y (y_loads (vs := valV ea) Tryz.isAgg42 Tryz.sizeOf42 rfl rfl (by repeat (first | exact Cells.head rfl | apply Cells.tail))) rfl ?_
      refine SPL_y (y_buildN (l := anV ⟨1, ea, 0⟩) BN127 rfl rfl) rfl ?_
      refine SPL_one rfl (SP1_storeAll Tryz.sizeOf127 rfl rfl rfl rfl rfl (by first | exact U0 | exact U1 | exact U2 | exact U3 | exact U4 | exact U5 | exact U6 | exact U7 | exact U8 | exact U9 | exact U10 | exact U11 | exact U12 | exact U13 | exact U14 | exact U15 | exact U16 | exact U17 | exact U18 | exact U19 | exact U20 | exact U21 | exact U22 | exact U23) (by rfl) ?_)
      refine SPL_nil ?_
      refine thenP_n ?_
      refine SP_ret ?_
      refine inBlockP_ret (thenP_ret (inBlockP_ret (thenP_ret (inBlockP_ret (bodyP_ret (H' := [sg2, blk cb 117 [pt b.vb, I cn1, I dep]]) (ResC rfl rfl Tryz.isAgg127 Tryz.sizeOf127 rfl (by repeat (first | exact Cells.all _ | exact Cells.amid hpre rfl (by decide) | exact Cells.head rfl | apply Cells.tail))) (by repeat (first | exact Part.nil _ | (apply Part.cons; with_reducible (first | exact P0 | exact P1 | exact P2 | exact P3 | exact P4 | exact P5 | exact P6 | exact P7 | exact P8 | exact P9 | exact P10 | exact P11 | exact P12 | exact P13 | exact P14 | exact P15 | exact P16 | exact P17 | exact P18 | exact P19 | exact P20 | exact P21 | exact P22 | exact P23)) | (apply Part.flat; simp only [List.cons_append, List.nil_append]) | (apply Part.cons; (first | exact P0 | exact P1 | exact P2 | exact P3 | exact P4 | exact P5 | exact P6 | exact P7 | exact P8 | exact P9 | exact P10 | exact P11 | exact P12 | exact P13 | exact P14 | exact P15 | exact P16 | exact P17 | exact P18 | exact P19 | exact P20 | exact P21 | exact P22 | exact P23)) | (apply Part.nilc))) ?_)))))
      injection hP with hP
      injection hP with q1 q2
      injection q2 with q2 q3
      subst q1
      subst q2
      subst q3
      exact ⟨rfl, _, _, hM, rfl⟩
    intro h14_0
    refine SPL_y (y_assign rfl) rfl ?_
    refine SPL_nil ?_
    refine thenP_n ?_
    refine SP_cond_f rfl ?_
    rw [if_neg h14_0] at hP
    refine SP_region ?_
    refine SPL_if (y_eql rfl rfl) rfl ?_ ?_
    · intro h15_0
      refine SPL_y (y_assign rfl) rfl ?_
      refine SPL_nil ?_
      refine thenP_n ?_
      refine SP_cond_t rfl ?_
      refine SP_seq ?_
      rw [if_pos h15_0] at hP
      refine SP_region ?_
      refine SPL_y (y_move rfl) rfl ?_
      refine SPL_y (y_nil rfl) rfl ?_
      refine SPL_y (y_fa fld_117_2 rfl) rfl ?_
      refine SPL_y (y_load Tryz.isAgg3 rfl (by repeat (first | exact Cell.amid hpre rfl | exact Cell.head rfl | apply Cell.tail))) rfl ?_
      refine SPL_y (y_subE rfl rfl (c := dep) (by omega) (by omega)) rfl ?_
      refine SPL_y (y_nil rfl) rfl ?_
      refine SPL_y (y_fa fld_117_2 rfl) rfl ?_
      refine SPL_one rfl (SP1_store Tryz.sizeOf3 rfl rfl rfl (by first | exact U0 | exact U1 | exact U2 | exact U3 | exact U4 | exact U5 | exact U6 | exact U7 | exact U8 | exact U9 | exact U10 | exact U11 | exact U12 | exact U13 | exact U14 | exact U15 | exact U16 | exact U17 | exact U18 | exact U19 | exact U20 | exact U21 | exact U22 | exact U23) (by rfl) ?_)
      refine SPL_nil ?_
      refine thenP_n ?_
      refine SP_seq ?_
      refine SP_region ?_
      refine SPL_y (y_fa fld_184_3 rfl) rfl ?_
      refine SPL_y (y_loads (vs := valV ea) Tryz.isAgg42 Tryz.sizeOf42 rfl rfl (by repeat (first | exact Cells.head rfl | apply Cells.tail))) rfl ?_
      refine SPL_y (y_buildN (l := anV ⟨1, ea, 0⟩) BN127 rfl rfl) rfl ?_
      refine SPL_one rfl (SP1_storeAll Tryz.sizeOf127 rfl rfl rfl rfl rfl (by first | exact U0 | exact U1 | exact U2 | exact U3 | exact U4 | exact U5 | exact U6 | exact U7 | exact U8 | exact U9 | exact U10 | exact U11 | exact U12 | exact U13 | exact U14 | exact U15 | exact U16 | exact U17 | exact U18 | exact U19 | exact U20 | exact U21 | exact U22 | exact U23) (by rfl) ?_)
      refine SPL_nil ?_
      refine thenP_n ?_
      refine SP_ret ?_
      refine inBlockP_ret (thenP_ret (inBlockP_ret (thenP_ret (inBlockP_ret (bodyP_ret (H' := [sg2, blk cb 117 [pt b.vb, I cn1, I dep]]) (ResC rfl rfl Tryz.isAgg127 Tryz.sizeOf127 rfl (by repeat (first | exact Cells.all _ | exact Cells.amid hpre rfl (by decide) | exact Cells.head rfl | apply Cells.tail))) (by repeat (first | exact Part.nil _ | (apply Part.cons; with_reducible (first | exact P0 | exact P1 | exact P2 | exact P3 | exact P4 | exact P5 | exact P6 | exact P7 | exact P8 | exact P9 | exact P10 | exact P11 | exact P12 | exact P13 | exact P14 | exact P15 | exact P16 | exact P17 | exact P18 | exact P19 | exact P20 | exact P21 | exact P22 | exact P23)) | (apply Part.flat; simp only [List.cons_append, List.nil_append]) | (apply Part.cons; (first | exact P0 | exact P1 | exact P2 | exact P3 | exact P4 | exact P5 | exact P6 | exact P7 | exact P8 | exact P9 | exact P10 | exact P11 | exact P12 | exact P13 | exact P14 | exact P15 | exact P16 | exact P17 | exact P18 | exact P19 | exact P20 | exact P21 | exact P22 | exact P23)) | (apply Part.nilc))) ?_)))))
      injection hP with hP
      injection hP with q1 q2
      injection q2 with q2 q3
      subst q1
      subst q2
      subst q3
      exact ⟨rfl, _, _, hM, rfl⟩
    intro h15_0
    refine SPL_y (y_assign rfl) rfl ?_
    refine SPL_nil ?_
    refine thenP_n ?_
    refine SP_cond_f rfl ?_
    refine SP_seq ?_
    rw [if_neg h15_0] at hP
    refine SP_region ?_
    refine SPL_if (y_eql rfl rfl) rfl ?_ ?_
    · intro h18_0
      refine SPL_y (y_assign rfl) rfl ?_
      refine SPL_nil ?_
      refine thenP_n ?_
      refine SP_cond_t rfl ?_
      refine SP_seq ?_
      rw [if_pos h18_0] at hP
      refine SP_region ?_
      refine SPL_y (y_move rfl) rfl ?_
      refine SPL_y (y_nil rfl) rfl ?_
      refine SPL_y (y_fa fld_117_2 rfl) rfl ?_
      refine SPL_y (y_load Tryz.isAgg3 rfl (by repeat (first | exact Cell.amid hpre rfl | exact Cell.head rfl | apply Cell.tail))) rfl ?_
      refine SPL_y (y_subE rfl rfl (c := dep) (by omega) (by omega)) rfl ?_
      refine SPL_y (y_nil rfl) rfl ?_
      refine SPL_y (y_fa fld_117_2 rfl) rfl ?_
      refine SPL_one rfl (SP1_store Tryz.sizeOf3 rfl rfl rfl (by first | exact U0 | exact U1 | exact U2 | exact U3 | exact U4 | exact U5 | exact U6 | exact U7 | exact U8 | exact U9 | exact U10 | exact U11 | exact U12 | exact U13 | exact U14 | exact U15 | exact U16 | exact U17 | exact U18 | exact U19 | exact U20 | exact U21 | exact U22 | exact U23) (by rfl) ?_)
      refine SPL_nil ?_
      refine thenP_n ?_
      refine SP_seq ?_
      refine SP_region ?_
      refine SPL_y (y_fa fld_184_3 rfl) rfl ?_
      refine SPL_y (y_loads (vs := valV ea) Tryz.isAgg42 Tryz.sizeOf42 rfl rfl (by repeat (first | exact Cells.head rfl | apply Cells.tail))) rfl ?_
      refine SPL_y (y_buildN (l := anV ⟨2, ea, 0⟩) BN127 rfl rfl) rfl ?_
      refine SPL_one rfl (SP1_storeAll Tryz.sizeOf127 rfl rfl rfl rfl rfl (by first | exact U0 | exact U1 | exact U2 | exact U3 | exact U4 | exact U5 | exact U6 | exact U7 | exact U8 | exact U9 | exact U10 | exact U11 | exact U12 | exact U13 | exact U14 | exact U15 | exact U16 | exact U17 | exact U18 | exact U19 | exact U20 | exact U21 | exact U22 | exact U23) (by rfl) ?_)
      refine SPL_nil ?_
      refine thenP_n ?_
      refine SP_ret ?_
      refine inBlockP_ret (thenP_ret (inBlockP_ret (thenP_ret (inBlockP_ret (bodyP_ret (H' := [sg2, blk cb 117 [pt b.vb, I cn1, I dep]]) (ResC rfl rfl Tryz.isAgg127 Tryz.sizeOf127 rfl (by repeat (first | exact Cells.all _ | exact Cells.amid hpre rfl (by decide) | exact Cells.head rfl | apply Cells.tail))) (by repeat (first | exact Part.nil _ | (apply Part.cons; with_reducible (first | exact P0 | exact P1 | exact P2 | exact P3 | exact P4 | exact P5 | exact P6 | exact P7 | exact P8 | exact P9 | exact P10 | exact P11 | exact P12 | exact P13 | exact P14 | exact P15 | exact P16 | exact P17 | exact P18 | exact P19 | exact P20 | exact P21 | exact P22 | exact P23)) | (apply Part.flat; simp only [List.cons_append, List.nil_append]) | (apply Part.cons; (first | exact P0 | exact P1 | exact P2 | exact P3 | exact P4 | exact P5 | exact P6 | exact P7 | exact P8 | exact P9 | exact P10 | exact P11 | exact P12 | exact P13 | exact P14 | exact P15 | exact P16 | exact P17 | exact P18 | exact P19 | exact P20 | exact P21 | exact P22 | exact P23)) | (apply Part.nilc))) ?_)))))
      injection hP with hP
      injection hP with q1 q2
      injection q2 with q2 q3
      subst q1
      subst q2
      subst q3
      exact ⟨rfl, _, _, hM, rfl⟩
    intro h18_0
    refine SPL_y (y_assign rfl) rfl ?_
    refine SPL_nil ?_
    refine thenP_n ?_
    refine SP_cond_f rfl ?_
    refine SP_seq ?_
    rw [if_neg h18_0] at hP
    refine SP_region ?_
    refine SPL_if (y_eql rfl rfl) rfl ?_ ?_
    · intro h21_0
      refine SPL_y (y_assign rfl) rfl ?_
      refine SPL_nil ?_
      refine thenP_n ?_
      refine SP_cond_t rfl ?_
      refine SP_seq ?_
      rw [if_pos h21_0] at hP
      refine SP_region ?_
      refine SPL_y (y_move rfl) rfl ?_
      refine SPL_y (y_nil rfl) rfl ?_
      refine SPL_y (y_fa fld_117_2 rfl) rfl ?_
      refine SPL_y (y_load Tryz.isAgg3 rfl (by repeat (first | exact Cell.amid hpre rfl | exact Cell.head rfl | apply Cell.tail))) rfl ?_
      refine SPL_y (y_subE rfl rfl (c := dep) (by omega) (by omega)) rfl ?_
      refine SPL_y (y_nil rfl) rfl ?_
      refine SPL_y (y_fa fld_117_2 rfl) rfl ?_
      refine SPL_one rfl (SP1_store Tryz.sizeOf3 rfl rfl rfl (by first | exact U0 | exact U1 | exact U2 | exact U3 | exact U4 | exact U5 | exact U6 | exact U7 | exact U8 | exact U9 | exact U10 | exact U11 | exact U12 | exact U13 | exact U14 | exact U15 | exact U16 | exact U17 | exact U18 | exact U19 | exact U20 | exact U21 | exact U22 | exact U23) (by rfl) ?_)
      refine SPL_nil ?_
      refine thenP_n ?_
      refine SP_seq ?_
      refine SP_region ?_
      refine SPL_y (y_fa fld_184_2 rfl) rfl ?_
      refine SPL_y (y_load Tryz.isAgg30 rfl (by repeat (first | exact Cell.amid hpre rfl | exact Cell.head rfl | apply Cell.tail))) rfl ?_
      refine SPL_y (y_buildN (l := anV ⟨3, V.nil, ee⟩) BN127 rfl rfl) rfl ?_
      refine SPL_one rfl (SP1_storeAll Tryz.sizeOf127 rfl rfl rfl rfl rfl (by first | exact U0 | exact U1 | exact U2 | exact U3 | exact U4 | exact U5 | exact U6 | exact U7 | exact U8 | exact U9 | exact U10 | exact U11 | exact U12 | exact U13 | exact U14 | exact U15 | exact U16 | exact U17 | exact U18 | exact U19 | exact U20 | exact U21 | exact U22 | exact U23) (by rfl) ?_)
      refine SPL_nil ?_
      refine thenP_n ?_
      refine SP_ret ?_
      refine inBlockP_ret (thenP_ret (inBlockP_ret (thenP_ret (inBlockP_ret (bodyP_ret (H' := [sg2, blk cb 117 [pt b.vb, I cn1, I dep]]) (ResC rfl rfl Tryz.isAgg127 Tryz.sizeOf127 rfl (by repeat (first | exact Cells.all _ | exact Cells.amid hpre rfl (by decide) | exact Cells.head rfl | apply Cells.tail))) (by repeat (first | exact Part.nil _ | (apply Part.cons; with_reducible (first | exact P0 | exact P1 | exact P2 | exact P3 | exact P4 | exact P5 | exact P6 | exact P7 | exact P8 | exact P9 | exact P10 | exact P11 | exact P12 | exact P13 | exact P14 | exact P15 | exact P16 | exact P17 | exact P18 | exact P19 | exact P20 | exact P21 | exact P22 | exact P23)) | (apply Part.flat; simp only [List.cons_append, List.nil_append]) | (apply Part.cons; (first | exact P0 | exact P1 | exact P2 | exact P3 | exact P4 | exact P5 | exact P6 | exact P7 | exact P8 | exact P9 | exact P10 | exact P11 | exact P12 | exact P13 | exact P14 | exact P15 | exact P16 | exact P17 | exact P18 | exact P19 | exact P20 | exact P21 | exact P22 | exact P23)) | (apply Part.nilc))) ?_)))))
      injection hP with hP
      injection hP with q1 q2
      injection q2 with q2 q3
      subst q1
      subst q2
      subst q3
      exact ⟨rfl, _, _, hM, rfl⟩
    intro h21_0
    refine SPL_y (y_assign rfl) rfl ?_
    refine SPL_nil ?_
    refine thenP_n ?_
    refine SP_cond_f rfl ?_
    refine SP_skip ?_
    refine inBlockP_n ?_
    refine thenP_n ?_
    refine SP_seq ?_
    rw [if_neg h21_0] at hP
    refine SP_region ?_
    refine SPL_y (y_move rfl) rfl ?_
    refine SPL_y (y_nil rfl) rfl ?_
    refine SPL_y (y_fa fld_117_2 rfl) rfl ?_
    refine SPL_y (y_load Tryz.isAgg3 rfl (by repeat (first | exact Cell.amid hpre rfl | exact Cell.head rfl | apply Cell.tail))) rfl ?_
    refine SPL_y (y_subE rfl rfl (c := dep) (by omega) (by omega)) rfl ?_
    refine SPL_y (y_nil rfl) rfl ?_
    refine SPL_y (y_fa fld_117_2 rfl) rfl ?_
    refine SPL_one rfl (SP1_store Tryz.sizeOf3 rfl rfl rfl (by first | exact U0 | exact U1 | exact U2 | exact U3 | exact U4 | exact U5 | exact U6 | exact U7 | exact U8 | exact U9 | exact U10 | exact U11 | exact U12 | exact U13 | exact U14 | exact U15 | exact U16 | exact U17 | exact U18 | exact U19 | exact U20 | exact U21 | exact U22 | exact U23) (by rfl) ?_)
    refine SPL_nil ?_
    refine thenP_n ?_
    refine SP_seq ?_
    refine SP_region ?_
    refine SPL_y (y_buildN (l := anV ⟨3, V.nil, 21⟩) BN127 rfl rfl) rfl ?_
    refine SPL_one rfl (SP1_storeAll Tryz.sizeOf127 rfl rfl rfl rfl rfl (by first | exact U0 | exact U1 | exact U2 | exact U3 | exact U4 | exact U5 | exact U6 | exact U7 | exact U8 | exact U9 | exact U10 | exact U11 | exact U12 | exact U13 | exact U14 | exact U15 | exact U16 | exact U17 | exact U18 | exact U19 | exact U20 | exact U21 | exact U22 | exact U23) (by rfl) ?_)
    refine SPL_nil ?_
    refine thenP_n ?_
    refine SP_ret ?_
    refine inBlockP_ret (thenP_ret (inBlockP_ret (bodyP_ret (H' := [sg2, blk cb 117 [pt b.vb, I cn1, I dep]]) (ResC rfl rfl Tryz.isAgg127 Tryz.sizeOf127 rfl (by repeat (first | exact Cells.all _ | exact Cells.amid hpre rfl (by decide) | exact Cells.head rfl | apply Cells.tail))) (by repeat (first | exact Part.nil _ | (apply Part.cons; with_reducible (first | exact P0 | exact P1 | exact P2 | exact P3 | exact P4 | exact P5 | exact P6 | exact P7 | exact P8 | exact P9 | exact P10 | exact P11 | exact P12 | exact P13 | exact P14 | exact P15 | exact P16 | exact P17 | exact P18 | exact P19 | exact P20 | exact P21 | exact P22 | exact P23)) | (apply Part.flat; simp only [List.cons_append, List.nil_append]) | (apply Part.cons; (first | exact P0 | exact P1 | exact P2 | exact P3 | exact P4 | exact P5 | exact P6 | exact P7 | exact P8 | exact P9 | exact P10 | exact P11 | exact P12 | exact P13 | exact P14 | exact P15 | exact P16 | exact P17 | exact P18 | exact P19 | exact P20 | exact P21 | exact P22 | exact P23)) | (apply Part.nilc))) ?_)))
    injection hP with hP
    injection hP with q1 q2
    injection q2 with q2 q3
    subst q1
    subst q2
    subst q3
    exact ⟨rfl, _, _, hM, rfl⟩
  intro h4_0
  refine SPL_y (y_assign rfl) rfl ?_
  refine SPL_nil ?_
  refine thenP_n ?_
  refine SP_cond_t rfl ?_
  refine SP_seq ?_
  rw [if_pos h4_0] at hP
  have hco : (0 ≤ eco ∧ eco ≤ 1000000) ∧ 0 ≤ cn1 ∧ cn1 ≤ 1000000000 := Decidable.byContradiction fun q => by rw [if_neg q] at hP; cases hP
  rw [if_pos hco] at hP
  obtain ⟨tc, rfl⟩ : ∃ tc : Nat, eco = tc := ⟨eco.toNat, by omega⟩
  rw [Int.toNat_natCast] at hP
  refine SP_draw 6 [(0, 0), (1, 0), (2, 0), (4, 0), (3, 1), (5, 1), (6, 3), (7, 0)] mixed (by kernel_rfl) (fun _ _ _ _ _ h => h) (Part.refl _) ?_
  refine SPO_p rfl (y_move rfl) rfl ?_
  refine SPO_p rfl (y_nil rfl) rfl ?_
  refine SPO_p rfl (y_fa fld_117_0 rfl) rfl ?_
  refine SPO_p rfl (y_fa fld_184_1 rfl) rfl ?_
  refine SPO_h rfl (y_load Tryz.isAgg58 rfl (by repeat (first | exact Cell.amid hpre rfl | exact Cell.head rfl | apply Cell.tail))) rfl ?_
  refine SPO_h rfl (y_load Tryz.isAgg3 rfl (by repeat (first | exact Cell.amid hpre rfl | exact Cell.head rfl | apply Cell.tail))) rfl ?_
  refine SPO_z (k := 0) rfl rfl (SP1_call (vm_Status b ph hh2 ((tc : Nat) : Int) _ hM) Tryz.call83 rfl rfl (by repeat (first | exact Part.nil _ | (apply Part.cons; with_reducible (first | exact P0 | exact P1 | exact P2 | exact P3 | exact P4 | exact P5 | exact P6 | exact P7 | exact P8 | exact P9 | exact P10 | exact P11 | exact P12 | exact P13 | exact P14 | exact P15 | exact P16 | exact P17 | exact P18 | exact P19 | exact P20 | exact P21 | exact P22 | exact P23)) | (apply Part.flat; simp only [List.cons_append, List.nil_append]) | (apply Part.cons; (first | exact P0 | exact P1 | exact P2 | exact P3 | exact P4 | exact P5 | exact P6 | exact P7 | exact P8 | exact P9 | exact P10 | exact P11 | exact P12 | exact P13 | exact P14 | exact P15 | exact P16 | exact P17 | exact P18 | exact P19 | exact P20 | exact P21 | exact P22 | exact P23)) | (apply Part.nilc))) ?_)
  rintro v post H' ⟨rfl, rfl⟩ hH
  try simp only [List.cons_append, List.nil_append] at hH
  subst hH
  refine SPO_p rfl (y_assign rfl) rfl ?_
  refine SPO_nil ?_
  refine thenP_n ?_
  refine SP_seq ?_
  refine SP_seq ?_
  refine SP_region ?_
  refine SPL_y (y_move rfl) rfl ?_
  refine SPL_ifn (y_eql rfl rfl) rfl ?_ ?_
  · intro h6_1
    refine SPL_nil ?_
    refine thenP_n ?_
    refine SP_cond_f rfl ?_
    refine SP_skip ?_
    refine thenP_n ?_
    refine SP_seq ?_
    refine SP_region ?_
    refine SPL_y (y_move rfl) rfl ?_
    refine SPL_y (y_fa fld_184_1 rfl) rfl ?_
    refine SPL_y (y_load Tryz.isAgg3 rfl (by repeat (first | exact Cell.amid hpre rfl | exact Cell.head rfl | apply Cell.tail))) rfl ?_
    refine SPL_y (y_fa fld_184_3 rfl) rfl ?_
    refine SPL_y (y_loads (vs := valV ea) Tryz.isAgg42 Tryz.sizeOf42 rfl rfl (by repeat (first | exact Cells.head rfl | apply Cells.tail))) rfl ?_
    refine SPL_y (y_build B42 rfl rfl (by simp only [fillL, List.foldl_cons, List.foldl_nil, List.set_cons_zero, List.set_cons_succ]; exact rfl)) rfl ?_
    rw [if_neg h6_1] at hP
    obtain ⟨x8, hq8, hP⟩ := bnd1 hP
    obtain ⟨r8, cn8, m8⟩ := x8
    dsimp only at hP
    refine SPL_one rfl (SP1_call (ih ph hh2 m2 m8 tc ea V.nil cn1 cn8 (dep + 1) r8 hq8 (by omega) _ hM) Tryz.call54 rfl rfl (by repeat (first | exact Part.nil _ | (apply Part.cons; with_reducible (first | exact P0 | exact P1 | exact P2 | exact P3 | exact P4 | exact P5 | exact P6 | exact P7 | exact P8 | exact P9 | exact P10 | exact P11 | exact P12 | exact P13 | exact P14 | exact P15 | exact P16 | exact P17 | exact P18 | exact P19 | exact P20 | exact P21 | exact P22 | exact P23)) | (apply Part.flat; simp only [List.cons_append, List.nil_append]) | (apply Part.cons; (first | exact P0 | exact P1 | exact P2 | exact P3 | exact P4 | exact P5 | exact P6 | exact P7 | exact P8 | exact P9 | exact P10 | exact P11 | exact P12 | exact P13 | exact P14 | exact P15 | exact P16 | exact P17 | exact P18 | exact P19 | exact P20 | exact P21 | exact P22 | exact P23)) | (apply Part.nilc))) ?_)
    rintro v post H' ⟨rfl, hh8, sg8, hM, rfl⟩ hH
    try simp only [List.cons_append, List.nil_append] at hH
    subst hH
    refine SPL_one rfl (SP1_alloc Tryz.zeroValue127 rfl rfl ?_)
    intro b11
    refine SPL_one rfl (SP1_storeAll Tryz.sizeOf127 rfl rfl rfl rfl rfl (by first | exact U0 | exact U1 | exact U2 | exact U3 | exact U4 | exact U5 | exact U6 | exact U7 | exact U8 | exact U9 | exact U10 | exact U11 | exact U12 | exact U13 | exact U14 | exact U15 | exact U16 | exact U17 | exact U18 | exact U19 | exact U20 | exact U21 | exact U22 | exact U23) (by rfl) ?_)
    refine SPL_nil ?_
    refine thenP_n ?_
    refine SP_seq ?_
    refine SP_seq ?_
    refine SP_region ?_
    refine SPL_y (y_fa fld_127_0 rfl) rfl ?_
    refine SPL_y (y_load Tryz.isAgg3 rfl (by repeat (first | exact Cell.amid hpre rfl | exact Cell.head rfl | apply Cell.tail))) rfl ?_
    refine SPL_if (y_eql rfl rfl) rfl ?_ ?_
    · intro h9_2
      refine SPL_nil ?_
      refine thenP_n ?_
      refine SP_cond_t rfl ?_
      refine SP_seq ?_
      rw [if_pos h9_2] at hP
      refine SP_region ?_
      refine SPL_y (y_move rfl) rfl ?_
      refine SPL_y (y_nil rfl) rfl ?_
      refine SPL_y (y_fa fld_117_2 rfl) rfl ?_
      refine SPL_y (y_load Tryz.isAgg3 rfl (by repeat (first | exact Cell.amid hpre rfl | exact Cell.head rfl | apply Cell.tail))) rfl ?_
      refine SPL_y (y_subE rfl rfl (c := dep) (by omega) (by omega)) rfl ?_
      refine SPL_y (y_nil rfl) rfl ?_
      refine SPL_y (y_fa fld_117_2 rfl) rfl ?_
      refine SPL_one rfl (SP1_store Tryz.sizeOf3 rfl rfl rfl (by first | exact U0 | exact U1 | exact U2 | exact U3 | exact U4 | exact U5 | exact U6 | exact U7 | exact U8 | exact U9 | exact U10 | exact U11 | exact U12 | exact U13 | exact U14 | exact U15 | exact U16 | exact U17 | exact U18 | exact U19 | exact U20 | exact U21 | exact U22 | exact U23) (by rfl) ?_)
      refine SPL_nil ?_
      refine thenP_n ?_
      refine SP_seq ?_
      refine SP_region ?_
      refine SPL_y (y_loads Tryz.isAgg127 Tryz.sizeOf127 rfl rfl (by repeat (first | exact Cells.all _ | exact Cells.amid hpre rfl (by decide) | exact Cells.head rfl | apply Cells.tail))) rfl ?_
      refine SPL_one rfl (SP1_storeAll Tryz.sizeOf127 rfl rfl rfl rfl rfl (by first | exact U0 | exact U1 | exact U2 | exact U3 | exact U4 | exact U5 | exact U6 | exact U7 | exact U8 | exact U9 | exact U10 | exact U11 | exact U12 | exact U13 | exact U14 | exact U15 | exact U16 | exact U17 | exact U18 | exact U19 | exact U20 | exact U21 | exact U22 | exact U23) (by rfl) ?_)
      refine SPL_nil ?_
      refine thenP_n ?_
      refine SP_ret ?_
      refine thenP_ret (inBlockP_ret (thenP_ret (inBlockP_ret (thenP_ret (inBlockP_ret (bodyP_ret (H' := [sg8, blk cb 117 [pt b.vb, I cn8, I dep]]) (ResC rfl rfl Tryz.isAgg127 Tryz.sizeOf127 rfl (by repeat (first | exact Cells.all _ | exact Cells.amid hpre rfl (by decide) | exact Cells.head rfl | apply Cells.tail))) (by repeat (first | exact Part.nil _ | (apply Part.cons; with_reducible (first | exact P0 | exact P1 | exact P2 | exact P3 | exact P4 | exact P5 | exact P6 | exact P7 | exact P8 | exact P9 | exact P10 | exact P11 | exact P12 | exact P13 | exact P14 | exact P15 | exact P16 | exact P17 | exact P18 | exact P19 | exact P20 | exact P21 | exact P22 | exact P23)) | (apply Part.flat; simp only [List.cons_append, List.nil_append]) | (apply Part.cons; (first | exact P0 | exact P1 | exact P2 | exact P3 | exact P4 | exact P5 | exact P6 | exact P7 | exact P8 | exact P9 | exact P10 | exact P11 | exact P12 | exact P13 | exact P14 | exact P15 | exact P16 | exact P17 | exact P18 | exact P19 | exact P20 | exact P21 | exact P22 | exact P23)) | (apply Part.nilc))) ?_))))))
      injection hP with hP
      injection hP with q1 q2
      injection q2 with q2 q3
      subst q1
      subst q2
      subst q3
      exact ⟨rfl, _, _, hM, rfl⟩
    intro h9_2
    refine SPL_nil ?_
    refine thenP_n ?_
    refine SP_cond_f rfl ?_
    refine SP_skip ?_
    refine thenP_n ?_
    refine SP_seq ?_
    rw [if_neg h9_2] at hP
    refine SP_region ?_
    refine SPL_y (y_fa fld_127_0 rfl) rfl ?_
    refine SPL_y (y_load Tryz.isAgg3 rfl (by repeat (first | exact Cell.amid hpre rfl | exact Cell.head rfl | apply Cell.tail))) rfl ?_
    refine SPL_y (y_eql rfl rfl) rfl ?_
    refine SPL_one rfl (SP1_call (api_Bool (decide (r8.k = 1))) Tryz.call84 rfl rfl (by repeat (first | exact Part.nil _ | (apply Part.cons; with_reducible (first | exact P0 | exact P1 | exact P2 | exact P3 | exact P4 | exact P5 | exact P6 | exact P7 | exact P8 | exact P9 | exact P10 | exact P11 | exact P12 | exact P13 | exact P14 | exact P15 | exact P16 | exact P17 | exact P18 | exact P19 | exact P20 | exact P21 | exact P22 | exact P23)) | (apply Part.flat; simp only [List.cons_append, List.nil_append]) | (apply Part.cons; (first | exact P0 | exact P1 | exact P2 | exact P3 | exact P4 | exact P5 | exact P6 | exact P7 | exact P8 | exact P9 | exact P10 | exact P11 | exact P12 | exact P13 | exact P14 | exact P15 | exact P16 | exact P17 | exact P18 | exact P19 | exact P20 | exact P21 | exact P22 | exact P23)) | (apply Part.nilc))) ?_)
    rintro v post H' ⟨rfl, rfl⟩ hH
    try simp only [List.cons_append, List.nil_append] at hH
    subst hH
    refine SPL_one rfl (SP1_storeAll Tryz.sizeOf42 rfl rfl rfl rfl rfl (by first | exact U0 | exact U1 | exact U2 | exact U3 | exact U4 | exact U5 | exact U6 | exact U7 | exact U8 | exact U9 | exact U10 | exact U11 | exact U12 | exact U13 | exact U14 | exact U15 | exact U16 | exact U17 | exact U18 | exact U19 | exact U20 | exact U21 | exact U22 | exact U23) (by rfl) ?_)
    refine SPL_nil ?_
    refine thenP_n ?_
    refine SP_seq ?_
    refine SP_region ?_
    refine SPL_y (y_fa fld_127_1 rfl) rfl ?_
    refine SPL_y (y_loads (vs := valV r8.v) Tryz.isAgg42 Tryz.sizeOf42 rfl rfl (by repeat (first | exact Cells.head rfl | apply Cells.tail))) rfl ?_
    refine SPL_one rfl (SP1_storeAll Tryz.sizeOf42 rfl rfl rfl rfl rfl (by first | exact U0 | exact U1 | exact U2 | exact U3 | exact U4 | exact U5 | exact U6 | exact U7 | exact U8 | exact U9 | exact U10 | exact U11 | exact U12 | exact U13 | exact U14 | exact U15 | exact U16 | exact U17 | exact U18 | exact U19 | exact U20 | exact U21 | exact U22 | exact U23) (by rfl) ?_)
    refine SPL_nil ?_
    refine thenP_n ?_
    refine SP_exit ?_
    refine inBlockP_miss rfl ?_
    refine thenP_exit ?_
    refine inBlockP_hit ?_
    refine thenP_n ?_
    exact Again.intro ((f2, boolV (decide (r8.k = 1)), r8.v, cn8, m8, hh8, sg8)) (⟨hP, hM⟩) (by dsimp only; omega) (by repeat (first | exact Sub.nil _ | refine Sub.cons rfl ?_)) (by repeat (first | exact Part.nil _ | (apply Part.cons; with_reducible (first | exact P0 | exact P1 | exact P2 | exact P3 | exact P4 | exact P5 | exact P6 | exact P7 | exact P8 | exact P9 | exact P10 | exact P11 | exact P12 | exact P13 | exact P14 | exact P15 | exact P16 | exact P17 | exact P18 | exact P19 | exact P20 | exact P21 | exact P22 | exact P23)) | (apply Part.flat; simp only [List.cons_append, List.nil_append]) | (apply Part.cons; (first | exact P0 | exact P1 | exact P2 | exact P3 | exact P4 | exact P5 | exact P6 | exact P7 | exact P8 | exact P9 | exact P10 | exact P11 | exact P12 | exact P13 | exact P14 | exact P15 | exact P16 | exact P17 | exact P18 | exact P19 | exact P20 | exact P21 | exact P22 | exact P23)) | (apply Part.nilc)))
  intro h6_1
  refine SPL_nil ?_
  refine thenP_n ?_
  refine SP_cond_t rfl ?_
  refine SP_region ?_
  refine SPL_y (y_move rfl) rfl ?_
  refine SPL_y (y_nil rfl) rfl ?_
  refine SPL_y (y_fa fld_117_1 rfl) rfl ?_
  refine SPL_y (y_load Tryz.isAgg3 rfl (by repeat (first | exact Cell.amid hpre rfl | exact Cell.head rfl | apply Cell.tail))) rfl ?_
  refine SPL_y (y_add rfl rfl (by omega)) rfl ?_
  refine SPL_y (y_nil rfl) rfl ?_
  refine SPL_y (y_fa fld_117_1 rfl) rfl ?_
  refine SPL_one rfl (SP1_store Tryz.sizeOf3 rfl rfl rfl (by first | exact U0 | exact U1 | exact U2 | exact U3 | exact U4 | exact U5 | exact U6 | exact U7 | exact U8 | exact U9 | exact U10 | exact U11 | exact U12 | exact U13 | exact U14 | exact U15 | exact U16 | exact U17 | exact U18 | exact U19 | exact U20 | exact U21 | exact U22 | exact U23) (by rfl) ?_)
  refine SPL_nil ?_
  refine thenP_n ?_
  refine SP_seq ?_
  refine SP_region ?_
  refine SPL_y (y_move rfl) rfl ?_
  refine SPL_y (y_fa fld_184_1 rfl) rfl ?_
  refine SPL_y (y_load Tryz.isAgg3 rfl (by repeat (first | exact Cell.amid hpre rfl | exact Cell.head rfl | apply Cell.tail))) rfl ?_
  refine SPL_y (y_fa fld_184_3 rfl) rfl ?_
  refine SPL_y (y_loads (vs := valV ea) Tryz.isAgg42 Tryz.sizeOf42 rfl rfl (by repeat (first | exact Cells.head rfl | apply Cells.tail))) rfl ?_
  refine SPL_y (y_build B42 rfl rfl (by simp only [fillL, List.foldl_cons, List.foldl_nil, List.set_cons_zero, List.set_cons_succ]; exact rfl)) rfl ?_
  rw [if_pos h6_1] at hP
  obtain ⟨x8, hq8, hP⟩ := bnd1 hP
  obtain ⟨r8, cn8, m8⟩ := x8
  dsimp only at hP
  refine SPL_one rfl (SP1_call (ih ph hh2 m2 m8 tc ea V.nil (cn1 + 1) cn8 (dep + 1) r8 hq8 (by omega) _ hM) Tryz.call54 rfl rfl (by repeat (first | exact Part.nil _ | (apply Part.cons; with_reducible (first | exact P0 | exact P1 | exact P2 | exact P3 | exact P4 | exact P5 | exact P6 | exact P7 | exact P8 | exact P9 | exact P10 | exact P11 | exact P12 | exact P13 | exact P14 | exact P15 | exact P16 | exact P17 | exact P18 | exact P19 | exact P20 | exact P21 | exact P22 | exact P23)) | (apply Part.flat; simp only [List.cons_append, List.nil_append]) | (apply Part.cons; (first | exact P0 | exact P1 | exact P2 | exact P3 | exact P4 | exact P5 | exact P6 | exact P7 | exact P8 | exact P9 | exact P10 | exact P11 | exact P12 | exact P13 | exact P14 | exact P15 | exact P16 | exact P17 | exact P18 | exact P19 | exact P20 | exact P21 | exact P22 | exact P23)) | (apply Part.nilc))) ?_)
  rintro v post H' ⟨rfl, hh8, sg8, hM, rfl⟩ hH
  try simp only [List.cons_append, List.nil_append] at hH
  subst hH
  refine SPL_one rfl (SP1_alloc Tryz.zeroValue127 rfl rfl ?_)
  intro b11
  refine SPL_one rfl (SP1_storeAll Tryz.sizeOf127 rfl rfl rfl rfl rfl (by first | exact U0 | exact U1 | exact U2 | exact U3 | exact U4 | exact U5 | exact U6 | exact U7 | exact U8 | exact U9 | exact U10 | exact U11 | exact U12 | exact U13 | exact U14 | exact U15 | exact U16 | exact U17 | exact U18 | exact U19 | exact U20 | exact U21 | exact U22 | exact U23) (by rfl) ?_)
  refine SPL_nil ?_
  refine thenP_n ?_
  refine SP_seq ?_
  refine SP_seq ?_
  refine SP_region ?_
  refine SPL_y (y_fa fld_127_0 rfl) rfl ?_
  refine SPL_y (y_load Tryz.isAgg3 rfl (by repeat (first | exact Cell.amid hpre rfl | exact Cell.head rfl | apply Cell.tail))) rfl ?_
  refine SPL_if (y_eql rfl rfl) rfl ?_ ?_
  · intro h9_2
    refine SPL_nil ?_
    refine thenP_n ?_
    refine SP_cond_t rfl ?_
    refine SP_seq ?_
    rw [if_pos h9_2] at hP
    refine SP_region ?_
    refine SPL_y (y_move rfl) rfl ?_
    refine SPL_y (y_nil rfl) rfl ?_
    refine SPL_y (y_fa fld_117_2 rfl) rfl ?_
    refine SPL_y (y_load Tryz.isAgg3 rfl (by repeat (first | exact Cell.amid hpre rfl | exact Cell.head rfl | apply Cell.tail))) rfl ?_
    refine SPL_y (y_subE rfl rfl (c := dep) (by omega) (by omega)) rfl ?_
    refine SPL_y (y_nil rfl) rfl ?_
    refine SPL_y (y_fa fld_117_2 rfl) rfl ?_
    refine SPL_one rfl (SP1_store Tryz.sizeOf3 rfl rfl rfl (by first | exact U0 | exact U1 | exact U2 | exact U3 | exact U4 | exact U5 | exact U6 | exact U7 | exact U8 | exact U9 | exact U10 | exact U11 | exact U12 | exact U13 | exact U14 | exact U15 | exact U16 | exact U17 | exact U18 | exact U19 | exact U20 | exact U21 | exact U22 | exact U23) (by rfl) ?_)
    refine SPL_nil ?_
    refine thenP_n ?_
    refine SP_seq ?_
    refine SP_region ?_
    refine SPL_y (y_loads Tryz.isAgg127 Tryz.sizeOf127 rfl rfl (by repeat (first | exact Cells.all _ | exact Cells.amid hpre rfl (by decide) | exact Cells.head rfl | apply Cells.tail))) rfl ?_
    refine SPL_one rfl (SP1_storeAll Tryz.sizeOf127 rfl rfl rfl rfl rfl (by first | exact U0 | exact U1 | exact U2 | exact U3 | exact U4 | exact U5 | exact U6 | exact U7 | exact U8 | exact U9 | exact U10 | exact U11 | exact U12 | exact U13 | exact U14 | exact U15 | exact U16 | exact U17 | exact U18 | exact U19 | exact U20 | exact U21 | exact U22 | exact U23) (by rfl) ?_)
    refine SPL_nil ?_
    refine thenP_n ?_
    refine SP_ret ?_
    refine thenP_ret (inBlockP_ret (thenP_ret (inBlockP_ret (thenP_ret (inBlockP_ret (bodyP_ret (H' := [sg8, blk cb 117 [pt b.vb, I cn8, I dep]]) (ResC rfl rfl Tryz.isAgg127 Tryz.sizeOf127 rfl (by repeat (first | exact Cells.all _ | exact Cells.amid hpre rfl (by decide) | exact Cells.head rfl | apply Cells.tail))) (by repeat (first | exact Part.nil _ | (apply Part.cons; with_reducible (first | exact P0 | exact P1 | exact P2 | exact P3 | exact P4 | exact P5 | exact P6 | exact P7 | exact P8 | exact P9 | exact P10 | exact P11 | exact P12 | exact P13 | exact P14 | exact P15 | exact P16 | exact P17 | exact P18 | exact P19 | exact P20 | exact P21 | exact P22 | exact P23)) | (apply Part.flat; simp only [List.cons_append, List.nil_append]) | (apply Part.cons; (first | exact P0 | exact P1 | exact P2 | exact P3 | exact P4 | exact P5 | exact P6 | exact P7 | exact P8 | exact P9 | exact P10 | exact P11 | exact P12 | exact P13 | exact P14 | exact P15 | exact P16 | exact P17 | exact P18 | exact P19 | exact P20 | exact P21 | exact P22 | exact P23)) | (apply Part.nilc))) ?_))))))
    injection hP with hP
    injection hP with q1 q2
    injection q2 with q2 q3
    subst q1
    subst q2
    subst q3
    exact ⟨rfl, _, _, hM, rfl⟩
  intro h9_2
  refine SPL_nil ?_
  refine thenP_n ?_
  refine SP_cond_f rfl ?_
  refine SP_skip ?_
  refine thenP_n ?_
  refine SP_seq ?_
  rw [if_neg h9_2] at hP
  refine SP_region ?_
  refine SPL_y (y_fa fld_127_0 rfl) rfl ?_
  refine SPL_y (y_load Tryz.isAgg3 rfl (by repeat (first | exact Cell.amid hpre rfl | exact Cell.head rfl | apply Cell.tail))) rfl ?_
  refine SPL_y (y_eql rfl rfl) rfl ?_
  refine SPL_one rfl (SP1_call (api_Bool (decide (r8.k = 1))) Tryz.call84 rfl rfl (by repeat (first | exact Part.nil _ | (apply Part.cons; with_reducible (first | exact P0 | exact P1 | exact P2 | exact P3 | exact P4 | exact P5 | exact P6 | exact P7 | exact P8 | exact P9 | exact P10 | exact P11 | exact P12 | exact P13 | exact P14 | exact P15 | exact P16 | exact P17 | exact P18 | exact P19 | exact P20 | exact P21 | exact P22 | exact P23)) | (apply Part.flat; simp only [List.cons_append, List.nil_append]) | (apply Part.cons; (first | exact P0 | exact P1 | exact P2 | exact P3 | exact P4 | exact P5 | exact P6 | exact P7 | exact P8 | exact P9 | exact P10 | exact P11 | exact P12 | exact P13 | exact P14 | exact P15 | exact P16 | exact P17 | exact P18 | exact P19 | exact P20 | exact P21 | exact P22 | exact P23)) | (apply Part.nilc))) ?_)
  rintro v post H' ⟨rfl, rfl⟩ hH
  try simp only [List.cons_append, List.nil_append] at hH
  subst hH
  refine SPL_one rfl (SP1_storeAll Tryz.sizeOf42 rfl rfl rfl rfl rfl (by first | exact U0 | exact U1 | exact U2 | exact U3 | exact U4 | exact U5 | exact U6 | exact U7 | exact U8 | exact U9 | exact U10 | exact U11 | exact U12 | exact U13 | exact U14 | exact U15 | exact U16 | exact U17 | exact U18 | exact U19 | exact U20 | exact U21 | exact U22 | exact U23) (by rfl) ?_)
  refine SPL_nil ?_
  refine thenP_n ?_
  refine SP_seq ?_
  refine SP_region ?_
  refine SPL_y (y_fa fld_127_1 rfl) rfl ?_
  refine SPL_y (y_loads (vs := valV r8.v) Tryz.isAgg42 Tryz.sizeOf42 rfl rfl (by repeat (first | exact Cells.head rfl | apply Cells.tail))) rfl ?_
  refine SPL_one rfl (SP1_storeAll Tryz.sizeOf42 rfl rfl rfl rfl rfl (by first | exact U0 | exact U1 | exact U2 | exact U3 | exact U4 | exact U5 | exact U6 | exact U7 | exact U8 | exact U9 | exact U10 | exact U11 | exact U12 | exact U13 | exact U14 | exact U15 | exact U16 | exact U17 | exact U18 | exact U19 | exact U20 | exact U21 | exact U22 | exact U23) (by rfl) ?_)
  refine SPL_nil ?_
  refine thenP_n ?_
  refine SP_exit ?_
  refine inBlockP_miss rfl ?_
  refine thenP_exit ?_
  refine inBlockP_hit ?_
  refine thenP_n ?_
  exact Again.intro ((f2, boolV (decide (r8.k = 1)), r8.v, cn8, m8, hh8, sg8)) (⟨hP, hM⟩) (by dsimp only; omega) (by repeat (first | exact Sub.nil _ | refine Sub.cons rfl ?_)) (by repeat (first | exact Part.nil _ | (apply Part.cons; with_reducible (first | exact P0 | exact P1 | exact P2 | exact P3 | exact P4 | exact P5 | exact P6 | exact P7 | exact P8 | exact P9 | exact P10 | exact P11 | exact P12 | exact P13 | exact P14 | exact P15 | exact P16 | exact P17 | exact P18 | exact P19 | exact P20 | exact P21 | exact P22 | exact P23)) | (apply Part.flat; simp only [List.cons_append, List.nil_append]) | (apply Part.cons; (first | exact P0 | exact P1 | exact P2 | exact P3 | exact P4 | exact P5 | exact P6 | exact P7 | exact P8 | exact P9 | exact P10 | exact P11 | exact P12 | exact P13 | exact P14 | exact P15 | exact P16 | exact P17 | exact P18 | exact P19 | exact P20 | exact P21 | exact P22 | exact P23)) | (apply Part.nilc)))

theorem co_runD (hN : NextSpec) (b : VB) (cb n k R : Nat) : ∀ d, CoSpecD b cb n k R d
  | 0 => fun ph hh m m' th a c cn cn' dep r hP => by cases hP
  | d + 1 => co_run_stepD hN b cb n k R d (co_runD hN b cb n k R d)
end Go.Sl
