/- Walks: package vm, valid (made by program out of short notes) -/
import Derived.Test.Qxb6500573aGreatDoorWVmL
namespace Go.Sl
open Go Go.Wl Go.Proofs
set_option maxRecDepth 100000
set_option linter.unusedVariables false
set_option linter.unusedSimpArgs false
theorem vm_valid (b : VB) (ph : PH) (hh : List TH) {m : VM} {x : V} {r : Bool} (hP : validM x m = some r) (seg : Seg) (hM : isVM b ph hh m seg) : Spec Tryz.prog 140 [pt b.vb, .agg (valV x).toArray] [seg] (Ret fun v H => v = .bool r ∧ H = [seg]) := by
  obtain ⟨t, n, s⟩ := x
  unfold validM at hP
  dsimp only at hP
  refine Spec_enter Tryz.func140 rfl Tryz.ntmps140 rfl ?_
  show SP _ _ _ _ _ [(0, _), (1, _)] _
  refine SP_seq ?_
  refine SP_region ?_
  refine SPL_one rfl (SP1_box rfl rfl rfl ?_)
  intro b3
  refine SPL_y (y_assign rfl) rfl ?_
  refine SPL_nil ?_
  refine thenP_n ?_
  refine SP_seq ?_
  refine SP_seq ?_
  refine SP_region ?_
  refine SPL_y (y_loads Tryz.isAgg42 Tryz.sizeOf42 rfl rfl (by repeat (first | exact Cells.all _ | exact Cells.amid hpre rfl (by decide) | exact Cells.head rfl | apply Cells.tail))) rfl ?_
  refine SPL_one rfl (SP1_call (api_WellFormed ⟨t, n, s⟩) Tryz.call91 rfl rfl (by repeat (first | exact Part.nil _ | (apply Part.cons; with_reducible (first | exact P0 | exact P1 | exact P2 | exact P3 | exact P4 | exact P5 | exact P6 | exact P7 | exact P8 | exact P9 | exact P10 | exact P11 | exact P12 | exact P13 | exact P14 | exact P15 | exact P16 | exact P17 | exact P18 | exact P19 | exact P20 | exact P21 | exact P22 | exact P23)) | (apply Part.flat; simp only [List.cons_append, List.nil_append]) | (apply Part.cons; (first | exact P0 | exact P1 | exact P2 | exact P3 | exact P4 | exact P5 | exact P6 | exact P7 | exact P8 | exact P9 | exact P10 | exact P11 | exact P12 | exact P13 | exact P14 | exact P15 | exact P16 | exact P17 | exact P18 | exact P19 | exact P20 | exact P21 | exact P22 | exact P23)) | (apply Part.nilc))) ?_)
  rintro v post H' ⟨rfl, rfl⟩ hH
  rcases hw : well ⟨t, n, s⟩ with _ | _
  · rw [hw, if_neg (by decide)] at hP
    try simp only [List.cons_append, List.nil_append] at hH
    subst hH
    try dsimp only [cond_true, cond_false, Bool.true_or, Bool.false_or] at hP
    refine SPL_y (y_not_f rfl) rfl ?_
    refine SPL_nil ?_
    refine thenP_n ?_
    refine SP_cond_t rfl ?_
    refine SP_seq ?_
    refine SP_region ?_
    refine SPL_y (y_assign rfl) rfl ?_
    refine SPL_nil ?_
    refine thenP_n ?_
    refine SP_ret ?_
    refine thenP_ret (bodyP_ret (H' := [seg]) (Res1 rfl rfl) (by repeat (first | exact Part.nil _ | (apply Part.cons; with_reducible (first | exact P0 | exact P1 | exact P2 | exact P3 | exact P4 | exact P5 | exact P6 | exact P7 | exact P8 | exact P9 | exact P10 | exact P11 | exact P12 | exact P13 | exact P14 | exact P15 | exact P16 | exact P17 | exact P18 | exact P19 | exact P20 | exact P21 | exact P22 | exact P23)) | (apply Part.flat; simp only [List.cons_append, List.nil_append]) | (apply Part.cons; (first | exact P0 | exact P1 | exact P2 | exact P3 | exact P4 | exact P5 | exact P6 | exact P7 | exact P8 | exact P9 | exact P10 | exact P11 | exact P12 | exact P13 | exact P14 | exact P15 | exact P16 | exact P17 | exact P18 | exact P19 | exact P20 | exact P21 | exact P22 | exact P23)) | (apply Part.nilc))) ?_)
    injection hP with hP
    subst hP
    exact ⟨by simp_all, rfl⟩
  · rw [hw, if_pos rfl] at hP
    try simp only [List.cons_append, List.nil_append] at hH
    subst hH
    try dsimp only [cond_true, cond_false, Bool.true_or, Bool.false_or] at hP
    refine SPL_y (y_not_t rfl) rfl ?_
    refine SPL_nil ?_
    refine thenP_n ?_
    refine SP_cond_f rfl ?_
    refine SP_skip ?_
    refine thenP_n ?_
    refine SP_seq ?_
    refine SP_seq ?_
    refine SP_region ?_
    refine SPL_y (y_fa fld_42_0 rfl) rfl ?_
    refine SPL_y (y_load Tryz.isAgg3 rfl (by repeat (first | exact Cell.amid hpre rfl | exact Cell.head rfl | apply Cell.tail))) rfl ?_
    refine SPL_nil ?_
    refine thenP_n ?_
    refine SP_block ?_
    refine SP_seq ?_
    refine SP_region ?_
    refine SPL_if (y_eql rfl rfl) rfl ?_ ?_
    · intro h4_0
      first | rw [if_pos h4_0] at hP | rw [if_neg h4_0] at hP | skip
      refine SPL_y (y_assign rfl) rfl ?_
      refine SPL_nil ?_
      refine thenP_n ?_
      refine SP_cond_t rfl ?_
      refine SP_seq ?_
      have h0 : 0 ≤ n := Decidable.byContradiction fun q => by rw [if_neg q] at hP; cases hP
      rw [if_pos h0] at hP
      obtain ⟨k, rfl⟩ : ∃ k : Nat, n = k := ⟨n.toNat, by omega⟩
      rw [Int.toNat_natCast] at hP
      refine SP_draw 8 [(0, 0), (1, 0), (2, 0), (4, 0), (6, 0), (3, 1), (5, 1), (7, 1), (8, 3), (9, 0)] mixed (by kernel_rfl) (fun _ _ _ _ _ h => h) (Part.refl _) ?_
      refine SPO_p rfl (y_move rfl) rfl ?_
      refine SPO_p rfl (y_nil rfl) rfl ?_
      refine SPO_p rfl (y_fa fld_115_0 rfl) rfl ?_
      refine SPO_p rfl (y_fa fld_42_1 rfl) rfl ?_
      refine SPO_p rfl (y_fa fld_42_1 rfl) rfl ?_
      refine SPO_h rfl (y_load Tryz.isAgg37 rfl (by repeat (first | exact hM.num | apply Cell.tail))) rfl ?_
      refine SPO_h rfl (y_load Tryz.isAgg40 rfl (by repeat (first | exact Cell.amid hpre rfl | exact Cell.head rfl | apply Cell.tail))) rfl ?_
      refine SPO_h rfl (y_load Tryz.isAgg40 rfl (by repeat (first | exact Cell.amid hpre rfl | exact Cell.head rfl | apply Cell.tail))) rfl ?_
      refine SPO_z (k := 0) rfl rfl (SP1_call (num_Cmp (pt b.nb) 2 k k) Tryz.call133 rfl rfl (by repeat (first | exact Part.nil _ | (apply Part.cons; with_reducible (first | exact P0 | exact P1 | exact P2 | exact P3 | exact P4 | exact P5 | exact P6 | exact P7 | exact P8 | exact P9 | exact P10 | exact P11 | exact P12 | exact P13 | exact P14 | exact P15 | exact P16 | exact P17 | exact P18 | exact P19 | exact P20 | exact P21 | exact P22 | exact P23)) | (apply Part.flat; simp only [List.cons_append, List.nil_append]) | (apply Part.cons; (first | exact P0 | exact P1 | exact P2 | exact P3 | exact P4 | exact P5 | exact P6 | exact P7 | exact P8 | exact P9 | exact P10 | exact P11 | exact P12 | exact P13 | exact P14 | exact P15 | exact P16 | exact P17 | exact P18 | exact P19 | exact P20 | exact P21 | exact P22 | exact P23)) | (apply Part.nilc))) ?_)
      rintro v post H' ⟨rfl, rfl⟩ hH
      rcases hcm : cmpM 2 k k with _ | _
      · rw [hcm] at hP
        try simp only [List.cons_append, List.nil_append] at hH
        subst hH
        try dsimp only [cond_true, cond_false, Bool.true_or, Bool.false_or] at hP
        refine SPO_p rfl (y_assign rfl) rfl ?_
        refine SPO_nil ?_
        refine thenP_n ?_
        refine SP_seq ?_
        refine SP_region ?_
        refine SPL_y (y_move rfl) rfl ?_
        refine SPL_y (y_not_f rfl) rfl ?_
        refine SPL_y (y_move rfl) rfl ?_
        refine SPL_gn rfl rfl rfl rfl ?_
        refine SPL_gn rfl rfl rfl rfl ?_
        refine SPL_gn rfl rfl rfl rfl ?_
        refine SPL_y (y_pick_t rfl rfl) rfl ?_
        refine SPL_y (y_assign rfl) rfl ?_
        refine SPL_nil ?_
        refine thenP_n ?_
        refine SP_ret ?_
        refine inBlockP_ret (thenP_ret (bodyP_ret (H' := [seg]) (Res1 rfl rfl) (by repeat (first | exact Part.nil _ | (apply Part.cons; with_reducible (first | exact P0 | exact P1 | exact P2 | exact P3 | exact P4 | exact P5 | exact P6 | exact P7 | exact P8 | exact P9 | exact P10 | exact P11 | exact P12 | exact P13 | exact P14 | exact P15 | exact P16 | exact P17 | exact P18 | exact P19 | exact P20 | exact P21 | exact P22 | exact P23)) | (apply Part.flat; simp only [List.cons_append, List.nil_append]) | (apply Part.cons; (first | exact P0 | exact P1 | exact P2 | exact P3 | exact P4 | exact P5 | exact P6 | exact P7 | exact P8 | exact P9 | exact P10 | exact P11 | exact P12 | exact P13 | exact P14 | exact P15 | exact P16 | exact P17 | exact P18 | exact P19 | exact P20 | exact P21 | exact P22 | exact P23)) | (apply Part.nilc))) ?_))
        injection hP with hP
        subst hP
        exact ⟨by simp_all, rfl⟩
      · rw [hcm] at hP
        try simp only [List.cons_append, List.nil_append] at hH
        subst hH
        try dsimp only [cond_true, cond_false, Bool.true_or, Bool.false_or] at hP
        refine SPO_p rfl (y_assign rfl) rfl ?_
        refine SPO_nil ?_
        refine thenP_n ?_
        refine SP_seq ?_
        refine SP_region ?_
        refine SPL_y (y_move rfl) rfl ?_
        refine SPL_y (y_not_t rfl) rfl ?_
        refine SPL_y (y_move rfl) rfl ?_
        refine SPL_gy rfl rfl ?_
        refine SPL_y (y_fa fld_42_1 rfl) rfl ?_
        refine SPL_gy rfl rfl ?_
        refine SPL_y (y_load Tryz.isAgg40 rfl (by repeat (first | exact Cell.amid hpre rfl | exact Cell.head rfl | apply Cell.tail))) rfl ?_
        refine SPL_gy rfl rfl ?_
        refine SPL_y (y_eql rfl rfl) rfl ?_
        refine SPL_y (y_pick_f rfl rfl) rfl ?_
        refine SPL_y (y_assign rfl) rfl ?_
        refine SPL_nil ?_
        refine thenP_n ?_
        refine SP_ret ?_
        refine inBlockP_ret (thenP_ret (bodyP_ret (H' := [seg]) (Res1 rfl rfl) (by repeat (first | exact Part.nil _ | (apply Part.cons; with_reducible (first | exact P0 | exact P1 | exact P2 | exact P3 | exact P4 | exact P5 | exact P6 | exact P7 | exact P8 | exact P9 | exact P10 | exact P11 | exact P12 | exact P13 | exact P14 | exact P15 | exact P16 | exact P17 | exact P18 | exact P19 | exact P20 | exact P21 | exact P22 | exact P23)) | (apply Part.flat; simp only [List.cons_append, List.nil_append]) | (apply Part.cons; (first | exact P0 | exact P1 | exact P2 | exact P3 | exact P4 | exact P5 | exact P6 | exact P7 | exact P8 | exact P9 | exact P10 | exact P11 | exact P12 | exact P13 | exact P14 | exact P15 | exact P16 | exact P17 | exact P18 | exact P19 | exact P20 | exact P21 | exact P22 | exact P23)) | (apply Part.nilc))) ?_))
        injection hP with hP
        subst hP
        exact ⟨by simp_all, rfl⟩
    intro h4_0
    first | rw [if_neg h4_0] at hP | rw [if_pos (Decidable.not_not.1 h4_0)] at hP | skip
    refine SPL_y (y_assign rfl) rfl ?_
    refine SPL_nil ?_
    refine thenP_n ?_
    refine SP_cond_f rfl ?_
    refine SP_seq ?_
    refine SP_region ?_
    refine SPL_if (y_eql rfl rfl) rfl ?_ ?_
    · intro h7_0
      first | rw [if_pos h7_0] at hP | rw [if_neg h7_0] at hP | skip
      refine SPL_y (y_assign rfl) rfl ?_
      refine SPL_nil ?_
      refine thenP_n ?_
      refine SP_cond_t rfl ?_
      refine SP_seq ?_
      have hl : m.vs.tabs.length ≤ 1000000 := Decidable.byContradiction fun q => by rw [if_neg q] at hP; cases hP
      rw [if_pos hl] at hP
      have htc : ∀ H : Hp, Cell (seg :: H) b.vb (0 + 1) (pt b.tb) := fun H => hM.tabs
      obtain ⟨r1, stb, r2, hseg, htb, hputB⟩ := hM.opnB
      subst hseg
      have htc2 : ∀ H : Hp, Cell (r1 :: stb :: r2 :: H) b.vb (0 + 1) (pt b.tb) := fun H => Cell.opened (pre := [r1, stb, r2]) (htc [])
      refine SP_openAt [r1, stb, r2] (by first | exact P0 | exact P1 | exact P2 | exact P3 | exact P4 | exact P5 | exact P6 | exact P7 | exact P8 | exact P9 | exact P10 | exact P11 | exact P12 | exact P13 | exact P14 | exact P15 | exact P16 | exact P17 | exact P18 | exact P19 | exact P20 | exact P21 | exact P22 | exact P23) ?_
      simp only [List.cons_append, List.nil_append]
      refine SP_region ?_
      refine SPL_y (y_move rfl) rfl ?_
      refine SPL_y (y_nil rfl) rfl ?_
      refine SPL_y (y_fa fld_115_1 rfl) rfl ?_
      refine SPL_y (y_load Tryz.isAgg54 rfl (by repeat (first | exact (htc2 _) | apply Cell.tail))) rfl ?_
      refine SPL_one rfl (SP1_call (tabs_Count b.tb b.nb m.vs.tabs stb htb) Tryz.call178 rfl rfl (by repeat (first | exact Part.nil _ | (apply Part.cons; with_reducible (first | exact P0 | exact P1 | exact P2 | exact P3 | exact P4 | exact P5 | exact P6 | exact P7 | exact P8 | exact P9 | exact P10 | exact P11 | exact P12 | exact P13 | exact P14 | exact P15 | exact P16 | exact P17 | exact P18 | exact P19 | exact P20 | exact P21 | exact P22 | exact P23)) | (apply Part.flat; simp only [List.cons_append, List.nil_append]) | (apply Part.cons; (first | exact P0 | exact P1 | exact P2 | exact P3 | exact P4 | exact P5 | exact P6 | exact P7 | exact P8 | exact P9 | exact P10 | exact P11 | exact P12 | exact P13 | exact P14 | exact P15 | exact P16 | exact P17 | exact P18 | exact P19 | exact P20 | exact P21 | exact P22 | exact P23)) | (apply Part.nilc))) ?_)
      rintro v post H' ⟨rfl, rfl⟩ hH
      try simp only [List.cons_append, List.nil_append] at hH
      subst hH
      refine SPL_y (y_assign rfl) rfl ?_
      refine SPL_nil ?_
      refine thenP_n ?_
      refine SP_seq ?_
      refine SP_region ?_
      refine SPL_y (y_fa fld_42_1 rfl) rfl ?_
      refine SPL_y (y_load Tryz.isAgg40 rfl (by repeat (first | exact Cell.amid hpre rfl | exact Cell.head rfl | apply Cell.tail))) rfl ?_
      refine SPL_y (y_move rfl) rfl ?_
      refine SPL_y (y_conv Tryz.underlying3 Tryz.underlying40 rfl (show IntKind.u64.wrap (m.vs.tabs.length : Int) = (m.vs.tabs.length : Int) from by rw [IntKind.wrap_u64]; omega)) rfl ?_
      refine SPL_y (y_lss rfl rfl) rfl ?_
      refine SPL_y (y_assign rfl) rfl ?_
      refine SPL_nil ?_
      refine thenP_n ?_
      refine SP_ret ?_
      refine inBlockP_ret (thenP_ret (bodyP_ret (H' := [List.flatten [r1, stb, r2]]) (Res1 rfl rfl) (by repeat (first | exact Part.nil _ | (apply Part.cons; with_reducible (first | exact P0 | exact P1 | exact P2 | exact P3 | exact P4 | exact P5 | exact P6 | exact P7 | exact P8 | exact P9 | exact P10 | exact P11 | exact P12 | exact P13 | exact P14 | exact P15 | exact P16 | exact P17 | exact P18 | exact P19 | exact P20 | exact P21 | exact P22 | exact P23)) | (apply Part.flat; simp only [List.cons_append, List.nil_append]) | (apply Part.cons; (first | exact P0 | exact P1 | exact P2 | exact P3 | exact P4 | exact P5 | exact P6 | exact P7 | exact P8 | exact P9 | exact P10 | exact P11 | exact P12 | exact P13 | exact P14 | exact P15 | exact P16 | exact P17 | exact P18 | exact P19 | exact P20 | exact P21 | exact P22 | exact P23)) | (apply Part.nilc))) ?_))
      injection hP with hP
      subst hP
      exact ⟨by simp_all, rfl⟩
    intro h7_0
    first | rw [if_neg h7_0] at hP | rw [if_pos (Decidable.not_not.1 h7_0)] at hP | skip
    refine SPL_y (y_assign rfl) rfl ?_
    refine SPL_nil ?_
    refine thenP_n ?_
    refine SP_cond_f rfl ?_
    refine SP_seq ?_
    refine SP_region ?_
    refine SPL_if (y_eql rfl rfl) rfl ?_ ?_
    · intro h10_0
      first | rw [if_pos h10_0] at hP | rw [if_neg h10_0] at hP | skip
      refine SPL_y (y_assign rfl) rfl ?_
      refine SPL_nil ?_
      refine thenP_n ?_
      refine SP_cond_t rfl ?_
      refine SP_seq ?_
      have hl : m.vs.clos.length ≤ 1000000 := Decidable.byContradiction fun q => by rw [if_neg q] at hP; cases hP
      rw [if_pos hl] at hP
      obtain ⟨la, lc, hlc⟩ := hM.closL
      refine SP_draw 999 [(0, 0), (2, 0), (3, 0), (4, 0), (1, 1), (5, 1), (6, 0), (7, 0), (8, 0), (9, 0)] mixed (by kernel_rfl) (fun _ _ _ _ _ h => h) (Part.refl _) ?_
      refine SPO_p rfl (y_fa fld_42_1 rfl) rfl ?_
      refine SPO_p rfl (y_move rfl) rfl ?_
      refine SPO_p rfl (y_nil rfl) rfl ?_
      refine SPO_p rfl (y_fa fld_115_6 rfl) rfl ?_
      refine SPO_h rfl (y_load Tryz.isAgg40 rfl (by repeat (first | exact Cell.amid hpre rfl | exact Cell.head rfl | apply Cell.tail))) rfl ?_
      refine SPO_h rfl (y_load Tryz.isAgg111 rfl (by repeat (first | exact (hlc _) | apply Cell.tail))) rfl ?_
      refine SPO_p rfl (y_len_l Tryz.underlying111 rfl) rfl ?_
      refine SPO_p rfl (y_conv Tryz.underlying3 Tryz.underlying40 rfl (show IntKind.u64.wrap (m.vs.clos.length : Int) = (m.vs.clos.length : Int) from by rw [IntKind.wrap_u64]; omega)) rfl ?_
      refine SPO_p rfl (y_lss rfl rfl) rfl ?_
      refine SPO_p rfl (y_assign rfl) rfl ?_
      refine SPO_nil ?_
      refine thenP_n ?_
      refine SP_ret ?_
      refine inBlockP_ret (thenP_ret (bodyP_ret (H' := [seg]) (Res1 rfl rfl) (by repeat (first | exact Part.nil _ | (apply Part.cons; with_reducible (first | exact P0 | exact P1 | exact P2 | exact P3 | exact P4 | exact P5 | exact P6 | exact P7 | exact P8 | exact P9 | exact P10 | exact P11 | exact P12 | exact P13 | exact P14 | exact P15 | exact P16 | exact P17 | exact P18 | exact P19 | exact P20 | exact P21 | exact P22 | exact P23)) | (apply Part.flat; simp only [List.cons_append, List.nil_append]) | (apply Part.cons; (first | exact P0 | exact P1 | exact P2 | exact P3 | exact P4 | exact P5 | exact P6 | exact P7 | exact P8 | exact P9 | exact P10 | exact P11 | exact P12 | exact P13 | exact P14 | exact P15 | exact P16 | exact P17 | exact P18 | exact P19 | exact P20 | exact P21 | exact P22 | exact P23)) | (apply Part.nilc))) ?_))
      injection hP with hP
      subst hP
      exact ⟨by simp_all, rfl⟩
    intro h10_0
    first | rw [if_neg h10_0] at hP | rw [if_pos (Decidable.not_not.1 h10_0)] at hP | skip
    refine SPL_y (y_assign rfl) rfl ?_
    refine SPL_nil ?_
    refine thenP_n ?_
    refine SP_cond_f rfl ?_
    refine SP_seq ?_
    refine SP_region ?_
    refine SPL_ifn (y_eql rfl rfl) rfl ?_ ?_
    · intro h12_0
      first | rw [if_neg h12_0] at hP | rw [if_pos (Decidable.not_not.1 h12_0)] at hP | skip
      refine SPL_y (y_assign rfl) rfl ?_
      refine SPL_nil ?_
      refine thenP_n ?_
      refine SP_cond_f rfl ?_
      refine SP_skip ?_
      refine inBlockP_n ?_
      refine thenP_n ?_
      refine SP_seq ?_
      refine SP_region ?_
      refine SPL_y (y_assign rfl) rfl ?_
      refine SPL_nil ?_
      refine thenP_n ?_
      refine SP_ret ?_
      refine bodyP_ret (H' := [seg]) (Res1 rfl rfl) (by repeat (first | exact Part.nil _ | (apply Part.cons; with_reducible (first | exact P0 | exact P1 | exact P2 | exact P3 | exact P4 | exact P5 | exact P6 | exact P7 | exact P8 | exact P9 | exact P10 | exact P11 | exact P12 | exact P13 | exact P14 | exact P15 | exact P16 | exact P17 | exact P18 | exact P19 | exact P20 | exact P21 | exact P22 | exact P23)) | (apply Part.flat; simp only [List.cons_append, List.nil_append]) | (apply Part.cons; (first | exact P0 | exact P1 | exact P2 | exact P3 | exact P4 | exact P5 | exact P6 | exact P7 | exact P8 | exact P9 | exact P10 | exact P11 | exact P12 | exact P13 | exact P14 | exact P15 | exact P16 | exact P17 | exact P18 | exact P19 | exact P20 | exact P21 | exact P22 | exact P23)) | (apply Part.nilc))) ?_
      injection hP with hP
      subst hP
      exact ⟨by simp_all, rfl⟩
    intro h12_0
    first | rw [if_pos h12_0] at hP | rw [if_neg h12_0] at hP | skip
    refine SPL_y (y_assign rfl) rfl ?_
    refine SPL_nil ?_
    refine thenP_n ?_
    refine SP_cond_t rfl ?_
    refine SP_seq ?_
    have hl : m.vs.threads.length ≤ 1000000 := Decidable.byContradiction fun q => by rw [if_neg q] at hP; cases hP
    rw [if_pos hl] at hP
    refine SP_draw 999 [(0, 0), (2, 0), (3, 0), (4, 0), (1, 1), (5, 1), (6, 0), (7, 0), (8, 0), (9, 0)] mixed (by kernel_rfl) (fun _ _ _ _ _ h => h) (Part.refl _) ?_
    refine SPO_p rfl (y_fa fld_42_1 rfl) rfl ?_
    refine SPO_p rfl (y_move rfl) rfl ?_
    refine SPO_p rfl (y_nil rfl) rfl ?_
    refine SPO_p rfl (y_fa fld_115_9 rfl) rfl ?_
    refine SPO_h rfl (y_load Tryz.isAgg40 rfl (by repeat (first | exact Cell.amid hpre rfl | exact Cell.head rfl | apply Cell.tail))) rfl ?_
    refine SPO_h rfl (y_load Tryz.isAgg107 rfl (by repeat (first | exact hM.threads | apply Cell.tail))) rfl ?_
    refine SPO_p rfl (y_len_l Tryz.underlying107 rfl) rfl ?_
    refine SPO_p rfl (y_conv Tryz.underlying3 Tryz.underlying40 rfl (show IntKind.u64.wrap (m.vs.threads.length : Int) = (m.vs.threads.length : Int) from by rw [IntKind.wrap_u64]; omega)) rfl ?_
    refine SPO_p rfl (y_lss rfl rfl) rfl ?_
    refine SPO_p rfl (y_assign rfl) rfl ?_
    refine SPO_nil ?_
    refine thenP_n ?_
    refine SP_ret ?_
    refine inBlockP_ret (thenP_ret (bodyP_ret (H' := [seg]) (Res1 rfl rfl) (by repeat (first | exact Part.nil _ | (apply Part.cons; with_reducible (first | exact P0 | exact P1 | exact P2 | exact P3 | exact P4 | exact P5 | exact P6 | exact P7 | exact P8 | exact P9 | exact P10 | exact P11 | exact P12 | exact P13 | exact P14 | exact P15 | exact P16 | exact P17 | exact P18 | exact P19 | exact P20 | exact P21 | exact P22 | exact P23)) | (apply Part.flat; simp only [List.cons_append, List.nil_append]) | (apply Part.cons; (first | exact P0 | exact P1 | exact P2 | exact P3 | exact P4 | exact P5 | exact P6 | exact P7 | exact P8 | exact P9 | exact P10 | exact P11 | exact P12 | exact P13 | exact P14 | exact P15 | exact P16 | exact P17 | exact P18 | exact P19 | exact P20 | exact P21 | exact P22 | exact P23)) | (apply Part.nilc))) ?_))
    injection hP with hP
    subst hP
    exact ⟨by simp_all, rfl⟩

end Go.Sl
