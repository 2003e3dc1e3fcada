/- Walks: package vm, return and unwind (made by program out of short notes) -/
import Derived.Test.Qxb6500573aGreatDoorAZ
import Derived.Test.Qxb6500573aGreatDoorWVmM
import Derived.Test.Qxb6500573aGreatDoorWVmK
namespace Go.Sl
open Go Go.Wl Go.Proofs
set_option maxRecDepth 100000
set_option linter.unusedVariables false
set_option linter.unusedSimpArgs false
theorem vm_ret (b : VB) (ph : PH) (hh : List TH) {m : VM} {m' : VM} {e : Ev} {th i : Nat} {fv : Value} (hfv : FP hh th i fv) (hP : retM th i m = some (e, m')) (seg : Seg) (hM : isVM b ph hh m seg) : Spec Tryz.prog 266 [pt b.vb, tp b th, fv] [seg] (Ret (vOkK b ph hh m' (.agg (evV e).toArray))) := by
  unfold retM at hP
  obtain ⟨g, q, hg, hq, rfl⟩ := hfv
  refine Spec_enter Tryz.func266 rfl Tryz.ntmps266 rfl ?_
  show SP _ _ _ _ _ [(0, _), (1, _), (2, _)] _
  refine SP_seq ?_
  refine SP_region ?_
  refine SPL_one rfl (SP1_alloc Tryz.zeroValue184 rfl rfl ?_)
  intro b6
  refine SPL_nil ?_
  refine thenP_n ?_
  refine SP_seq ?_
  refine SP_region ?_
  refine SPL_y (y_move rfl) rfl ?_
  obtain ⟨v1, m1, hq1, hP⟩ := bnd2 hP
  refine SPL_one rfl (SP1_call (vm_pop b ph _ hq1 _ hM) Tryz.call264 rfl rfl (by repeat (first | exact Part.nil _ | (apply Part.cons; with_reducible (first | exact P0 | exact P1 | exact P2 | exact P3 | exact P4 | exact P5 | exact P6 | exact P7 | exact P8 | exact P9 | exact P10 | exact P11 | exact P12 | exact P13 | exact P14 | exact P15 | exact P16 | exact P17 | exact P18 | exact P19 | exact P20 | exact P21 | exact P22 | exact P23)) | (apply Part.flat; simp only [List.cons_append, List.nil_append]) | (apply Part.cons; (first | exact P0 | exact P1 | exact P2 | exact P3 | exact P4 | exact P5 | exact P6 | exact P7 | exact P8 | exact P9 | exact P10 | exact P11 | exact P12 | exact P13 | exact P14 | exact P15 | exact P16 | exact P17 | exact P18 | exact P19 | exact P20 | exact P21 | exact P22 | exact P23)) | (apply Part.nilc))) ?_)
  rintro v post H' ⟨rfl, sg1, hM, rfl⟩ hH
  try simp only [List.cons_append, List.nil_append] at hH
  subst hH
  refine SPL_one rfl (SP1_alloc Tryz.zeroValue42 rfl rfl ?_)
  intro b7
  refine SPL_one rfl (SP1_storeAll Tryz.sizeOf42 rfl rfl rfl rfl rfl (by first | exact U0 | exact U1 | exact U2 | exact U3 | exact U4 | exact U5 | exact U6 | exact U7 | exact U8 | exact U9 | exact U10 | exact U11 | exact U12 | exact U13 | exact U14 | exact U15 | exact U16 | exact U17 | exact U18 | exact U19 | exact U20 | exact U21 | exact U22 | exact U23) (by rfl) ?_)
  refine SPL_nil ?_
  refine thenP_n ?_
  refine SP_seq ?_
  refine SP_region ?_
  refine SPL_y (y_move rfl) rfl ?_
  obtain ⟨v2, m2, hq2, hP⟩ := bnd2 hP
  refine SPL_one rfl (SP1_call (vm_pop b ph _ hq2 _ hM) Tryz.call264 rfl rfl (by repeat (first | exact Part.nil _ | (apply Part.cons; with_reducible (first | exact P0 | exact P1 | exact P2 | exact P3 | exact P4 | exact P5 | exact P6 | exact P7 | exact P8 | exact P9 | exact P10 | exact P11 | exact P12 | exact P13 | exact P14 | exact P15 | exact P16 | exact P17 | exact P18 | exact P19 | exact P20 | exact P21 | exact P22 | exact P23)) | (apply Part.flat; simp only [List.cons_append, List.nil_append]) | (apply Part.cons; (first | exact P0 | exact P1 | exact P2 | exact P3 | exact P4 | exact P5 | exact P6 | exact P7 | exact P8 | exact P9 | exact P10 | exact P11 | exact P12 | exact P13 | exact P14 | exact P15 | exact P16 | exact P17 | exact P18 | exact P19 | exact P20 | exact P21 | exact P22 | exact P23)) | (apply Part.nilc))) ?_)
  rintro v post H' ⟨rfl, sg2, hM, rfl⟩ hH
  try simp only [List.cons_append, List.nil_append] at hH
  subst hH
  refine SPL_one rfl (SP1_alloc Tryz.zeroValue42 rfl rfl ?_)
  intro b8
  refine SPL_one rfl (SP1_storeAll Tryz.sizeOf42 rfl rfl rfl rfl rfl (by first | exact U0 | exact U1 | exact U2 | exact U3 | exact U4 | exact U5 | exact U6 | exact U7 | exact U8 | exact U9 | exact U10 | exact U11 | exact U12 | exact U13 | exact U14 | exact U15 | exact U16 | exact U17 | exact U18 | exact U19 | exact U20 | exact U21 | exact U22 | exact U23) (by rfl) ?_)
  refine SPL_nil ?_
  refine thenP_n ?_
  refine SP_seq ?_
  refine SP_seq ?_
  try unfold getT at hP
  obtain ⟨t3, ht3, hP⟩ := bnd1 hP
  obtain ⟨g3, oa3, oc3, hg3, _, hrow3, hst3, hfr3, _⟩ := hM.thr ht3
  refine SP_region ?_
  refine SPL_y (y_move rfl) rfl ?_
  refine SPL_y (y_nil rfl) rfl ?_
  refine SPL_y (y_fa fld_263_3 rfl) rfl ?_
  refine SPL_y (y_load Tryz.isAgg261 rfl (by repeat (first | exact (hrow3 _ 3 _ rfl) | apply Cell.tail))) rfl ?_
  refine SPL_y (y_len_l Tryz.underlying261 rfl) rfl ?_
  refine SPL_if (y_eql rfl rfl) rfl ?_ ?_
  · intro h3_5
    first | rw [if_pos h3_5] at hP | rw [if_neg h3_5] at hP | skip
    refine SPL_nil ?_
    refine thenP_n ?_
    refine SP_cond_t rfl ?_
    refine SP_seq ?_
    refine SP_region ?_
    refine SPL_y (y_move rfl) rfl ?_
    refine SPL_y (y_move rfl) rfl ?_
    obtain ⟨m4, hq4, hP⟩ := bnd1 hP
    refine SPL_one rfl (SP1_call (vm_kill b ph hh hq4 _ hM) Tryz.call259 rfl rfl (by repeat (first | exact Part.nil _ | (apply Part.cons; with_reducible (first | exact P0 | exact P1 | exact P2 | exact P3 | exact P4 | exact P5 | exact P6 | exact P7 | exact P8 | exact P9 | exact P10 | exact P11 | exact P12 | exact P13 | exact P14 | exact P15 | exact P16 | exact P17 | exact P18 | exact P19 | exact P20 | exact P21 | exact P22 | exact P23)) | (apply Part.flat; simp only [List.cons_append, List.nil_append]) | (apply Part.cons; (first | exact P0 | exact P1 | exact P2 | exact P3 | exact P4 | exact P5 | exact P6 | exact P7 | exact P8 | exact P9 | exact P10 | exact P11 | exact P12 | exact P13 | exact P14 | exact P15 | exact P16 | exact P17 | exact P18 | exact P19 | exact P20 | exact P21 | exact P22 | exact P23)) | (apply Part.nilc))) ?_)
    rintro v post H' ⟨rfl, sg4, hM, rfl⟩ hH
    try simp only [List.cons_append, List.nil_append] at hH
    subst hH
    refine SPL_nil ?_
    refine thenP_n ?_
    refine SP_seq ?_
    refine SP_region ?_
    refine SPL_y (y_loads Tryz.isAgg42 Tryz.sizeOf42 rfl rfl (by repeat (first | exact Cells.all _ | exact Cells.amid hpre rfl (by decide) | exact Cells.head rfl | apply Cells.tail))) rfl ?_
    refine SPL_y (y_loads Tryz.isAgg42 Tryz.sizeOf42 rfl rfl (by repeat (first | exact Cells.all _ | exact Cells.amid hpre rfl (by decide) | exact Cells.head rfl | apply Cells.tail))) rfl ?_
    refine SPL_y (y_buildN (l := (evV ⟨1, 0, 0, v2, v1⟩)) BN184 rfl rfl) rfl ?_
    refine SPL_one rfl (SP1_storeAll Tryz.sizeOf184 rfl rfl rfl rfl rfl (by first | exact U0 | exact U1 | exact U2 | exact U3 | exact U4 | exact U5 | exact U6 | exact U7 | exact U8 | exact U9 | exact U10 | exact U11 | exact U12 | exact U13 | exact U14 | exact U15 | exact U16 | exact U17 | exact U18 | exact U19 | exact U20 | exact U21 | exact U22 | exact U23) (by rfl) ?_)
    refine SPL_nil ?_
    refine thenP_n ?_
    refine SP_ret ?_
    refine thenP_ret (bodyP_ret (H' := [sg4]) (ResC rfl rfl Tryz.isAgg184 Tryz.sizeOf184 rfl (by repeat (first | exact Cells.all _ | exact Cells.amid hpre rfl (by decide) | exact Cells.head rfl | apply Cells.tail))) (by repeat (first | exact Part.nil _ | (apply Part.cons; with_reducible (first | exact P0 | exact P1 | exact P2 | exact P3 | exact P4 | exact P5 | exact P6 | exact P7 | exact P8 | exact P9 | exact P10 | exact P11 | exact P12 | exact P13 | exact P14 | exact P15 | exact P16 | exact P17 | exact P18 | exact P19 | exact P20 | exact P21 | exact P22 | exact P23)) | (apply Part.flat; simp only [List.cons_append, List.nil_append]) | (apply Part.cons; (first | exact P0 | exact P1 | exact P2 | exact P3 | exact P4 | exact P5 | exact P6 | exact P7 | exact P8 | exact P9 | exact P10 | exact P11 | exact P12 | exact P13 | exact P14 | exact P15 | exact P16 | exact P17 | exact P18 | exact P19 | exact P20 | exact P21 | exact P22 | exact P23)) | (apply Part.nilc))) ?_)
    injection hP with hP
    injection hP with h1 h2
    subst h1
    subst h2
    exact ⟨rfl, hh, _, KF.refl _, hM, rfl⟩
  intro h3_5
  first | rw [if_neg h3_5] at hP | rw [if_pos (Decidable.not_not.1 h3_5)] at hP | skip
  refine SPL_nil ?_
  refine thenP_n ?_
  refine SP_cond_f rfl ?_
  refine SP_skip ?_
  refine thenP_n ?_
  refine SP_seq ?_
  obtain ⟨f6, hf6, hP⟩ := bnd1 hP
  refine SP_region ?_
  refine SPL_y (y_move rfl) rfl ?_
  refine SPL_y (y_move rfl) rfl ?_
  refine SPL_y (y_move rfl) rfl ?_
  refine SPL_y (y_nil rfl) rfl ?_
  refine SPL_y (y_fa fld_331_2 rfl) rfl ?_
  refine SPL_y (y_load Tryz.isAgg3 rfl (by repeat (first | exact (hM.frF hf6 hg hq rfl) | apply Cell.tail))) rfl ?_
  obtain ⟨m6, hq6, hP⟩ := bnd1 hP
  refine SPL_one rfl (SP1_call (vm_closeFrom b ph hh hq6 _ hM) Tryz.call258 rfl rfl (by repeat (first | exact Part.nil _ | (apply Part.cons; with_reducible (first | exact P0 | exact P1 | exact P2 | exact P3 | exact P4 | exact P5 | exact P6 | exact P7 | exact P8 | exact P9 | exact P10 | exact P11 | exact P12 | exact P13 | exact P14 | exact P15 | exact P16 | exact P17 | exact P18 | exact P19 | exact P20 | exact P21 | exact P22 | exact P23)) | (apply Part.flat; simp only [List.cons_append, List.nil_append]) | (apply Part.cons; (first | exact P0 | exact P1 | exact P2 | exact P3 | exact P4 | exact P5 | exact P6 | exact P7 | exact P8 | exact P9 | exact P10 | exact P11 | exact P12 | exact P13 | exact P14 | exact P15 | exact P16 | exact P17 | exact P18 | exact P19 | exact P20 | exact P21 | exact P22 | exact P23)) | (apply Part.nilc))) ?_)
  rintro v post H' ⟨rfl, sg6, hM, rfl⟩ hH
  try simp only [List.cons_append, List.nil_append] at hH
  subst hH
  refine SPL_nil ?_
  refine thenP_n ?_
  refine SP_seq ?_
  obtain ⟨f7, hf7, hP⟩ := bnd1 hP
  try unfold getT at hP
  obtain ⟨t7, ht7, hP⟩ := bnd1 hP
  obtain ⟨g7, oa7, oc7, hg7, _, hrow7, hst7, hfr7, _⟩ := hM.thr ht7
  have hr7 : 0 ≤ f7.ret ∧ f7.ret ≤ t7.stack.length := Decidable.byContradiction fun q => by rw [if_neg q] at hP; cases hP
  rw [if_pos hr7] at hP
  rw [hg] at hg7
  injection hg7 with hg7
  subst hg7
  have hsp7 : ∃ xs sg, Arr 42 3 g.sa t7.stack.length g.sc xs sg := by
    obtain ⟨_, _, _, _, _, _, _, _, _, _, _, _, hss, _⟩ := hM.opnT ht7 hg
    exact ⟨_, _, hss⟩
  obtain ⟨xs7, sx7, hsp7⟩ := hsp7
  have hml7 := hsp7.mle
  obtain ⟨pre7, post7, na7, nc7, sg7, hpre7, hup7, hM7⟩ := hM.cutS ht7 hg (j := f7.ret.toNat) (by omega)
  refine SP_draw 12 [(0, 0), (1, 0), (2, 0), (3, 0), (5, 0), (6, 0), (7, 0), (4, 1), (8, 1), (9, 0), (10, 0), (11, 0), (12, 3)] mixed (by kernel_rfl) (fun _ _ _ _ _ h => h) (Part.refl _) ?_
  refine SPO_p rfl (y_move rfl) rfl ?_
  refine SPO_p rfl (y_move rfl) rfl ?_
  refine SPO_p rfl (y_nil rfl) rfl ?_
  refine SPO_p rfl (y_fa fld_263_2 rfl) rfl ?_
  refine SPO_p rfl (y_move rfl) rfl ?_
  refine SPO_p rfl (y_nil rfl) rfl ?_
  refine SPO_p rfl (y_fa fld_331_3 rfl) rfl ?_
  refine SPO_h rfl (y_load Tryz.isAgg90 rfl (by repeat (first | exact (hrow7 _ 2 _ rfl) | apply Cell.tail))) rfl ?_
  refine SPO_h rfl (y_load Tryz.isAgg3 rfl (by repeat (first | exact (hM.frF hf7 hg hq rfl) | apply Cell.tail))) rfl ?_
  refine SPO_p rfl (y_cut hsp7 Tryz.underlying90 Tryz.sizeOf42 rfl rfl (by omega)) rfl ?_
  refine SPO_p rfl (y_nil rfl) rfl ?_
  refine SPO_p rfl (y_fa fld_263_2 rfl) rfl ?_
  refine SPO_z (k := 0) rfl rfl (SP1_storeM (j := 2) (pre := pre7) (cs := trow t7 g na7 nc7) (post := post7) Tryz.sizeOf90 rfl rfl rfl hpre7 (by repeat (first | exact hup7 _ | apply Upd.tail)) (by rfl) ?_)
  replace hM := hM7
  refine SPO_nil ?_
  refine thenP_n ?_
  refine SP_seq ?_
  refine SP_seq ?_
  have hf8 : getF (setTh m6 th { t7 with stack := t7.stack.take f7.ret.toNat }) th i = some f7 := getF_cut hf7 ht7
  refine SP_region ?_
  refine SPL_y (y_move rfl) rfl ?_
  refine SPL_y (y_nil rfl) rfl ?_
  refine SPL_y (y_fa fld_331_4 rfl) rfl ?_
  refine SPL_y (y_load Tryz.isAgg4 rfl (by repeat (first | exact (hM7.frF hf8 hg hq rfl) | apply Cell.tail))) rfl ?_
  refine SPL_nil ?_
  refine thenP_n ?_
  refine SP_cond_b rfl ?_ ?_
  · intro hc47
    first | rw [if_pos hc47] at hP | rw [if_neg hc47] at hP | skip
    refine SP_region ?_
    refine SPL_y (y_move rfl) rfl ?_
    refine SPL_y (y_build B42 rfl rfl (by simp only [fillL, List.foldl_cons, List.foldl_nil, List.set_cons_zero, List.set_cons_succ]; exact rfl)) rfl ?_
    refine SPL_y (y_loads Tryz.isAgg42 Tryz.sizeOf42 rfl rfl (by repeat (first | exact Cells.all _ | exact Cells.amid hpre rfl (by decide) | exact Cells.head rfl | apply Cells.tail))) rfl ?_
    refine SPL_one rfl (SP1_sliceN (l := ([vb1, v2].flatMap valV)) el_90 rfl (by kernel_rfl) rfl rfl ?_)
    intro b51
    obtain ⟨m9, hq9, hP⟩ := bnd1 hP
    refine SPL_one rfl (SP1_call (vm_push b ph hh _ hq9 _ hM) Tryz.call142 rfl rfl (by repeat (first | exact Part.nil _ | (apply Part.cons; with_reducible (first | exact P0 | exact P1 | exact P2 | exact P3 | exact P4 | exact P5 | exact P6 | exact P7 | exact P8 | exact P9 | exact P10 | exact P11 | exact P12 | exact P13 | exact P14 | exact P15 | exact P16 | exact P17 | exact P18 | exact P19 | exact P20 | exact P21 | exact P22 | exact P23)) | (apply Part.flat; simp only [List.cons_append, List.nil_append]) | (apply Part.cons; (first | exact P0 | exact P1 | exact P2 | exact P3 | exact P4 | exact P5 | exact P6 | exact P7 | exact P8 | exact P9 | exact P10 | exact P11 | exact P12 | exact P13 | exact P14 | exact P15 | exact P16 | exact P17 | exact P18 | exact P19 | exact P20 | exact P21 | exact P22 | exact P23)) | (apply Part.nilc))) ?_)
    rintro v post H' ⟨rfl, hh9, sg9, hk9, hM, rfl⟩ hH
    try simp only [List.cons_append, List.nil_append] at hH
    subst hH
    refine SPL_nil ?_
    refine thenP_n ?_
    refine SP_seq ?_
    try unfold getT at hP
    obtain ⟨t11, ht11, hP⟩ := bnd1 hP
    obtain ⟨g11, oa11, oc11, hg11, _, hrow11, hst11, hfr11, _⟩ := hM.thr ht11
    have hl11 : 1 ≤ t11.frames.length ∧ t11.frames.length ≤ 1000000 := Decidable.byContradiction fun q => by rw [if_neg q] at hP; cases hP
    rw [if_pos hl11] at hP
    have hsp11 : ∃ xs sg, Arr 331 5 g11.fa t11.frames.length g11.fc xs sg := by
      obtain ⟨_, _, _, _, _, _, _, _, _, _, _, _, _, hsf, _⟩ := hM.opnT ht11 hg11
      exact ⟨_, _, hsf⟩
    obtain ⟨xs11, sx11, hsp11⟩ := hsp11
    have hml11 := hsp11.mle
    obtain ⟨pre11, post11, na11, nc11, sg11, hpre11, hup11, hM11⟩ := hM.cutF ht11 hg11 (j := t11.frames.length - 1) (by omega)
    have hl2 : ((t11.frames.length : Int) - 1).toNat = t11.frames.length - 1 := by omega
    refine SP_draw 14 [(0, 0), (1, 0), (2, 0), (3, 0), (5, 0), (6, 0), (7, 0), (4, 1), (8, 1), (9, 0), (10, 0), (11, 0), (12, 0), (13, 0), (14, 3)] mixed (by kernel_rfl) (fun _ _ _ _ _ h => h) (Part.refl _) ?_
    refine SPO_p rfl (y_move rfl) rfl ?_
    refine SPO_p rfl (y_move rfl) rfl ?_
    refine SPO_p rfl (y_nil rfl) rfl ?_
    refine SPO_p rfl (y_fa fld_263_3 rfl) rfl ?_
    refine SPO_p rfl (y_move rfl) rfl ?_
    refine SPO_p rfl (y_nil rfl) rfl ?_
    refine SPO_p rfl (y_fa fld_263_3 rfl) rfl ?_
    refine SPO_h rfl (y_load Tryz.isAgg261 rfl (by repeat (first | exact (hrow11 _ 3 _ rfl) | apply Cell.tail))) rfl ?_
    refine SPO_h rfl (y_load Tryz.isAgg261 rfl (by repeat (first | exact (hrow11 _ 3 _ rfl) | apply Cell.tail))) rfl ?_
    refine SPO_p rfl (y_len_l Tryz.underlying261 rfl) rfl ?_
    refine SPO_p rfl (y_sub rfl rfl (by omega)) rfl ?_
    refine SPO_p rfl (y_cut hsp11 Tryz.underlying261 Tryz.sizeOf331 rfl rfl (by omega)) rfl ?_
    rw [hl2]
    refine SPO_p rfl (y_nil rfl) rfl ?_
    refine SPO_p rfl (y_fa fld_263_3 rfl) rfl ?_
    refine SPO_z (k := 0) rfl rfl (SP1_storeM (j := 3) (pre := pre11) (cs := trow t11 g11 na11 nc11) (post := post11) Tryz.sizeOf261 rfl rfl rfl hpre11 (by repeat (first | exact hup11 _ | apply Upd.tail)) (by rfl) ?_)
    refine SPO_nil ?_
    refine thenP_n ?_
    refine SP_seq ?_
    refine SP_region ?_
    refine SPL_y (y_buildN (l := (evV ev0)) BN184 rfl rfl) rfl ?_
    refine SPL_one rfl (SP1_storeAll Tryz.sizeOf184 rfl rfl rfl rfl rfl (by first | exact U0 | exact U1 | exact U2 | exact U3 | exact U4 | exact U5 | exact U6 | exact U7 | exact U8 | exact U9 | exact U10 | exact U11 | exact U12 | exact U13 | exact U14 | exact U15 | exact U16 | exact U17 | exact U18 | exact U19 | exact U20 | exact U21 | exact U22 | exact U23) (by rfl) ?_)
    refine SPL_nil ?_
    refine thenP_n ?_
    refine SP_ret ?_
    refine bodyP_ret (H' := [sg11]) (ResC rfl rfl Tryz.isAgg184 Tryz.sizeOf184 rfl (by repeat (first | exact Cells.all _ | exact Cells.amid hpre rfl (by decide) | exact Cells.head rfl | apply Cells.tail))) (by repeat (first | exact Part.nil _ | (apply Part.cons; with_reducible (first | exact P0 | exact P1 | exact P2 | exact P3 | exact P4 | exact P5 | exact P6 | exact P7 | exact P8 | exact P9 | exact P10 | exact P11 | exact P12 | exact P13 | exact P14 | exact P15 | exact P16 | exact P17 | exact P18 | exact P19 | exact P20 | exact P21 | exact P22 | exact P23)) | (apply Part.flat; simp only [List.cons_append, List.nil_append]) | (apply Part.cons; (first | exact P0 | exact P1 | exact P2 | exact P3 | exact P4 | exact P5 | exact P6 | exact P7 | exact P8 | exact P9 | exact P10 | exact P11 | exact P12 | exact P13 | exact P14 | exact P15 | exact P16 | exact P17 | exact P18 | exact P19 | exact P20 | exact P21 | exact P22 | exact P23)) | (apply Part.nilc))) ?_
    injection hP with hP
    injection hP with h1 h2
    subst h1
    subst h2
    exact ⟨rfl, hh9, _, hk9, hM11, rfl⟩
  intro hc47
  first | rw [if_neg hc47] at hP | rw [if_pos (Decidable.not_not.1 hc47)] at hP | skip
  rw [if_neg (by rw [hc47]; decide)] at hP
  refine SP_region ?_
  refine SPL_y (y_move rfl) rfl ?_
  refine SPL_y (y_loads Tryz.isAgg42 Tryz.sizeOf42 rfl rfl (by repeat (first | exact Cells.all _ | exact Cells.amid hpre rfl (by decide) | exact Cells.head rfl | apply Cells.tail))) rfl ?_
  refine SPL_y (y_loads Tryz.isAgg42 Tryz.sizeOf42 rfl rfl (by repeat (first | exact Cells.all _ | exact Cells.amid hpre rfl (by decide) | exact Cells.head rfl | apply Cells.tail))) rfl ?_
  refine SPL_one rfl (SP1_sliceN (l := ([v2, v1].flatMap valV)) el_90 rfl (by kernel_rfl) rfl rfl ?_)
  intro b56
  obtain ⟨m9, hq9, hP⟩ := bnd1 hP
  refine SPL_one rfl (SP1_call (vm_push b ph hh _ hq9 _ hM) Tryz.call142 rfl rfl (by repeat (first | exact Part.nil _ | (apply Part.cons; with_reducible (first | exact P0 | exact P1 | exact P2 | exact P3 | exact P4 | exact P5 | exact P6 | exact P7 | exact P8 | exact P9 | exact P10 | exact P11 | exact P12 | exact P13 | exact P14 | exact P15 | exact P16 | exact P17 | exact P18 | exact P19 | exact P20 | exact P21 | exact P22 | exact P23)) | (apply Part.flat; simp only [List.cons_append, List.nil_append]) | (apply Part.cons; (first | exact P0 | exact P1 | exact P2 | exact P3 | exact P4 | exact P5 | exact P6 | exact P7 | exact P8 | exact P9 | exact P10 | exact P11 | exact P12 | exact P13 | exact P14 | exact P15 | exact P16 | exact P17 | exact P18 | exact P19 | exact P20 | exact P21 | exact P22 | exact P23)) | (apply Part.nilc))) ?_)
  rintro v post H' ⟨rfl, hh9, sg9, hk9, hM, rfl⟩ hH
  try simp only [List.cons_append, List.nil_append] at hH
  subst hH
  refine SPL_nil ?_
  refine thenP_n ?_
  refine SP_seq ?_
  try unfold getT at hP
  obtain ⟨t11, ht11, hP⟩ := bnd1 hP
  obtain ⟨g11, oa11, oc11, hg11, _, hrow11, hst11, hfr11, _⟩ := hM.thr ht11
  have hl11 : 1 ≤ t11.frames.length ∧ t11.frames.length ≤ 1000000 := Decidable.byContradiction fun q => by rw [if_neg q] at hP; cases hP
  rw [if_pos hl11] at hP
  have hsp11 : ∃ xs sg, Arr 331 5 g11.fa t11.frames.length g11.fc xs sg := by
    obtain ⟨_, _, _, _, _, _, _, _, _, _, _, _, _, hsf, _⟩ := hM.opnT ht11 hg11
    exact ⟨_, _, hsf⟩
  obtain ⟨xs11, sx11, hsp11⟩ := hsp11
  have hml11 := hsp11.mle
  obtain ⟨pre11, post11, na11, nc11, sg11, hpre11, hup11, hM11⟩ := hM.cutF ht11 hg11 (j := t11.frames.length - 1) (by omega)
  have hl2 : ((t11.frames.length : Int) - 1).toNat = t11.frames.length - 1 := by omega
  refine SP_draw 14 [(0, 0), (1, 0), (2, 0), (3, 0), (5, 0), (6, 0), (7, 0), (4, 1), (8, 1), (9, 0), (10, 0), (11, 0), (12, 0), (13, 0), (14, 3)] mixed (by kernel_rfl) (fun _ _ _ _ _ h => h) (Part.refl _) ?_
  refine SPO_p rfl (y_move rfl) rfl ?_
  refine SPO_p rfl (y_move rfl) rfl ?_
  refine SPO_p rfl (y_nil rfl) rfl ?_
  refine SPO_p rfl (y_fa fld_263_3 rfl) rfl ?_
  refine SPO_p rfl (y_move rfl) rfl ?_
  refine SPO_p rfl (y_nil rfl) rfl ?_
  refine SPO_p rfl (y_fa fld_263_3 rfl) rfl ?_
  refine SPO_h rfl (y_load Tryz.isAgg261 rfl (by repeat (first | exact (hrow11 _ 3 _ rfl) | apply Cell.tail))) rfl ?_
  refine SPO_h rfl (y_load Tryz.isAgg261 rfl (by repeat (first | exact (hrow11 _ 3 _ rfl) | apply Cell.tail))) rfl ?_
  refine SPO_p rfl (y_len_l Tryz.underlying261 rfl) rfl ?_
  refine SPO_p rfl (y_sub rfl rfl (by omega)) rfl ?_
  refine SPO_p rfl (y_cut hsp11 Tryz.underlying261 Tryz.sizeOf331 rfl rfl (by omega)) rfl ?_
  rw [hl2]
  refine SPO_p rfl (y_nil rfl) rfl ?_
  refine SPO_p rfl (y_fa fld_263_3 rfl) rfl ?_
  refine SPO_z (k := 0) rfl rfl (SP1_storeM (j := 3) (pre := pre11) (cs := trow t11 g11 na11 nc11) (post := post11) Tryz.sizeOf261 rfl rfl rfl hpre11 (by repeat (first | exact hup11 _ | apply Upd.tail)) (by rfl) ?_)
  refine SPO_nil ?_
  refine thenP_n ?_
  refine SP_seq ?_
  refine SP_region ?_
  refine SPL_y (y_buildN (l := (evV ev0)) BN184 rfl rfl) rfl ?_
  refine SPL_one rfl (SP1_storeAll Tryz.sizeOf184 rfl rfl rfl rfl rfl (by first | exact U0 | exact U1 | exact U2 | exact U3 | exact U4 | exact U5 | exact U6 | exact U7 | exact U8 | exact U9 | exact U10 | exact U11 | exact U12 | exact U13 | exact U14 | exact U15 | exact U16 | exact U17 | exact U18 | exact U19 | exact U20 | exact U21 | exact U22 | exact U23) (by rfl) ?_)
  refine SPL_nil ?_
  refine thenP_n ?_
  refine SP_ret ?_
  refine bodyP_ret (H' := [sg11]) (ResC rfl rfl Tryz.isAgg184 Tryz.sizeOf184 rfl (by repeat (first | exact Cells.all _ | exact Cells.amid hpre rfl (by decide) | exact Cells.head rfl | apply Cells.tail))) (by repeat (first | exact Part.nil _ | (apply Part.cons; with_reducible (first | exact P0 | exact P1 | exact P2 | exact P3 | exact P4 | exact P5 | exact P6 | exact P7 | exact P8 | exact P9 | exact P10 | exact P11 | exact P12 | exact P13 | exact P14 | exact P15 | exact P16 | exact P17 | exact P18 | exact P19 | exact P20 | exact P21 | exact P22 | exact P23)) | (apply Part.flat; simp only [List.cons_append, List.nil_append]) | (apply Part.cons; (first | exact P0 | exact P1 | exact P2 | exact P3 | exact P4 | exact P5 | exact P6 | exact P7 | exact P8 | exact P9 | exact P10 | exact P11 | exact P12 | exact P13 | exact P14 | exact P15 | exact P16 | exact P17 | exact P18 | exact P19 | exact P20 | exact P21 | exact P22 | exact P23)) | (apply Part.nilc))) ?_
  injection hP with hP
  injection hP with h1 h2
  subst h1
  subst h2
  exact ⟨rfl, hh9, _, hk9, hM11, rfl⟩

end Go.Sl
