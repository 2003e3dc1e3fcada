/- Walks: package vm, upvalues (made by program out of short notes) -/
import Derived.Test.Qxb6500573aGreatDoorWVmC
namespace Go.Sl
open Go Go.Wl Go.Proofs
set_option maxRecDepth 100000
set_option linter.unusedVariables false
set_option linter.unusedSimpArgs false
theorem vm_kill (b : VB) (ph : PH) (hh : List TH) {m m' : VM} {th : Nat} (hP : killM th m = some m') (seg : Seg) (hM : isVM b ph hh m seg) : Spec Tryz.prog 259 [pt b.vb, tp b th] [seg] (Ret (vOk b ph hh m' (.tuple #[]))) := by
  unfold killM at hP
  refine Spec_enter Tryz.func259 rfl Tryz.ntmps259 rfl ?_
  show SP _ _ _ _ _ [(0, _), (1, _)] _
  refine SP_seq ?_
  refine SP_region ?_
  refine SPL_y (y_move rfl) rfl ?_
  refine SPL_y (y_move rfl) rfl ?_
  obtain ⟨m0, hq0, hP⟩ := bnd1 hP
  refine SPL_one rfl (SP1_call (vm_closeFrom b ph hh hq0 _ hM) Tryz.call258 rfl rfl (by repeat (first | exact Part.nil _ | (apply Part.cons; with_reducible (first | exact P0 | exact P1 | exact P2 | exact P3 | exact P4 | exact P5 | exact P6 | exact P7 | exact P8 | exact P9 | exact P10 | exact P11 | exact P12 | exact P13 | exact P14 | exact P15 | exact P16 | exact P17 | exact P18 | exact P19 | exact P20 | exact P21 | exact P22 | exact P23)) | (apply Part.flat; simp only [List.cons_append, List.nil_append]) | (apply Part.cons; (first | exact P0 | exact P1 | exact P2 | exact P3 | exact P4 | exact P5 | exact P6 | exact P7 | exact P8 | exact P9 | exact P10 | exact P11 | exact P12 | exact P13 | exact P14 | exact P15 | exact P16 | exact P17 | exact P18 | exact P19 | exact P20 | exact P21 | exact P22 | exact P23)) | (apply Part.nilc))) ?_)
  rintro v post H' ⟨rfl, sg0, hM, rfl⟩ hH
  try simp only [List.cons_append, List.nil_append] at hH
  subst hH
  refine SPL_nil ?_
  refine thenP_n ?_
  refine SP_seq ?_
  unfold getT at hP
  obtain ⟨t, ht, hP⟩ := bnd1 hP
  injection hP with hP
  subst hP
  obtain ⟨g, hg⟩ : ∃ g, hh[th]? = some g := by obtain ⟨g, _, _, hg, _⟩ := hM.thr ht; exact ⟨g, hg⟩
  obtain ⟨na, nc, r, ss, sf, sn, s0, s2, c0, c2, rfl, hpre, hss, hsf, hsn, hput⟩ := hM.opnT ht hg
  refine SP_openAt [r, blk b.thb 263 (c0 ++ [I t.st, I t.fn, .slice g.sa t.stack.length g.sc, .slice g.fa t.frames.length g.fc, .slice na t.opn.length nc] ++ c2), s0, ss, sf, sn, s2] (by first | exact P0 | exact P1 | exact P2 | exact P3 | exact P4 | exact P5 | exact P6 | exact P7 | exact P8 | exact P9 | exact P10 | exact P11 | exact P12 | exact P13 | exact P14 | exact P15 | exact P16 | exact P17 | exact P18 | exact P19 | exact P20 | exact P21 | exact P22 | exact P23) ?_
  simp only [List.cons_append, List.nil_append]
  have z1 := hss.cut (j := 0) (Nat.zero_le _)
  rw [Nat.zero_mul, List.take_zero] at z1
  have z2 := hsf.cut (j := 0) (Nat.zero_le _)
  rw [Nat.zero_mul, List.take_zero] at z2
  have y1 := hss.mle
  have y2 := hsf.mle
  refine SP_region ?_
  refine SPL_y (y_move rfl) rfl ?_
  refine SPL_y (y_move rfl) rfl ?_
  refine SPL_y (y_nil rfl) rfl ?_
  refine SPL_y (y_fa fld_263_2 rfl) rfl ?_
  refine SPL_y (y_load Tryz.isAgg90 rfl (by repeat (first | exact Cell.amid hpre rfl | exact Cell.head rfl | apply Cell.tail))) rfl ?_
  refine SPL_y (y_cut hss Tryz.underlying90 Tryz.sizeOf42 rfl rfl (by omega)) rfl ?_
  refine SPL_y (y_nil rfl) rfl ?_
  refine SPL_y (y_fa fld_263_2 rfl) rfl ?_
  refine SPL_one rfl (SP1_storeM (j := 2) Tryz.sizeOf90 rfl rfl rfl hpre (by first | exact U0 | exact U1 | exact U2 | exact U3 | exact U4 | exact U5 | exact U6 | exact U7 | exact U8 | exact U9 | exact U10 | exact U11 | exact U12 | exact U13 | exact U14 | exact U15 | exact U16 | exact U17 | exact U18 | exact U19 | exact U20 | exact U21 | exact U22 | exact U23) (by rfl) ?_)
  simp only [List.set_cons_zero, List.set_cons_succ, List.take_succ_cons, List.take_zero, List.drop_succ_cons, List.drop_zero, List.cons_append, List.nil_append]
  refine SPL_nil ?_
  refine thenP_n ?_
  refine SP_seq ?_
  refine SP_region ?_
  refine SPL_y (y_move rfl) rfl ?_
  refine SPL_y (y_move rfl) rfl ?_
  refine SPL_y (y_nil rfl) rfl ?_
  refine SPL_y (y_fa fld_263_3 rfl) rfl ?_
  refine SPL_y (y_load Tryz.isAgg261 rfl (by repeat (first | exact Cell.amid hpre rfl | exact Cell.head rfl | apply Cell.tail))) rfl ?_
  refine SPL_y (y_cut hsf Tryz.underlying261 Tryz.sizeOf331 rfl rfl (by omega)) rfl ?_
  refine SPL_y (y_nil rfl) rfl ?_
  refine SPL_y (y_fa fld_263_3 rfl) rfl ?_
  refine SPL_one rfl (SP1_storeM (j := 3) Tryz.sizeOf261 rfl rfl rfl hpre (by first | exact U0 | exact U1 | exact U2 | exact U3 | exact U4 | exact U5 | exact U6 | exact U7 | exact U8 | exact U9 | exact U10 | exact U11 | exact U12 | exact U13 | exact U14 | exact U15 | exact U16 | exact U17 | exact U18 | exact U19 | exact U20 | exact U21 | exact U22 | exact U23) (by rfl) ?_)
  simp only [List.set_cons_zero, List.set_cons_succ, List.take_succ_cons, List.take_zero, List.drop_succ_cons, List.drop_zero, List.cons_append, List.nil_append]
  refine SPL_nil ?_
  refine thenP_n ?_
  refine SP_region ?_
  refine SPL_y (y_move rfl) rfl ?_
  refine SPL_y (y_nil rfl) rfl ?_
  refine SPL_y (y_fa fld_263_0 rfl) rfl ?_
  refine SPL_one rfl (SP1_storeM (j := 0) Tryz.sizeOf3 rfl rfl rfl hpre (by first | exact U0 | exact U1 | exact U2 | exact U3 | exact U4 | exact U5 | exact U6 | exact U7 | exact U8 | exact U9 | exact U10 | exact U11 | exact U12 | exact U13 | exact U14 | exact U15 | exact U16 | exact U17 | exact U18 | exact U19 | exact U20 | exact U21 | exact U22 | exact U23) (by rfl) ?_)
  simp only [List.set_cons_zero, List.set_cons_succ, List.take_succ_cons, List.take_zero, List.drop_succ_cons, List.drop_zero, List.cons_append, List.nil_append]
  refine SPL_nil ?_
  refine bodyP_end (H' := [List.flatten [r, blk b.thb 263 (c0 ++ [I 5, I t.fn, .slice g.sa 0 g.sc, .slice g.fa 0 g.fc, .slice na t.opn.length nc] ++ c2), s0, ss, sf, sn, s2]]) (Res0 rfl) (by repeat (first | exact Part.nil _ | (apply Part.cons; with_reducible (first | exact P0 | exact P1 | exact P2 | exact P3 | exact P4 | exact P5 | exact P6 | exact P7 | exact P8 | exact P9 | exact P10 | exact P11 | exact P12 | exact P13 | exact P14 | exact P15 | exact P16 | exact P17 | exact P18 | exact P19 | exact P20 | exact P21 | exact P22 | exact P23)) | (apply Part.flat; simp only [List.cons_append, List.nil_append]) | (apply Part.cons; (first | exact P0 | exact P1 | exact P2 | exact P3 | exact P4 | exact P5 | exact P6 | exact P7 | exact P8 | exact P9 | exact P10 | exact P11 | exact P12 | exact P13 | exact P14 | exact P15 | exact P16 | exact P17 | exact P18 | exact P19 | exact P20 | exact P21 | exact P22 | exact P23)) | (apply Part.nilc))) ?_
  refine ⟨rfl, _, ?_, rfl⟩
  have := hput { t with st := 5, stack := [], frames := [] } g na nc ss sf sn z1 z2 hsn
  rw [set_same hg] at this
  exact this

theorem vm_getUp (b : VB) (ph : PH) (hh : List TH) {m : VM} {th i : Nat} {fv : Value} (hfv : FP hh th i fv) {x : Int} {v0 : V} (hP : getUpM th i x m = some v0) (seg : Seg) (hM : isVM b ph hh m seg) : Spec Tryz.prog 290 [pt b.vb, fv, I x] [seg] (Ret fun v H => v = .agg (valV v0).toArray ∧ H = [seg]) := by
  unfold getUpM at hP
  obtain ⟨j0, e0, hco, hP⟩ := bnd2 hP
  unfold cellOf at hco
  obtain ⟨f, hf, hco⟩ := bnd1 hco
  obtain ⟨c, hc, hco⟩ := bnd1 hco
  obtain ⟨j, hj, hco⟩ := bnd1 hco
  have hrg : (0 ≤ c.up ∧ c.up ≤ 1000000000) ∧ 0 ≤ x ∧ x ≤ 1000000000 := Decidable.byContradiction fun q => by rw [if_neg q] at hco; cases hco
  rw [if_pos hrg] at hco
  obtain ⟨e, he, hco⟩ := bnd1 hco
  injection hco with hco
  injection hco with h1 h2
  subst h1
  subst h2
  obtain ⟨g, q, hg, hq, rfl⟩ := hfv
  obtain ⟨hcb, hcl, _, _, _⟩ := getI_some hc
  obtain ⟨hjb, hjl, _, _, _⟩ := getI_some hj
  obtain ⟨heb, hel, hen, hei, hee⟩ := getI_some he
  obtain ⟨lq, lc, hcl1, hcl2⟩ := hM.clo hc
  obtain ⟨uq, uc, hux1, hux2⟩ := hM.upx hj
  obtain ⟨eq, ec, hce1, hce2, r, esp, r2, hseg, hputC⟩ := hM.celW he
  refine Spec_enter Tryz.func290 rfl Tryz.ntmps290 rfl ?_
  show SP _ _ _ _ _ [(0, _), (1, _), (2, _)] _
  refine SP_seq ?_
  refine SP_region ?_
  refine SPL_one rfl (SP1_alloc Tryz.zeroValue42 rfl rfl ?_)
  intro b6
  refine SPL_nil ?_
  refine thenP_n ?_
  refine SP_seq ?_
  refine SP_draw 999 [(0, 0), (1, 0), (2, 0), (4, 0), (5, 0), (6, 0), (8, 0), (9, 0), (10, 0), (12, 0), (13, 0), (14, 0), (19, 0), (3, 1), (7, 1), (11, 1), (15, 1), (16, 0), (17, 0), (18, 1), (20, 0), (21, 0), (22, 1), (23, 0), (24, 0)] mixed (by kernel_rfl) (fun _ _ _ _ _ h => h) (Part.refl _) ?_
  refine SPO_p rfl (y_move rfl) rfl ?_
  refine SPO_p rfl (y_nil rfl) rfl ?_
  refine SPO_p rfl (y_fa fld_115_8 rfl) rfl ?_
  refine SPO_p rfl (y_move rfl) rfl ?_
  refine SPO_p rfl (y_nil rfl) rfl ?_
  refine SPO_p rfl (y_fa fld_115_7 rfl) rfl ?_
  refine SPO_p rfl (y_move rfl) rfl ?_
  refine SPO_p rfl (y_nil rfl) rfl ?_
  refine SPO_p rfl (y_fa fld_115_6 rfl) rfl ?_
  refine SPO_p rfl (y_move rfl) rfl ?_
  refine SPO_p rfl (y_nil rfl) rfl ?_
  refine SPO_p rfl (y_fa fld_331_0 rfl) rfl ?_
  refine SPO_p rfl (y_move rfl) rfl ?_
  refine SPO_h rfl (y_load Tryz.isAgg113 rfl (by repeat (first | exact (hce1 _) | apply Cell.tail))) rfl ?_
  refine SPO_h rfl (y_load Tryz.isAgg112 rfl (by repeat (first | exact (hux1 _) | apply Cell.tail))) rfl ?_
  refine SPO_h rfl (y_load Tryz.isAgg111 rfl (by repeat (first | exact (hcl1 _) | apply Cell.tail))) rfl ?_
  refine SPO_h rfl (y_load Tryz.isAgg3 rfl (by repeat (first | exact (hM.frF hf hg hq rfl) | apply Cell.tail))) rfl ?_
  refine SPO_p rfl (y_ia Tryz.underlying111 Tryz.sizeOf181 rfl rfl (by omega)) rfl ?_
  refine SPO_p rfl (y_fa fld_181_1 rfl) rfl ?_
  refine SPO_h rfl (y_load Tryz.isAgg3 rfl (by repeat (first | exact ((hcl2 _).cell rfl) | apply Cell.tail))) rfl ?_
  refine SPO_p rfl (y_add rfl rfl (by omega)) rfl ?_
  refine SPO_p rfl (y_ia Tryz.underlying112 Tryz.sizeOf3 rfl rfl (by omega)) rfl ?_
  refine SPO_h rfl (y_load Tryz.isAgg3 rfl (by repeat (first | exact (hux2 _) | apply Cell.tail))) rfl ?_
  refine SPO_p rfl (y_ia Tryz.underlying113 Tryz.sizeOf287 rfl rfl (by omega)) rfl ?_
  refine SPO_p rfl (y_assign rfl) rfl ?_
  refine SPO_nil ?_
  refine thenP_n ?_
  refine SP_seq ?_
  refine SP_seq ?_
  refine SP_region ?_
  refine SPL_y (y_move rfl) rfl ?_
  refine SPL_y (y_nil rfl) rfl ?_
  refine SPL_y (y_fa fld_287_0 rfl) rfl ?_
  refine SPL_y (y_load Tryz.isAgg3 rfl (by repeat (first | exact ((hce2 _).cell rfl) | apply Cell.tail))) rfl ?_
  refine SPL_ifn (y_geq rfl rfl) rfl ?_ ?_
  · intro h2_4
    refine SPL_nil ?_
    refine thenP_n ?_
    refine SP_cond_f rfl ?_
    refine SP_skip ?_
    refine thenP_n ?_
    refine SP_seq ?_
    rw [if_neg h2_4] at hP
    injection hP with hP
    subst hP
    refine SP_region ?_
    refine SPL_y (y_move rfl) rfl ?_
    refine SPL_y (y_nil rfl) rfl ?_
    refine SPL_y (y_fa fld_287_2 rfl) rfl ?_
    refine SPL_y (y_loads Tryz.isAgg42 Tryz.sizeOf42 rfl rfl (by repeat (first | exact (Cells.sub (vs := valV e.v) (hce2 _) rfl) | apply Cells.tail))) rfl ?_
    refine SPL_one rfl (SP1_storeAll Tryz.sizeOf42 rfl rfl rfl rfl rfl (by first | exact U0 | exact U1 | exact U2 | exact U3 | exact U4 | exact U5 | exact U6 | exact U7 | exact U8 | exact U9 | exact U10 | exact U11 | exact U12 | exact U13 | exact U14 | exact U15 | exact U16 | exact U17 | exact U18 | exact U19 | exact U20 | exact U21 | exact U22 | exact U23) (by rfl) ?_)
    refine SPL_nil ?_
    refine thenP_n ?_
    refine SP_ret ?_
    refine bodyP_ret (H' := [seg]) (ResC rfl rfl Tryz.isAgg42 Tryz.sizeOf42 rfl (by repeat (first | exact Cells.all _ | exact Cells.amid hpre rfl (by decide) | exact Cells.head rfl | apply Cells.tail))) (by repeat (first | exact Part.nil _ | (apply Part.cons; with_reducible (first | exact P0 | exact P1 | exact P2 | exact P3 | exact P4 | exact P5 | exact P6 | exact P7 | exact P8 | exact P9 | exact P10 | exact P11 | exact P12 | exact P13 | exact P14 | exact P15 | exact P16 | exact P17 | exact P18 | exact P19 | exact P20 | exact P21 | exact P22 | exact P23)) | (apply Part.flat; simp only [List.cons_append, List.nil_append]) | (apply Part.cons; (first | exact P0 | exact P1 | exact P2 | exact P3 | exact P4 | exact P5 | exact P6 | exact P7 | exact P8 | exact P9 | exact P10 | exact P11 | exact P12 | exact P13 | exact P14 | exact P15 | exact P16 | exact P17 | exact P18 | exact P19 | exact P20 | exact P21 | exact P22 | exact P23)) | (apply Part.nilc))) ?_
    exact ⟨rfl, rfl⟩
  intro h2_4
  refine SPL_nil ?_
  refine thenP_n ?_
  refine SP_cond_t rfl ?_
  refine SP_seq ?_
  rw [if_pos h2_4] at hP
  obtain ⟨t, ht, hP⟩ := bnd1 hP
  obtain ⟨htb, htl, htn, hti, hte⟩ := getI_some ht
  have ht1 : m.vs.threads[e.th.toNat]? = some t := by rw [List.getElem?_eq_getElem hti, hte]
  obtain ⟨g1, oa1, oc1, hg1, ht5, hrow, hstk, _, _⟩ := hM.thr ht1
  obtain ⟨hvb, hvl, _, _, _⟩ := getI_some hP
  obtain ⟨sq, hsa, hsc⟩ := hstk _ _ hP
  refine SP_draw 17 [(0, 0), (1, 0), (2, 0), (4, 0), (5, 0), (6, 0), (11, 0), (12, 0), (13, 0), (3, 1), (7, 1), (8, 0), (9, 0), (10, 1), (14, 1), (15, 0), (16, 1), (17, 3)] mixed (by kernel_rfl) (fun _ _ _ _ _ h => h) (Part.refl _) ?_
  refine SPO_p rfl (y_move rfl) rfl ?_
  refine SPO_p rfl (y_nil rfl) rfl ?_
  refine SPO_p rfl (y_fa fld_115_9 rfl) rfl ?_
  refine SPO_p rfl (y_move rfl) rfl ?_
  refine SPO_p rfl (y_nil rfl) rfl ?_
  refine SPO_p rfl (y_fa fld_287_0 rfl) rfl ?_
  refine SPO_p rfl (y_move rfl) rfl ?_
  refine SPO_p rfl (y_nil rfl) rfl ?_
  refine SPO_p rfl (y_fa fld_287_1 rfl) rfl ?_
  refine SPO_h rfl (y_load Tryz.isAgg107 rfl (by repeat (first | exact hM.threads | apply Cell.tail))) rfl ?_
  refine SPO_h rfl (y_load Tryz.isAgg3 rfl (by repeat (first | exact ((hce2 _).cell rfl) | apply Cell.tail))) rfl ?_
  refine SPO_p rfl (y_ia Tryz.underlying107 Tryz.sizeOf263 rfl rfl (by omega)) rfl ?_
  refine SPO_p rfl (y_fa fld_263_2 rfl) rfl ?_
  refine SPO_h rfl (y_load Tryz.isAgg90 rfl (by repeat (first | exact (hsa ▸ hrow _ 2 _ rfl) | apply Cell.tail))) rfl ?_
  refine SPO_h rfl (y_load Tryz.isAgg3 rfl (by repeat (first | exact ((hce2 _).cell rfl) | apply Cell.tail))) rfl ?_
  refine SPO_p rfl (y_ia Tryz.underlying90 Tryz.sizeOf42 rfl rfl (by omega)) rfl ?_
  refine SPO_h rfl (y_loads Tryz.isAgg42 Tryz.sizeOf42 rfl rfl (by repeat (first | exact (hsc _) | apply Cells.tail))) rfl ?_
  refine SPO_z (k := 0) rfl rfl (SP1_storeAll Tryz.sizeOf42 rfl rfl rfl rfl rfl (by first | exact U0 | exact U1 | exact U2 | exact U3 | exact U4 | exact U5 | exact U6 | exact U7 | exact U8 | exact U9 | exact U10 | exact U11 | exact U12 | exact U13 | exact U14 | exact U15 | exact U16 | exact U17 | exact U18 | exact U19 | exact U20 | exact U21 | exact U22 | exact U23) (by rfl) ?_)
  refine SPO_nil ?_
  refine thenP_n ?_
  refine SP_ret ?_
  refine thenP_ret (bodyP_ret (H' := [seg]) (ResC rfl rfl Tryz.isAgg42 Tryz.sizeOf42 rfl (by repeat (first | exact Cells.all _ | exact Cells.amid hpre rfl (by decide) | exact Cells.head rfl | apply Cells.tail))) (by repeat (first | exact Part.nil _ | (apply Part.cons; with_reducible (first | exact P0 | exact P1 | exact P2 | exact P3 | exact P4 | exact P5 | exact P6 | exact P7 | exact P8 | exact P9 | exact P10 | exact P11 | exact P12 | exact P13 | exact P14 | exact P15 | exact P16 | exact P17 | exact P18 | exact P19 | exact P20 | exact P21 | exact P22 | exact P23)) | (apply Part.flat; simp only [List.cons_append, List.nil_append]) | (apply Part.cons; (first | exact P0 | exact P1 | exact P2 | exact P3 | exact P4 | exact P5 | exact P6 | exact P7 | exact P8 | exact P9 | exact P10 | exact P11 | exact P12 | exact P13 | exact P14 | exact P15 | exact P16 | exact P17 | exact P18 | exact P19 | exact P20 | exact P21 | exact P22 | exact P23)) | (apply Part.nilc))) ?_)
  exact ⟨rfl, rfl⟩

theorem vm_setUp (b : VB) (ph : PH) (hh : List TH) {m : VM} {m' : VM} {th i : Nat} {fv : Value} (hfv : FP hh th i fv) {x : Int} {v0 : V} (hP : setUpM th i x v0 m = some m') (seg : Seg) (hM : isVM b ph hh m seg) : Spec Tryz.prog 291 [pt b.vb, fv, I x, .agg (valV v0).toArray] [seg] (Ret (vOk b ph hh m' (.tuple #[]))) := by
  unfold setUpM at hP
  obtain ⟨j0, e0, hco, hP⟩ := bnd2 hP
  unfold cellOf at hco
  obtain ⟨f, hf, hco⟩ := bnd1 hco
  obtain ⟨c, hc, hco⟩ := bnd1 hco
  obtain ⟨j, hj, hco⟩ := bnd1 hco
  have hrg : (0 ≤ c.up ∧ c.up ≤ 1000000000) ∧ 0 ≤ x ∧ x ≤ 1000000000 := Decidable.byContradiction fun q => by rw [if_neg q] at hco; cases hco
  rw [if_pos hrg] at hco
  obtain ⟨e, he, hco⟩ := bnd1 hco
  injection hco with hco
  injection hco with h1 h2
  subst h1
  subst h2
  obtain ⟨g, q, hg, hq, rfl⟩ := hfv
  obtain ⟨hcb, hcl, _, _, _⟩ := getI_some hc
  obtain ⟨hjb, hjl, _, _, _⟩ := getI_some hj
  obtain ⟨heb, hel, hen, hei, hee⟩ := getI_some he
  obtain ⟨lq, lc, hcl1, hcl2⟩ := hM.clo hc
  obtain ⟨uq, uc, hux1, hux2⟩ := hM.upx hj
  obtain ⟨eq, ec, hce1, hce2, r, esp, r2, hseg, hputC⟩ := hM.celW he
  refine Spec_enter Tryz.func291 rfl Tryz.ntmps291 rfl ?_
  show SP _ _ _ _ _ [(0, _), (1, _), (2, _), (3, _)] _
  refine SP_seq ?_
  refine SP_region ?_
  refine SPL_one rfl (SP1_box rfl rfl rfl ?_)
  intro b7
  refine SPL_nil ?_
  refine thenP_n ?_
  refine SP_seq ?_
  refine SP_draw 999 [(0, 0), (1, 0), (2, 0), (4, 0), (5, 0), (6, 0), (8, 0), (9, 0), (10, 0), (12, 0), (13, 0), (14, 0), (19, 0), (3, 1), (7, 1), (11, 1), (15, 1), (16, 0), (17, 0), (18, 1), (20, 0), (21, 0), (22, 1), (23, 0), (24, 0)] mixed (by kernel_rfl) (fun _ _ _ _ _ h => h) (Part.refl _) ?_
  refine SPO_p rfl (y_move rfl) rfl ?_
  refine SPO_p rfl (y_nil rfl) rfl ?_
  refine SPO_p rfl (y_fa fld_115_8 rfl) rfl ?_
  refine SPO_p rfl (y_move rfl) rfl ?_
  refine SPO_p rfl (y_nil rfl) rfl ?_
  refine SPO_p rfl (y_fa fld_115_7 rfl) rfl ?_
  refine SPO_p rfl (y_move rfl) rfl ?_
  refine SPO_p rfl (y_nil rfl) rfl ?_
  refine SPO_p rfl (y_fa fld_115_6 rfl) rfl ?_
  refine SPO_p rfl (y_move rfl) rfl ?_
  refine SPO_p rfl (y_nil rfl) rfl ?_
  refine SPO_p rfl (y_fa fld_331_0 rfl) rfl ?_
  refine SPO_p rfl (y_move rfl) rfl ?_
  refine SPO_h rfl (y_load Tryz.isAgg113 rfl (by repeat (first | exact (hce1 _) | apply Cell.tail))) rfl ?_
  refine SPO_h rfl (y_load Tryz.isAgg112 rfl (by repeat (first | exact (hux1 _) | apply Cell.tail))) rfl ?_
  refine SPO_h rfl (y_load Tryz.isAgg111 rfl (by repeat (first | exact (hcl1 _) | apply Cell.tail))) rfl ?_
  refine SPO_h rfl (y_load Tryz.isAgg3 rfl (by repeat (first | exact (hM.frF hf hg hq rfl) | apply Cell.tail))) rfl ?_
  refine SPO_p rfl (y_ia Tryz.underlying111 Tryz.sizeOf181 rfl rfl (by omega)) rfl ?_
  refine SPO_p rfl (y_fa fld_181_1 rfl) rfl ?_
  refine SPO_h rfl (y_load Tryz.isAgg3 rfl (by repeat (first | exact ((hcl2 _).cell rfl) | apply Cell.tail))) rfl ?_
  refine SPO_p rfl (y_add rfl rfl (by omega)) rfl ?_
  refine SPO_p rfl (y_ia Tryz.underlying112 Tryz.sizeOf3 rfl rfl (by omega)) rfl ?_
  refine SPO_h rfl (y_load Tryz.isAgg3 rfl (by repeat (first | exact (hux2 _) | apply Cell.tail))) rfl ?_
  refine SPO_p rfl (y_ia Tryz.underlying113 Tryz.sizeOf287 rfl rfl (by omega)) rfl ?_
  refine SPO_p rfl (y_assign rfl) rfl ?_
  refine SPO_nil ?_
  refine thenP_n ?_
  refine SP_seq ?_
  refine SP_region ?_
  refine SPL_y (y_move rfl) rfl ?_
  refine SPL_y (y_nil rfl) rfl ?_
  refine SPL_y (y_fa fld_287_0 rfl) rfl ?_
  refine SPL_y (y_load Tryz.isAgg3 rfl (by repeat (first | exact ((hce2 _).cell rfl) | apply Cell.tail))) rfl ?_
  refine SPL_ifn (y_geq rfl rfl) rfl ?_ ?_
  · intro h2_4
    refine SPL_nil ?_
    refine thenP_n ?_
    refine SP_cond_f rfl ?_
    rw [if_neg h2_4] at hP
    injection hP with hP
    subst hP
    subst hseg
    refine SP_openAt [r, blk eq 287 (m.vs.cells.flatMap ceV ++ esp), r2] (by first | exact P0 | exact P1 | exact P2 | exact P3 | exact P4 | exact P5 | exact P6 | exact P7 | exact P8 | exact P9 | exact P10 | exact P11 | exact P12 | exact P13 | exact P14 | exact P15 | exact P16 | exact P17 | exact P18 | exact P19 | exact P20 | exact P21 | exact P22 | exact P23) ?_
    simp only [List.cons_append, List.nil_append]
    refine SP_region ?_
    refine SPL_y (y_move rfl) rfl ?_
    refine SPL_y (y_loads Tryz.isAgg42 Tryz.sizeOf42 rfl rfl (by repeat (first | exact Cells.all _ | exact Cells.amid hpre rfl (by decide) | exact Cells.head rfl | apply Cells.tail))) rfl ?_
    refine SPL_y (y_nil rfl) rfl ?_
    refine SPL_y (y_fa fld_287_2 rfl) rfl ?_
    refine SPL_one rfl (SP1_storesF (l := m.vs.cells) (x := { e with v := v0 }) (vs := valV v0) ceV_len hen hei (by rw [hee]; rfl) (by decide) Tryz.sizeOf42 rfl rfl rfl rfl rfl (by first | exact U0 | exact U1 | exact U2 | exact U3 | exact U4 | exact U5 | exact U6 | exact U7 | exact U8 | exact U9 | exact U10 | exact U11 | exact U12 | exact U13 | exact U14 | exact U15 | exact U16 | exact U17 | exact U18 | exact U19 | exact U20 | exact U21 | exact U22 | exact U23) ?_)
    refine SPL_nil ?_
    refine bodyP_end (H' := [List.flatten [r, blk eq 287 ((m.vs.cells.set j.toNat { e with v := v0 }).flatMap ceV ++ esp), r2]]) (Res0 rfl) (by repeat (first | exact Part.nil _ | (apply Part.cons; with_reducible (first | exact P0 | exact P1 | exact P2 | exact P3 | exact P4 | exact P5 | exact P6 | exact P7 | exact P8 | exact P9 | exact P10 | exact P11 | exact P12 | exact P13 | exact P14 | exact P15 | exact P16 | exact P17 | exact P18 | exact P19 | exact P20 | exact P21 | exact P22 | exact P23)) | (apply Part.flat; simp only [List.cons_append, List.nil_append]) | (apply Part.cons; (first | exact P0 | exact P1 | exact P2 | exact P3 | exact P4 | exact P5 | exact P6 | exact P7 | exact P8 | exact P9 | exact P10 | exact P11 | exact P12 | exact P13 | exact P14 | exact P15 | exact P16 | exact P17 | exact P18 | exact P19 | exact P20 | exact P21 | exact P22 | exact P23)) | (apply Part.nilc))) ?_
    exact ⟨rfl, _, hputC _ (by simp), rfl⟩
  intro h2_4
  refine SPL_nil ?_
  refine thenP_n ?_
  refine SP_cond_t rfl ?_
  rw [if_pos h2_4] at hP
  obtain ⟨t, ht, hP⟩ := bnd1 hP
  obtain ⟨htb, htl, htn, hti, hte⟩ := getI_some ht
  have ht1 : m.vs.threads[e.th.toNat]? = some t := by rw [List.getElem?_eq_getElem hti, hte]
  obtain ⟨g1, oa1, oc1, hg1, ht5, hrow, hstk, _, _⟩ := hM.thr ht1
  obtain ⟨vold, hvo, hP⟩ := bnd1 hP
  injection hP with hP
  subst hP
  obtain ⟨hvb, hvl, hvn, hvi, hve⟩ := getI_some hvo
  obtain ⟨sq, hsa, hsc⟩ := hstk _ _ hvo
  have hrow2 : ∀ H, Cell (seg :: H) b.thb (0 + e.th.toNat * 5 + 2) (.slice (some ⟨sq, 0, none⟩) t.stack.length g1.sc) := fun H => hsa ▸ hrow H 2 _ rfl
  obtain ⟨na, nc, r9, ss, sf, sn, s0, s2, c0, c2, rfl, hpre, hss, hsf, hsn, hput⟩ := hM.opnT ht1 hg1
  obtain ⟨sq', ssp, hsa', hsc', hssp, rfl⟩ := hss.row (by omega)
  rw [hsa] at hsa'
  injection hsa' with hsa'
  injection hsa' with hsa'
  subst hsa'
  have hupd : ∀ H : Hp, Upd (List.flatten [r9, blk b.thb 263 (c0 ++ [I t.st, I t.fn, .slice g1.sa t.stack.length g1.sc, .slice g1.fa t.frames.length g1.fc, .slice na t.opn.length nc] ++ c2), s0, blk sq 42 (t.stack.flatMap valV ++ ssp), sf, sn, s2] :: H) sq 42 (t.stack.flatMap valV ++ ssp) ((t.stack.set e.at_.toNat v0).flatMap valV ++ ssp) (List.flatten [r9, blk b.thb 263 (c0 ++ [I t.st, I t.fn, .slice g1.sa t.stack.length g1.sc, .slice g1.fa t.frames.length g1.fc, .slice na t.opn.length nc] ++ c2), s0, blk sq 42 ((t.stack.set e.at_.toNat v0).flatMap valV ++ ssp), sf, sn, s2] :: H) := fun H => Upd.flat (by exact U3)
  refine SP_draw 17 [(0, 0), (1, 0), (2, 0), (4, 0), (5, 0), (6, 0), (11, 0), (12, 0), (13, 0), (3, 1), (7, 1), (8, 0), (9, 0), (10, 1), (14, 1), (15, 1), (16, 0), (17, 3)] mixed (by kernel_rfl) (fun _ _ _ _ _ h => h) (Part.refl _) ?_
  refine SPO_p rfl (y_move rfl) rfl ?_
  refine SPO_p rfl (y_nil rfl) rfl ?_
  refine SPO_p rfl (y_fa fld_115_9 rfl) rfl ?_
  refine SPO_p rfl (y_move rfl) rfl ?_
  refine SPO_p rfl (y_nil rfl) rfl ?_
  refine SPO_p rfl (y_fa fld_287_0 rfl) rfl ?_
  refine SPO_p rfl (y_move rfl) rfl ?_
  refine SPO_p rfl (y_nil rfl) rfl ?_
  refine SPO_p rfl (y_fa fld_287_1 rfl) rfl ?_
  refine SPO_h rfl (y_load Tryz.isAgg107 rfl (by repeat (first | exact hM.threads | apply Cell.tail))) rfl ?_
  refine SPO_h rfl (y_load Tryz.isAgg3 rfl (by repeat (first | exact ((hce2 _).cell rfl) | apply Cell.tail))) rfl ?_
  refine SPO_p rfl (y_ia Tryz.underlying107 Tryz.sizeOf263 rfl rfl (by omega)) rfl ?_
  refine SPO_p rfl (y_fa fld_263_2 rfl) rfl ?_
  refine SPO_h rfl (y_load Tryz.isAgg90 rfl (by repeat (first | exact (hrow2 _) | apply Cell.tail))) rfl ?_
  refine SPO_h rfl (y_load Tryz.isAgg3 rfl (by repeat (first | exact ((hce2 _).cell rfl) | apply Cell.tail))) rfl ?_
  refine SPO_h rfl (y_loads Tryz.isAgg42 Tryz.sizeOf42 rfl rfl (by repeat (first | exact Cells.all _ | exact Cells.amid hpre rfl (by decide) | exact Cells.head rfl | apply Cells.tail))) rfl ?_
  refine SPO_p rfl (y_ia Tryz.underlying90 Tryz.sizeOf42 rfl rfl (by omega)) rfl ?_
  refine SPO_z (k := 0) rfl rfl (SP1_storesF (l := t.stack) (x := v0) (vs := valV v0) (q := 0) valV_len hvn hvi rfl (by decide) Tryz.sizeOf42 rfl rfl rfl rfl rfl (by repeat (first | exact hupd _ | apply Upd.tail)) ?_)
  refine SPO_nil ?_
  refine bodyP_end (H' := [List.flatten [r9, blk b.thb 263 (c0 ++ [I t.st, I t.fn, .slice g1.sa t.stack.length g1.sc, .slice g1.fa t.frames.length g1.fc, .slice na t.opn.length nc] ++ c2), s0, blk sq 42 ((t.stack.set e.at_.toNat v0).flatMap valV ++ ssp), sf, sn, s2]]) (Res0 rfl) (by repeat (first | exact Part.nil _ | (apply Part.cons; with_reducible (first | exact P0 | exact P1 | exact P2 | exact P3 | exact P4 | exact P5 | exact P6 | exact P7 | exact P8 | exact P9 | exact P10 | exact P11 | exact P12 | exact P13 | exact P14 | exact P15 | exact P16 | exact P17 | exact P18 | exact P19 | exact P20 | exact P21 | exact P22 | exact P23)) | (apply Part.flat; simp only [List.cons_append, List.nil_append]) | (apply Part.cons; (first | exact P0 | exact P1 | exact P2 | exact P3 | exact P4 | exact P5 | exact P6 | exact P7 | exact P8 | exact P9 | exact P10 | exact P11 | exact P12 | exact P13 | exact P14 | exact P15 | exact P16 | exact P17 | exact P18 | exact P19 | exact P20 | exact P21 | exact P22 | exact P23)) | (apply Part.nilc))) ?_
  refine ⟨rfl, _, ?_, rfl⟩
  have hA1 : Arr 42 3 g1.sa (t.stack.set e.at_.toNat v0).length g1.sc ((t.stack.set e.at_.toNat v0).flatMap valV) (blk sq 42 ((t.stack.set e.at_.toNat v0).flatMap valV ++ ssp)) := by
    rw [hsa]; exact Arr.mk (by rw [flat_len valV_len]) (by simpa using hsc') (by simpa using hssp)
  have := hput { t with stack := t.stack.set e.at_.toNat v0 } g1 na nc _ sf sn hA1 hsf hsn
  rw [set_same hg1] at this
  dsimp only at this
  rw [List.length_set] at this
  exact this

end Go.Sl
