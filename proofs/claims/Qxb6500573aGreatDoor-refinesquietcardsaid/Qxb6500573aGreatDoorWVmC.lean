/- Walks: package vm, cells (made by program out of short notes) -/
import Derived.Test.Qxb6500573aGreatDoorWVmB
namespace Go.Sl
open Go Go.Wl Go.Proofs
set_option maxRecDepth 100000
set_option linter.unusedVariables false
set_option linter.unusedSimpArgs false
theorem closeL_len {at_ : Int} {stack : List V} : ∀ {n : Nat} {o o' : List Int} {c c' : List Ce}, closeL at_ stack n o c = some (o', c') → c'.length = c.length
  | 0, _, _, _, _, h => by unfold closeL at h; injection h with h; injection h with h1 h2; rw [h2]
  | n + 1, o, o', c, c', h => by
    unfold closeL at h
    obtain ⟨j, _, h⟩ := bnd1 h
    obtain ⟨e, _, h⟩ := bnd1 h
    split at h
    · injection h with h; injection h with h1 h2; rw [h2]
    · obtain ⟨v, _, h⟩ := bnd1 h
      have := closeL_len h
      simpa using this
set_option maxHeartbeats 2000000 in
theorem vm_closeFrom (b : VB) (ph : PH) (hh : List TH) {m m' : VM} {th : Nat} {at_ : Int} (hP : closeM th at_ m = some m') (seg : Seg) (hM : isVM b ph hh m seg) : Spec Tryz.prog 258 [pt b.vb, tp b th, I at_] [seg] (Ret (vOk b ph hh m' (.tuple #[]))) := by
  unfold closeM getT at hP
  obtain ⟨t, ht, hP⟩ := bnd1 hP
  obtain ⟨g, hg⟩ : ∃ g, hh[th]? = some g := by obtain ⟨g, _, _, hg, _⟩ := hM.thr ht; exact ⟨g, hg⟩
  have hol : t.opn.length ≤ 1000000 := Decidable.byContradiction fun q => by rw [if_neg q] at hP; cases hP
  rw [if_pos hol] at hP
  obtain ⟨o', c', hcl, hP⟩ := bnd2 hP
  injection hP with hP
  subst hP
  have hcl9 := closeL_len hcl
  obtain ⟨la, ua, ea, xa, na, lc, uc, ec, xc, nc, r, se, ss, sf, sn, s0, s2, c0, c2, rfl, hpre, hce, hss, hsf, hsn, hput⟩ := hM.opnC ht hg
  refine Spec_openAt [blk b.vb 115 [pt b.nb, pt b.tb, .slice ph.pa m.pg.protos.length ph.pc, .slice ph.da m.pg.descs.length ph.dc, .slice ph.ka m.pg.consts.length ph.kc, .slice ph.ca m.pg.code.length ph.cc, .slice la m.vs.clos.length lc, .slice ua m.vs.upix.length uc, .slice ea m.vs.cells.length ec, .slice (some ⟨b.thb, 0, none⟩) m.vs.threads.length 5, I m.vs.fuel, .slice xa m.vs.out.length xc, I m.ended], r, se, blk b.thb 263 (c0 ++ [I t.st, I t.fn, .slice g.sa t.stack.length g.sc, .slice g.fa t.frames.length g.fc, .slice na t.opn.length nc] ++ c2), s0, ss, sf, sn, s2] (by first | exact P0 | exact P1 | exact P2 | exact P3 | exact P4 | exact P5 | exact P6 | exact P7 | exact P8 | exact P9 | exact P10 | exact P11 | exact P12 | exact P13 | exact P14 | exact P15 | exact P16 | exact P17 | exact P18 | exact P19 | exact P20 | exact P21 | exact P22 | exact P23) ?_
  simp only [List.cons_append, List.nil_append]
  refine Spec_enter Tryz.func258 rfl Tryz.ntmps258 rfl ?_
  show SP _ _ _ _ _ [(0, _), (1, _), (2, _)] _
  refine SP_seq ?_
  refine SP_region ?_
  refine SPL_y (y_move rfl) rfl ?_
  refine SPL_y (y_nil rfl) rfl ?_
  refine SPL_y (y_fa fld_263_4 rfl) rfl ?_
  refine SPL_y (y_load Tryz.isAgg112 rfl (by repeat (first | exact Cell.amid hpre rfl | exact Cell.head rfl | apply Cell.tail))) rfl ?_
  refine SPL_y (y_len_l Tryz.underlying112 rfl) rfl ?_
  refine SPL_y (y_assign rfl) rfl ?_
  refine SPL_nil ?_
  refine thenP_n ?_
  refine SP_block ?_
  refine SP_loop (G := Nat × List Int × List Ce × Seg) (fun g => g.1) (fun g => [(0, pt b.vb), (1, tp b th), (2, I at_), (6, I g.1)]) (fun g1 => [blk b.vb 115 [pt b.nb, pt b.tb, .slice ph.pa m.pg.protos.length ph.pc, .slice ph.da m.pg.descs.length ph.dc, .slice ph.ka m.pg.consts.length ph.kc, .slice ph.ca m.pg.code.length ph.cc, .slice la m.vs.clos.length lc, .slice ua m.vs.upix.length uc, .slice ea m.vs.cells.length ec, .slice (some ⟨b.thb, 0, none⟩) m.vs.threads.length 5, I m.vs.fuel, .slice xa m.vs.out.length xc, I m.ended], r, g1.2.2.2, blk b.thb 263 (c0 ++ [I t.st, I t.fn, .slice g.sa t.stack.length g.sc, .slice g.fa t.frames.length g.fc, .slice na g1.2.1.length nc] ++ c2), s0, ss, sf, sn, s2]) (fun g => closeL at_ t.stack g.1 g.2.1 g.2.2.1 = some (o', c') ∧ g.1 = g.2.1.length ∧ g.1 ≤ 1000000 ∧ Arr 287 5 ea g.2.2.1.length ec (g.2.2.1.flatMap ceV) g.2.2.2 ∧ g.2.2.1.length = m.vs.cells.length ∧ Arr 3 1 na g.2.1.length nc (g.2.1.map I) sn) ((t.opn.length, t.opn, m.vs.cells, se)) (⟨hcl, rfl, hol, hce, rfl, hsn⟩) (by repeat (first | exact Sub.nil _ | refine Sub.cons rfl ?_)) (by repeat (first | exact Part.nil _ | (apply Part.cons; with_reducible (first | exact P0 | exact P1 | exact P2 | exact P3 | exact P4 | exact P5 | exact P6 | exact P7 | exact P8 | exact P9 | exact P10 | exact P11 | exact P12 | exact P13 | exact P14 | exact P15 | exact P16 | exact P17 | exact P18 | exact P19 | exact P20 | exact P21 | exact P22 | exact P23)) | (apply Part.flat; simp only [List.cons_append, List.nil_append]) | (apply Part.cons; (first | exact P0 | exact P1 | exact P2 | exact P3 | exact P4 | exact P5 | exact P6 | exact P7 | exact P8 | exact P9 | exact P10 | exact P11 | exact P12 | exact P13 | exact P14 | exact P15 | exact P16 | exact P17 | exact P18 | exact P19 | exact P20 | exact P21 | exact P22 | exact P23)) | (apply Part.nilc))) ?_
  rintro ⟨n, o, c, se1⟩ ⟨hcl, hn, hn1, hce1, hcl1, hsn1⟩
  dsimp only at hcl hn hn1 hce1 hcl1 hsn1 ⊢
  refine SP_seq ?_
  refine SP_seq ?_
  refine SP_region ?_
  refine SPL_y (y_move rfl) rfl ?_
  refine SPL_ifn (y_gtr rfl rfl) rfl ?_ ?_
  · intro h1_1
    refine SPL_nil ?_
    refine thenP_n ?_
    refine SP_cond_f rfl ?_
    refine SP_exit ?_
    refine thenP_exit ?_
    refine thenP_exit ?_
    refine inBlockP_hit ?_
    refine bodyP_end (H' := [List.flatten [blk b.vb 115 [pt b.nb, pt b.tb, .slice ph.pa m.pg.protos.length ph.pc, .slice ph.da m.pg.descs.length ph.dc, .slice ph.ka m.pg.consts.length ph.kc, .slice ph.ca m.pg.code.length ph.cc, .slice la m.vs.clos.length lc, .slice ua m.vs.upix.length uc, .slice ea m.vs.cells.length ec, .slice (some ⟨b.thb, 0, none⟩) m.vs.threads.length 5, I m.vs.fuel, .slice xa m.vs.out.length xc, I m.ended], r, se1, blk b.thb 263 (c0 ++ [I t.st, I t.fn, .slice g.sa t.stack.length g.sc, .slice g.fa t.frames.length g.fc, .slice na o.length nc] ++ c2), s0, ss, sf, sn, s2]]) (Res0 rfl) (by repeat (first | exact Part.nil _ | (apply Part.cons; with_reducible (first | exact P0 | exact P1 | exact P2 | exact P3 | exact P4 | exact P5 | exact P6 | exact P7 | exact P8 | exact P9 | exact P10 | exact P11 | exact P12 | exact P13 | exact P14 | exact P15 | exact P16 | exact P17 | exact P18 | exact P19 | exact P20 | exact P21 | exact P22 | exact P23)) | (apply Part.flat; simp only [List.cons_append, List.nil_append]) | (apply Part.cons; (first | exact P0 | exact P1 | exact P2 | exact P3 | exact P4 | exact P5 | exact P6 | exact P7 | exact P8 | exact P9 | exact P10 | exact P11 | exact P12 | exact P13 | exact P14 | exact P15 | exact P16 | exact P17 | exact P18 | exact P19 | exact P20 | exact P21 | exact P22 | exact P23)) | (apply Part.nilc))) ?_
    obtain rfl : n = 0 := by omega
    unfold closeL at hcl
    injection hcl with hcl
    injection hcl with h1 h2
    subst h1
    subst h2
    refine ⟨rfl, _, ?_, by rw [← hcl1]⟩
    have hM2 := hput c { t with opn := o } g _ ec _ nc _ ss sf _ hce1 hss hsf hsn1
    rw [set_same hg] at hM2
    exact hM2
  intro h1_1
  refine SPL_nil ?_
  refine thenP_n ?_
  refine SP_cond_t rfl ?_
  refine SP_skip ?_
  refine thenP_n ?_
  refine SP_seq ?_
  refine SP_block ?_
  refine SP_seq ?_
  obtain ⟨k, rfl⟩ : ∃ k, n = k + 1 := ⟨n - 1, by omega⟩
  unfold closeL at hcl
  obtain ⟨j, hj, hcl⟩ := bnd1 hcl
  obtain ⟨⟨eth, eat, ev⟩, he, hcl⟩ := bnd1 hcl
  obtain ⟨hjb, hjc, hjn, hjl, hje⟩ := getI_some he
  obtain ⟨nq, nsp, rfl, hnc, hnsp, rfl⟩ := hsn1.row (by omega)
  obtain ⟨eb, esp, rfl, hec, hesp, rfl⟩ := hce1.row (by omega)
  have hkl : k < o.length := (List.getElem?_eq_some_iff.1 hj).1
  have hkj : o.getD k 0 = j := by rw [List.getD_eq_getElem?_getD, hj]; rfl
  refine SP_draw 999 [(0, 0), (1, 0), (2, 0), (4, 0), (5, 0), (6, 0), (8, 0), (9, 0), (3, 1), (7, 1), (10, 0), (11, 1), (12, 0), (13, 0)] mixed (by kernel_rfl) (fun _ _ _ _ _ h => h) (Part.refl _) ?_
  refine SPO_p rfl (y_move rfl) rfl ?_
  refine SPO_p rfl (y_nil rfl) rfl ?_
  refine SPO_p rfl (y_fa fld_115_8 rfl) rfl ?_
  refine SPO_p rfl (y_move rfl) rfl ?_
  refine SPO_p rfl (y_nil rfl) rfl ?_
  refine SPO_p rfl (y_fa fld_263_4 rfl) rfl ?_
  refine SPO_p rfl (y_move rfl) rfl ?_
  refine SPO_p rfl (y_subE rfl rfl (c := (k : Int)) (by omega) (by omega)) rfl ?_
  refine SPO_h rfl (y_load Tryz.isAgg113 rfl (by repeat (first | exact Cell.amid hpre rfl | exact Cell.head rfl | apply Cell.tail))) rfl ?_
  refine SPO_h rfl (y_load Tryz.isAgg112 rfl (by repeat (first | exact Cell.amid hpre rfl | exact Cell.head rfl | apply Cell.tail))) rfl ?_
  refine SPO_p rfl (y_ia Tryz.underlying112 Tryz.sizeOf3 rfl rfl (by omega)) rfl ?_
  refine SPO_h rfl (y_load Tryz.isAgg3 rfl (by repeat (first | exact (map_cell (d := 0) (by omega) (by omega)) | apply Cell.tail))) rfl ?_
  rw [show ((k : Nat) : Int).toNat = k from Int.toNat_natCast k, hkj]
  refine SPO_p rfl (y_ia Tryz.underlying113 Tryz.sizeOf287 rfl rfl (by omega)) rfl ?_
  refine SPO_p rfl (y_assign rfl) rfl ?_
  refine SPO_nil ?_
  refine thenP_n ?_
  refine SP_seq ?_
  refine SP_seq ?_
  refine SP_region ?_
  refine SPL_y (y_move rfl) rfl ?_
  refine SPL_y (y_nil rfl) rfl ?_
  refine SPL_y (y_fa fld_287_1 rfl) rfl ?_
  refine SPL_y (y_load Tryz.isAgg3 rfl (by repeat (first | exact (flat_cellE ceV_len hjn hjl hje rfl) | apply Cell.tail))) rfl ?_
  refine SPL_y (y_move rfl) rfl ?_
  refine SPL_if (y_lss rfl rfl) rfl ?_ ?_
  · intro h4_5
    refine SPL_nil ?_
    refine thenP_n ?_
    refine SP_cond_t rfl ?_
    refine SP_ret ?_
    refine thenP_ret (inBlockP_ret (thenP_ret (thenP_ret (inBlockP_ret (bodyP_ret (H' := [List.flatten [blk b.vb 115 [pt b.nb, pt b.tb, .slice ph.pa m.pg.protos.length ph.pc, .slice ph.da m.pg.descs.length ph.dc, .slice ph.ka m.pg.consts.length ph.kc, .slice ph.ca m.pg.code.length ph.cc, .slice la m.vs.clos.length lc, .slice ua m.vs.upix.length uc, .slice (some ⟨eb, 0, none⟩) m.vs.cells.length ec, .slice (some ⟨b.thb, 0, none⟩) m.vs.threads.length 5, I m.vs.fuel, .slice xa m.vs.out.length xc, I m.ended], r, blk eb 287 (c.flatMap ceV ++ esp), blk b.thb 263 (c0 ++ [I t.st, I t.fn, .slice g.sa t.stack.length g.sc, .slice g.fa t.frames.length g.fc, .slice (some ⟨nq, 0, none⟩) o.length nc] ++ c2), s0, ss, sf, blk nq 3 (o.map I ++ nsp), s2]]) (Res0 rfl) (by repeat (first | exact Part.nil _ | (apply Part.cons; with_reducible (first | exact P0 | exact P1 | exact P2 | exact P3 | exact P4 | exact P5 | exact P6 | exact P7 | exact P8 | exact P9 | exact P10 | exact P11 | exact P12 | exact P13 | exact P14 | exact P15 | exact P16 | exact P17 | exact P18 | exact P19 | exact P20 | exact P21 | exact P22 | exact P23)) | (apply Part.flat; simp only [List.cons_append, List.nil_append]) | (apply Part.cons; (first | exact P0 | exact P1 | exact P2 | exact P3 | exact P4 | exact P5 | exact P6 | exact P7 | exact P8 | exact P9 | exact P10 | exact P11 | exact P12 | exact P13 | exact P14 | exact P15 | exact P16 | exact P17 | exact P18 | exact P19 | exact P20 | exact P21 | exact P22 | exact P23)) | (apply Part.nilc))) ?_)))))
    rw [if_pos h4_5] at hcl
    injection hcl with hcl
    injection hcl with h1 h2
    subst h1
    subst h2
    refine ⟨rfl, _, ?_, by rw [← hcl1]⟩
    have hM2 := hput c { t with opn := o } g _ ec _ nc _ ss sf _ hce1 hss hsf hsn1
    rw [set_same hg] at hM2
    exact hM2
  intro h4_5
  refine SPL_nil ?_
  refine thenP_n ?_
  refine SP_cond_f rfl ?_
  refine SP_skip ?_
  refine thenP_n ?_
  refine SP_seq ?_
  rw [if_neg h4_5] at hcl
  obtain ⟨v, hv, hcl⟩ := bnd1 hcl
  obtain ⟨hvb, hvc, hvn, hvl, hve⟩ := getI_some hv
  obtain ⟨sq, ssp, hsa, hsc, hssp, rfl⟩ := hss.row (by dsimp only at hvc; omega)
  rw [hsa]
  dsimp only at hvb hvc hvn hvl hve
  refine SP_draw 13 [(0, 0), (1, 0), (2, 0), (3, 0), (5, 0), (6, 0), (7, 0), (4, 1), (8, 1), (9, 0), (10, 1), (11, 0), (12, 0), (13, 3)] mixed (by kernel_rfl) (fun _ _ _ _ _ h => h) (Part.refl _) ?_
  refine SPO_p rfl (y_move rfl) rfl ?_
  refine SPO_p rfl (y_move rfl) rfl ?_
  refine SPO_p rfl (y_nil rfl) rfl ?_
  refine SPO_p rfl (y_fa fld_263_2 rfl) rfl ?_
  refine SPO_p rfl (y_move rfl) rfl ?_
  refine SPO_p rfl (y_nil rfl) rfl ?_
  refine SPO_p rfl (y_fa fld_287_1 rfl) rfl ?_
  refine SPO_h rfl (y_load Tryz.isAgg90 rfl (by repeat (first | exact Cell.amid hpre rfl | exact Cell.head rfl | apply Cell.tail))) rfl ?_
  refine SPO_h rfl (y_load Tryz.isAgg3 rfl (by repeat (first | exact (flat_cellE ceV_len hjn hjl hje rfl) | apply Cell.tail))) rfl ?_
  refine SPO_p rfl (y_ia Tryz.underlying90 Tryz.sizeOf42 rfl rfl (by dsimp only; omega)) rfl ?_
  refine SPO_h rfl (y_loads Tryz.isAgg42 Tryz.sizeOf42 rfl rfl (by repeat (first | exact (flat_cellsE valV_len hvn hvl hve) | apply Cells.tail))) rfl ?_
  refine SPO_p rfl (y_nil rfl) rfl ?_
  refine SPO_p rfl (y_fa fld_287_2 rfl) rfl ?_
  refine SPO_z (k := 0) rfl rfl (SP1_storesF (l := c) (x := ⟨eth, eat, v⟩) (vs := valV v) ceV_len hjn hjl (by rw [hje]; rfl) (by decide) Tryz.sizeOf42 rfl rfl rfl rfl rfl (by first | exact U0 | exact U1 | exact U2 | exact U3 | exact U4 | exact U5 | exact U6 | exact U7 | exact U8 | exact U9 | exact U10 | exact U11 | exact U12 | exact U13 | exact U14 | exact U15 | exact U16 | exact U17 | exact U18 | exact U19 | exact U20 | exact U21 | exact U22 | exact U23) ?_)
  refine SPO_nil ?_
  refine thenP_n ?_
  refine SP_seq ?_
  refine SP_region ?_
  refine SPL_y (y_move rfl) rfl ?_
  refine SPL_y (y_nil rfl) rfl ?_
  refine SPL_y (y_fa fld_287_0 rfl) rfl ?_
  refine SPL_one rfl (SP1_storeF (l := c.set j.toNat ⟨eth, eat, v⟩) (x := ⟨-1, eat, v⟩) ceV_len Tryz.sizeOf3 rfl rfl rfl hjn (by simpa using hjl) (by decide) (by rw [List.getElem_set_self]; rfl) (by first | exact U0 | exact U1 | exact U2 | exact U3 | exact U4 | exact U5 | exact U6 | exact U7 | exact U8 | exact U9 | exact U10 | exact U11 | exact U12 | exact U13 | exact U14 | exact U15 | exact U16 | exact U17 | exact U18 | exact U19 | exact U20 | exact U21 | exact U22 | exact U23) ?_)
  refine SPL_nil ?_
  refine thenP_n ?_
  refine SP_seq ?_
  refine SP_region ?_
  refine SPL_y (y_move rfl) rfl ?_
  refine SPL_y (y_nil rfl) rfl ?_
  refine SPL_y (y_fa fld_287_1 rfl) rfl ?_
  refine SPL_one rfl (SP1_storeF (l := (c.set j.toNat ⟨eth, eat, v⟩).set j.toNat ⟨-1, eat, v⟩) (x := ⟨-1, 0, v⟩) ceV_len Tryz.sizeOf3 rfl rfl rfl hjn (by simpa using hjl) (by decide) (by rw [List.getElem_set_self]; rfl) (by first | exact U0 | exact U1 | exact U2 | exact U3 | exact U4 | exact U5 | exact U6 | exact U7 | exact U8 | exact U9 | exact U10 | exact U11 | exact U12 | exact U13 | exact U14 | exact U15 | exact U16 | exact U17 | exact U18 | exact U19 | exact U20 | exact U21 | exact U22 | exact U23) ?_)
  rw [List.set_set, List.set_set]
  refine SPL_nil ?_
  refine thenP_n ?_
  refine SP_region ?_
  refine SPL_y (y_move rfl) rfl ?_
  refine SPL_y (y_move rfl) rfl ?_
  refine SPL_y (y_nil rfl) rfl ?_
  refine SPL_y (y_fa fld_263_4 rfl) rfl ?_
  refine SPL_y (y_load Tryz.isAgg112 rfl (by repeat (first | exact Cell.amid hpre rfl | exact Cell.head rfl | apply Cell.tail))) rfl ?_
  refine SPL_y (y_move rfl) rfl ?_
  refine SPL_y (y_subE rfl rfl (c := (k : Int)) (by omega) (by omega)) rfl ?_
  refine SPL_y (y_cut hsn1 Tryz.underlying112 Tryz.sizeOf3 rfl rfl (by omega)) rfl ?_
  refine SPL_y (y_nil rfl) rfl ?_
  refine SPL_y (y_fa fld_263_4 rfl) rfl ?_
  refine SPL_one rfl (SP1_storeM (j := 4) Tryz.sizeOf112 rfl rfl rfl hpre (by first | exact U0 | exact U1 | exact U2 | exact U3 | exact U4 | exact U5 | exact U6 | exact U7 | exact U8 | exact U9 | exact U10 | exact U11 | exact U12 | exact U13 | exact U14 | exact U15 | exact U16 | exact U17 | exact U18 | exact U19 | exact U20 | exact U21 | exact U22 | exact U23) (by rfl) ?_)
  simp only [List.set_cons_zero, List.set_cons_succ, List.take_succ_cons, List.take_zero, List.drop_succ_cons, List.drop_zero, List.cons_append, List.nil_append]
  have hA2 := hsn1.cut (j := k) (by omega)
  rw [Nat.mul_one, ← List.map_take] at hA2
  have hkk : ((k : Nat) : Int).toNat = (o.take k).length := by simp; omega
  rw [show k = (o.take k).length from by simp; omega] at hA2
  rw [show (o.take (o.take k).length) = o.take k from by congr 1; simp; omega] at hA2
  rw [hkk]
  rw [← hsa]
  refine SPL_nil ?_
  refine inBlockP_n ?_
  refine thenP_n ?_
  refine SP_region ?_
  refine SPL_y (y_move rfl) rfl ?_
  refine SPL_y (y_subE rfl rfl (c := (k : Int)) (by omega) (by omega)) rfl ?_
  refine SPL_y (y_assign rfl) rfl ?_
  refine SPL_nil ?_
  refine thenP_n ?_
  exact Again.intro ((k, o.take k, (c.set j.toNat ⟨-1, 0, v⟩), blk eb 287 ((c.set j.toNat ⟨-1, 0, v⟩).flatMap ceV ++ esp))) (⟨hcl, by dsimp only; simp; omega, by dsimp only; omega, Arr.mk (by rw [flat_len ceV_len]) (by simpa using hec) (by simpa using hesp), by dsimp only; simpa using hcl1, hA2⟩) (by dsimp only; omega) (by repeat (first | exact Sub.nil _ | refine Sub.cons rfl ?_)) (by repeat (first | exact Part.nil _ | (apply Part.cons; with_reducible (first | exact P0 | exact P1 | exact P2 | exact P3 | exact P4 | exact P5 | exact P6 | exact P7 | exact P8 | exact P9 | exact P10 | exact P11 | exact P12 | exact P13 | exact P14 | exact P15 | exact P16 | exact P17 | exact P18 | exact P19 | exact P20 | exact P21 | exact P22 | exact P23)) | (apply Part.flat; simp only [List.cons_append, List.nil_append]) | (apply Part.cons; (first | exact P0 | exact P1 | exact P2 | exact P3 | exact P4 | exact P5 | exact P6 | exact P7 | exact P8 | exact P9 | exact P10 | exact P11 | exact P12 | exact P13 | exact P14 | exact P15 | exact P16 | exact P17 | exact P18 | exact P19 | exact P20 | exact P21 | exact P22 | exact P23)) | (apply Part.nilc)))

end Go.Sl
