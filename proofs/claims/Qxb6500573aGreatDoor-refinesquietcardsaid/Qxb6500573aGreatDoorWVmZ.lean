/- Walks: package vm, return and unwind (made by program out of short notes) -/
import Derived.Test.Qxb6500573aGreatDoorWVmY
namespace Go.Sl
open Go Go.Wl Go.Proofs
set_option maxRecDepth 100000
set_option linter.unusedVariables false
set_option linter.unusedSimpArgs false
theorem rd_by {rb lb cap n j : Nat} {sp : List Value × (Nat × Nat)} {r r' : Rd} {H : Hp} (h : nx r n = some r') (hj : j < n) : Cell (rdSeg rb lb cap sp r' :: H) lb (0 + r.i * 1 + ((j : Nat) : Int).toNat * 1) (.int .u8 ((byA r j : Nat) : Int)) := by
  have hl := nx_l h
  have hb := (nx_some h).2.2.2.1
  have h0 := rd_byte (rb := rb) (lb := lb) (cap := cap) (sp := sp) (r := r') (H := H) (j := r.i + j) (by rw [hl]; omega)
  have e0 : r'.l[r.i + j]'(by rw [hl]; omega) = r.l.getD (r.i + j) 0 := by
    have hlt : r.i + j < r'.l.length := by rw [hl]; omega
    have : r'.l[r.i + j]? = r.l[r.i + j]? := by rw [hl]
    rw [List.getD_eq_getElem?_getD, ← this, List.getElem?_eq_getElem hlt]; rfl
  rw [e0] at h0
  rwa [show 0 + r.i * 1 + ((j : Nat) : Int).toNat * 1 = r.i + j from by omega]
theorem konM_rd {cap : Nat} {r r' : Rd} {v : V} (hr : rdOk cap r) (h : konM r = some (v, r')) : rdOk cap r' ∧ r'.bad = false ∧ r'.l = r.l := by
  unfold konM at h
  obtain ⟨r1, h1, h⟩ := bnd1 h
  have hr1 := hr.nx h1
  split at h
  · obtain ⟨r2, h2, h⟩ := bnd1 h
    split at h
    · cases h
    · injection h with h
      injection h with _ h
      subst h
      exact ⟨hr1.nx h2, nx_bad h2, by rw [nx_l h2, nx_l h1]⟩
  · split at h
    · obtain ⟨r2, h2, h⟩ := bnd1 h
      split at h
      · obtain ⟨r3, h3, h⟩ := bnd1 h
        injection h with h
        injection h with _ h
        subst h
        exact ⟨(hr1.nx h2).nx h3, nx_bad h3, by rw [nx_l h3, nx_l h2, nx_l h1]⟩
      · cases h
    · cases h
theorem w16_lt (r : Rd) : w16 r < 65536 := by
  have h0 := byA_lt r 0
  have h1 := byA_lt r 1
  unfold w16
  omega
set_option maxHeartbeats 4000000 in
theorem vm_proto (b : VB) (ph : PH) (hh : List TH) {m : VM} (rb lb cap : Nat) (sp : List Value × (Nat × Nat)) {r : Rd} (hr : rdOk cap r) {g : Pg} {r' : Rd} (hP : prtM r m.pg = some (g, r')) (seg : Seg) (hM : isVM b ph hh m seg) : Spec Tryz.prog 132 [pt b.vb, pt rb] [seg, rdSeg rb lb cap sp (r)] (Ret fun w H => w = .tuple #[] ∧ ∃ ph' seg', isVM b ph' hh { m with pg := g } seg' ∧ H = [seg', rdSeg rb lb cap sp (r')]) := by
  unfold prtM at hP
  refine Spec_enter Tryz.func132 rfl Tryz.ntmps132 rfl ?_
  show SP _ _ _ _ _ [(0, _), (1, _)] _
  refine SP_seq ?_
  refine SP_draw 17 [(0, 0), (1, 0), (2, 0), (5, 0), (6, 0), (7, 0), (10, 0), (11, 0), (12, 0), (3, 1), (4, 0), (8, 1), (9, 0), (13, 1), (14, 0), (15, 0), (16, 2), (17, 3)] mixed (by kernel_rfl) (fun _ _ _ _ _ h => h) (Part.refl _) ?_
  refine SPO_p rfl (y_move rfl) rfl ?_
  refine SPO_p rfl (y_nil rfl) rfl ?_
  refine SPO_p rfl (y_fa fld_115_3 rfl) rfl ?_
  refine SPO_p rfl (y_move rfl) rfl ?_
  refine SPO_p rfl (y_nil rfl) rfl ?_
  refine SPO_p rfl (y_fa fld_115_4 rfl) rfl ?_
  refine SPO_p rfl (y_move rfl) rfl ?_
  refine SPO_p rfl (y_nil rfl) rfl ?_
  refine SPO_p rfl (y_fa fld_115_5 rfl) rfl ?_
  refine SPO_h rfl (y_load Tryz.isAgg109 rfl (by repeat (first | exact hM.descs | apply Cell.tail))) rfl ?_
  refine SPO_p rfl (y_len_l Tryz.underlying109 rfl) rfl ?_
  refine SPO_h rfl (y_load Tryz.isAgg90 rfl (by repeat (first | exact hM.consts | apply Cell.tail))) rfl ?_
  refine SPO_p rfl (y_len_l Tryz.underlying90 rfl) rfl ?_
  refine SPO_h rfl (y_load Tryz.isAgg110 rfl (by repeat (first | exact hM.code | apply Cell.tail))) rfl ?_
  refine SPO_p rfl (y_len_l Tryz.underlying110 rfl) rfl ?_
  refine SPO_p rfl (y_build B252 rfl rfl (by simp only [fillL, List.foldl_cons, List.foldl_nil, List.set_cons_zero, List.set_cons_succ]; exact rfl)) rfl ?_
  refine SPO_a rfl rfl (SP1_alloc Tryz.zeroValue252 rfl rfl ?_)
  intro b4
  refine ⟨⟨_, (by repeat (first | exact Part.nil _ | (apply Part.cons; with_reducible (first | exact P0 | exact P1 | exact P2 | exact P3 | exact P4 | exact P5 | exact P6 | exact P7 | exact P8 | exact P9 | exact P10 | exact P11 | exact P12 | exact P13 | exact P14 | exact P15 | exact P16 | exact P17 | exact P18 | exact P19 | exact P20 | exact P21 | exact P22 | exact P23)) | (apply Part.flat; simp only [List.cons_append, List.nil_append]) | (apply Part.cons; (first | exact P0 | exact P1 | exact P2 | exact P3 | exact P4 | exact P5 | exact P6 | exact P7 | exact P8 | exact P9 | exact P10 | exact P11 | exact P12 | exact P13 | exact P14 | exact P15 | exact P16 | exact P17 | exact P18 | exact P19 | exact P20 | exact P21 | exact P22 | exact P23)) | (apply Part.nilc)))⟩, ?_⟩
  refine SPO_z (k := 0) rfl rfl (SP1_storeAll Tryz.sizeOf252 rfl rfl rfl rfl rfl (by first | exact U0 | exact U1 | exact U2 | exact U3 | exact U4 | exact U5 | exact U6 | exact U7 | exact U8 | exact U9 | exact U10 | exact U11 | exact U12 | exact U13 | exact U14 | exact U15 | exact U16 | exact U17 | exact U18 | exact U19 | exact U20 | exact U21 | exact U22 | exact U23) (by rfl) ?_)
  refine SPO_nil ?_
  refine thenP_n ?_
  refine SP_seq ?_
  refine SP_region ?_
  refine SPL_y (y_move rfl) rfl ?_
  obtain ⟨r1, hq1, hP⟩ := bnd1 hP
  refine SPL_one rfl (SP1_call (rd_take rb lb cap sp r hr 3 (by omega)) Tryz.call206 rfl rfl (by repeat (first | exact Part.nil _ | (apply Part.cons; with_reducible (first | exact P0 | exact P1 | exact P2 | exact P3 | exact P4 | exact P5 | exact P6 | exact P7 | exact P8 | exact P9 | exact P10 | exact P11 | exact P12 | exact P13 | exact P14 | exact P15 | exact P16 | exact P17 | exact P18 | exact P19 | exact P20 | exact P21 | exact P22 | exact P23)) | (apply Part.flat; simp only [List.cons_append, List.nil_append]) | (apply Part.cons; (first | exact P0 | exact P1 | exact P2 | exact P3 | exact P4 | exact P5 | exact P6 | exact P7 | exact P8 | exact P9 | exact P10 | exact P11 | exact P12 | exact P13 | exact P14 | exact P15 | exact P16 | exact P17 | exact P18 | exact P19 | exact P20 | exact P21 | exact P22 | exact P23)) | (apply Part.nilc))) ?_)
  rintro v post H' ⟨rfl, rfl⟩ hH
  try simp only [List.cons_append, List.nil_append] at hH
  subst hH
  rw [tkV_good hr (by decide) (nx_some hq1).1, (nx_some hq1).2.1]
  have hr1 := hr
  replace hr := hr.nx hq1
  refine SPL_y (y_assign rfl) rfl ?_
  refine SPL_nil ?_
  refine thenP_n ?_
  refine SP_seq ?_
  refine SP_seq ?_
  refine SP_region ?_
  refine SPL_y (y_move rfl) rfl ?_
  refine SPL_y (y_nil rfl) rfl ?_
  refine SPL_y (y_fa fld_248_2 rfl) rfl ?_
  refine SPL_y (y_load Tryz.isAgg4 rfl (by repeat (first | exact (rd_badF (nx_bad hq1)) | apply Cell.tail))) rfl ?_
  refine SPL_nil ?_
  refine thenP_n ?_
  refine SP_cond_f rfl ?_
  refine SP_skip ?_
  refine thenP_n ?_
  refine SP_seq ?_
  refine SP_draw (Hs := [rdSeg rb lb cap sp (r1)]) 17 [(0, 0), (1, 0), (4, 0), (5, 0), (8, 0), (9, 0), (2, 1), (3, 0), (12, 0), (6, 1), (7, 0), (10, 1), (11, 0), (13, 2), (14, 0), (15, 2), (16, 0), (17, 3)] mixed (by kernel_rfl) (fun _ _ _ _ _ h => h) (by repeat (first | exact Part.nil _ | (apply Part.cons; with_reducible (first | exact P0 | exact P1 | exact P2 | exact P3 | exact P4 | exact P5 | exact P6 | exact P7 | exact P8 | exact P9 | exact P10 | exact P11 | exact P12 | exact P13 | exact P14 | exact P15 | exact P16 | exact P17 | exact P18 | exact P19 | exact P20 | exact P21 | exact P22 | exact P23)) | (apply Part.flat; simp only [List.cons_append, List.nil_append]) | (apply Part.cons; (first | exact P0 | exact P1 | exact P2 | exact P3 | exact P4 | exact P5 | exact P6 | exact P7 | exact P8 | exact P9 | exact P10 | exact P11 | exact P12 | exact P13 | exact P14 | exact P15 | exact P16 | exact P17 | exact P18 | exact P19 | exact P20 | exact P21 | exact P22 | exact P23)) | (apply Part.nilc))) ?_
  refine SPO_p rfl (y_move rfl) rfl ?_
  refine SPO_p rfl (y_ia Tryz.underlying67 Tryz.sizeOf5 rfl rfl (by omega)) rfl ?_
  refine SPO_p rfl (y_move rfl) rfl ?_
  refine SPO_p rfl (y_ia Tryz.underlying67 Tryz.sizeOf5 rfl rfl (by omega)) rfl ?_
  refine SPO_p rfl (y_move rfl) rfl ?_
  refine SPO_p rfl (y_ia Tryz.underlying67 Tryz.sizeOf5 rfl rfl (by omega)) rfl ?_
  refine SPO_h rfl (y_load Tryz.isAgg5 rfl (by repeat (first | exact (rd_by (j := 0) hq1 (by decide)) | apply Cell.tail))) rfl ?_
  refine SPO_p rfl (y_conv Tryz.underlying5 Tryz.underlying3 rfl (show IntKind.i64.wrap ((byA r 0 : Nat) : Int) = ((byA r 0 : Nat) : Int) from wrap_i64 (by omega) (by have := byA_lt r 0; omega))) rfl ?_
  refine SPO_p rfl (y_fa fld_252_0 rfl) rfl ?_
  refine SPO_h rfl (y_load Tryz.isAgg5 rfl (by repeat (first | exact (rd_by (j := 1) hq1 (by decide)) | apply Cell.tail))) rfl ?_
  refine SPO_p rfl (y_conv Tryz.underlying5 Tryz.underlying3 rfl (show IntKind.i64.wrap ((byA r 1 : Nat) : Int) = ((byA r 1 : Nat) : Int) from wrap_i64 (by omega) (by have := byA_lt r 1; omega))) rfl ?_
  refine SPO_h rfl (y_load Tryz.isAgg5 rfl (by repeat (first | exact (rd_by (j := 2) hq1 (by decide)) | apply Cell.tail))) rfl ?_
  refine SPO_p rfl (y_conv Tryz.underlying5 Tryz.underlying3 rfl (show IntKind.i64.wrap ((byA r 2 : Nat) : Int) = ((byA r 2 : Nat) : Int) from wrap_i64 (by omega) (by have := byA_lt r 2; omega))) rfl ?_
  refine SPO_a rfl rfl (SP1_store Tryz.sizeOf3 rfl rfl rfl (by first | exact U0 | exact U1 | exact U2 | exact U3 | exact U4 | exact U5 | exact U6 | exact U7 | exact U8 | exact U9 | exact U10 | exact U11 | exact U12 | exact U13 | exact U14 | exact U15 | exact U16 | exact U17 | exact U18 | exact U19 | exact U20 | exact U21 | exact U22 | exact U23) (by rfl) ?_)
  refine ⟨⟨_, (by repeat (first | exact Part.nil _ | (apply Part.cons; with_reducible (first | exact P0 | exact P1 | exact P2 | exact P3 | exact P4 | exact P5 | exact P6 | exact P7 | exact P8 | exact P9 | exact P10 | exact P11 | exact P12 | exact P13 | exact P14 | exact P15 | exact P16 | exact P17 | exact P18 | exact P19 | exact P20 | exact P21 | exact P22 | exact P23)) | (apply Part.flat; simp only [List.cons_append, List.nil_append]) | (apply Part.cons; (first | exact P0 | exact P1 | exact P2 | exact P3 | exact P4 | exact P5 | exact P6 | exact P7 | exact P8 | exact P9 | exact P10 | exact P11 | exact P12 | exact P13 | exact P14 | exact P15 | exact P16 | exact P17 | exact P18 | exact P19 | exact P20 | exact P21 | exact P22 | exact P23)) | (apply Part.nilc)))⟩, ?_⟩
  refine SPO_p rfl (y_fa fld_252_1 rfl) rfl ?_
  refine SPO_a rfl rfl (SP1_store Tryz.sizeOf3 rfl rfl rfl (by first | exact U0 | exact U1 | exact U2 | exact U3 | exact U4 | exact U5 | exact U6 | exact U7 | exact U8 | exact U9 | exact U10 | exact U11 | exact U12 | exact U13 | exact U14 | exact U15 | exact U16 | exact U17 | exact U18 | exact U19 | exact U20 | exact U21 | exact U22 | exact U23) (by rfl) ?_)
  refine ⟨⟨_, (by repeat (first | exact Part.nil _ | (apply Part.cons; with_reducible (first | exact P0 | exact P1 | exact P2 | exact P3 | exact P4 | exact P5 | exact P6 | exact P7 | exact P8 | exact P9 | exact P10 | exact P11 | exact P12 | exact P13 | exact P14 | exact P15 | exact P16 | exact P17 | exact P18 | exact P19 | exact P20 | exact P21 | exact P22 | exact P23)) | (apply Part.flat; simp only [List.cons_append, List.nil_append]) | (apply Part.cons; (first | exact P0 | exact P1 | exact P2 | exact P3 | exact P4 | exact P5 | exact P6 | exact P7 | exact P8 | exact P9 | exact P10 | exact P11 | exact P12 | exact P13 | exact P14 | exact P15 | exact P16 | exact P17 | exact P18 | exact P19 | exact P20 | exact P21 | exact P22 | exact P23)) | (apply Part.nilc)))⟩, ?_⟩
  refine SPO_p rfl (y_fa fld_252_3 rfl) rfl ?_
  refine SPO_z (k := 0) rfl rfl (SP1_store Tryz.sizeOf3 rfl rfl rfl (by first | exact U0 | exact U1 | exact U2 | exact U3 | exact U4 | exact U5 | exact U6 | exact U7 | exact U8 | exact U9 | exact U10 | exact U11 | exact U12 | exact U13 | exact U14 | exact U15 | exact U16 | exact U17 | exact U18 | exact U19 | exact U20 | exact U21 | exact U22 | exact U23) (by rfl) ?_)
  refine SPO_nil ?_
  refine thenP_n ?_
  refine SP_seq ?_
  refine SP_seq ?_
  refine SP_region ?_
  refine SPL_y (y_fa fld_252_0 rfl) rfl ?_
  refine SPL_y (y_load Tryz.isAgg3 rfl (by repeat (first | exact Cell.amid hpre rfl | exact Cell.head rfl | apply Cell.tail))) rfl ?_
  refine SPL_if (y_gtr rfl rfl) rfl ?_ ?_
  · intro h4_2
    rw [if_neg (by omega)] at hP; cases hP
  intro h4_2
  refine SPL_y (y_move rfl) rfl ?_
  refine SPL_gy rfl rfl ?_
  refine SPL_y (y_fa fld_252_0 rfl) rfl ?_
  refine SPL_gy rfl rfl ?_
  refine SPL_y (y_load Tryz.isAgg3 rfl (by repeat (first | exact Cell.amid hpre rfl | exact Cell.head rfl | apply Cell.tail))) rfl ?_
  refine SPL_gy rfl rfl ?_
  refine SPL_y (y_fa fld_252_1 rfl) rfl ?_
  refine SPL_gy rfl rfl ?_
  refine SPL_y (y_load Tryz.isAgg3 rfl (by repeat (first | exact Cell.amid hpre rfl | exact Cell.head rfl | apply Cell.tail))) rfl ?_
  refine SPL_gy rfl rfl ?_
  refine SPL_if (y_gtr rfl rfl) rfl ?_ ?_
  · intro h4_8
    rw [if_neg (by omega)] at hP; cases hP
  intro h4_8
  refine SPL_y (y_pick_f rfl rfl) rfl ?_
  refine SPL_y (y_move rfl) rfl ?_
  refine SPL_gy rfl rfl ?_
  refine SPL_y (y_fa fld_252_1 rfl) rfl ?_
  refine SPL_gy rfl rfl ?_
  refine SPL_y (y_load Tryz.isAgg3 rfl (by repeat (first | exact Cell.amid hpre rfl | exact Cell.head rfl | apply Cell.tail))) rfl ?_
  refine SPL_gy rfl rfl ?_
  refine SPL_if (y_gtr rfl rfl) rfl ?_ ?_
  · intro h4_13
    rw [if_neg (by omega)] at hP; cases hP
  intro h4_13
  refine SPL_y (y_pick_f rfl rfl) rfl ?_
  refine SPL_nil ?_
  refine thenP_n ?_
  refine SP_cond_f rfl ?_
  refine SP_skip ?_
  refine thenP_n ?_
  refine SP_seq ?_
  refine SP_seq ?_
  rw [if_pos (by omega)] at hP
  obtain ⟨ds, r2, hds, hP⟩ := bnd2 hP
  have hby2 := byA_lt r 2
  refine SP_region ?_
  refine SPL_y (y_assign rfl) rfl ?_
  refine SPL_nil ?_
  refine thenP_n ?_
  refine SP_block ?_
  refine SP_loop (G := Int × Nat × Rd × List (Int × Int) × PH × Seg) (fun g => g.2.1) (fun g => [(0, pt b.vb), (1, pt rb), (4, pt b4), (6, I g.1)]) (fun g => [blk b4 252 [I ((byA r 0 : Nat) : Int), I ((byA r 1 : Nat) : Int), I (m.pg.descs.length : Nat), I ((byA r 2 : Nat) : Int), I (m.pg.consts.length : Nat), I 0, I (m.pg.code.length : Nat), I 0], g.2.2.2.2.2, rdSeg rb lb cap sp (g.2.2.1)]) (fun g => (0 ≤ g.1 ∧ g.1 + (g.2.1 : Nat) = ((byA r 2 : Nat) : Int)) ∧ isVM b g.2.2.2.2.1 hh { m with pg := ⟨m.pg.protos, g.2.2.2.1, m.pg.consts, m.pg.code⟩ } g.2.2.2.2.2 ∧ dscL g.2.1 g.2.2.1 g.2.2.2.1 = some (ds, r2) ∧ rdOk cap g.2.2.1 ∧ g.2.2.1.bad = false) ((0, byA r 2, r1, m.pg.descs, ph, seg)) (⟨⟨by dsimp only; omega, by dsimp only; omega⟩, hM, hds, hr, nx_bad hq1⟩) (by repeat (first | exact Sub.nil _ | refine Sub.cons rfl ?_)) (by repeat (first | exact Part.nil _ | (apply Part.cons; with_reducible (first | exact P0 | exact P1 | exact P2 | exact P3 | exact P4 | exact P5 | exact P6 | exact P7 | exact P8 | exact P9 | exact P10 | exact P11 | exact P12 | exact P13 | exact P14 | exact P15 | exact P16 | exact P17 | exact P18 | exact P19 | exact P20 | exact P21 | exact P22 | exact P23)) | (apply Part.flat; simp only [List.cons_append, List.nil_append]) | (apply Part.cons; (first | exact P0 | exact P1 | exact P2 | exact P3 | exact P4 | exact P5 | exact P6 | exact P7 | exact P8 | exact P9 | exact P10 | exact P11 | exact P12 | exact P13 | exact P14 | exact P15 | exact P16 | exact P17 | exact P18 | exact P19 | exact P20 | exact P21 | exact P22 | exact P23)) | (apply Part.nilc))) ?_
  rintro ⟨i7, n7, r7, l7, ph7, sg7⟩ ⟨hn7, hM7, hd7, hr, hb7⟩
  dsimp only at hn7 hM7 hd7 hr hb7
  refine SP_seq ?_
  refine SP_seq ?_
  refine SP_region ?_
  refine SPL_y (y_move rfl) rfl ?_
  refine SPL_y (y_fa fld_252_3 rfl) rfl ?_
  refine SPL_y (y_load Tryz.isAgg3 rfl (by repeat (first | exact Cell.amid hpre rfl | exact Cell.head rfl | apply Cell.tail))) rfl ?_
  refine SPL_if (y_lss rfl rfl) rfl ?_ ?_
  · intro h7_3
    refine SPL_y (y_move rfl) rfl ?_
    refine SPL_gy rfl rfl ?_
    refine SPL_y (y_move rfl) rfl ?_
    refine SPL_gy rfl rfl ?_
    refine SPL_y (y_nil rfl) rfl ?_
    refine SPL_gy rfl rfl ?_
    refine SPL_y (y_fa fld_248_2 rfl) rfl ?_
    refine SPL_gy rfl rfl ?_
    refine SPL_y (y_load Tryz.isAgg4 rfl (by repeat (first | exact (rd_badF hb7) | apply Cell.tail))) rfl ?_
    refine SPL_gy rfl rfl ?_
    refine SPL_y (y_not_f rfl) rfl ?_
    refine SPL_y (y_pick_t rfl rfl) rfl ?_
    refine SPL_nil ?_
    refine thenP_n ?_
    refine SP_cond_t rfl ?_
    refine SP_skip ?_
    refine thenP_n ?_
    refine SP_seq ?_
    refine SP_block ?_
    refine SP_seq ?_
    refine SP_region ?_
    refine SPL_y (y_move rfl) rfl ?_
    obtain ⟨k7, rfl⟩ : ∃ k, n7 = k + 1 := ⟨n7 - 1, by omega⟩
    unfold dscL at hd7
    have hl7 : l7.length < 1000000 := Decidable.byContradiction fun q => by rw [if_neg q] at hd7; cases hd7
    rw [if_pos hl7] at hd7
    obtain ⟨r9, hq9, hd7⟩ := bnd1 hd7
    refine SPL_one rfl (SP1_call (rd_take rb lb cap sp r7 hr 2 (by omega)) Tryz.call206 rfl rfl (by repeat (first | exact Part.nil _ | (apply Part.cons; with_reducible (first | exact P0 | exact P1 | exact P2 | exact P3 | exact P4 | exact P5 | exact P6 | exact P7 | exact P8 | exact P9 | exact P10 | exact P11 | exact P12 | exact P13 | exact P14 | exact P15 | exact P16 | exact P17 | exact P18 | exact P19 | exact P20 | exact P21 | exact P22 | exact P23)) | (apply Part.flat; simp only [List.cons_append, List.nil_append]) | (apply Part.cons; (first | exact P0 | exact P1 | exact P2 | exact P3 | exact P4 | exact P5 | exact P6 | exact P7 | exact P8 | exact P9 | exact P10 | exact P11 | exact P12 | exact P13 | exact P14 | exact P15 | exact P16 | exact P17 | exact P18 | exact P19 | exact P20 | exact P21 | exact P22 | exact P23)) | (apply Part.nilc))) ?_)
    rintro v post H' ⟨rfl, rfl⟩ hH
    try simp only [List.cons_append, List.nil_append] at hH
    subst hH
    rw [tkV_good hr (by decide) (nx_some hq9).1, (nx_some hq9).2.1]
    have hr9 := hr
    replace hr := hr.nx hq9
    refine SPL_y (y_assign rfl) rfl ?_
    refine SPL_nil ?_
    refine thenP_n ?_
    refine SP_seq ?_
    refine SP_seq ?_
    refine SP_region ?_
    refine SPL_y (y_move rfl) rfl ?_
    refine SPL_y (y_nil rfl) rfl ?_
    refine SPL_y (y_fa fld_248_2 rfl) rfl ?_
    refine SPL_y (y_load Tryz.isAgg4 rfl (by repeat (first | exact (rd_badF (nx_bad hq9)) | apply Cell.tail))) rfl ?_
    refine SPL_y (y_move rfl) rfl ?_
    refine SPL_gy rfl rfl ?_
    refine SPL_y (y_move rfl) rfl ?_
    refine SPL_gy rfl rfl ?_
    refine SPL_y (y_ia Tryz.underlying67 Tryz.sizeOf5 rfl rfl (by omega)) rfl ?_
    refine SPL_gy rfl rfl ?_
    refine SPL_y (y_load Tryz.isAgg5 rfl (by repeat (first | exact (rd_by (j := 0) hq9 (by decide)) | apply Cell.tail))) rfl ?_
    refine SPL_gy rfl rfl ?_
    refine SPL_if (y_gtr rfl rfl) rfl ?_ ?_
    · intro h10_8
      rw [if_neg (by omega)] at hd7; cases hd7
    intro h10_8
    refine SPL_y (y_pick_f rfl rfl) rfl ?_
    refine SPL_nil ?_
    refine thenP_n ?_
    refine SP_cond_f rfl ?_
    refine SP_skip ?_
    refine thenP_n ?_
    rw [if_pos (by omega)] at hd7
    have hop := hM7.opnAD
    dsimp only at hop
    obtain ⟨la, ua, ea, xa, lc, uc, ec, xc, s0, sd, s2, rfl, hds7, hput⟩ := hop
    refine SP_openAt [blk b.vb 115 [pt b.nb, pt b.tb, .slice ph7.pa m.pg.protos.length ph7.pc, .slice ph7.da l7.length ph7.dc, .slice ph7.ka m.pg.consts.length ph7.kc, .slice ph7.ca m.pg.code.length ph7.cc, .slice la m.vs.clos.length lc, .slice ua m.vs.upix.length uc, .slice ea m.vs.cells.length ec, .slice (some ⟨b.thb, 0, none⟩) m.vs.threads.length 5, I m.vs.fuel, .slice xa m.vs.out.length xc, I m.ended], s0, sd, s2] (by first | exact P0 | exact P1 | exact P2 | exact P3 | exact P4 | exact P5 | exact P6 | exact P7 | exact P8 | exact P9 | exact P10 | exact P11 | exact P12 | exact P13 | exact P14 | exact P15 | exact P16 | exact P17 | exact P18 | exact P19 | exact P20 | exact P21 | exact P22 | exact P23) ?_
    simp only [List.cons_append, List.nil_append]
    refine SP_draw 13 [(0, 0), (1, 0), (2, 0), (3, 0), (5, 0), (6, 0), (8, 0), (9, 0), (4, 1), (7, 1), (10, 1), (11, 0), (12, 2), (13, 3), (14, 0), (15, 0), (16, 3)] mixed (by kernel_rfl) (fun _ _ _ _ _ h => h) (Part.refl _) ?_
    refine SPO_p rfl (y_move rfl) rfl ?_
    refine SPO_p rfl (y_move rfl) rfl ?_
    refine SPO_p rfl (y_nil rfl) rfl ?_
    refine SPO_p rfl (y_fa fld_115_3 rfl) rfl ?_
    refine SPO_p rfl (y_move rfl) rfl ?_
    refine SPO_p rfl (y_ia Tryz.underlying67 Tryz.sizeOf5 rfl rfl (by omega)) rfl ?_
    refine SPO_p rfl (y_move rfl) rfl ?_
    refine SPO_p rfl (y_ia Tryz.underlying67 Tryz.sizeOf5 rfl rfl (by omega)) rfl ?_
    refine SPO_h rfl (y_load Tryz.isAgg109 rfl (by repeat (first | exact Cell.amid hpre rfl | exact Cell.head rfl | apply Cell.tail))) rfl ?_
    refine SPO_h rfl (y_load Tryz.isAgg5 rfl (by repeat (first | exact (rd_by (j := 0) hq9 (by decide)) | apply Cell.tail))) rfl ?_
    refine SPO_h rfl (y_load Tryz.isAgg5 rfl (by repeat (first | exact (rd_by (j := 1) hq9 (by decide)) | apply Cell.tail))) rfl ?_
    refine SPO_p rfl (y_build B321 rfl rfl (by simp only [fillL, List.foldl_cons, List.foldl_nil, List.set_cons_zero, List.set_cons_succ]; exact rfl)) rfl ?_
    refine SPO_a rfl rfl (SP1_slice1 el_109 rfl rfl rfl rfl rfl ?_)
    intro b108
    refine ⟨⟨_, (by repeat (first | exact Part.nil _ | (apply Part.cons; with_reducible (first | exact P0 | exact P1 | exact P2 | exact P3 | exact P4 | exact P5 | exact P6 | exact P7 | exact P8 | exact P9 | exact P10 | exact P11 | exact P12 | exact P13 | exact P14 | exact P15 | exact P16 | exact P17 | exact P18 | exact P19 | exact P20 | exact P21 | exact P22 | exact P23)) | (apply Part.flat; simp only [List.cons_append, List.nil_append]) | (apply Part.cons; (first | exact P0 | exact P1 | exact P2 | exact P3 | exact P4 | exact P5 | exact P6 | exact P7 | exact P8 | exact P9 | exact P10 | exact P11 | exact P12 | exact P13 | exact P14 | exact P15 | exact P16 | exact P17 | exact P18 | exact P19 | exact P20 | exact P21 | exact P22 | exact P23)) | (apply Part.nilc)))⟩, ?_⟩
    refine SPO_z (k := 0) rfl rfl (SP1_append el_109 (.inl Tryz.underlying109) rfl rfl hds7 (by first | exact P0 | exact P1 | exact P2 | exact P3 | exact P4 | exact P5 | exact P6 | exact P7 | exact P8 | exact P9 | exact P10 | exact P11 | exact P12 | exact P13 | exact P14 | exact P15 | exact P16 | exact P17 | exact P18 | exact P19 | exact P20 | exact P21 | exact P22 | exact P23) (Src.of (by repeat (first | exact Cells.all _ | exact Cells.amid hpre rfl (by decide) | exact Cells.head rfl | apply Cells.tail)) (by rfl)) (by rfl) (by omega) rfl ?_)
    intro da1 dc1 sd1 hA1
    refine SPO_p rfl (y_nil rfl) rfl ?_
    refine SPO_p rfl (y_fa fld_115_3 rfl) rfl ?_
    refine SPO_z (k := 0) rfl rfl (SP1_store Tryz.sizeOf109 rfl rfl rfl (by first | exact U0 | exact U1 | exact U2 | exact U3 | exact U4 | exact U5 | exact U6 | exact U7 | exact U8 | exact U9 | exact U10 | exact U11 | exact U12 | exact U13 | exact U14 | exact U15 | exact U16 | exact U17 | exact U18 | exact U19 | exact U20 | exact U21 | exact U22 | exact U23) (by rfl) ?_)
    refine SPO_nil ?_
    refine inBlockP_n ?_
    refine thenP_n ?_
    have hA1' : Arr 321 2 da1 (l7 ++ [(((byA r7 0 : Nat) : Int), ((byA r7 1 : Nat) : Int))]).length dc1 ((l7 ++ [(((byA r7 0 : Nat) : Int), ((byA r7 1 : Nat) : Int))]).flatMap upV) sd1 := by
      rw [List.length_append, List.flatMap_append]; exact hA1
    have hM2 := hput (l7 ++ [(((byA r7 0 : Nat) : Int), ((byA r7 1 : Nat) : Int))]) da1 dc1 sd1 hA1'
    rw [List.length_append] at hM2
    refine SP_part (H' := [blk b4 252 [I ((byA r 0 : Nat) : Int), I ((byA r 1 : Nat) : Int), I (m.pg.descs.length : Nat), I ((byA r 2 : Nat) : Int), I (m.pg.consts.length : Nat), I 0, I (m.pg.code.length : Nat), I 0], (List.flatten [blk b.vb 115 [pt b.nb, pt b.tb, .slice ph7.pa m.pg.protos.length ph7.pc, .slice da1 (l7.length + 1) dc1, .slice ph7.ka m.pg.consts.length ph7.kc, .slice ph7.ca m.pg.code.length ph7.cc, .slice la m.vs.clos.length lc, .slice ua m.vs.upix.length uc, .slice ea m.vs.cells.length ec, .slice (some ⟨b.thb, 0, none⟩) m.vs.threads.length 5, I m.vs.fuel, .slice xa m.vs.out.length xc, I m.ended], s0, sd1, s2]), rdSeg rb lb cap sp (r9)]) (by repeat (first | exact Part.nil _ | (apply Part.cons; with_reducible (first | exact P0 | exact P1 | exact P2 | exact P3 | exact P4 | exact P5 | exact P6 | exact P7 | exact P8 | exact P9 | exact P10 | exact P11 | exact P12 | exact P13 | exact P14 | exact P15 | exact P16 | exact P17 | exact P18 | exact P19 | exact P20 | exact P21 | exact P22 | exact P23)) | (apply Part.flat; simp only [List.cons_append, List.nil_append]) | (apply Part.cons; (first | exact P0 | exact P1 | exact P2 | exact P3 | exact P4 | exact P5 | exact P6 | exact P7 | exact P8 | exact P9 | exact P10 | exact P11 | exact P12 | exact P13 | exact P14 | exact P15 | exact P16 | exact P17 | exact P18 | exact P19 | exact P20 | exact P21 | exact P22 | exact P23)) | (apply Part.nilc))) ?_
    refine SP_region ?_
    refine SPL_y (y_move rfl) rfl ?_
    refine SPL_y (y_add rfl rfl (by omega)) rfl ?_
    refine SPL_y (y_assign rfl) rfl ?_
    refine SPL_nil ?_
    refine thenP_n ?_
    exact Again.intro ((i7 + 1, k7, r9, l7 ++ [(((byA r7 0 : Nat) : Int), ((byA r7 1 : Nat) : Int))], { ph7 with da := da1, dc := dc1 }, (List.flatten [blk b.vb 115 [pt b.nb, pt b.tb, .slice ph7.pa m.pg.protos.length ph7.pc, .slice da1 (l7.length + 1) dc1, .slice ph7.ka m.pg.consts.length ph7.kc, .slice ph7.ca m.pg.code.length ph7.cc, .slice la m.vs.clos.length lc, .slice ua m.vs.upix.length uc, .slice ea m.vs.cells.length ec, .slice (some ⟨b.thb, 0, none⟩) m.vs.threads.length 5, I m.vs.fuel, .slice xa m.vs.out.length xc, I m.ended], s0, sd1, s2]))) (⟨⟨by dsimp only; omega, by dsimp only; omega⟩, hM2, hd7, hr, nx_bad hq9⟩) (by dsimp only; omega) (by repeat (first | exact Sub.nil _ | refine Sub.cons rfl ?_)) (by repeat (first | exact Part.nil _ | (apply Part.cons; with_reducible (first | exact P0 | exact P1 | exact P2 | exact P3 | exact P4 | exact P5 | exact P6 | exact P7 | exact P8 | exact P9 | exact P10 | exact P11 | exact P12 | exact P13 | exact P14 | exact P15 | exact P16 | exact P17 | exact P18 | exact P19 | exact P20 | exact P21 | exact P22 | exact P23)) | (apply Part.flat; simp only [List.cons_append, List.nil_append]) | (apply Part.cons; (first | exact P0 | exact P1 | exact P2 | exact P3 | exact P4 | exact P5 | exact P6 | exact P7 | exact P8 | exact P9 | exact P10 | exact P11 | exact P12 | exact P13 | exact P14 | exact P15 | exact P16 | exact P17 | exact P18 | exact P19 | exact P20 | exact P21 | exact P22 | exact P23)) | (apply Part.nilc)))
  intro h7_3
  refine SPL_y (y_move rfl) rfl ?_
  refine SPL_gn rfl rfl rfl rfl ?_
  refine SPL_gn rfl rfl rfl rfl ?_
  refine SPL_gn rfl rfl rfl rfl ?_
  refine SPL_gn rfl rfl rfl rfl ?_
  refine SPL_gn rfl rfl rfl rfl ?_
  refine SPL_y (y_pick_f rfl rfl) rfl ?_
  refine SPL_nil ?_
  refine thenP_n ?_
  refine SP_cond_f rfl ?_
  refine SP_exit ?_
  refine thenP_exit ?_
  refine thenP_exit ?_
  refine inBlockP_hit ?_
  refine thenP_n ?_
  refine SP_seq ?_
  have hn0 : n7 = 0 := by omega
  subst hn0
  unfold dscL at hd7
  injection hd7 with hd7
  injection hd7 with e1 e2
  replace e1 := e1.symm
  replace e2 := e2.symm
  subst e1
  subst e2
  refine SP_region ?_
  refine SPL_y (y_move rfl) rfl ?_
  obtain ⟨r3, hq13, hP⟩ := bnd1 hP
  refine SPL_one rfl (SP1_call (rd_u16 rb lb cap sp r2 hr) Tryz.call207 rfl rfl (by repeat (first | exact Part.nil _ | (apply Part.cons; with_reducible (first | exact P0 | exact P1 | exact P2 | exact P3 | exact P4 | exact P5 | exact P6 | exact P7 | exact P8 | exact P9 | exact P10 | exact P11 | exact P12 | exact P13 | exact P14 | exact P15 | exact P16 | exact P17 | exact P18 | exact P19 | exact P20 | exact P21 | exact P22 | exact P23)) | (apply Part.flat; simp only [List.cons_append, List.nil_append]) | (apply Part.cons; (first | exact P0 | exact P1 | exact P2 | exact P3 | exact P4 | exact P5 | exact P6 | exact P7 | exact P8 | exact P9 | exact P10 | exact P11 | exact P12 | exact P13 | exact P14 | exact P15 | exact P16 | exact P17 | exact P18 | exact P19 | exact P20 | exact P21 | exact P22 | exact P23)) | (apply Part.nilc))) ?_)
  rintro v post H' ⟨rfl, rfl⟩ hH
  try simp only [List.cons_append, List.nil_append] at hH
  subst hH
  rw [u16M_nx hq13, (nx_some hq13).2.1]
  replace hr := hr.nx hq13
  refine SPL_y (y_assign rfl) rfl ?_
  refine SPL_nil ?_
  refine thenP_n ?_
  refine SP_seq ?_
  refine SP_region ?_
  refine SPL_y (y_move rfl) rfl ?_
  refine SPL_y (y_conv Tryz.underlying97 Tryz.underlying3 rfl (show IntKind.i64.wrap ((w16 r2 : Nat) : Int) = ((w16 r2 : Nat) : Int) from wrap_i64 (by omega) (by have := w16_lt r2; omega))) rfl ?_
  refine SPL_y (y_fa fld_252_5 rfl) rfl ?_
  refine SPL_one rfl (SP1_store Tryz.sizeOf3 rfl rfl rfl (by first | exact U0 | exact U1 | exact U2 | exact U3 | exact U4 | exact U5 | exact U6 | exact U7 | exact U8 | exact U9 | exact U10 | exact U11 | exact U12 | exact U13 | exact U14 | exact U15 | exact U16 | exact U17 | exact U18 | exact U19 | exact U20 | exact U21 | exact U22 | exact U23) (by rfl) ?_)
  refine SPL_nil ?_
  refine thenP_n ?_
  refine SP_seq ?_
  refine SP_seq ?_
  obtain ⟨ks, r4, hks, hP⟩ := bnd2 hP
  have hw2 := w16_lt r2
  refine SP_region ?_
  refine SPL_y (y_assign rfl) rfl ?_
  refine SPL_nil ?_
  refine thenP_n ?_
  refine SP_block ?_
  refine SP_loop (G := Int × Nat × Rd × List V × PH × Seg) (fun g => g.2.1) (fun g => [(0, pt b.vb), (1, pt rb), (4, pt b4), (9, I g.1)]) (fun g => [blk b4 252 [I ((byA r 0 : Nat) : Int), I ((byA r 1 : Nat) : Int), I (m.pg.descs.length : Nat), I ((byA r 2 : Nat) : Int), I (m.pg.consts.length : Nat), I ((w16 r2 : Nat) : Int), I (m.pg.code.length : Nat), I 0], g.2.2.2.2.2, rdSeg rb lb cap sp (g.2.2.1)]) (fun g => (0 ≤ g.1 ∧ g.1 + (g.2.1 : Nat) = ((w16 r2 : Nat) : Int)) ∧ isVM b g.2.2.2.2.1 hh { m with pg := ⟨m.pg.protos, ds, g.2.2.2.1, m.pg.code⟩ } g.2.2.2.2.2 ∧ konL g.2.1 g.2.2.1 g.2.2.2.1 = some (ks, r4) ∧ rdOk cap g.2.2.1 ∧ g.2.2.1.bad = false) ((0, w16 r2, r3, m.pg.consts, ph7, sg7)) (⟨⟨by dsimp only; omega, by dsimp only; omega⟩, hM7, hks, hr, nx_bad hq13⟩) (by repeat (first | exact Sub.nil _ | refine Sub.cons rfl ?_)) (by repeat (first | exact Part.nil _ | (apply Part.cons; with_reducible (first | exact P0 | exact P1 | exact P2 | exact P3 | exact P4 | exact P5 | exact P6 | exact P7 | exact P8 | exact P9 | exact P10 | exact P11 | exact P12 | exact P13 | exact P14 | exact P15 | exact P16 | exact P17 | exact P18 | exact P19 | exact P20 | exact P21 | exact P22 | exact P23)) | (apply Part.flat; simp only [List.cons_append, List.nil_append]) | (apply Part.cons; (first | exact P0 | exact P1 | exact P2 | exact P3 | exact P4 | exact P5 | exact P6 | exact P7 | exact P8 | exact P9 | exact P10 | exact P11 | exact P12 | exact P13 | exact P14 | exact P15 | exact P16 | exact P17 | exact P18 | exact P19 | exact P20 | exact P21 | exact P22 | exact P23)) | (apply Part.nilc))) ?_
  rintro ⟨i16, n16, r16, l16, ph16, sg16⟩ ⟨hn16, hM16, hd16, hr, hb16⟩
  dsimp only at hn16 hM16 hd16 hr hb16
  refine SP_seq ?_
  refine SP_seq ?_
  refine SP_region ?_
  refine SPL_y (y_move rfl) rfl ?_
  refine SPL_y (y_fa fld_252_5 rfl) rfl ?_
  refine SPL_y (y_load Tryz.isAgg3 rfl (by repeat (first | exact Cell.amid hpre rfl | exact Cell.head rfl | apply Cell.tail))) rfl ?_
  refine SPL_if (y_lss rfl rfl) rfl ?_ ?_
  · intro h16_3
    refine SPL_y (y_move rfl) rfl ?_
    refine SPL_gy rfl rfl ?_
    refine SPL_y (y_move rfl) rfl ?_
    refine SPL_gy rfl rfl ?_
    refine SPL_y (y_nil rfl) rfl ?_
    refine SPL_gy rfl rfl ?_
    refine SPL_y (y_fa fld_248_2 rfl) rfl ?_
    refine SPL_gy rfl rfl ?_
    refine SPL_y (y_load Tryz.isAgg4 rfl (by repeat (first | exact (rd_badF hb16) | apply Cell.tail))) rfl ?_
    refine SPL_gy rfl rfl ?_
    refine SPL_y (y_not_f rfl) rfl ?_
    refine SPL_y (y_pick_t rfl rfl) rfl ?_
    refine SPL_nil ?_
    refine thenP_n ?_
    refine SP_cond_t rfl ?_
    refine SP_skip ?_
    refine thenP_n ?_
    refine SP_seq ?_
    refine SP_block ?_
    refine SP_region ?_
    refine SPL_y (y_move rfl) rfl ?_
    refine SPL_y (y_move rfl) rfl ?_
    obtain ⟨k16, rfl⟩ : ∃ k, n16 = k + 1 := ⟨n16 - 1, by omega⟩
    unfold konL at hd16
    have hl16 : l16.length < 1000000 := Decidable.byContradiction fun q => by rw [if_neg q] at hd16; cases hd16
    rw [if_pos hl16] at hd16
    obtain ⟨v18, r18, hq18, hd16⟩ := bnd2 hd16
    refine SPL_one rfl (SP1_call (vm_constant b ph16 hh rb lb cap sp hr hq18 hl16 _ hM16) Tryz.call208 rfl rfl (by repeat (first | exact Part.nil _ | (apply Part.cons; with_reducible (first | exact P0 | exact P1 | exact P2 | exact P3 | exact P4 | exact P5 | exact P6 | exact P7 | exact P8 | exact P9 | exact P10 | exact P11 | exact P12 | exact P13 | exact P14 | exact P15 | exact P16 | exact P17 | exact P18 | exact P19 | exact P20 | exact P21 | exact P22 | exact P23)) | (apply Part.flat; simp only [List.cons_append, List.nil_append]) | (apply Part.cons; (first | exact P0 | exact P1 | exact P2 | exact P3 | exact P4 | exact P5 | exact P6 | exact P7 | exact P8 | exact P9 | exact P10 | exact P11 | exact P12 | exact P13 | exact P14 | exact P15 | exact P16 | exact P17 | exact P18 | exact P19 | exact P20 | exact P21 | exact P22 | exact P23)) | (apply Part.nilc))) ?_)
    rintro v post H' ⟨rfl, ph18, sg18, hM18, rfl⟩ hH
    try simp only [List.cons_append, List.nil_append] at hH
    subst hH
    refine SPL_nil ?_
    refine inBlockP_n ?_
    refine thenP_n ?_
    refine SP_region ?_
    refine SPL_y (y_move rfl) rfl ?_
    refine SPL_y (y_add rfl rfl (by omega)) rfl ?_
    refine SPL_y (y_assign rfl) rfl ?_
    refine SPL_nil ?_
    refine thenP_n ?_
    exact Again.intro ((i16 + 1, k16, r18, l16 ++ [v18], ph18, sg18)) (⟨⟨by dsimp only; omega, by dsimp only; omega⟩, hM18, hd16, (konM_rd hr hq18).1, (konM_rd hr hq18).2.1⟩) (by dsimp only; omega) (by repeat (first | exact Sub.nil _ | refine Sub.cons rfl ?_)) (by repeat (first | exact Part.nil _ | (apply Part.cons; with_reducible (first | exact P0 | exact P1 | exact P2 | exact P3 | exact P4 | exact P5 | exact P6 | exact P7 | exact P8 | exact P9 | exact P10 | exact P11 | exact P12 | exact P13 | exact P14 | exact P15 | exact P16 | exact P17 | exact P18 | exact P19 | exact P20 | exact P21 | exact P22 | exact P23)) | (apply Part.flat; simp only [List.cons_append, List.nil_append]) | (apply Part.cons; (first | exact P0 | exact P1 | exact P2 | exact P3 | exact P4 | exact P5 | exact P6 | exact P7 | exact P8 | exact P9 | exact P10 | exact P11 | exact P12 | exact P13 | exact P14 | exact P15 | exact P16 | exact P17 | exact P18 | exact P19 | exact P20 | exact P21 | exact P22 | exact P23)) | (apply Part.nilc)))
  intro h16_3
  refine SPL_y (y_move rfl) rfl ?_
  refine SPL_gn rfl rfl rfl rfl ?_
  refine SPL_gn rfl rfl rfl rfl ?_
  refine SPL_gn rfl rfl rfl rfl ?_
  refine SPL_gn rfl rfl rfl rfl ?_
  refine SPL_gn rfl rfl rfl rfl ?_
  refine SPL_y (y_pick_f rfl rfl) rfl ?_
  refine SPL_nil ?_
  refine thenP_n ?_
  refine SP_cond_f rfl ?_
  refine SP_exit ?_
  refine thenP_exit ?_
  refine thenP_exit ?_
  refine inBlockP_hit ?_
  refine thenP_n ?_
  refine SP_seq ?_
  have hn0 : n16 = 0 := by omega
  subst hn0
  unfold konL at hd16
  injection hd16 with hd16
  injection hd16 with e1 e2
  replace e1 := e1.symm
  replace e2 := e2.symm
  subst e1
  subst e2
  refine SP_region ?_
  refine SPL_y (y_move rfl) rfl ?_
  obtain ⟨r5, hq19, hP⟩ := bnd1 hP
  refine SPL_one rfl (SP1_call (rd_u16 rb lb cap sp r4 hr) Tryz.call207 rfl rfl (by repeat (first | exact Part.nil _ | (apply Part.cons; with_reducible (first | exact P0 | exact P1 | exact P2 | exact P3 | exact P4 | exact P5 | exact P6 | exact P7 | exact P8 | exact P9 | exact P10 | exact P11 | exact P12 | exact P13 | exact P14 | exact P15 | exact P16 | exact P17 | exact P18 | exact P19 | exact P20 | exact P21 | exact P22 | exact P23)) | (apply Part.flat; simp only [List.cons_append, List.nil_append]) | (apply Part.cons; (first | exact P0 | exact P1 | exact P2 | exact P3 | exact P4 | exact P5 | exact P6 | exact P7 | exact P8 | exact P9 | exact P10 | exact P11 | exact P12 | exact P13 | exact P14 | exact P15 | exact P16 | exact P17 | exact P18 | exact P19 | exact P20 | exact P21 | exact P22 | exact P23)) | (apply Part.nilc))) ?_)
  rintro v post H' ⟨rfl, rfl⟩ hH
  try simp only [List.cons_append, List.nil_append] at hH
  subst hH
  rw [u16M_nx hq19, (nx_some hq19).2.1]
  replace hr := hr.nx hq19
  refine SPL_y (y_assign rfl) rfl ?_
  refine SPL_nil ?_
  refine thenP_n ?_
  refine SP_seq ?_
  refine SP_region ?_
  refine SPL_y (y_move rfl) rfl ?_
  refine SPL_y (y_conv Tryz.underlying97 Tryz.underlying3 rfl (show IntKind.i64.wrap ((w16 r4 : Nat) : Int) = ((w16 r4 : Nat) : Int) from wrap_i64 (by omega) (by have := w16_lt r4; omega))) rfl ?_
  refine SPL_y (y_fa fld_252_7 rfl) rfl ?_
  refine SPL_one rfl (SP1_store Tryz.sizeOf3 rfl rfl rfl (by first | exact U0 | exact U1 | exact U2 | exact U3 | exact U4 | exact U5 | exact U6 | exact U7 | exact U8 | exact U9 | exact U10 | exact U11 | exact U12 | exact U13 | exact U14 | exact U15 | exact U16 | exact U17 | exact U18 | exact U19 | exact U20 | exact U21 | exact U22 | exact U23) (by rfl) ?_)
  refine SPL_nil ?_
  refine thenP_n ?_
  refine SP_seq ?_
  refine SP_seq ?_
  obtain ⟨cs, r6, hcs, hP⟩ := bnd2 hP
  have hw4 := w16_lt r4
  refine SP_region ?_
  refine SPL_y (y_assign rfl) rfl ?_
  refine SPL_nil ?_
  refine thenP_n ?_
  refine SP_block ?_
  refine SP_loop (G := Int × Nat × Rd × List In × PH × Seg) (fun g => g.2.1) (fun g => [(0, pt b.vb), (1, pt rb), (4, pt b4), (11, I g.1)]) (fun g => [blk b4 252 [I ((byA r 0 : Nat) : Int), I ((byA r 1 : Nat) : Int), I (m.pg.descs.length : Nat), I ((byA r 2 : Nat) : Int), I (m.pg.consts.length : Nat), I ((w16 r2 : Nat) : Int), I (m.pg.code.length : Nat), I ((w16 r4 : Nat) : Int)], g.2.2.2.2.2, rdSeg rb lb cap sp (g.2.2.1)]) (fun g => (0 ≤ g.1 ∧ g.1 + (g.2.1 : Nat) = ((w16 r4 : Nat) : Int)) ∧ isVM b g.2.2.2.2.1 hh { m with pg := ⟨m.pg.protos, ds, ks, g.2.2.2.1⟩ } g.2.2.2.2.2 ∧ insL g.2.1 g.2.2.1 g.2.2.2.1 = some (cs, r6) ∧ rdOk cap g.2.2.1 ∧ g.2.2.1.bad = false) ((0, w16 r4, r5, m.pg.code, ph16, sg16)) (⟨⟨by dsimp only; omega, by dsimp only; omega⟩, hM16, hcs, hr, nx_bad hq19⟩) (by repeat (first | exact Sub.nil _ | refine Sub.cons rfl ?_)) (by repeat (first | exact Part.nil _ | (apply Part.cons; with_reducible (first | exact P0 | exact P1 | exact P2 | exact P3 | exact P4 | exact P5 | exact P6 | exact P7 | exact P8 | exact P9 | exact P10 | exact P11 | exact P12 | exact P13 | exact P14 | exact P15 | exact P16 | exact P17 | exact P18 | exact P19 | exact P20 | exact P21 | exact P22 | exact P23)) | (apply Part.flat; simp only [List.cons_append, List.nil_append]) | (apply Part.cons; (first | exact P0 | exact P1 | exact P2 | exact P3 | exact P4 | exact P5 | exact P6 | exact P7 | exact P8 | exact P9 | exact P10 | exact P11 | exact P12 | exact P13 | exact P14 | exact P15 | exact P16 | exact P17 | exact P18 | exact P19 | exact P20 | exact P21 | exact P22 | exact P23)) | (apply Part.nilc))) ?_
  rintro ⟨i22, n22, r22, l22, ph22, sg22⟩ ⟨hn22, hM22, hd22, hr, hb22⟩
  dsimp only at hn22 hM22 hd22 hr hb22
  refine SP_seq ?_
  refine SP_seq ?_
  refine SP_region ?_
  refine SPL_y (y_move rfl) rfl ?_
  refine SPL_y (y_fa fld_252_7 rfl) rfl ?_
  refine SPL_y (y_load Tryz.isAgg3 rfl (by repeat (first | exact Cell.amid hpre rfl | exact Cell.head rfl | apply Cell.tail))) rfl ?_
  refine SPL_ifn (y_lss rfl rfl) rfl ?_ ?_
  · intro h22_3
    refine SPL_y (y_move rfl) rfl ?_
    refine SPL_gn rfl rfl rfl rfl ?_
    refine SPL_gn rfl rfl rfl rfl ?_
    refine SPL_gn rfl rfl rfl rfl ?_
    refine SPL_gn rfl rfl rfl rfl ?_
    refine SPL_gn rfl rfl rfl rfl ?_
    refine SPL_y (y_pick_f rfl rfl) rfl ?_
    refine SPL_nil ?_
    refine thenP_n ?_
    refine SP_cond_f rfl ?_
    refine SP_exit ?_
    refine thenP_exit ?_
    refine thenP_exit ?_
    refine inBlockP_hit ?_
    refine thenP_n ?_
    have hn0 : n22 = 0 := by omega
    subst hn0
    unfold insL at hd22
    injection hd22 with hd22
    injection hd22 with e1 e2
    replace e1 := e1.symm
    replace e2 := e2.symm
    subst e1
    subst e2
    have hl27 : m.pg.protos.length < 1000000 := Decidable.byContradiction fun q => by rw [if_neg q] at hP; cases hP
    rw [if_pos hl27] at hP
    injection hP with hP
    injection hP with h1 h2
    subst h1
    subst h2
    have hop := hM22.opnAP
    dsimp only at hop
    obtain ⟨la, ua, ea, xa, lc, uc, ec, xc, s0, sp0, s2, rfl, hps, hput⟩ := hop
    refine SP_openAt [blk b.vb 115 [pt b.nb, pt b.tb, .slice ph22.pa m.pg.protos.length ph22.pc, .slice ph22.da ds.length ph22.dc, .slice ph22.ka ks.length ph22.kc, .slice ph22.ca cs.length ph22.cc, .slice la m.vs.clos.length lc, .slice ua m.vs.upix.length uc, .slice ea m.vs.cells.length ec, .slice (some ⟨b.thb, 0, none⟩) m.vs.threads.length 5, I m.vs.fuel, .slice xa m.vs.out.length xc, I m.ended], s0, sp0, s2] (by first | exact P0 | exact P1 | exact P2 | exact P3 | exact P4 | exact P5 | exact P6 | exact P7 | exact P8 | exact P9 | exact P10 | exact P11 | exact P12 | exact P13 | exact P14 | exact P15 | exact P16 | exact P17 | exact P18 | exact P19 | exact P20 | exact P21 | exact P22 | exact P23) ?_
    simp only [List.cons_append, List.nil_append]
    refine SP_draw 7 [(0, 0), (1, 0), (2, 0), (3, 0), (4, 1), (5, 1), (6, 2), (7, 3), (8, 0), (9, 0), (10, 3)] mixed (by kernel_rfl) (fun _ _ _ _ _ h => h) (Part.refl _) ?_
    refine SPO_p rfl (y_move rfl) rfl ?_
    refine SPO_p rfl (y_move rfl) rfl ?_
    refine SPO_p rfl (y_nil rfl) rfl ?_
    refine SPO_p rfl (y_fa fld_115_2 rfl) rfl ?_
    refine SPO_h rfl (y_load Tryz.isAgg108 rfl (by repeat (first | exact Cell.amid hpre rfl | exact Cell.head rfl | apply Cell.tail))) rfl ?_
    refine SPO_h rfl (y_loads Tryz.isAgg252 Tryz.sizeOf252 rfl rfl (by repeat (first | exact Cells.all _ | exact Cells.amid hpre rfl (by decide) | exact Cells.head rfl | apply Cells.tail))) rfl ?_
    refine SPO_a rfl rfl (SP1_slice1 el_108 rfl rfl rfl rfl rfl ?_)
    intro b186
    refine ⟨⟨_, (by repeat (first | exact Part.nil _ | (apply Part.cons; with_reducible (first | exact P0 | exact P1 | exact P2 | exact P3 | exact P4 | exact P5 | exact P6 | exact P7 | exact P8 | exact P9 | exact P10 | exact P11 | exact P12 | exact P13 | exact P14 | exact P15 | exact P16 | exact P17 | exact P18 | exact P19 | exact P20 | exact P21 | exact P22 | exact P23)) | (apply Part.flat; simp only [List.cons_append, List.nil_append]) | (apply Part.cons; (first | exact P0 | exact P1 | exact P2 | exact P3 | exact P4 | exact P5 | exact P6 | exact P7 | exact P8 | exact P9 | exact P10 | exact P11 | exact P12 | exact P13 | exact P14 | exact P15 | exact P16 | exact P17 | exact P18 | exact P19 | exact P20 | exact P21 | exact P22 | exact P23)) | (apply Part.nilc)))⟩, ?_⟩
    refine SPO_z (k := 0) rfl rfl (SP1_append el_108 (.inl Tryz.underlying108) rfl rfl hps (by first | exact P0 | exact P1 | exact P2 | exact P3 | exact P4 | exact P5 | exact P6 | exact P7 | exact P8 | exact P9 | exact P10 | exact P11 | exact P12 | exact P13 | exact P14 | exact P15 | exact P16 | exact P17 | exact P18 | exact P19 | exact P20 | exact P21 | exact P22 | exact P23) (Src.of (by repeat (first | exact Cells.all _ | exact Cells.amid hpre rfl (by decide) | exact Cells.head rfl | apply Cells.tail)) (by rfl)) (by rfl) (by omega) rfl ?_)
    intro pa1 pc1 sp1 hA1
    refine SPO_p rfl (y_nil rfl) rfl ?_
    refine SPO_p rfl (y_fa fld_115_2 rfl) rfl ?_
    refine SPO_z (k := 0) rfl rfl (SP1_store Tryz.sizeOf108 rfl rfl rfl (by first | exact U0 | exact U1 | exact U2 | exact U3 | exact U4 | exact U5 | exact U6 | exact U7 | exact U8 | exact U9 | exact U10 | exact U11 | exact U12 | exact U13 | exact U14 | exact U15 | exact U16 | exact U17 | exact U18 | exact U19 | exact U20 | exact U21 | exact U22 | exact U23) (by rfl) ?_)
    refine SPO_nil ?_
    refine bodyP_end (H' := [List.flatten [blk b.vb 115 [pt b.nb, pt b.tb, .slice pa1 (m.pg.protos.length + 1) pc1, .slice ph22.da ds.length ph22.dc, .slice ph22.ka ks.length ph22.kc, .slice ph22.ca cs.length ph22.cc, .slice la m.vs.clos.length lc, .slice ua m.vs.upix.length uc, .slice ea m.vs.cells.length ec, .slice (some ⟨b.thb, 0, none⟩) m.vs.threads.length 5, I m.vs.fuel, .slice xa m.vs.out.length xc, I m.ended], s0, sp1, s2], rdSeg rb lb cap sp (r6)]) (Res0 rfl) (by repeat (first | exact Part.nil _ | (apply Part.cons; with_reducible (first | exact P0 | exact P1 | exact P2 | exact P3 | exact P4 | exact P5 | exact P6 | exact P7 | exact P8 | exact P9 | exact P10 | exact P11 | exact P12 | exact P13 | exact P14 | exact P15 | exact P16 | exact P17 | exact P18 | exact P19 | exact P20 | exact P21 | exact P22 | exact P23)) | (apply Part.flat; simp only [List.cons_append, List.nil_append]) | (apply Part.cons; (first | exact P0 | exact P1 | exact P2 | exact P3 | exact P4 | exact P5 | exact P6 | exact P7 | exact P8 | exact P9 | exact P10 | exact P11 | exact P12 | exact P13 | exact P14 | exact P15 | exact P16 | exact P17 | exact P18 | exact P19 | exact P20 | exact P21 | exact P22 | exact P23)) | (apply Part.nilc))) ?_
    have hA1' : Arr 252 8 pa1 (m.pg.protos ++ [(⟨(byA r 0 : Nat), (byA r 1 : Nat), m.pg.descs.length, (byA r 2 : Nat), m.pg.consts.length, (w16 r2 : Nat), m.pg.code.length, (w16 r4 : Nat)⟩ : Pr)]).length pc1 ((m.pg.protos ++ [(⟨(byA r 0 : Nat), (byA r 1 : Nat), m.pg.descs.length, (byA r 2 : Nat), m.pg.consts.length, (w16 r2 : Nat), m.pg.code.length, (w16 r4 : Nat)⟩ : Pr)]).flatMap prV) sp1 := by
      rw [List.length_append, List.flatMap_append]; exact hA1
    have hM2 := hput (m.pg.protos ++ [(⟨(byA r 0 : Nat), (byA r 1 : Nat), m.pg.descs.length, (byA r 2 : Nat), m.pg.consts.length, (w16 r2 : Nat), m.pg.code.length, (w16 r4 : Nat)⟩ : Pr)]) pa1 pc1 sp1 hA1'
    rw [List.length_append] at hM2
    exact ⟨rfl, _, _, hM2, rfl⟩
  intro h22_3
  refine SPL_y (y_move rfl) rfl ?_
  refine SPL_gy rfl rfl ?_
  refine SPL_y (y_move rfl) rfl ?_
  refine SPL_gy rfl rfl ?_
  refine SPL_y (y_nil rfl) rfl ?_
  refine SPL_gy rfl rfl ?_
  refine SPL_y (y_fa fld_248_2 rfl) rfl ?_
  refine SPL_gy rfl rfl ?_
  refine SPL_y (y_load Tryz.isAgg4 rfl (by repeat (first | exact (rd_badF hb22) | apply Cell.tail))) rfl ?_
  refine SPL_gy rfl rfl ?_
  refine SPL_y (y_not_f rfl) rfl ?_
  refine SPL_y (y_pick_t rfl rfl) rfl ?_
  refine SPL_nil ?_
  refine thenP_n ?_
  refine SP_cond_t rfl ?_
  refine SP_skip ?_
  refine thenP_n ?_
  refine SP_seq ?_
  refine SP_block ?_
  refine SP_seq ?_
  refine SP_region ?_
  refine SPL_y (y_move rfl) rfl ?_
  obtain ⟨k22, rfl⟩ : ∃ k, n22 = k + 1 := ⟨n22 - 1, by omega⟩
  unfold insL at hd22
  have hl22 : l22.length < 1000000 := Decidable.byContradiction fun q => by rw [if_neg q] at hd22; cases hd22
  rw [if_pos hl22] at hd22
  obtain ⟨r24, hq24, hd22⟩ := bnd1 hd22
  refine SPL_one rfl (SP1_call (rd_take rb lb cap sp r22 hr 3 (by omega)) Tryz.call206 rfl rfl (by repeat (first | exact Part.nil _ | (apply Part.cons; with_reducible (first | exact P0 | exact P1 | exact P2 | exact P3 | exact P4 | exact P5 | exact P6 | exact P7 | exact P8 | exact P9 | exact P10 | exact P11 | exact P12 | exact P13 | exact P14 | exact P15 | exact P16 | exact P17 | exact P18 | exact P19 | exact P20 | exact P21 | exact P22 | exact P23)) | (apply Part.flat; simp only [List.cons_append, List.nil_append]) | (apply Part.cons; (first | exact P0 | exact P1 | exact P2 | exact P3 | exact P4 | exact P5 | exact P6 | exact P7 | exact P8 | exact P9 | exact P10 | exact P11 | exact P12 | exact P13 | exact P14 | exact P15 | exact P16 | exact P17 | exact P18 | exact P19 | exact P20 | exact P21 | exact P22 | exact P23)) | (apply Part.nilc))) ?_)
  rintro v post H' ⟨rfl, rfl⟩ hH
  try simp only [List.cons_append, List.nil_append] at hH
  subst hH
  rw [tkV_good hr (by decide) (nx_some hq24).1, (nx_some hq24).2.1]
  have hr24 := hr
  replace hr := hr.nx hq24
  refine SPL_y (y_assign rfl) rfl ?_
  refine SPL_nil ?_
  refine thenP_n ?_
  refine SP_seq ?_
  refine SP_seq ?_
  refine SP_region ?_
  refine SPL_y (y_move rfl) rfl ?_
  refine SPL_y (y_nil rfl) rfl ?_
  refine SPL_y (y_fa fld_248_2 rfl) rfl ?_
  refine SPL_y (y_load Tryz.isAgg4 rfl (by repeat (first | exact (rd_badF (nx_bad hq24)) | apply Cell.tail))) rfl ?_
  refine SPL_nil ?_
  refine thenP_n ?_
  refine SP_cond_f rfl ?_
  refine SP_skip ?_
  refine thenP_n ?_
  have hop := hM22.opnAC
  dsimp only at hop
  obtain ⟨la, ua, ea, xa, lc, uc, ec, xc, s0, sc, s2, rfl, hcs22, hput⟩ := hop
  refine SP_openAt [blk b.vb 115 [pt b.nb, pt b.tb, .slice ph22.pa m.pg.protos.length ph22.pc, .slice ph22.da ds.length ph22.dc, .slice ph22.ka ks.length ph22.kc, .slice ph22.ca l22.length ph22.cc, .slice la m.vs.clos.length lc, .slice ua m.vs.upix.length uc, .slice ea m.vs.cells.length ec, .slice (some ⟨b.thb, 0, none⟩) m.vs.threads.length 5, I m.vs.fuel, .slice xa m.vs.out.length xc, I m.ended], s0, sc, s2] (by first | exact P0 | exact P1 | exact P2 | exact P3 | exact P4 | exact P5 | exact P6 | exact P7 | exact P8 | exact P9 | exact P10 | exact P11 | exact P12 | exact P13 | exact P14 | exact P15 | exact P16 | exact P17 | exact P18 | exact P19 | exact P20 | exact P21 | exact P22 | exact P23) ?_
  simp only [List.cons_append, List.nil_append]
  refine SP_draw 20 [(0, 0), (1, 0), (2, 0), (3, 0), (5, 0), (6, 0), (8, 0), (9, 0), (12, 0), (13, 0), (4, 1), (7, 1), (10, 1), (11, 0), (14, 1), (15, 0), (16, 0), (17, 0), (18, 0), (19, 2), (20, 3), (21, 0), (22, 0), (23, 3)] mixed (by kernel_rfl) (fun _ _ _ _ _ h => h) (Part.refl _) ?_
  refine SPO_p rfl (y_move rfl) rfl ?_
  refine SPO_p rfl (y_move rfl) rfl ?_
  refine SPO_p rfl (y_nil rfl) rfl ?_
  refine SPO_p rfl (y_fa fld_115_5 rfl) rfl ?_
  refine SPO_p rfl (y_move rfl) rfl ?_
  refine SPO_p rfl (y_ia Tryz.underlying67 Tryz.sizeOf5 rfl rfl (by omega)) rfl ?_
  refine SPO_p rfl (y_move rfl) rfl ?_
  refine SPO_p rfl (y_ia Tryz.underlying67 Tryz.sizeOf5 rfl rfl (by omega)) rfl ?_
  refine SPO_p rfl (y_move rfl) rfl ?_
  refine SPO_p rfl (y_ia Tryz.underlying67 Tryz.sizeOf5 rfl rfl (by omega)) rfl ?_
  refine SPO_h rfl (y_load Tryz.isAgg110 rfl (by repeat (first | exact Cell.amid hpre rfl | exact Cell.head rfl | apply Cell.tail))) rfl ?_
  refine SPO_h rfl (y_load Tryz.isAgg5 rfl (by repeat (first | exact (rd_by (j := 0) hq24 (by decide)) | apply Cell.tail))) rfl ?_
  refine SPO_h rfl (y_load Tryz.isAgg5 rfl (by repeat (first | exact (rd_by (j := 1) hq24 (by decide)) | apply Cell.tail))) rfl ?_
  refine SPO_p rfl (y_conv Tryz.underlying5 Tryz.underlying97 rfl (show IntKind.u16.wrap ((byA r22 1 : Nat) : Int) = ((byA r22 1 : Nat) : Int) from wrap16 (by have := byA_lt r22 1; omega))) rfl ?_
  refine SPO_h rfl (y_load Tryz.isAgg5 rfl (by repeat (first | exact (rd_by (j := 2) hq24 (by decide)) | apply Cell.tail))) rfl ?_
  refine SPO_p rfl (y_conv Tryz.underlying5 Tryz.underlying97 rfl (show IntKind.u16.wrap ((byA r22 2 : Nat) : Int) = ((byA r22 2 : Nat) : Int) from wrap16 (by have := byA_lt r22 2; omega))) rfl ?_
  refine SPO_p rfl (y_shl rfl rfl (by decide) (shl16 (byA_lt r22 2))) rfl ?_
  refine SPO_p rfl (y_or rfl rfl (or_byte (byA_lt r22 1) (byA_lt r22 2))) rfl ?_
  refine SPO_p rfl (y_build B324 rfl rfl (by simp only [fillL, List.foldl_cons, List.foldl_nil, List.set_cons_zero, List.set_cons_succ]; exact rfl)) rfl ?_
  refine SPO_a rfl rfl (SP1_slice1 el_110 rfl rfl rfl rfl rfl ?_)
  intro b176
  refine ⟨⟨_, (by repeat (first | exact Part.nil _ | (apply Part.cons; with_reducible (first | exact P0 | exact P1 | exact P2 | exact P3 | exact P4 | exact P5 | exact P6 | exact P7 | exact P8 | exact P9 | exact P10 | exact P11 | exact P12 | exact P13 | exact P14 | exact P15 | exact P16 | exact P17 | exact P18 | exact P19 | exact P20 | exact P21 | exact P22 | exact P23)) | (apply Part.flat; simp only [List.cons_append, List.nil_append]) | (apply Part.cons; (first | exact P0 | exact P1 | exact P2 | exact P3 | exact P4 | exact P5 | exact P6 | exact P7 | exact P8 | exact P9 | exact P10 | exact P11 | exact P12 | exact P13 | exact P14 | exact P15 | exact P16 | exact P17 | exact P18 | exact P19 | exact P20 | exact P21 | exact P22 | exact P23)) | (apply Part.nilc)))⟩, ?_⟩
  refine SPO_z (k := 0) rfl rfl (SP1_append el_110 (.inl Tryz.underlying110) rfl rfl hcs22 (by first | exact P0 | exact P1 | exact P2 | exact P3 | exact P4 | exact P5 | exact P6 | exact P7 | exact P8 | exact P9 | exact P10 | exact P11 | exact P12 | exact P13 | exact P14 | exact P15 | exact P16 | exact P17 | exact P18 | exact P19 | exact P20 | exact P21 | exact P22 | exact P23) (Src.of (by repeat (first | exact Cells.all _ | exact Cells.amid hpre rfl (by decide) | exact Cells.head rfl | apply Cells.tail)) (by rfl)) (by rfl) (by omega) rfl ?_)
  intro ca1 cc1 sc1 hA1
  refine SPO_p rfl (y_nil rfl) rfl ?_
  refine SPO_p rfl (y_fa fld_115_5 rfl) rfl ?_
  refine SPO_z (k := 0) rfl rfl (SP1_store Tryz.sizeOf110 rfl rfl rfl (by first | exact U0 | exact U1 | exact U2 | exact U3 | exact U4 | exact U5 | exact U6 | exact U7 | exact U8 | exact U9 | exact U10 | exact U11 | exact U12 | exact U13 | exact U14 | exact U15 | exact U16 | exact U17 | exact U18 | exact U19 | exact U20 | exact U21 | exact U22 | exact U23) (by rfl) ?_)
  refine SPO_nil ?_
  refine inBlockP_n ?_
  refine thenP_n ?_
  have hA1' : Arr 324 2 ca1 (l22 ++ [(((byA r22 0 : Nat) : Int), ((byA r22 1 + 256 * byA r22 2 : Nat) : Int))]).length cc1 ((l22 ++ [(((byA r22 0 : Nat) : Int), ((byA r22 1 + 256 * byA r22 2 : Nat) : Int))]).flatMap insV) sc1 := by
    rw [List.length_append, List.flatMap_append]; exact hA1
  have hM2 := hput (l22 ++ [(((byA r22 0 : Nat) : Int), ((byA r22 1 + 256 * byA r22 2 : Nat) : Int))]) ca1 cc1 sc1 hA1'
  rw [List.length_append] at hM2
  refine SP_part (H' := [blk b4 252 [I ((byA r 0 : Nat) : Int), I ((byA r 1 : Nat) : Int), I (m.pg.descs.length : Nat), I ((byA r 2 : Nat) : Int), I (m.pg.consts.length : Nat), I ((w16 r2 : Nat) : Int), I (m.pg.code.length : Nat), I ((w16 r4 : Nat) : Int)], (List.flatten [blk b.vb 115 [pt b.nb, pt b.tb, .slice ph22.pa m.pg.protos.length ph22.pc, .slice ph22.da ds.length ph22.dc, .slice ph22.ka ks.length ph22.kc, .slice ca1 (l22.length + 1) cc1, .slice la m.vs.clos.length lc, .slice ua m.vs.upix.length uc, .slice ea m.vs.cells.length ec, .slice (some ⟨b.thb, 0, none⟩) m.vs.threads.length 5, I m.vs.fuel, .slice xa m.vs.out.length xc, I m.ended], s0, sc1, s2]), rdSeg rb lb cap sp (r24)]) (by repeat (first | exact Part.nil _ | (apply Part.cons; with_reducible (first | exact P0 | exact P1 | exact P2 | exact P3 | exact P4 | exact P5 | exact P6 | exact P7 | exact P8 | exact P9 | exact P10 | exact P11 | exact P12 | exact P13 | exact P14 | exact P15 | exact P16 | exact P17 | exact P18 | exact P19 | exact P20 | exact P21 | exact P22 | exact P23)) | (apply Part.flat; simp only [List.cons_append, List.nil_append]) | (apply Part.cons; (first | exact P0 | exact P1 | exact P2 | exact P3 | exact P4 | exact P5 | exact P6 | exact P7 | exact P8 | exact P9 | exact P10 | exact P11 | exact P12 | exact P13 | exact P14 | exact P15 | exact P16 | exact P17 | exact P18 | exact P19 | exact P20 | exact P21 | exact P22 | exact P23)) | (apply Part.nilc))) ?_
  refine SP_region ?_
  refine SPL_y (y_move rfl) rfl ?_
  refine SPL_y (y_add rfl rfl (by omega)) rfl ?_
  refine SPL_y (y_assign rfl) rfl ?_
  refine SPL_nil ?_
  refine thenP_n ?_
  exact Again.intro ((i22 + 1, k22, r24, l22 ++ [(((byA r22 0 : Nat) : Int), ((byA r22 1 + 256 * byA r22 2 : Nat) : Int))], { ph22 with ca := ca1, cc := cc1 }, (List.flatten [blk b.vb 115 [pt b.nb, pt b.tb, .slice ph22.pa m.pg.protos.length ph22.pc, .slice ph22.da ds.length ph22.dc, .slice ph22.ka ks.length ph22.kc, .slice ca1 (l22.length + 1) cc1, .slice la m.vs.clos.length lc, .slice ua m.vs.upix.length uc, .slice ea m.vs.cells.length ec, .slice (some ⟨b.thb, 0, none⟩) m.vs.threads.length 5, I m.vs.fuel, .slice xa m.vs.out.length xc, I m.ended], s0, sc1, s2]))) (⟨⟨by dsimp only; omega, by dsimp only; omega⟩, hM2, hd22, hr, nx_bad hq24⟩) (by dsimp only; omega) (by repeat (first | exact Sub.nil _ | refine Sub.cons rfl ?_)) (by repeat (first | exact Part.nil _ | (apply Part.cons; with_reducible (first | exact P0 | exact P1 | exact P2 | exact P3 | exact P4 | exact P5 | exact P6 | exact P7 | exact P8 | exact P9 | exact P10 | exact P11 | exact P12 | exact P13 | exact P14 | exact P15 | exact P16 | exact P17 | exact P18 | exact P19 | exact P20 | exact P21 | exact P22 | exact P23)) | (apply Part.flat; simp only [List.cons_append, List.nil_append]) | (apply Part.cons; (first | exact P0 | exact P1 | exact P2 | exact P3 | exact P4 | exact P5 | exact P6 | exact P7 | exact P8 | exact P9 | exact P10 | exact P11 | exact P12 | exact P13 | exact P14 | exact P15 | exact P16 | exact P17 | exact P18 | exact P19 | exact P20 | exact P21 | exact P22 | exact P23)) | (apply Part.nilc)))

end Go.Sl
