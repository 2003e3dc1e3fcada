/- Walks: package compm: finish, burn, back (made by program out of short notes) -/
import Derived.Test.Qxb6500573aGreatDoorWCmA
namespace Go.Sl
open Go Go.Wl Go.Proofs
set_option linter.unnecessarySimpa false
open Go.Nm
set_option maxRecDepth 100000
set_option linter.unusedVariables false
set_option linter.unusedSimpArgs false
theorem cm_fin (x : RX) (eb hb : List Nat) {m : RnM} (e : Int) (tail : List UInt8) (s : Seg) (hM : isRm x eb hb m s) : Spec Tryz.prog 158 [ptr x.b, I e, S tail] [s] (Ret fun v H => v = .tuple #[] ∧ ∃ s', isRm x eb hb (rfin e tail m) s' ∧ H = [s']) := by
  obtain ⟨ca, cc, ha, hc, s0, s1, s2, s3, s4, R, rfl, hstk, hput⟩ := isRm_run hM
  refine Spec_openAt [blk x.b 142 [ptr x.nb, ptr x.tb, Value.slice x.na m.nodes.length x.nc, I m.root, Value.slice ca m.clos.length cc, Value.slice ha m.ths.length hc, I s0, I s1, I s2, I s3, I s4, I m.sp, I m.cur, I m.fuel, I m.first, S m.out, .bool m.done, I m.ans.e, I m.ans.n, I m.ans.m, S m.ans.s, S m.ans.t], R] (by first | exact P0 | exact P1 | exact P2 | exact P3 | exact P4 | exact P5 | exact P6 | exact P7 | exact P8 | exact P9 | exact P10 | exact P11 | exact P12 | exact P13 | exact P14 | exact P15 | exact P16 | exact P17 | exact P18 | exact P19 | exact P20 | exact P21 | exact P22 | exact P23) ?_
  simp only [List.cons_append, List.nil_append]
  refine Spec_enter Tryz.func158 rfl Tryz.ntmps158 rfl ?_
  show SP _ _ _ _ _ [(0, _), (1, _), (2, _)] _
  refine SP_seq ?_
  refine SP_region ?_
  refine SPL_y (y_move rfl) rfl ?_
  refine SPL_y (y_nil rfl) rfl ?_
  refine SPL_y (y_fa fld_142_12 rfl) rfl ?_
  refine SPL_one rfl (SP1_store Tryz.sizeOf4 rfl rfl rfl (by first | exact U0 | exact U1 | exact U2 | exact U3 | exact U4 | exact U5 | exact U6 | exact U7 | exact U8 | exact U9 | exact U10 | exact U11 | exact U12 | exact U13 | exact U14 | exact U15 | exact U16 | exact U17 | exact U18 | exact U19 | exact U20 | exact U21 | exact U22 | exact U23) (by rfl) ?_)
  refine SPL_nil ?_
  refine thenP_n ?_
  refine SP_draw 18 [(0, 0), (1, 0), (2, 0), (3, 0), (4, 0), (6, 0), (7, 0), (8, 0), (10, 0), (11, 0), (12, 0), (14, 0), (5, 1), (9, 1), (13, 1), (15, 0), (16, 0), (17, 0), (18, 3)] mixed (by kernel_rfl) (fun _ _ _ _ _ h => h) (Part.refl _) ?_
  refine SPO_p rfl (y_move rfl) rfl ?_
  refine SPO_p rfl (y_move rfl) rfl ?_
  refine SPO_p rfl (y_move rfl) rfl ?_
  refine SPO_p rfl (y_nil rfl) rfl ?_
  refine SPO_p rfl (y_fa fld_142_9 rfl) rfl ?_
  refine SPO_p rfl (y_move rfl) rfl ?_
  refine SPO_p rfl (y_nil rfl) rfl ?_
  refine SPO_p rfl (y_fa fld_142_10 rfl) rfl ?_
  refine SPO_p rfl (y_move rfl) rfl ?_
  refine SPO_p rfl (y_nil rfl) rfl ?_
  refine SPO_p rfl (y_fa fld_142_11 rfl) rfl ?_
  refine SPO_p rfl (y_move rfl) rfl ?_
  refine SPO_h rfl (y_load Tryz.isAgg3 rfl (by repeat (first | exact Cell.amid hpre rfl | exact Cell.head rfl | apply Cell.tail))) rfl ?_
  refine SPO_h rfl (y_load Tryz.isAgg3 rfl (by repeat (first | exact Cell.amid hpre rfl | exact Cell.head rfl | apply Cell.tail))) rfl ?_
  refine SPO_h rfl (y_load Tryz.isAgg9 rfl (by repeat (first | exact Cell.amid hpre rfl | exact Cell.head rfl | apply Cell.tail))) rfl ?_
  refine SPO_p rfl (y_build B32 rfl rfl (by simp only [fillL, List.foldl_cons, List.foldl_nil, List.set_cons_zero, List.set_cons_succ]; exact rfl)) rfl ?_
  refine SPO_p rfl (y_nil rfl) rfl ?_
  refine SPO_p rfl (y_fa fld_142_13 rfl) rfl ?_
  refine SPO_z (k := 0) rfl rfl (SP1_storesAt Tryz.sizeOf32 rfl rfl rfl rfl rfl (by first | exact U0 | exact U1 | exact U2 | exact U3 | exact U4 | exact U5 | exact U6 | exact U7 | exact U8 | exact U9 | exact U10 | exact U11 | exact U12 | exact U13 | exact U14 | exact U15 | exact U16 | exact U17 | exact U18 | exact U19 | exact U20 | exact U21 | exact U22 | exact U23) (by rfl) ?_)
  refine SPO_nil ?_
  refine bodyP_end (H' := [List.flatten [blk x.b 142 [ptr x.nb, ptr x.tb, Value.slice x.na m.nodes.length x.nc, I m.root, Value.slice ca m.clos.length cc, Value.slice ha m.ths.length hc, I s0, I s1, I s2, I s3, I s4, I m.sp, I m.cur, I m.fuel, I m.first, S m.out, .bool true, I e, I m.fuel, I m.first, S m.out, S tail], R]]) (Res0 rfl) (by repeat (first | exact Part.nil _ | (apply Part.cons; with_reducible (first | exact P0 | exact P1 | exact P2 | exact P3 | exact P4 | exact P5 | exact P6 | exact P7 | exact P8 | exact P9 | exact P10 | exact P11 | exact P12 | exact P13 | exact P14 | exact P15 | exact P16 | exact P17 | exact P18 | exact P19 | exact P20 | exact P21 | exact P22 | exact P23)) | (apply Part.flat; simp only [List.cons_append, List.nil_append]) | (apply Part.cons; (first | exact P0 | exact P1 | exact P2 | exact P3 | exact P4 | exact P5 | exact P6 | exact P7 | exact P8 | exact P9 | exact P10 | exact P11 | exact P12 | exact P13 | exact P14 | exact P15 | exact P16 | exact P17 | exact P18 | exact P19 | exact P20 | exact P21 | exact P22 | exact P23)) | (apply Part.nilc))) ?_
  exact ⟨rfl, _, hput (rfin e tail m) s0 s1 s2 s3 s4 rfl rfl rfl rfl rfl rfl hstk, rfl⟩

theorem cm_burn (x : RX) (eb hb : List Nat) {m m' : RnM} {r : Bool} (hP : rburn m = some (r, m')) (s : Seg) (hM : isRm x eb hb m s) : Spec Tryz.prog 103 [ptr x.b] [s] (Ret fun v H => v = .bool r ∧ ∃ s', isRm x eb hb m' s' ∧ H = [s']) := by
  obtain ⟨ca, cc, ha, hc, s0, s1, s2, s3, s4, R, rfl, hstk, hput⟩ := isRm_run hM
  refine Spec_openAt [blk x.b 142 [ptr x.nb, ptr x.tb, Value.slice x.na m.nodes.length x.nc, I m.root, Value.slice ca m.clos.length cc, Value.slice ha m.ths.length hc, I s0, I s1, I s2, I s3, I s4, I m.sp, I m.cur, I m.fuel, I m.first, S m.out, .bool m.done, I m.ans.e, I m.ans.n, I m.ans.m, S m.ans.s, S m.ans.t], R] (by first | exact P0 | exact P1 | exact P2 | exact P3 | exact P4 | exact P5 | exact P6 | exact P7 | exact P8 | exact P9 | exact P10 | exact P11 | exact P12 | exact P13 | exact P14 | exact P15 | exact P16 | exact P17 | exact P18 | exact P19 | exact P20 | exact P21 | exact P22 | exact P23) ?_
  simp only [List.cons_append, List.nil_append]
  unfold rburn at hP
  refine Spec_enter Tryz.func103 rfl Tryz.ntmps103 rfl ?_
  show SP _ _ _ _ _ [(0, _)] _
  refine SP_seq ?_
  refine SP_region ?_
  refine SPL_y (y_assign rfl) rfl ?_
  refine SPL_nil ?_
  refine thenP_n ?_
  refine SP_seq ?_
  refine SP_seq ?_
  refine SP_region ?_
  refine SPL_y (y_move rfl) rfl ?_
  refine SPL_y (y_nil rfl) rfl ?_
  refine SPL_y (y_fa fld_142_9 rfl) rfl ?_
  refine SPL_y (y_load Tryz.isAgg3 rfl (by repeat (first | exact Cell.amid hpre rfl | exact Cell.head rfl | apply Cell.tail))) rfl ?_
  refine SPL_if (y_eql rfl rfl) rfl ?_ ?_
  · intro h1_4
    refine SPL_nil ?_
    refine thenP_n ?_
    refine SP_cond_t rfl ?_
    refine SP_seq ?_
    refine SP_region ?_
    rw [if_pos h1_4] at hP
    injection hP with hP
    injection hP with h1 h2
    subst h1
    subst h2
    refine SPL_y (y_move rfl) rfl ?_
    refine SPL_one rfl (SP1_call (cm_fin x eb hb 9 [45] _ hM) Tryz.call158 rfl rfl (by repeat (first | exact Part.nil _ | (apply Part.cons; with_reducible (first | exact P0 | exact P1 | exact P2 | exact P3 | exact P4 | exact P5 | exact P6 | exact P7 | exact P8 | exact P9 | exact P10 | exact P11 | exact P12 | exact P13 | exact P14 | exact P15 | exact P16 | exact P17 | exact P18 | exact P19 | exact P20 | exact P21 | exact P22 | exact P23)) | (apply Part.flat; simp only [List.cons_append, List.nil_append]) | (apply Part.cons; (first | exact P0 | exact P1 | exact P2 | exact P3 | exact P4 | exact P5 | exact P6 | exact P7 | exact P8 | exact P9 | exact P10 | exact P11 | exact P12 | exact P13 | exact P14 | exact P15 | exact P16 | exact P17 | exact P18 | exact P19 | exact P20 | exact P21 | exact P22 | exact P23)) | (apply Part.nilc))) ?_)
    rintro v post H' ⟨rfl, s', hM2, rfl⟩ hH
    try simp only [List.cons_append, List.nil_append] at hH
    subst hH
    refine SPL_nil ?_
    refine thenP_n ?_
    refine SP_seq ?_
    refine SP_region ?_
    refine SPL_y (y_assign rfl) rfl ?_
    refine SPL_nil ?_
    refine thenP_n ?_
    refine SP_ret ?_
    refine thenP_ret (bodyP_ret (H' := [s']) (Res1 rfl rfl) (by repeat (first | exact Part.nil _ | (apply Part.cons; with_reducible (first | exact P0 | exact P1 | exact P2 | exact P3 | exact P4 | exact P5 | exact P6 | exact P7 | exact P8 | exact P9 | exact P10 | exact P11 | exact P12 | exact P13 | exact P14 | exact P15 | exact P16 | exact P17 | exact P18 | exact P19 | exact P20 | exact P21 | exact P22 | exact P23)) | (apply Part.flat; simp only [List.cons_append, List.nil_append]) | (apply Part.cons; (first | exact P0 | exact P1 | exact P2 | exact P3 | exact P4 | exact P5 | exact P6 | exact P7 | exact P8 | exact P9 | exact P10 | exact P11 | exact P12 | exact P13 | exact P14 | exact P15 | exact P16 | exact P17 | exact P18 | exact P19 | exact P20 | exact P21 | exact P22 | exact P23)) | (apply Part.nilc))) ?_)
    exact ⟨rfl, _, hM2, rfl⟩
  intro h1_4
  refine SPL_nil ?_
  refine thenP_n ?_
  refine SP_cond_f rfl ?_
  refine SP_skip ?_
  refine thenP_n ?_
  refine SP_seq ?_
  refine SP_region ?_
  refine SPL_y (y_move rfl) rfl ?_
  refine SPL_y (y_nil rfl) rfl ?_
  refine SPL_y (y_fa fld_142_9 rfl) rfl ?_
  rw [if_neg h1_4] at hP
  have hg : 0 < m.fuel ∧ m.fuel ≤ 9223372036854775807 := Decidable.byContradiction fun q => by rw [if_neg q] at hP; cases hP
  rw [if_pos hg] at hP
  injection hP with hP
  injection hP with h1 h2
  subst h1
  subst h2
  refine SPL_y (y_load Tryz.isAgg3 rfl (by repeat (first | exact Cell.amid hpre rfl | exact Cell.head rfl | apply Cell.tail))) rfl ?_
  refine SPL_y (y_sub rfl rfl (by omega)) rfl ?_
  refine SPL_y (y_nil rfl) rfl ?_
  refine SPL_y (y_fa fld_142_9 rfl) rfl ?_
  refine SPL_one rfl (SP1_store Tryz.sizeOf3 rfl rfl rfl (by first | exact U0 | exact U1 | exact U2 | exact U3 | exact U4 | exact U5 | exact U6 | exact U7 | exact U8 | exact U9 | exact U10 | exact U11 | exact U12 | exact U13 | exact U14 | exact U15 | exact U16 | exact U17 | exact U18 | exact U19 | exact U20 | exact U21 | exact U22 | exact U23) (by rfl) ?_)
  refine SPL_nil ?_
  refine thenP_n ?_
  refine SP_seq ?_
  refine SP_region ?_
  refine SPL_y (y_assign rfl) rfl ?_
  refine SPL_nil ?_
  refine thenP_n ?_
  refine SP_ret ?_
  refine bodyP_ret (H' := [List.flatten [blk x.b 142 [ptr x.nb, ptr x.tb, Value.slice x.na m.nodes.length x.nc, I m.root, Value.slice ca m.clos.length cc, Value.slice ha m.ths.length hc, I s0, I s1, I s2, I s3, I s4, I m.sp, I m.cur, I (m.fuel - 1), I m.first, S m.out, .bool m.done, I m.ans.e, I m.ans.n, I m.ans.m, S m.ans.s, S m.ans.t], R]]) (Res1 rfl rfl) (by repeat (first | exact Part.nil _ | (apply Part.cons; with_reducible (first | exact P0 | exact P1 | exact P2 | exact P3 | exact P4 | exact P5 | exact P6 | exact P7 | exact P8 | exact P9 | exact P10 | exact P11 | exact P12 | exact P13 | exact P14 | exact P15 | exact P16 | exact P17 | exact P18 | exact P19 | exact P20 | exact P21 | exact P22 | exact P23)) | (apply Part.flat; simp only [List.cons_append, List.nil_append]) | (apply Part.cons; (first | exact P0 | exact P1 | exact P2 | exact P3 | exact P4 | exact P5 | exact P6 | exact P7 | exact P8 | exact P9 | exact P10 | exact P11 | exact P12 | exact P13 | exact P14 | exact P15 | exact P16 | exact P17 | exact P18 | exact P19 | exact P20 | exact P21 | exact P22 | exact P23)) | (apply Part.nilc))) ?_
  exact ⟨rfl, _, hput { m with fuel := m.fuel - 1 } s0 s1 s2 s3 s4 rfl rfl rfl rfl rfl rfl hstk, rfl⟩

theorem cm_pushBool (x : RX) (eb hb : List Nat) {m m' : RnM} {b : Bool} (hP : rpush (boolV b) m = some m') (s : Seg) (hM : isRm x eb hb m s) : Spec Tryz.prog 173 [ptr x.b, .bool b] [s] (Ret fun v H => v = .tuple #[] ∧ ∃ s', isRm x eb hb m' s' ∧ H = [s']) := by
  refine Spec_enter Tryz.func173 rfl Tryz.ntmps173 rfl ?_
  show SP _ _ _ _ _ [(0, _), (1, _)] _
  refine SP_seq ?_
  refine SP_seq ?_
  refine SP_region ?_
  refine SPL_y (y_move rfl) rfl ?_
  rcases b with _ | _
  · refine SPL_nil ?_
    refine thenP_n ?_
    refine SP_cond_f rfl ?_
    refine SP_skip ?_
    refine thenP_n ?_
    refine SP_region ?_
    refine SPL_y (y_move rfl) rfl ?_
    refine SPL_y (y_build B42 rfl rfl (by simp only [fillL, List.foldl_cons, List.foldl_nil, List.set_cons_zero, List.set_cons_succ]; exact rfl)) rfl ?_
    refine SPL_one rfl (SP1_call (cm_push x eb hb ⟨1, 0, []⟩ hP s hM) Tryz.call107 rfl rfl (by repeat (first | exact Part.nil _ | (apply Part.cons; with_reducible (first | exact P0 | exact P1 | exact P2 | exact P3 | exact P4 | exact P5 | exact P6 | exact P7 | exact P8 | exact P9 | exact P10 | exact P11 | exact P12 | exact P13 | exact P14 | exact P15 | exact P16 | exact P17 | exact P18 | exact P19 | exact P20 | exact P21 | exact P22 | exact P23)) | (apply Part.flat; simp only [List.cons_append, List.nil_append]) | (apply Part.cons; (first | exact P0 | exact P1 | exact P2 | exact P3 | exact P4 | exact P5 | exact P6 | exact P7 | exact P8 | exact P9 | exact P10 | exact P11 | exact P12 | exact P13 | exact P14 | exact P15 | exact P16 | exact P17 | exact P18 | exact P19 | exact P20 | exact P21 | exact P22 | exact P23)) | (apply Part.nilc))) ?_)
    rintro v post H' ⟨rfl, s', hM2, rfl⟩ hH
    try simp only [List.cons_append, List.nil_append] at hH
    subst hH
    refine SPL_nil ?_
    refine bodyP_end (H' := [s']) (Res0 rfl) (by repeat (first | exact Part.nil _ | (apply Part.cons; with_reducible (first | exact P0 | exact P1 | exact P2 | exact P3 | exact P4 | exact P5 | exact P6 | exact P7 | exact P8 | exact P9 | exact P10 | exact P11 | exact P12 | exact P13 | exact P14 | exact P15 | exact P16 | exact P17 | exact P18 | exact P19 | exact P20 | exact P21 | exact P22 | exact P23)) | (apply Part.flat; simp only [List.cons_append, List.nil_append]) | (apply Part.cons; (first | exact P0 | exact P1 | exact P2 | exact P3 | exact P4 | exact P5 | exact P6 | exact P7 | exact P8 | exact P9 | exact P10 | exact P11 | exact P12 | exact P13 | exact P14 | exact P15 | exact P16 | exact P17 | exact P18 | exact P19 | exact P20 | exact P21 | exact P22 | exact P23)) | (apply Part.nilc))) ?_
    exact ⟨rfl, _, hM2, rfl⟩
  · refine SPL_nil ?_
    refine thenP_n ?_
    refine SP_cond_t rfl ?_
    refine SP_seq ?_
    refine SP_region ?_
    refine SPL_y (y_move rfl) rfl ?_
    refine SPL_y (y_build B42 rfl rfl (by simp only [fillL, List.foldl_cons, List.foldl_nil, List.set_cons_zero, List.set_cons_succ]; exact rfl)) rfl ?_
    refine SPL_one rfl (SP1_call (cm_push x eb hb ⟨1, 1, []⟩ hP s hM) Tryz.call107 rfl rfl (by repeat (first | exact Part.nil _ | (apply Part.cons; with_reducible (first | exact P0 | exact P1 | exact P2 | exact P3 | exact P4 | exact P5 | exact P6 | exact P7 | exact P8 | exact P9 | exact P10 | exact P11 | exact P12 | exact P13 | exact P14 | exact P15 | exact P16 | exact P17 | exact P18 | exact P19 | exact P20 | exact P21 | exact P22 | exact P23)) | (apply Part.flat; simp only [List.cons_append, List.nil_append]) | (apply Part.cons; (first | exact P0 | exact P1 | exact P2 | exact P3 | exact P4 | exact P5 | exact P6 | exact P7 | exact P8 | exact P9 | exact P10 | exact P11 | exact P12 | exact P13 | exact P14 | exact P15 | exact P16 | exact P17 | exact P18 | exact P19 | exact P20 | exact P21 | exact P22 | exact P23)) | (apply Part.nilc))) ?_)
    rintro v post H' ⟨rfl, s', hM2, rfl⟩ hH
    try simp only [List.cons_append, List.nil_append] at hH
    subst hH
    refine SPL_nil ?_
    refine thenP_n ?_
    refine SP_ret ?_
    refine thenP_ret (bodyP_ret (H' := [s']) (Res0 rfl) (by repeat (first | exact Part.nil _ | (apply Part.cons; with_reducible (first | exact P0 | exact P1 | exact P2 | exact P3 | exact P4 | exact P5 | exact P6 | exact P7 | exact P8 | exact P9 | exact P10 | exact P11 | exact P12 | exact P13 | exact P14 | exact P15 | exact P16 | exact P17 | exact P18 | exact P19 | exact P20 | exact P21 | exact P22 | exact P23)) | (apply Part.flat; simp only [List.cons_append, List.nil_append]) | (apply Part.cons; (first | exact P0 | exact P1 | exact P2 | exact P3 | exact P4 | exact P5 | exact P6 | exact P7 | exact P8 | exact P9 | exact P10 | exact P11 | exact P12 | exact P13 | exact P14 | exact P15 | exact P16 | exact P17 | exact P18 | exact P19 | exact P20 | exact P21 | exact P22 | exact P23)) | (apply Part.nilc))) ?_)
    exact ⟨rfl, _, hM2, rfl⟩

theorem cm_pushStr (x : RX) (eb hb : List Nat) {m m' : RnM} {t : List UInt8} (hP : rpush ⟨3, 0, t⟩ m = some m') (s : Seg) (hM : isRm x eb hb m s) : Spec Tryz.prog 157 [ptr x.b, S t] [s] (Ret fun v H => v = .tuple #[] ∧ ∃ s', isRm x eb hb m' s' ∧ H = [s']) := by
  refine Spec_enter Tryz.func157 rfl Tryz.ntmps157 rfl ?_
  show SP _ _ _ _ _ [(0, _), (1, _)] _
  refine SP_region ?_
  refine SPL_y (y_move rfl) rfl ?_
  refine SPL_y (y_move rfl) rfl ?_
  refine SPL_y (y_build B42 rfl rfl (by simp only [fillL, List.foldl_cons, List.foldl_nil, List.set_cons_zero, List.set_cons_succ]; exact rfl)) rfl ?_
  refine SPL_one rfl (SP1_call (cm_push x eb hb ⟨3, 0, t⟩ hP s hM) Tryz.call107 rfl rfl (by repeat (first | exact Part.nil _ | (apply Part.cons; with_reducible (first | exact P0 | exact P1 | exact P2 | exact P3 | exact P4 | exact P5 | exact P6 | exact P7 | exact P8 | exact P9 | exact P10 | exact P11 | exact P12 | exact P13 | exact P14 | exact P15 | exact P16 | exact P17 | exact P18 | exact P19 | exact P20 | exact P21 | exact P22 | exact P23)) | (apply Part.flat; simp only [List.cons_append, List.nil_append]) | (apply Part.cons; (first | exact P0 | exact P1 | exact P2 | exact P3 | exact P4 | exact P5 | exact P6 | exact P7 | exact P8 | exact P9 | exact P10 | exact P11 | exact P12 | exact P13 | exact P14 | exact P15 | exact P16 | exact P17 | exact P18 | exact P19 | exact P20 | exact P21 | exact P22 | exact P23)) | (apply Part.nilc))) ?_)
  rintro v post H' ⟨rfl, s', hM2, rfl⟩ hH
  try simp only [List.cons_append, List.nil_append] at hH
  subst hH
  refine SPL_nil ?_
  refine bodyP_end (H' := [s']) (Res0 rfl) (by repeat (first | exact Part.nil _ | (apply Part.cons; with_reducible (first | exact P0 | exact P1 | exact P2 | exact P3 | exact P4 | exact P5 | exact P6 | exact P7 | exact P8 | exact P9 | exact P10 | exact P11 | exact P12 | exact P13 | exact P14 | exact P15 | exact P16 | exact P17 | exact P18 | exact P19 | exact P20 | exact P21 | exact P22 | exact P23)) | (apply Part.flat; simp only [List.cons_append, List.nil_append]) | (apply Part.cons; (first | exact P0 | exact P1 | exact P2 | exact P3 | exact P4 | exact P5 | exact P6 | exact P7 | exact P8 | exact P9 | exact P10 | exact P11 | exact P12 | exact P13 | exact P14 | exact P15 | exact P16 | exact P17 | exact P18 | exact P19 | exact P20 | exact P21 | exact P22 | exact P23)) | (apply Part.nilc))) ?_
  exact ⟨rfl, _, hM2, rfl⟩

theorem st_at {s0 s1 s2 s3 s4 : Int} {a b c d e f g : Value} {l : List Value} {i : Nat} (h : i < 5) : (a :: b :: c :: d :: e :: f :: I s0 :: I s1 :: I s2 :: I s3 :: I s4 :: g :: l)[0 + 6 + ((i : Nat) : Int).toNat * 1]? = some (I ([s0, s1, s2, s3, s4].getD i 0)) := by
  match i, h with
  | 0, _ => rfl
  | 1, _ => rfl
  | 2, _ => rfl
  | 3, _ => rfl
  | 4, _ => rfl
theorem cm_back (x : RX) (eb hb : List Nat) {m m' : RnM} (ok : Bool) (v : V) (hP : rback ok v m = some m') (s : Seg) (hM : isRm x eb hb m s) : Spec Tryz.prog 159 [ptr x.b, .bool ok, .agg (valV v).toArray] [s] (Ret fun v H => v = .tuple #[] ∧ ∃ s', isRm x eb hb m' s' ∧ H = [s']) := by
  unfold rback at hP
  have hok : okV v := Decidable.byContradiction fun q => by rw [if_pos q] at hP; cases hP
  rw [if_neg (fun q => q hok)] at hP
  obtain ⟨ca, cc, ha, hc, s0, s1, s2, s3, s4, R, rfl, hstk, hput⟩ := isRm_run hM
  refine Spec_openAt [blk x.b 142 [ptr x.nb, ptr x.tb, Value.slice x.na m.nodes.length x.nc, I m.root, Value.slice ca m.clos.length cc, Value.slice ha m.ths.length hc, I s0, I s1, I s2, I s3, I s4, I m.sp, I m.cur, I m.fuel, I m.first, S m.out, .bool m.done, I m.ans.e, I m.ans.n, I m.ans.m, S m.ans.s, S m.ans.t], R] (by first | exact P0 | exact P1 | exact P2 | exact P3 | exact P4 | exact P5 | exact P6 | exact P7 | exact P8 | exact P9 | exact P10 | exact P11 | exact P12 | exact P13 | exact P14 | exact P15 | exact P16 | exact P17 | exact P18 | exact P19 | exact P20 | exact P21 | exact P22 | exact P23) ?_
  simp only [List.cons_append, List.nil_append]
  refine Spec_enter Tryz.func159 rfl Tryz.ntmps159 rfl ?_
  show SP _ _ _ _ _ [(0, _), (1, _), (2, _)] _
  refine SP_seq ?_
  refine SP_region ?_
  refine SPL_one rfl (SP1_box rfl rfl rfl ?_)
  intro b5
  refine SPL_nil ?_
  refine thenP_n ?_
  refine SP_seq ?_
  refine SP_seq ?_
  refine SP_region ?_
  refine SPL_y (y_move rfl) rfl ?_
  refine SPL_y (y_nil rfl) rfl ?_
  refine SPL_y (y_fa fld_142_7 rfl) rfl ?_
  refine SPL_y (y_load Tryz.isAgg3 rfl (by repeat (first | exact Cell.amid hpre rfl | exact Cell.head rfl | apply Cell.tail))) rfl ?_
  refine SPL_if (y_eql rfl rfl) rfl ?_ ?_
  · intro h1_4
    refine SPL_nil ?_
    refine thenP_n ?_
    refine SP_cond_t rfl ?_
    refine SP_seq ?_
    refine SP_region ?_
    rw [if_pos h1_4] at hP
    injection hP with hP
    subst hP
    refine SPL_y (y_loads Tryz.isAgg42 Tryz.sizeOf42 rfl rfl (by repeat (first | exact Cells.all _ | exact Cells.amid hpre rfl (by decide) | exact Cells.head rfl | apply Cells.tail))) rfl ?_
    refine SPL_one rfl (SP1_call (api_ShowVal v hok.1 hok.2.1 hok.2.2) Tryz.call15 rfl rfl (by repeat (first | exact Part.nil _ | (apply Part.cons; with_reducible (first | exact P0 | exact P1 | exact P2 | exact P3 | exact P4 | exact P5 | exact P6 | exact P7 | exact P8 | exact P9 | exact P10 | exact P11 | exact P12 | exact P13 | exact P14 | exact P15 | exact P16 | exact P17 | exact P18 | exact P19 | exact P20 | exact P21 | exact P22 | exact P23)) | (apply Part.flat; simp only [List.cons_append, List.nil_append]) | (apply Part.cons; (first | exact P0 | exact P1 | exact P2 | exact P3 | exact P4 | exact P5 | exact P6 | exact P7 | exact P8 | exact P9 | exact P10 | exact P11 | exact P12 | exact P13 | exact P14 | exact P15 | exact P16 | exact P17 | exact P18 | exact P19 | exact P20 | exact P21 | exact P22 | exact P23)) | (apply Part.nilc))) ?_)
    rintro v post H' ⟨rfl, rfl⟩ hH
    try simp only [List.cons_append, List.nil_append] at hH
    subst hH
    refine SPL_y (y_assign rfl) rfl ?_
    refine SPL_nil ?_
    refine thenP_n ?_
    refine SP_seq ?_
    refine SP_seq ?_
    refine SP_region ?_
    refine SPL_y (y_move rfl) rfl ?_
    refine SPL_nil ?_
    refine thenP_n ?_
    refine SP_cond_b rfl ?_ ?_
    · intro hc14
      refine SP_region ?_
      refine SPL_y (y_move rfl) rfl ?_
      refine SPL_y (y_move rfl) rfl ?_
      refine SPL_one rfl (SP1_call (cm_fin x eb hb 0 (showVal v) _ hM) Tryz.call158 rfl rfl (by repeat (first | exact Part.nil _ | (apply Part.cons; with_reducible (first | exact P0 | exact P1 | exact P2 | exact P3 | exact P4 | exact P5 | exact P6 | exact P7 | exact P8 | exact P9 | exact P10 | exact P11 | exact P12 | exact P13 | exact P14 | exact P15 | exact P16 | exact P17 | exact P18 | exact P19 | exact P20 | exact P21 | exact P22 | exact P23)) | (apply Part.flat; simp only [List.cons_append, List.nil_append]) | (apply Part.cons; (first | exact P0 | exact P1 | exact P2 | exact P3 | exact P4 | exact P5 | exact P6 | exact P7 | exact P8 | exact P9 | exact P10 | exact P11 | exact P12 | exact P13 | exact P14 | exact P15 | exact P16 | exact P17 | exact P18 | exact P19 | exact P20 | exact P21 | exact P22 | exact P23)) | (apply Part.nilc))) ?_)
      rintro v post H' ⟨rfl, sg4, hM4, rfl⟩ hH
      try simp only [List.cons_append, List.nil_append] at hH
      subst hH
      refine SPL_nil ?_
      refine thenP_n ?_
      refine SP_ret ?_
      refine thenP_ret (bodyP_ret (H' := [sg4]) (Res0 rfl) (by repeat (first | exact Part.nil _ | (apply Part.cons; with_reducible (first | exact P0 | exact P1 | exact P2 | exact P3 | exact P4 | exact P5 | exact P6 | exact P7 | exact P8 | exact P9 | exact P10 | exact P11 | exact P12 | exact P13 | exact P14 | exact P15 | exact P16 | exact P17 | exact P18 | exact P19 | exact P20 | exact P21 | exact P22 | exact P23)) | (apply Part.flat; simp only [List.cons_append, List.nil_append]) | (apply Part.cons; (first | exact P0 | exact P1 | exact P2 | exact P3 | exact P4 | exact P5 | exact P6 | exact P7 | exact P8 | exact P9 | exact P10 | exact P11 | exact P12 | exact P13 | exact P14 | exact P15 | exact P16 | exact P17 | exact P18 | exact P19 | exact P20 | exact P21 | exact P22 | exact P23)) | (apply Part.nilc))) ?_)
      exact ⟨rfl, _, by simpa [*] using hM4, rfl⟩
    intro hc14
    refine SP_region ?_
    refine SPL_y (y_move rfl) rfl ?_
    refine SPL_y (y_move rfl) rfl ?_
    refine SPL_one rfl (SP1_call (cm_fin x eb hb 12 (showVal v) _ hM) Tryz.call158 rfl rfl (by repeat (first | exact Part.nil _ | (apply Part.cons; with_reducible (first | exact P0 | exact P1 | exact P2 | exact P3 | exact P4 | exact P5 | exact P6 | exact P7 | exact P8 | exact P9 | exact P10 | exact P11 | exact P12 | exact P13 | exact P14 | exact P15 | exact P16 | exact P17 | exact P18 | exact P19 | exact P20 | exact P21 | exact P22 | exact P23)) | (apply Part.flat; simp only [List.cons_append, List.nil_append]) | (apply Part.cons; (first | exact P0 | exact P1 | exact P2 | exact P3 | exact P4 | exact P5 | exact P6 | exact P7 | exact P8 | exact P9 | exact P10 | exact P11 | exact P12 | exact P13 | exact P14 | exact P15 | exact P16 | exact P17 | exact P18 | exact P19 | exact P20 | exact P21 | exact P22 | exact P23)) | (apply Part.nilc))) ?_)
    rintro v post H' ⟨rfl, sg4, hM4, rfl⟩ hH
    try simp only [List.cons_append, List.nil_append] at hH
    subst hH
    refine SPL_nil ?_
    refine thenP_n ?_
    refine SP_ret ?_
    refine thenP_ret (bodyP_ret (H' := [sg4]) (Res0 rfl) (by repeat (first | exact Part.nil _ | (apply Part.cons; with_reducible (first | exact P0 | exact P1 | exact P2 | exact P3 | exact P4 | exact P5 | exact P6 | exact P7 | exact P8 | exact P9 | exact P10 | exact P11 | exact P12 | exact P13 | exact P14 | exact P15 | exact P16 | exact P17 | exact P18 | exact P19 | exact P20 | exact P21 | exact P22 | exact P23)) | (apply Part.flat; simp only [List.cons_append, List.nil_append]) | (apply Part.cons; (first | exact P0 | exact P1 | exact P2 | exact P3 | exact P4 | exact P5 | exact P6 | exact P7 | exact P8 | exact P9 | exact P10 | exact P11 | exact P12 | exact P13 | exact P14 | exact P15 | exact P16 | exact P17 | exact P18 | exact P19 | exact P20 | exact P21 | exact P22 | exact P23)) | (apply Part.nilc))) ?_)
    exact ⟨rfl, _, by simpa [*] using hM4, rfl⟩
  intro h1_4
  refine SPL_nil ?_
  refine thenP_n ?_
  refine SP_cond_f rfl ?_
  refine SP_skip ?_
  refine thenP_n ?_
  refine SP_seq ?_
  refine SP_region ?_
  refine SPL_y (y_move rfl) rfl ?_
  refine SPL_y (y_nil rfl) rfl ?_
  refine SPL_y (y_fa fld_142_7 rfl) rfl ?_
  rw [if_neg h1_4] at hP
  have hsp1 : 1 ≤ m.sp ∧ m.sp ≤ 5 := Decidable.byContradiction fun q => by rw [if_pos q] at hP; cases hP
  rw [if_neg (fun q => q hsp1)] at hP
  dsimp only at hP
  obtain ⟨c, hcu⟩ : ∃ c : Nat, m.stk.getD (m.sp - 1).toNat 0 = c := by
    refine ⟨(m.stk.getD (m.sp - 1).toNat 0).toNat, ?_⟩
    have hcok : curOk ({ m with sp := m.sp - 1, cur := m.stk.getD (m.sp - 1).toNat 0 }) := Decidable.byContradiction fun q => by rw [if_pos q] at hP; cases hP
    have := hcok.1.1
    dsimp only at this
    omega
  obtain ⟨j, hj⟩ : ∃ j : Nat, m.sp - 1 = j := ⟨(m.sp - 1).toNat, by omega⟩
  have hj5 : j < 5 := by omega
  refine SPL_y (y_load Tryz.isAgg3 rfl (by repeat (first | exact Cell.amid hpre rfl | exact Cell.head rfl | apply Cell.tail))) rfl ?_
  refine SPL_y (y_sub rfl rfl (by omega)) rfl ?_
  refine SPL_y (y_nil rfl) rfl ?_
  refine SPL_y (y_fa fld_142_7 rfl) rfl ?_
  refine SPL_one rfl (SP1_store Tryz.sizeOf3 rfl rfl rfl (by first | exact U0 | exact U1 | exact U2 | exact U3 | exact U4 | exact U5 | exact U6 | exact U7 | exact U8 | exact U9 | exact U10 | exact U11 | exact U12 | exact U13 | exact U14 | exact U15 | exact U16 | exact U17 | exact U18 | exact U19 | exact U20 | exact U21 | exact U22 | exact U23) (by rfl) ?_)
  refine SPL_nil ?_
  refine thenP_n ?_
  refine SP_seq ?_
  rw [hj]
  have hstc : ∀ H : Hp, Cell (blk x.b 142 [ptr x.nb, ptr x.tb, Value.slice x.na m.nodes.length x.nc, I m.root, Value.slice ca m.clos.length cc, Value.slice ha m.ths.length hc, I s0, I s1, I s2, I s3, I s4, I (j : Int), I m.cur, I m.fuel, I m.first, S m.out, .bool m.done, I m.ans.e, I m.ans.n, I m.ans.m, S m.ans.s, S m.ans.t] :: H) x.b (0 + 6 + ((j : Nat) : Int).toNat * 1) (I (c : Int)) := fun H => Cell.head (by rw [st_at hj5, ← hcu, hstk, hj]; rfl)
  refine SP_draw 12 [(0, 0), (1, 0), (2, 0), (3, 0), (4, 0), (6, 0), (7, 0), (5, 1), (8, 0), (9, 1), (10, 0), (11, 0), (12, 3)] mixed (by kernel_rfl) (fun _ _ _ _ _ h => h) (Part.refl _) ?_
  refine SPO_p rfl (y_move rfl) rfl ?_
  refine SPO_p rfl (y_move rfl) rfl ?_
  refine SPO_p rfl (y_move rfl) rfl ?_
  refine SPO_p rfl (y_nil rfl) rfl ?_
  refine SPO_p rfl (y_fa fld_142_7 rfl) rfl ?_
  refine SPO_p rfl (y_nil rfl) rfl ?_
  refine SPO_p rfl (y_fa fld_142_6 rfl) rfl ?_
  refine SPO_h rfl (y_load Tryz.isAgg3 rfl (by repeat (first | exact Cell.amid hpre rfl | exact Cell.head rfl | apply Cell.tail))) rfl ?_
  refine SPO_p rfl (y_ia_arr Tryz.underlying140 Tryz.sizeOf3 rfl rfl (by omega)) rfl ?_
  refine SPO_h rfl (y_load Tryz.isAgg3 rfl (by repeat (first | exact hstc _ | apply Cell.tail))) rfl ?_
  refine SPO_p rfl (y_nil rfl) rfl ?_
  refine SPO_p rfl (y_fa fld_142_8 rfl) rfl ?_
  refine SPO_z (k := 0) rfl rfl (SP1_store Tryz.sizeOf3 rfl rfl rfl (by first | exact U0 | exact U1 | exact U2 | exact U3 | exact U4 | exact U5 | exact U6 | exact U7 | exact U8 | exact U9 | exact U10 | exact U11 | exact U12 | exact U13 | exact U14 | exact U15 | exact U16 | exact U17 | exact U18 | exact U19 | exact U20 | exact U21 | exact U22 | exact U23) (by rfl) ?_)
  refine SPO_nil ?_
  refine thenP_n ?_
  refine SP_seq ?_
  have hM1 : isRm x eb hb { m with sp := m.sp - 1, cur := m.stk.getD (m.sp - 1).toNat 0 } (List.flatten [blk x.b 142 [ptr x.nb, ptr x.tb, Value.slice x.na m.nodes.length x.nc, I m.root, Value.slice ca m.clos.length cc, Value.slice ha m.ths.length hc, I s0, I s1, I s2, I s3, I s4, I (j : Int), I (c : Int), I m.fuel, I m.first, S m.out, .bool m.done, I m.ans.e, I m.ans.n, I m.ans.m, S m.ans.s, S m.ans.t], R]) := by
    have := hput { m with sp := m.sp - 1, cur := m.stk.getD (m.sp - 1).toNat 0 } s0 s1 s2 s3 s4 rfl rfl rfl rfl rfl rfl hstk
    rw [← hcu, ← hj]; exact this
  refine SP_part (H' := [List.flatten [blk x.b 142 [ptr x.nb, ptr x.tb, Value.slice x.na m.nodes.length x.nc, I m.root, Value.slice ca m.clos.length cc, Value.slice ha m.ths.length hc, I s0, I s1, I s2, I s3, I s4, I (j : Int), I (c : Int), I m.fuel, I m.first, S m.out, .bool m.done, I m.ans.e, I m.ans.n, I m.ans.m, S m.ans.s, S m.ans.t], R], blk b5 42 (valV v)]) (by repeat (first | exact Part.nil _ | (apply Part.cons; with_reducible (first | exact P0 | exact P1 | exact P2 | exact P3 | exact P4 | exact P5 | exact P6 | exact P7 | exact P8 | exact P9 | exact P10 | exact P11 | exact P12 | exact P13 | exact P14 | exact P15 | exact P16 | exact P17 | exact P18 | exact P19 | exact P20 | exact P21 | exact P22 | exact P23)) | (apply Part.flat; simp only [List.cons_append, List.nil_append]) | (apply Part.cons; (first | exact P0 | exact P1 | exact P2 | exact P3 | exact P4 | exact P5 | exact P6 | exact P7 | exact P8 | exact P9 | exact P10 | exact P11 | exact P12 | exact P13 | exact P14 | exact P15 | exact P16 | exact P17 | exact P18 | exact P19 | exact P20 | exact P21 | exact P22 | exact P23)) | (apply Part.nilc))) ?_
  obtain ⟨m1, hm1⟩ : ∃ q : RnM, { m with sp := m.sp - 1, cur := m.stk.getD (m.sp - 1).toNat 0 } = q := ⟨_, rfl⟩
  have hcc : m1.cur = c := by rw [← hm1]; exact hcu
  rw [hm1] at hM1 hP
  obtain ⟨sg1, hsg1⟩ : ∃ q : Seg, List.flatten [blk x.b 142 [ptr x.nb, ptr x.tb, Value.slice x.na m.nodes.length x.nc, I m.root, Value.slice ca m.clos.length cc, Value.slice ha m.ths.length hc, I s0, I s1, I s2, I s3, I s4, I (j : Int), I (c : Int), I m.fuel, I m.first, S m.out, .bool m.done, I m.ans.e, I m.ans.n, I m.ans.m, S m.ans.s, S m.ans.t], R] = q := ⟨_, rfl⟩
  rw [hsg1] at hM1 ⊢
  have hcok : curOk m1 := Decidable.byContradiction fun q => by rw [if_pos q] at hP; cases hP
  rw [if_neg (fun q => q hcok)] at hP
  obtain ⟨⟨hq1, hq2⟩, _⟩ : curOk m1 ∧ True := ⟨hcok, trivial⟩
  have hc : c < m1.ths.length := by omega
  clear hput hstk hsg1
  obtain ⟨ca, cc, hk, hc', hsp, s0, s1, s2, s3, s4, sX, sA, sZ, R, ta, tc, va, vc, sa, sv, rfl, hstk, hhl, hTA, hVA, hTS, hput⟩ := isRm_open hM1 hc
  refine SP_openAt [blk x.b 142 [ptr x.nb, ptr x.tb, Value.slice x.na m1.nodes.length x.nc, I m1.root, Value.slice ca m1.clos.length cc, Value.slice (some ⟨hk, 0, none⟩) m1.ths.length hc', I s0, I s1, I s2, I s3, I s4, I m1.sp, I m1.cur, I m1.fuel, I m1.first, S m1.out, .bool m1.done, I m1.ans.e, I m1.ans.n, I m1.ans.m, S m1.ans.s, S m1.ans.t], sX, blk hk 149 (hb.map ptr ++ hsp), sA, List.flatten [blk (hb.getD c 0) 152 [I m1.ths[c].st, I m1.ths[c].fn, I (m1.ths[c].depth), Value.slice ta (m1.ths[c].tasks.length) tc, Value.slice va (m1.ths[c].vals.length) vc], sa, sv], sZ, R] (by first | exact P0 | exact P1 | exact P2 | exact P3 | exact P4 | exact P5 | exact P6 | exact P7 | exact P8 | exact P9 | exact P10 | exact P11 | exact P12 | exact P13 | exact P14 | exact P15 | exact P16 | exact P17 | exact P18 | exact P19 | exact P20 | exact P21 | exact P22 | exact P23) ?_
  simp only [List.cons_append, List.nil_append]
  refine SP_openAt [blk (hb.getD c 0) 152 [I m1.ths[c].st, I m1.ths[c].fn, I (m1.ths[c].depth), Value.slice ta (m1.ths[c].tasks.length) tc, Value.slice va (m1.ths[c].vals.length) vc], sa, sv] (by first | exact P0 | exact P1 | exact P2 | exact P3 | exact P4 | exact P5 | exact P6 | exact P7 | exact P8 | exact P9 | exact P10 | exact P11 | exact P12 | exact P13 | exact P14 | exact P15 | exact P16 | exact P17 | exact P18 | exact P19 | exact P20 | exact P21 | exact P22 | exact P23) ?_
  simp only [List.cons_append, List.nil_append]
  have hcell : ∀ H : Hp, Cell (blk hk 149 (hb.map ptr ++ hsp) :: H) hk (0 + ((c : Nat) : Int).toNat * 1) (ptr (hb.getD c 0)) := fun H => Cell.head (hb_at hhl hc)
  rw [hcc]
  refine SP_draw 12 [(0, 0), (1, 0), (2, 0), (4, 0), (5, 0), (6, 0), (3, 1), (7, 1), (8, 0), (9, 1), (10, 0), (11, 0), (12, 3)] mixed (by kernel_rfl) (fun _ _ _ _ _ h => h) (Part.refl _) ?_
  refine SPO_p rfl (y_move rfl) rfl ?_
  refine SPO_p rfl (y_nil rfl) rfl ?_
  refine SPO_p rfl (y_fa fld_142_5 rfl) rfl ?_
  refine SPO_p rfl (y_move rfl) rfl ?_
  refine SPO_p rfl (y_nil rfl) rfl ?_
  refine SPO_p rfl (y_fa fld_142_8 rfl) rfl ?_
  refine SPO_h rfl (y_load Tryz.isAgg139 rfl (by repeat (first | exact Cell.amid hpre rfl | exact Cell.head rfl | apply Cell.tail))) rfl ?_
  refine SPO_h rfl (y_load Tryz.isAgg3 rfl (by repeat (first | exact Cell.amid hpre rfl | exact Cell.head rfl | apply Cell.tail))) rfl ?_
  refine SPO_p rfl (y_ia Tryz.underlying139 Tryz.sizeOf149 rfl rfl (by omega)) rfl ?_
  refine SPO_h rfl (y_load Tryz.isAgg149 rfl (by repeat (first | exact hcell _ | apply Cell.tail))) rfl ?_
  refine SPO_p rfl (y_nil rfl) rfl ?_
  refine SPO_p rfl (y_fa fld_152_0 rfl) rfl ?_
  refine SPO_z (k := 0) rfl rfl (SP1_store Tryz.sizeOf3 rfl rfl rfl (by first | exact U0 | exact U1 | exact U2 | exact U3 | exact U4 | exact U5 | exact U6 | exact U7 | exact U8 | exact U9 | exact U10 | exact U11 | exact U12 | exact U13 | exact U14 | exact U15 | exact U16 | exact U17 | exact U18 | exact U19 | exact U20 | exact U21 | exact U22 | exact U23) (by rfl) ?_)
  refine SPO_nil ?_
  refine thenP_n ?_
  refine SP_seq ?_
  have hM2 : isRm x eb hb (rset m1 { thG m1 with st := 4 }) (List.flatten [blk x.b 142 [ptr x.nb, ptr x.tb, Value.slice x.na m1.nodes.length x.nc, I m1.root, Value.slice ca m1.clos.length cc, Value.slice (some ⟨hk, 0, none⟩) m1.ths.length hc', I s0, I s1, I s2, I s3, I s4, I m1.sp, I (c : Int), I m1.fuel, I m1.first, S m1.out, .bool m1.done, I m1.ans.e, I m1.ans.n, I m1.ans.m, S m1.ans.s, S m1.ans.t], sX, blk hk 149 (hb.map ptr ++ hsp), sA, List.flatten [blk (hb.getD c 0) 152 [I 4, I m1.ths[c].fn, I (m1.ths[c].depth), Value.slice ta (m1.ths[c].tasks.length) tc, Value.slice va (m1.ths[c].vals.length) vc], sa, sv], sZ, R]) := by
    have := hput (rset m1 { thG m1 with st := 4 }) s0 s1 s2 s3 s4 ({ m1.ths[c] with st := 4 }) ta tc va vc sa sv (m1.ths[c].tasks.length) (m1.ths[c].vals.length) rfl rfl rfl ?_ rfl rfl hstk rfl rfl (hTA) (hVA) (hTS)
    · rw [← hcc]; exact this
    · unfold rset; rw [thG_eq hcc hc, hcc]; rfl
  refine SP_part (H' := [List.flatten [blk x.b 142 [ptr x.nb, ptr x.tb, Value.slice x.na m1.nodes.length x.nc, I m1.root, Value.slice ca m1.clos.length cc, Value.slice (some ⟨hk, 0, none⟩) m1.ths.length hc', I s0, I s1, I s2, I s3, I s4, I m1.sp, I (c : Int), I m1.fuel, I m1.first, S m1.out, .bool m1.done, I m1.ans.e, I m1.ans.n, I m1.ans.m, S m1.ans.s, S m1.ans.t], sX, blk hk 149 (hb.map ptr ++ hsp), sA, List.flatten [blk (hb.getD c 0) 152 [I 4, I m1.ths[c].fn, I (m1.ths[c].depth), Value.slice ta (m1.ths[c].tasks.length) tc, Value.slice va (m1.ths[c].vals.length) vc], sa, sv], sZ, R], blk b5 42 (valV v)]) (by repeat (first | exact Part.nil _ | (apply Part.cons; with_reducible (first | exact P0 | exact P1 | exact P2 | exact P3 | exact P4 | exact P5 | exact P6 | exact P7 | exact P8 | exact P9 | exact P10 | exact P11 | exact P12 | exact P13 | exact P14 | exact P15 | exact P16 | exact P17 | exact P18 | exact P19 | exact P20 | exact P21 | exact P22 | exact P23)) | (apply Part.flat; simp only [List.cons_append, List.nil_append]) | (apply Part.cons; (first | exact P0 | exact P1 | exact P2 | exact P3 | exact P4 | exact P5 | exact P6 | exact P7 | exact P8 | exact P9 | exact P10 | exact P11 | exact P12 | exact P13 | exact P14 | exact P15 | exact P16 | exact P17 | exact P18 | exact P19 | exact P20 | exact P21 | exact P22 | exact P23)) | (apply Part.nilc))) ?_
  obtain ⟨m3, hq3, hP⟩ := bnd1 hP
  refine SP_region ?_
  refine SPL_y (y_move rfl) rfl ?_
  refine SPL_y (y_move rfl) rfl ?_
  refine SPL_one rfl (SP1_call (cm_pushBool x eb hb hq3 _ hM2) Tryz.call173 rfl rfl (by repeat (first | exact Part.nil _ | (apply Part.cons; with_reducible (first | exact P0 | exact P1 | exact P2 | exact P3 | exact P4 | exact P5 | exact P6 | exact P7 | exact P8 | exact P9 | exact P10 | exact P11 | exact P12 | exact P13 | exact P14 | exact P15 | exact P16 | exact P17 | exact P18 | exact P19 | exact P20 | exact P21 | exact P22 | exact P23)) | (apply Part.flat; simp only [List.cons_append, List.nil_append]) | (apply Part.cons; (first | exact P0 | exact P1 | exact P2 | exact P3 | exact P4 | exact P5 | exact P6 | exact P7 | exact P8 | exact P9 | exact P10 | exact P11 | exact P12 | exact P13 | exact P14 | exact P15 | exact P16 | exact P17 | exact P18 | exact P19 | exact P20 | exact P21 | exact P22 | exact P23)) | (apply Part.nilc))) ?_)
  rintro v post H' ⟨rfl, sg9, hM9, rfl⟩ hH
  try simp only [List.cons_append, List.nil_append] at hH
  subst hH
  refine SPL_nil ?_
  refine thenP_n ?_
  refine SP_region ?_
  refine SPL_y (y_move rfl) rfl ?_
  refine SPL_y (y_loads Tryz.isAgg42 Tryz.sizeOf42 rfl rfl (by repeat (first | exact Cells.all _ | exact Cells.amid hpre rfl (by decide) | exact Cells.head rfl | apply Cells.tail))) rfl ?_
  refine SPL_one rfl (SP1_call (cm_push x eb hb v hP _ hM9) Tryz.call107 rfl rfl (by repeat (first | exact Part.nil _ | (apply Part.cons; with_reducible (first | exact P0 | exact P1 | exact P2 | exact P3 | exact P4 | exact P5 | exact P6 | exact P7 | exact P8 | exact P9 | exact P10 | exact P11 | exact P12 | exact P13 | exact P14 | exact P15 | exact P16 | exact P17 | exact P18 | exact P19 | exact P20 | exact P21 | exact P22 | exact P23)) | (apply Part.flat; simp only [List.cons_append, List.nil_append]) | (apply Part.cons; (first | exact P0 | exact P1 | exact P2 | exact P3 | exact P4 | exact P5 | exact P6 | exact P7 | exact P8 | exact P9 | exact P10 | exact P11 | exact P12 | exact P13 | exact P14 | exact P15 | exact P16 | exact P17 | exact P18 | exact P19 | exact P20 | exact P21 | exact P22 | exact P23)) | (apply Part.nilc))) ?_)
  rintro v post H' ⟨rfl, sg10, hM10, rfl⟩ hH
  try simp only [List.cons_append, List.nil_append] at hH
  subst hH
  refine SPL_nil ?_
  refine bodyP_end (H' := [sg10]) (Res0 rfl) (by repeat (first | exact Part.nil _ | (apply Part.cons; with_reducible (first | exact P0 | exact P1 | exact P2 | exact P3 | exact P4 | exact P5 | exact P6 | exact P7 | exact P8 | exact P9 | exact P10 | exact P11 | exact P12 | exact P13 | exact P14 | exact P15 | exact P16 | exact P17 | exact P18 | exact P19 | exact P20 | exact P21 | exact P22 | exact P23)) | (apply Part.flat; simp only [List.cons_append, List.nil_append]) | (apply Part.cons; (first | exact P0 | exact P1 | exact P2 | exact P3 | exact P4 | exact P5 | exact P6 | exact P7 | exact P8 | exact P9 | exact P10 | exact P11 | exact P12 | exact P13 | exact P14 | exact P15 | exact P16 | exact P17 | exact P18 | exact P19 | exact P20 | exact P21 | exact P22 | exact P23)) | (apply Part.nilc))) ?_
  exact ⟨rfl, _, hM10, rfl⟩

end Go.Sl
