/- Walks: package vm, return and unwind (made by program out of short notes) -/
import Derived.Test.Qxb6500573aGreatDoorWVmN
namespace Go.Sl
open Go Go.Wl Go.Proofs
set_option maxRecDepth 100000
set_option linter.unusedVariables false
set_option linter.unusedSimpArgs false
theorem vm_unwind (b : VB) (ph : PH) (hh : List TH) {m : VM} {m' : VM} {e : Ev} {d : Bool} {x : V} {th : Nat} (hP : unwindM th x m = some (e, d, m')) (seg : Seg) (hM : isVM b ph hh m seg) : Spec Tryz.prog 212 [pt b.vb, tp b th, .agg (valV x).toArray] [seg] (Ret (vOkK b ph hh m' (.tuple #[.agg (evV e).toArray, .bool d]))) := by
  unfold unwindM at hP
  try unfold getT at hP
  obtain ⟨t0, ht0, hP⟩ := bnd1 hP
  obtain ⟨g0, oa0, oc0, hg0, _, hrow0, hst0, hfr0, _⟩ := hM.thr ht0
  have hl0 : 1 ≤ t0.frames.length ∧ t0.frames.length ≤ 1000000 := Decidable.byContradiction fun q => by rw [if_neg q] at hP; cases hP
  rw [if_pos hl0] at hP
  obtain ⟨n0, hn0⟩ : ∃ n, n = t0.frames.length - 1 := ⟨_, rfl⟩
  rw [← hn0] at hP
  have hn1 : n0 < t0.frames.length := by omega
  refine Spec_enter Tryz.func212 rfl Tryz.ntmps212 rfl ?_
  show SP _ _ _ _ _ [(0, _), (1, _), (2, _)] _
  refine SP_seq ?_
  refine SP_region ?_
  refine SPL_one rfl (SP1_box rfl rfl rfl ?_)
  intro b5
  refine SPL_one rfl (SP1_alloc Tryz.zeroValue184 rfl rfl ?_)
  intro b6
  refine SPL_y (y_assign rfl) rfl ?_
  refine SPL_nil ?_
  refine thenP_n ?_
  refine SP_seq ?_
  refine SP_seq ?_
  refine SP_region ?_
  refine SPL_y (y_move rfl) rfl ?_
  refine SPL_y (y_nil rfl) rfl ?_
  refine SPL_y (y_fa fld_263_3 rfl) rfl ?_
  refine SPL_y (y_load Tryz.isAgg261 rfl (by repeat (first | exact (hrow0 _ 3 _ rfl) | apply Cell.tail))) rfl ?_
  refine SPL_y (y_len_l Tryz.underlying261 rfl) rfl ?_
  refine SPL_y (y_sub rfl rfl (by omega)) rfl ?_
  rw [show (t0.frames.length : Int) - 1 = (n0 : Int) from by omega]
  refine SPL_y (y_assign rfl) rfl ?_
  refine SPL_nil ?_
  refine thenP_n ?_
  refine SP_block ?_
  refine SP_loop (G := Nat) (fun g => g) (fun g => [(0, pt b.vb), (1, tp b th), (5, pt b5), (6, pt b6), (7, .bool false), (8, I g)]) (fun _ => [seg, blk b5 42 (valV x), blk b6 184 [I 0, I 0, I 0, I 0, .int .u64 0, S [], I 0, .int .u64 0, S []]]) (fun g => unwindL th x m g = some (e, d, m') ∧ g < t0.frames.length) (n0) (⟨hP, hn1⟩) (by repeat (first | exact Sub.nil _ | refine Sub.cons rfl ?_)) (by repeat (first | exact Part.nil _ | (apply Part.cons; with_reducible (first | exact P0 | exact P1 | exact P2 | exact P3 | exact P4 | exact P5 | exact P6 | exact P7 | exact P8 | exact P9 | exact P10 | exact P11 | exact P12 | exact P13 | exact P14 | exact P15 | exact P16 | exact P17 | exact P18 | exact P19 | exact P20 | exact P21 | exact P22 | exact P23)) | (apply Part.flat; simp only [List.cons_append, List.nil_append]) | (apply Part.cons; (first | exact P0 | exact P1 | exact P2 | exact P3 | exact P4 | exact P5 | exact P6 | exact P7 | exact P8 | exact P9 | exact P10 | exact P11 | exact P12 | exact P13 | exact P14 | exact P15 | exact P16 | exact P17 | exact P18 | exact P19 | exact P20 | exact P21 | exact P22 | exact P23)) | (apply Part.nilc))) ?_
  rintro n ⟨hP, hn⟩
  try dsimp only at hP hn ⊢
  refine SP_seq ?_
  refine SP_seq ?_
  refine SP_region ?_
  refine SPL_y (y_move rfl) rfl ?_
  refine SPL_ifn (y_gtr rfl rfl) rfl ?_ ?_
  · intro h2_1
    first | rw [if_neg h2_1] at hP | rw [if_pos (Decidable.not_not.1 h2_1)] at hP | skip
    refine SPL_nil ?_
    refine thenP_n ?_
    refine SP_cond_f rfl ?_
    refine SP_exit ?_
    refine thenP_exit ?_
    refine thenP_exit ?_
    refine inBlockP_hit ?_
    refine thenP_n ?_
    refine SP_seq ?_
    refine SP_region ?_
    refine SPL_y (y_move rfl) rfl ?_
    refine SPL_y (y_move rfl) rfl ?_
    obtain rfl : n = 0 := by omega
    unfold unwindL at hP
    obtain ⟨m11, hq11, hP⟩ := bnd1 hP
    refine SPL_one rfl (SP1_call (vm_kill b ph hh hq11 _ hM) Tryz.call259 rfl rfl (by repeat (first | exact Part.nil _ | (apply Part.cons; with_reducible (first | exact P0 | exact P1 | exact P2 | exact P3 | exact P4 | exact P5 | exact P6 | exact P7 | exact P8 | exact P9 | exact P10 | exact P11 | exact P12 | exact P13 | exact P14 | exact P15 | exact P16 | exact P17 | exact P18 | exact P19 | exact P20 | exact P21 | exact P22 | exact P23)) | (apply Part.flat; simp only [List.cons_append, List.nil_append]) | (apply Part.cons; (first | exact P0 | exact P1 | exact P2 | exact P3 | exact P4 | exact P5 | exact P6 | exact P7 | exact P8 | exact P9 | exact P10 | exact P11 | exact P12 | exact P13 | exact P14 | exact P15 | exact P16 | exact P17 | exact P18 | exact P19 | exact P20 | exact P21 | exact P22 | exact P23)) | (apply Part.nilc))) ?_)
    rintro v post H' ⟨rfl, sg11, hM, rfl⟩ hH
    try simp only [List.cons_append, List.nil_append] at hH
    subst hH
    refine SPL_nil ?_
    refine thenP_n ?_
    refine SP_seq ?_
    refine SP_region ?_
    refine SPL_y (y_loads Tryz.isAgg42 Tryz.sizeOf42 rfl rfl (by repeat (first | exact Cells.all _ | exact Cells.amid hpre rfl (by decide) | exact Cells.head rfl | apply Cells.tail))) rfl ?_
    refine SPL_y (y_buildN (l := (evV ⟨2, 0, 0, x, V.nil⟩)) BN184 rfl rfl) rfl ?_
    refine SPL_one rfl (SP1_storeAll Tryz.sizeOf184 rfl rfl rfl rfl rfl (by first | exact U0 | exact U1 | exact U2 | exact U3 | exact U4 | exact U5 | exact U6 | exact U7 | exact U8 | exact U9 | exact U10 | exact U11 | exact U12 | exact U13 | exact U14 | exact U15 | exact U16 | exact U17 | exact U18 | exact U19 | exact U20 | exact U21 | exact U22 | exact U23) (by rfl) ?_)
    refine SPL_y (y_assign rfl) rfl ?_
    refine SPL_nil ?_
    refine thenP_n ?_
    refine SP_ret ?_
    refine bodyP_ret (H' := [sg11]) (ResCT rfl rfl rfl Tryz.isAgg184 Tryz.sizeOf184 rfl (by repeat (first | exact Cells.all _ | exact Cells.head rfl | apply Cells.tail))) (by repeat (first | exact Part.nil _ | (apply Part.cons; with_reducible (first | exact P0 | exact P1 | exact P2 | exact P3 | exact P4 | exact P5 | exact P6 | exact P7 | exact P8 | exact P9 | exact P10 | exact P11 | exact P12 | exact P13 | exact P14 | exact P15 | exact P16 | exact P17 | exact P18 | exact P19 | exact P20 | exact P21 | exact P22 | exact P23)) | (apply Part.flat; simp only [List.cons_append, List.nil_append]) | (apply Part.cons; (first | exact P0 | exact P1 | exact P2 | exact P3 | exact P4 | exact P5 | exact P6 | exact P7 | exact P8 | exact P9 | exact P10 | exact P11 | exact P12 | exact P13 | exact P14 | exact P15 | exact P16 | exact P17 | exact P18 | exact P19 | exact P20 | exact P21 | exact P22 | exact P23)) | (apply Part.nilc))) ?_
    injection hP with hP
    injection hP with h1 h2
    injection h2 with h2 h3
    subst h1 h2 h3
    exact ⟨rfl, hh, _, KF.refl _, hM, rfl⟩
  intro h2_1
  first | rw [if_pos h2_1] at hP | rw [if_neg h2_1] at hP | skip
  refine SPL_nil ?_
  refine thenP_n ?_
  refine SP_cond_t rfl ?_
  refine SP_skip ?_
  refine thenP_n ?_
  refine SP_seq ?_
  refine SP_block ?_
  refine SP_seq ?_
  obtain ⟨k, rfl⟩ : ∃ k, n = k + 1 := ⟨n - 1, by omega⟩
  unfold unwindL at hP
  obtain ⟨f, hf, hP⟩ := bnd1 hP
  obtain ⟨q, hq, _⟩ := hfr0 _ _ (getI_nat (List.getElem?_eq_getElem hn) (by omega))
  have hfs0 : ∀ H : Hp, Cell (seg :: H) b.thb (0 + th * 5 + 3) (.slice (some ⟨q, 0, none⟩) t0.frames.length g0.fc) := fun H => hq ▸ hrow0 H 3 _ rfl
  refine SP_region ?_
  refine SPL_y (y_move rfl) rfl ?_
  refine SPL_y (y_nil rfl) rfl ?_
  refine SPL_y (y_fa fld_263_3 rfl) rfl ?_
  refine SPL_y (y_load Tryz.isAgg261 rfl (by repeat (first | exact (hfs0 _) | apply Cell.tail))) rfl ?_
  refine SPL_y (y_move rfl) rfl ?_
  refine SPL_y (y_ia Tryz.underlying261 Tryz.sizeOf331 rfl rfl (by omega)) rfl ?_
  refine SPL_y (y_assign rfl) rfl ?_
  refine SPL_nil ?_
  refine thenP_n ?_
  refine SP_seq ?_
  refine SP_region ?_
  refine SPL_y (y_move rfl) rfl ?_
  refine SPL_y (y_nil rfl) rfl ?_
  refine SPL_y (y_fa fld_331_4 rfl) rfl ?_
  refine SPL_y (y_load Tryz.isAgg4 rfl (by repeat (first | exact (hM.frF hf hg0 hq rfl) | apply Cell.tail))) rfl ?_
  refine SPL_nil ?_
  refine thenP_n ?_
  refine SP_cond_b rfl ?_ ?_
  · intro hc29
    first | rw [if_pos hc29] at hP | rw [if_neg hc29] at hP | skip
    refine SP_seq ?_
    refine SP_region ?_
    refine SPL_y (y_move rfl) rfl ?_
    refine SPL_y (y_move rfl) rfl ?_
    refine SPL_y (y_move rfl) rfl ?_
    refine SPL_y (y_nil rfl) rfl ?_
    refine SPL_y (y_fa fld_331_2 rfl) rfl ?_
    refine SPL_y (y_load Tryz.isAgg3 rfl (by repeat (first | exact (hM.frF hf hg0 hq rfl) | apply Cell.tail))) rfl ?_
    obtain ⟨m6, hq6, hP⟩ := bnd1 hP
    refine SPL_one rfl (SP1_call (vm_closeFrom b ph hh hq6 _ hM) Tryz.call258 rfl rfl (by repeat (first | exact Part.nil _ | (apply Part.cons; with_reducible (first | exact P0 | exact P1 | exact P2 | exact P3 | exact P4 | exact P5 | exact P6 | exact P7 | exact P8 | exact P9 | exact P10 | exact P11 | exact P12 | exact P13 | exact P14 | exact P15 | exact P16 | exact P17 | exact P18 | exact P19 | exact P20 | exact P21 | exact P22 | exact P23)) | (apply Part.flat; simp only [List.cons_append, List.nil_append]) | (apply Part.cons; (first | exact P0 | exact P1 | exact P2 | exact P3 | exact P4 | exact P5 | exact P6 | exact P7 | exact P8 | exact P9 | exact P10 | exact P11 | exact P12 | exact P13 | exact P14 | exact P15 | exact P16 | exact P17 | exact P18 | exact P19 | exact P20 | exact P21 | exact P22 | exact P23)) | (apply Part.nilc))) ?_)
    rintro v post H' ⟨rfl, sg6, hM, rfl⟩ hH
    try simp only [List.cons_append, List.nil_append] at hH
    subst hH
    refine SPL_nil ?_
    refine thenP_n ?_
    refine SP_seq ?_
    obtain ⟨f7, hf7, hP⟩ := bnd1 hP
    try unfold getT at hP
    obtain ⟨t7, ht7, hP⟩ := bnd1 hP
    obtain ⟨g7, oa7, oc7, hg7, _, hrow7, hst7, hfr7, _⟩ := hM.thr ht7
    have hr7 : 0 ≤ f7.ret ∧ f7.ret ≤ t7.stack.length ∧ k + 1 ≤ t7.frames.length := Decidable.byContradiction fun q => by rw [if_neg q] at hP; cases hP
    rw [if_pos hr7] at hP
    rw [hg0] at hg7
    injection hg7 with hg7
    subst hg7
    have hsp7 : ∃ xs sg, Arr 42 3 g0.sa t7.stack.length g0.sc xs sg := by
      obtain ⟨_, _, _, _, _, _, _, _, _, _, _, _, hss, _⟩ := hM.opnT ht7 hg0
      exact ⟨_, _, hss⟩
    obtain ⟨xs7, sx7, hsp7⟩ := hsp7
    have hml7 := hsp7.mle
    obtain ⟨pre7, post7, na7, nc7, sg7, hpre7, hup7, hM7⟩ := hM.cutS ht7 hg0 (j := f7.ret.toNat) (by omega)
    refine SP_draw 12 [(0, 0), (1, 0), (2, 0), (3, 0), (5, 0), (6, 0), (7, 0), (4, 1), (8, 1), (9, 0), (10, 0), (11, 0), (12, 3)] mixed (by kernel_rfl) (fun _ _ _ _ _ h => h) (Part.refl _) ?_
    refine SPO_p rfl (y_move rfl) rfl ?_
    refine SPO_p rfl (y_move rfl) rfl ?_
    refine SPO_p rfl (y_nil rfl) rfl ?_
    refine SPO_p rfl (y_fa fld_263_2 rfl) rfl ?_
    refine SPO_p rfl (y_move rfl) rfl ?_
    refine SPO_p rfl (y_nil rfl) rfl ?_
    refine SPO_p rfl (y_fa fld_331_3 rfl) rfl ?_
    refine SPO_h rfl (y_load Tryz.isAgg90 rfl (by repeat (first | exact (hrow7 _ 2 _ rfl) | apply Cell.tail))) rfl ?_
    refine SPO_h rfl (y_load Tryz.isAgg3 rfl (by repeat (first | exact (hM.frF hf7 hg0 hq rfl) | apply Cell.tail))) rfl ?_
    refine SPO_p rfl (y_cut hsp7 Tryz.underlying90 Tryz.sizeOf42 rfl rfl (by omega)) rfl ?_
    refine SPO_p rfl (y_nil rfl) rfl ?_
    refine SPO_p rfl (y_fa fld_263_2 rfl) rfl ?_
    refine SPO_z (k := 0) rfl rfl (SP1_storeM (j := 2) (pre := pre7) (cs := trow t7 g0 na7 nc7) (post := post7) Tryz.sizeOf90 rfl rfl rfl hpre7 (by repeat (first | exact hup7 _ | apply Upd.tail)) (by rfl) ?_)
    replace hM := hM7
    refine SPO_nil ?_
    refine thenP_n ?_
    refine SP_seq ?_
    obtain ⟨t8, ht8e⟩ : ∃ t8, t8 = { t7 with stack := t7.stack.take f7.ret.toNat } := ⟨_, rfl⟩
    have ht8 : (setTh m6 th { t7 with stack := t7.stack.take f7.ret.toNat }).vs.threads[th]? = some t8 := by rw [ht8e]; exact setTh_get ht7
    have hl8 : k + 1 ≤ t8.frames.length := by rw [ht8e]; exact hr7.2.2
    obtain ⟨_, oa8, oc8, hg8, _, hrow8, _⟩ := hM.thr ht8
    rw [hg0] at hg8
    injection hg8 with hg8
    subst hg8
    have hsp8 : ∃ xs sg, Arr 331 5 g0.fa t8.frames.length g0.fc xs sg := by
      obtain ⟨_, _, _, _, _, _, _, _, _, _, _, _, _, hsf, _⟩ := hM.opnT ht8 hg0
      exact ⟨_, _, hsf⟩
    obtain ⟨xs8, sx8, hsp8⟩ := hsp8
    have hml8 := hsp8.mle
    obtain ⟨pre8, post8, na8, nc8, sg8, hpre8, hup8, hM8⟩ := hM.cutF ht8 hg0 (j := k + 1) hl8
    refine SP_region ?_
    refine SPL_y (y_move rfl) rfl ?_
    refine SPL_y (y_move rfl) rfl ?_
    refine SPL_y (y_nil rfl) rfl ?_
    refine SPL_y (y_fa fld_263_3 rfl) rfl ?_
    refine SPL_y (y_load Tryz.isAgg261 rfl (by repeat (first | exact (hrow8 _ 3 _ rfl) | apply Cell.tail))) rfl ?_
    refine SPL_y (y_move rfl) rfl ?_
    refine SPL_y (y_cut hsp8 Tryz.underlying261 Tryz.sizeOf331 rfl rfl (by omega)) rfl ?_
    rw [Int.toNat_natCast]
    refine SPL_y (y_nil rfl) rfl ?_
    refine SPL_y (y_fa fld_263_3 rfl) rfl ?_
    refine SPL_one rfl (SP1_storeM (j := 3) (pre := pre8) (cs := trow t8 g0 na8 nc8) (post := post8) Tryz.sizeOf261 rfl rfl rfl hpre8 (by repeat (first | exact hup8 _ | apply Upd.tail)) (by rfl) ?_)
    refine SPL_nil ?_
    refine thenP_n ?_
    refine SP_seq ?_
    replace hM := hM8
    rw [setTh_setTh, ht8e] at hM
    refine SP_region ?_
    refine SPL_y (y_move rfl) rfl ?_
    refine SPL_y (y_build B42 rfl rfl (by simp only [fillL, List.foldl_cons, List.foldl_nil, List.set_cons_zero, List.set_cons_succ]; exact rfl)) rfl ?_
    refine SPL_y (y_loads Tryz.isAgg42 Tryz.sizeOf42 rfl rfl (by repeat (first | exact Cells.all _ | exact Cells.amid hpre rfl (by decide) | exact Cells.head rfl | apply Cells.tail))) rfl ?_
    refine SPL_one rfl (SP1_sliceN (l := ([v1, x].flatMap valV)) el_90 rfl (by kernel_rfl) rfl rfl ?_)
    intro b61
    obtain ⟨m9, hq9, hP⟩ := bnd1 hP
    refine SPL_one rfl (SP1_call (vm_push b ph hh _ hq9 _ hM) Tryz.call142 rfl rfl (by repeat (first | exact Part.nil _ | (apply Part.cons; with_reducible (first | exact P0 | exact P1 | exact P2 | exact P3 | exact P4 | exact P5 | exact P6 | exact P7 | exact P8 | exact P9 | exact P10 | exact P11 | exact P12 | exact P13 | exact P14 | exact P15 | exact P16 | exact P17 | exact P18 | exact P19 | exact P20 | exact P21 | exact P22 | exact P23)) | (apply Part.flat; simp only [List.cons_append, List.nil_append]) | (apply Part.cons; (first | exact P0 | exact P1 | exact P2 | exact P3 | exact P4 | exact P5 | exact P6 | exact P7 | exact P8 | exact P9 | exact P10 | exact P11 | exact P12 | exact P13 | exact P14 | exact P15 | exact P16 | exact P17 | exact P18 | exact P19 | exact P20 | exact P21 | exact P22 | exact P23)) | (apply Part.nilc))) ?_)
    rintro v post H' ⟨rfl, hh9, sg9, hk9, hM, rfl⟩ hH
    try simp only [List.cons_append, List.nil_append] at hH
    subst hH
    refine SPL_nil ?_
    refine thenP_n ?_
    refine SP_seq ?_
    refine SP_region ?_
    refine SPL_y (y_buildN (l := (evV ev0)) BN184 rfl rfl) rfl ?_
    refine SPL_one rfl (SP1_storeAll Tryz.sizeOf184 rfl rfl rfl rfl rfl (by first | exact U0 | exact U1 | exact U2 | exact U3 | exact U4 | exact U5 | exact U6 | exact U7 | exact U8 | exact U9 | exact U10 | exact U11 | exact U12 | exact U13 | exact U14 | exact U15 | exact U16 | exact U17 | exact U18 | exact U19 | exact U20 | exact U21 | exact U22 | exact U23) (by rfl) ?_)
    refine SPL_y (y_assign rfl) rfl ?_
    refine SPL_nil ?_
    refine thenP_n ?_
    refine SP_ret ?_
    refine inBlockP_ret (thenP_ret (thenP_ret (inBlockP_ret (thenP_ret (bodyP_ret (H' := [sg9]) (ResCT rfl rfl rfl Tryz.isAgg184 Tryz.sizeOf184 rfl (by repeat (first | exact Cells.all _ | exact Cells.head rfl | apply Cells.tail))) (by repeat (first | exact Part.nil _ | (apply Part.cons; with_reducible (first | exact P0 | exact P1 | exact P2 | exact P3 | exact P4 | exact P5 | exact P6 | exact P7 | exact P8 | exact P9 | exact P10 | exact P11 | exact P12 | exact P13 | exact P14 | exact P15 | exact P16 | exact P17 | exact P18 | exact P19 | exact P20 | exact P21 | exact P22 | exact P23)) | (apply Part.flat; simp only [List.cons_append, List.nil_append]) | (apply Part.cons; (first | exact P0 | exact P1 | exact P2 | exact P3 | exact P4 | exact P5 | exact P6 | exact P7 | exact P8 | exact P9 | exact P10 | exact P11 | exact P12 | exact P13 | exact P14 | exact P15 | exact P16 | exact P17 | exact P18 | exact P19 | exact P20 | exact P21 | exact P22 | exact P23)) | (apply Part.nilc))) ?_)))))
    injection hP with hP
    injection hP with h1 h2
    injection h2 with h2 h3
    subst h1 h2 h3
    exact ⟨rfl, hh9, _, hk9, hM, rfl⟩
  intro hc29
  first | rw [if_neg hc29] at hP | rw [if_pos (Decidable.not_not.1 hc29)] at hP | skip
  refine SP_skip ?_
  refine inBlockP_n ?_
  refine thenP_n ?_
  rw [if_neg (by rw [hc29]; decide)] at hP
  refine SP_region ?_
  refine SPL_y (y_move rfl) rfl ?_
  refine SPL_y (y_sub rfl rfl (by omega)) rfl ?_
  rw [show (((k + 1 : Nat) : Int) - 1) = (k : Int) from by omega]
  refine SPL_y (y_assign rfl) rfl ?_
  refine SPL_nil ?_
  refine thenP_n ?_
  exact Again.intro (k) (⟨hP, by omega⟩) (by omega) (by repeat (first | exact Sub.nil _ | refine Sub.cons rfl ?_)) (by repeat (first | exact Part.nil _ | (apply Part.cons; with_reducible (first | exact P0 | exact P1 | exact P2 | exact P3 | exact P4 | exact P5 | exact P6 | exact P7 | exact P8 | exact P9 | exact P10 | exact P11 | exact P12 | exact P13 | exact P14 | exact P15 | exact P16 | exact P17 | exact P18 | exact P19 | exact P20 | exact P21 | exact P22 | exact P23)) | (apply Part.flat; simp only [List.cons_append, List.nil_append]) | (apply Part.cons; (first | exact P0 | exact P1 | exact P2 | exact P3 | exact P4 | exact P5 | exact P6 | exact P7 | exact P8 | exact P9 | exact P10 | exact P11 | exact P12 | exact P13 | exact P14 | exact P15 | exact P16 | exact P17 | exact P18 | exact P19 | exact P20 | exact P21 | exact P22 | exact P23)) | (apply Part.nilc)))

end Go.Sl
