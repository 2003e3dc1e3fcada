/- Walks: package vm, return and unwind (made by program out of short notes) -/
import Derived.Test.Qxb6500573aGreatDoorBB
import Derived.Test.Qxb6500573aGreatDoorWVmP
import Derived.Test.Qxb6500573aGreatDoorSlWj
namespace Go.Sl
open Go Go.Wl Go.Proofs
set_option maxRecDepth 100000
set_option linter.unusedVariables false
set_option linter.unusedSimpArgs false
theorem vm_bTypeR (b : VB) (ph : PH) (hh : List TH) {m : VM} {o : Out (V × V)} {a c d : V} {q oo : Nat} {sx : Seg} (hP : bTypeM a m = some o) (seg : Seg) (hM : isVM b ph hh m seg) (hA : Args3 seg sx q oo a c d) : Spec Tryz.prog 285 [pt b.vb, .pointer (some ⟨q, oo, none⟩)] [seg, sx] (Ret (outRet b ph hh pairV o)) := by
  unfold bTypeM at hP
  refine Spec_enter Tryz.func285 rfl Tryz.ntmps285 rfl ?_
  show SP _ _ _ _ _ [(0, _), (1, _)] _
  refine SP_seq ?_
  refine SP_region ?_
  refine SPL_one rfl (SP1_alloc Tryz.zeroValue42 rfl rfl ?_)
  intro b4
  refine SPL_one rfl (SP1_alloc Tryz.zeroValue42 rfl rfl ?_)
  intro b5
  refine SPL_nil ?_
  refine thenP_n ?_
  refine SP_seq ?_
  refine SP_region ?_
  refine SPL_y (y_move rfl) rfl ?_
  refine SPL_y (y_nil rfl) rfl ?_
  refine SPL_y (y_ia_arr Tryz.underlying277 Tryz.sizeOf42 rfl rfl (by omega)) rfl ?_
  refine SPL_y (y_loads Tryz.isAgg42 Tryz.sizeOf42 rfl rfl (by repeat (first | exact hA.a0 | apply Cells.tail))) rfl ?_
  refine SPL_one rfl (SP1_call (api_TypeName a) Tryz.call169 rfl rfl (by repeat (first | exact Part.nil _ | (apply Part.cons; with_reducible (first | exact P0 | exact P1 | exact P2 | exact P3 | exact P4 | exact P5 | exact P6 | exact P7 | exact P8 | exact P9 | exact P10 | exact P11 | exact P12 | exact P13 | exact P14 | exact P15 | exact P16 | exact P17 | exact P18 | exact P19 | exact P20 | exact P21 | exact P22 | exact P23)) | (apply Part.flat; simp only [List.cons_append, List.nil_append]) | (apply Part.cons; (first | exact P0 | exact P1 | exact P2 | exact P3 | exact P4 | exact P5 | exact P6 | exact P7 | exact P8 | exact P9 | exact P10 | exact P11 | exact P12 | exact P13 | exact P14 | exact P15 | exact P16 | exact P17 | exact P18 | exact P19 | exact P20 | exact P21 | exact P22 | exact P23)) | (apply Part.nilc))) ?_)
  rintro v post H' ⟨rfl, rfl⟩ hH
  try simp only [List.cons_append, List.nil_append] at hH
  subst hH
  refine SPL_y (y_assign rfl) rfl ?_
  refine SPL_nil ?_
  refine thenP_n ?_
  refine SP_seq ?_
  refine SP_region ?_
  refine SPL_y (y_move rfl) rfl ?_
  refine SPL_y (y_build B42 rfl rfl (by simp only [fillL, List.foldl_cons, List.foldl_nil, List.set_cons_zero, List.set_cons_succ]; exact rfl)) rfl ?_
  refine SPL_y (y_build B42 rfl rfl (by simp only [fillL, List.foldl_cons, List.foldl_nil, List.set_cons_zero, List.set_cons_succ]; exact rfl)) rfl ?_
  refine SPL_one rfl (SP1_storeAll Tryz.sizeOf42 rfl rfl rfl rfl rfl (by first | exact U0 | exact U1 | exact U2 | exact U3 | exact U4 | exact U5 | exact U6 | exact U7 | exact U8 | exact U9 | exact U10 | exact U11 | exact U12 | exact U13 | exact U14 | exact U15 | exact U16 | exact U17 | exact U18 | exact U19 | exact U20 | exact U21 | exact U22 | exact U23) (by rfl) ?_)
  refine SPL_one rfl (SP1_storeAll Tryz.sizeOf42 rfl rfl rfl rfl rfl (by first | exact U0 | exact U1 | exact U2 | exact U3 | exact U4 | exact U5 | exact U6 | exact U7 | exact U8 | exact U9 | exact U10 | exact U11 | exact U12 | exact U13 | exact U14 | exact U15 | exact U16 | exact U17 | exact U18 | exact U19 | exact U20 | exact U21 | exact U22 | exact U23) (by rfl) ?_)
  refine SPL_nil ?_
  refine thenP_n ?_
  refine SP_ret ?_
  refine bodyP_ret (H' := [seg]) (Res2C rfl rfl rfl Tryz.isAgg42 Tryz.isAgg42 Tryz.sizeOf42 Tryz.sizeOf42 rfl rfl (by repeat (first | exact Cells.all _ | exact Cells.head rfl | apply Cells.tail)) (by repeat (first | exact Cells.all _ | exact Cells.head rfl | apply Cells.tail))) (by repeat (first | exact Part.nil _ | (apply Part.cons; with_reducible (first | exact P0 | exact P1 | exact P2 | exact P3 | exact P4 | exact P5 | exact P6 | exact P7 | exact P8 | exact P9 | exact P10 | exact P11 | exact P12 | exact P13 | exact P14 | exact P15 | exact P16 | exact P17 | exact P18 | exact P19 | exact P20 | exact P21 | exact P22 | exact P23)) | (apply Part.flat; simp only [List.cons_append, List.nil_append]) | (apply Part.cons; (first | exact P0 | exact P1 | exact P2 | exact P3 | exact P4 | exact P5 | exact P6 | exact P7 | exact P8 | exact P9 | exact P10 | exact P11 | exact P12 | exact P13 | exact P14 | exact P15 | exact P16 | exact P17 | exact P18 | exact P19 | exact P20 | exact P21 | exact P22 | exact P23)) | (apply Part.nilc))) ?_
  injection hP with hP
  subst hP
  exact ⟨_, _, rfl, rfl, _, _, KF.refl _, hM, rfl⟩

set_option maxHeartbeats 16000000 in
theorem vm_call (hN : NextSpec) (b : VB) (ph : PH) (hh : List TH) {m : VM} {o : Out Ev} {th i : Nat} {n : Int} {fv : Value} (hfv : FP hh th i fv) (hP : vcallM th i n m = some o) (seg : Seg) (hM : isVM b ph hh m seg) : Spec Tryz.prog 265 [pt b.vb, I th, tp b th, fv, I n] [seg] (outX b ph evA o) := by
  have hk : KF hh hh := KF.refl hh
  unfold vcallM at hP
  refine Spec_enter Tryz.func265 rfl Tryz.ntmps265 rfl ?_
  show SP _ _ _ _ _ [(0, _), (1, _), (2, _), (3, _), (4, _)] _
  refine SP_seq ?_
  refine SP_region ?_
  refine SPL_one rfl (SP1_alloc Tryz.zeroValue184 rfl rfl ?_)
  intro b10
  refine SPL_nil ?_
  refine thenP_n ?_
  refine SP_seq ?_
  refine SP_region ?_
  refine SPL_y (y_move rfl) rfl ?_
  obtain ⟨o1, hq1, hP⟩ := bndO hP
  refine SPL_one rfl (SP1_callp (vm_burn b ph hh hq1 _ hM) Tryz.call280 rfl rfl (by repeat (first | exact Part.nil _ | (apply Part.cons; with_reducible (first | exact P0 | exact P1 | exact P2 | exact P3 | exact P4 | exact P5 | exact P6 | exact P7 | exact P8 | exact P9 | exact P10 | exact P11 | exact P12 | exact P13 | exact P14 | exact P15 | exact P16 | exact P17 | exact P18 | exact P19 | exact P20 | exact P21 | exact P22 | exact P23)) | (apply Part.flat; simp only [List.cons_append, List.nil_append]) | (apply Part.cons; (first | exact P0 | exact P1 | exact P2 | exact P3 | exact P4 | exact P5 | exact P6 | exact P7 | exact P8 | exact P9 | exact P10 | exact P11 | exact P12 | exact P13 | exact P14 | exact P15 | exact P16 | exact P17 | exact P18 | exact P19 | exact P20 | exact P21 | exact P22 | exact P23)) | (apply Part.nilc))) ?_ ?_)
  · rintro c post H' ⟨ex, hhx, sgx, rfl, rfl, hkx, hMx, rfl⟩ hH
    try simp only [List.cons_append, List.nil_append] at hH
    subst hH
    refine thenP_panic (bodyP_panic (H' := [sgx, escS ex]) (by repeat (first | exact Part.nil _ | (apply Part.cons; with_reducible (first | exact P0 | exact P1 | exact P2 | exact P3 | exact P4 | exact P5 | exact P6 | exact P7 | exact P8 | exact P9 | exact P10 | exact P11 | exact P12 | exact P13 | exact P14 | exact P15 | exact P16 | exact P17 | exact P18 | exact P19 | exact P20 | exact P21 | exact P22 | exact P23)) | (apply Part.flat; simp only [List.cons_append, List.nil_append]) | (apply Part.cons; (first | exact P0 | exact P1 | exact P2 | exact P3 | exact P4 | exact P5 | exact P6 | exact P7 | exact P8 | exact P9 | exact P10 | exact P11 | exact P12 | exact P13 | exact P14 | exact P15 | exact P16 | exact P17 | exact P18 | exact P19 | exact P20 | exact P21 | exact P22 | exact P23)) | (apply Part.nilc))) ?_)
    rw [bindO_esc] at hP
    injection hP with hP
    subst hP
    exact ⟨ex, hhx, sgx, rfl, rfl, hMx, rfl⟩
  rintro v post H' ⟨a1, m1, rfl, rfl, hh1, sg1, hk1, hM, rfl⟩ hH
  try simp only [List.cons_append, List.nil_append] at hH
  subst hH
  dsimp only [bindO] at hP
  replace hk := hk.trans hk1
  refine SPL_nil ?_
  refine thenP_n ?_
  refine SP_seq ?_
  obtain ⟨g, q, hg, hq, hfe⟩ := hfv.keep hk
  subst hfe
  unfold getT at hP
  obtain ⟨t, ht, hP⟩ := bnd1 hP
  have hr : 0 ≤ n ∧ n ≤ 900 ∧ n + 1 ≤ t.stack.length ∧ t.stack.length ≤ 1000000 := Decidable.byContradiction fun q => by rw [if_neg q] at hP; cases hP
  rw [if_pos hr] at hP
  obtain ⟨f, hf0, hP⟩ := bnd1 hP
  obtain ⟨_, oa2, oc2, hg2, _, hrow2, hst2, _⟩ := hM.thr ht
  rw [hg] at hg2
  injection hg2 with hg2
  subst hg2
  obtain ⟨sq, hsa, hsc⟩ := hst2 _ _ hf0
  have hml : t.stack.length ≤ g.sc := by
    obtain ⟨_, _, _, _, _, _, _, _, _, _, _, _, hss, _⟩ := hM.opnT ht hg
    exact hss.mle
  have hstk0 : ∀ H : Hp, Cell (sg1 :: H) b.thb (0 + th * 5 + 2) (.slice (some ⟨sq, 0, none⟩) t.stack.length g.sc) := fun H => hsa ▸ hrow2 H 2 _ rfl
  obtain ⟨at_, hat⟩ : ∃ a, a = t.stack.length - n.toNat - 1 := ⟨_, rfl⟩
  rw [← hat, show t.stack.length - n.toNat = at_ + 1 from by omega] at hP
  have hat2 : (t.stack.length : Int) - n - 1 = (at_ : Nat) := by omega
  rw [hat2] at hsc
  obtain ⟨args, hargs⟩ : ∃ a, a = t.stack.drop (at_ + 1) := ⟨_, rfl⟩
  have hal : args.length = n.toNat := by rw [hargs, List.length_drop]; omega
  rw [← hargs] at hP
  obtain ⟨aa, haa⟩ : ∃ a, a = winA (some ⟨sq, 0, none⟩) 3 t.stack.length (at_ + 1) := ⟨_, rfl⟩
  refine SP_region ?_
  refine SPL_y (y_move rfl) rfl ?_
  refine SPL_y (y_nil rfl) rfl ?_
  refine SPL_y (y_fa fld_263_2 rfl) rfl ?_
  refine SPL_y (y_load Tryz.isAgg90 rfl (by repeat (first | exact (hstk0 _) | apply Cell.tail))) rfl ?_
  refine SPL_y (y_len_l Tryz.underlying90 rfl) rfl ?_
  refine SPL_y (y_assign rfl) rfl ?_
  refine SPL_nil ?_
  refine thenP_n ?_
  refine SP_seq ?_
  refine SP_region ?_
  refine SPL_y (y_move rfl) rfl ?_
  refine SPL_y (y_move rfl) rfl ?_
  refine SPL_y (y_sub rfl rfl (by omega)) rfl ?_
  refine SPL_y (y_sub rfl rfl (by omega)) rfl ?_
  rw [hat2]
  refine SPL_y (y_assign rfl) rfl ?_
  refine SPL_nil ?_
  refine thenP_n ?_
  refine SP_seq ?_
  refine SP_region ?_
  refine SPL_y (y_move rfl) rfl ?_
  refine SPL_y (y_nil rfl) rfl ?_
  refine SPL_y (y_fa fld_263_2 rfl) rfl ?_
  refine SPL_y (y_load Tryz.isAgg90 rfl (by repeat (first | exact (hstk0 _) | apply Cell.tail))) rfl ?_
  refine SPL_y (y_move rfl) rfl ?_
  refine SPL_y (y_ia Tryz.underlying90 Tryz.sizeOf42 rfl rfl (by omega)) rfl ?_
  refine SPL_y (y_loads Tryz.isAgg42 Tryz.sizeOf42 rfl rfl (by repeat (first | exact (hsc _) | apply Cells.tail))) rfl ?_
  refine SPL_one rfl (SP1_alloc Tryz.zeroValue42 rfl rfl ?_)
  intro b13
  refine SPL_one rfl (SP1_storeAll Tryz.sizeOf42 rfl rfl rfl rfl rfl (by first | exact U0 | exact U1 | exact U2 | exact U3 | exact U4 | exact U5 | exact U6 | exact U7 | exact U8 | exact U9 | exact U10 | exact U11 | exact U12 | exact U13 | exact U14 | exact U15 | exact U16 | exact U17 | exact U18 | exact U19 | exact U20 | exact U21 | exact U22 | exact U23) (by rfl) ?_)
  refine SPL_nil ?_
  refine thenP_n ?_
  refine SP_seq ?_
  refine SP_region ?_
  refine SPL_y (y_move rfl) rfl ?_
  refine SPL_y (y_nil rfl) rfl ?_
  refine SPL_y (y_fa fld_263_2 rfl) rfl ?_
  refine SPL_y (y_load Tryz.isAgg90 rfl (by repeat (first | exact (hstk0 _) | apply Cell.tail))) rfl ?_
  refine SPL_y (y_move rfl) rfl ?_
  refine SPL_y (y_add rfl rfl (by omega)) rfl ?_
  refine SPL_y (y_move rfl) rfl ?_
  refine SPL_y (y_move rfl) rfl ?_
  refine SPL_y (y_win3 (.inr ⟨sq, 0, rfl⟩) Tryz.underlying90 Tryz.sizeOf42 rfl rfl rfl rfl (by omega)) rfl ?_
  rw [Int.toNat_natCast, show ((at_ : Int) + 1).toNat = at_ + 1 from by omega, ← haa, show t.stack.length - (at_ + 1) = args.length from by omega]
  refine SPL_y (y_assign rfl) rfl ?_
  refine SPL_nil ?_
  refine thenP_n ?_
  refine SP_seq ?_
  obtain ⟨m6, hnp, hP⟩ := bnd1 hP
  obtain ⟨fr, t6, hf6, hr6, hpc6, ht6, hst6⟩ := nextPc_th hnp ht
  obtain ⟨pre6, post6, sg6, hpre6, hup6, hM6⟩ := hM.setPc hf6 hpc6 hg hq
  have hW0 : ArgW hh1 th m6 args aa [] := by
    have := ArgW.win hg ht6 (k := at_ + 1) (n := n.toNat) (by rw [hst6]; omega) (fun _ => ⟨sq, hsa⟩)
    rw [hst6, ← hargs, hsa, show at_ + 1 + n.toNat = t.stack.length from by omega, ← haa] at this
    exact this
  refine SP_region ?_
  refine SPL_y (y_move rfl) rfl ?_
  refine SPL_y (y_nil rfl) rfl ?_
  refine SPL_y (y_fa fld_331_1 rfl) rfl ?_
  refine SPL_y (y_load Tryz.isAgg3 rfl (by repeat (first | exact (hM.frF hf6 hg hq rfl) | apply Cell.tail))) rfl ?_
  refine SPL_y (y_add rfl rfl (by omega)) rfl ?_
  refine SPL_y (y_nil rfl) rfl ?_
  refine SPL_y (y_fa fld_331_1 rfl) rfl ?_
  refine SPL_one rfl (SP1_storeM (j := 1) (pre := pre6) (cs := frV fr) (post := post6) Tryz.sizeOf3 rfl rfl rfl hpre6 (by repeat (first | exact hup6 _ | apply Upd.tail)) (by rfl) ?_)
  replace hM := hM6
  refine SPL_nil ?_
  refine thenP_n ?_
  refine SP_seq ?_
  refine SP_seq ?_
  unfold callF at hP
  refine SP_region ?_
  refine SPL_y (y_fa fld_42_0 rfl) rfl ?_
  refine SPL_y (y_load Tryz.isAgg3 rfl (by repeat (first | exact Cell.amid hpre rfl | exact Cell.head rfl | apply Cell.tail))) rfl ?_
  refine SPL_if (y_eql rfl rfl) rfl ?_ ?_
  · intro h7_2
    first | rw [if_pos h7_2] at hP | rw [if_neg h7_2] at hP | skip
    as_aux_lemma =>
      refine SPL_nil ?_
      refine thenP_n ?_
      refine SP_cond_t rfl ?_
      refine SP_seq ?_
      refine SP_seq ?_
      unfold getT at hP
      obtain ⟨t8, ht8, hP⟩ := bnd1 hP
      obtain ⟨g8, oa8, oc8, hg8, _, hrow8, _⟩ := hM.thr ht8
      refine SP_region ?_
      refine SPL_y (y_move rfl) rfl ?_
      refine SPL_y (y_nil rfl) rfl ?_
      refine SPL_y (y_fa fld_263_3 rfl) rfl ?_
      refine SPL_y (y_load Tryz.isAgg261 rfl (by repeat (first | exact (hrow8 _ 3 _ rfl) | apply Cell.tail))) rfl ?_
      refine SPL_y (y_len_l Tryz.underlying261 rfl) rfl ?_
      refine SPL_if (y_geq rfl rfl) rfl ?_ ?_
      · intro h8_5
        first | rw [if_pos h8_5] at hP | rw [if_neg h8_5] at hP | skip
        as_aux_lemma =>
          refine SPL_nil ?_
          refine thenP_n ?_
          refine SP_cond_t rfl ?_
          refine SP_region ?_
          refine SPL_one rfl (SP1_callp (vm_raise s_depth) Tryz.call281 rfl rfl (by repeat (first | exact Part.nil _ | (apply Part.cons; with_reducible (first | exact P0 | exact P1 | exact P2 | exact P3 | exact P4 | exact P5 | exact P6 | exact P7 | exact P8 | exact P9 | exact P10 | exact P11 | exact P12 | exact P13 | exact P14 | exact P15 | exact P16 | exact P17 | exact P18 | exact P19 | exact P20 | exact P21 | exact P22 | exact P23)) | (apply Part.flat; simp only [List.cons_append, List.nil_append]) | (apply Part.cons; (first | exact P0 | exact P1 | exact P2 | exact P3 | exact P4 | exact P5 | exact P6 | exact P7 | exact P8 | exact P9 | exact P10 | exact P11 | exact P12 | exact P13 | exact P14 | exact P15 | exact P16 | exact P17 | exact P18 | exact P19 | exact P20 | exact P21 | exact P22 | exact P23)) | (apply Part.nilc))) ?_ ?_)
          · rintro c post H' ⟨bb, rfl, rfl⟩ hH
            try simp only [List.cons_append, List.nil_append] at hH
            subst hH
            refine thenP_panic (thenP_panic (bodyP_panic (H' := [sg6, blk bb 335 (valV (strV s_depth))]) (by repeat (first | exact Part.nil _ | (apply Part.cons; with_reducible (first | exact P0 | exact P1 | exact P2 | exact P3 | exact P4 | exact P5 | exact P6 | exact P7 | exact P8 | exact P9 | exact P10 | exact P11 | exact P12 | exact P13 | exact P14 | exact P15 | exact P16 | exact P17 | exact P18 | exact P19 | exact P20 | exact P21 | exact P22 | exact P23)) | (apply Part.flat; simp only [List.cons_append, List.nil_append]) | (apply Part.cons; (first | exact P0 | exact P1 | exact P2 | exact P3 | exact P4 | exact P5 | exact P6 | exact P7 | exact P8 | exact P9 | exact P10 | exact P11 | exact P12 | exact P13 | exact P14 | exact P15 | exact P16 | exact P17 | exact P18 | exact P19 | exact P20 | exact P21 | exact P22 | exact P23)) | (apply Part.nilc))) ?_))
            injection hP with hP
            subst hP
            exact ⟨.thr (strV s_depth) m6 bb, hh1, sg6, rfl, rfl, hM, rfl⟩
          rintro v post H' hF hH
          exact hF.elim
      intro h8_5
      first | rw [if_neg h8_5] at hP | rw [if_pos (Decidable.not_not.1 h8_5)] at hP | skip
      as_aux_lemma =>
        refine SPL_nil ?_
        refine thenP_n ?_
        refine SP_cond_f rfl ?_
        refine SP_skip ?_
        refine thenP_n ?_
        refine SP_seq ?_
        have hn10 : 0 ≤ f.n ∧ f.n ≤ 1000000000 := Decidable.byContradiction fun q => by rw [if_neg q] at hP; cases hP
        rw [if_pos hn10] at hP
        refine SP_region ?_
        refine SPL_y (y_move rfl) rfl ?_
        refine SPL_y (y_move rfl) rfl ?_
        refine SPL_y (y_fa fld_42_1 rfl) rfl ?_
        refine SPL_y (y_load Tryz.isAgg40 rfl (by repeat (first | exact Cell.amid hpre rfl | exact Cell.head rfl | apply Cell.tail))) rfl ?_
        refine SPL_y (y_conv Tryz.underlying40 Tryz.underlying3 rfl (show IntKind.i64.wrap f.n = f.n from by rw [IntKind.wrap_i64]; omega)) rfl ?_
        refine SPL_y (y_move rfl) rfl ?_
        refine SPL_y (y_move rfl) rfl ?_
        unfold outE at hP
        obtain ⟨m10, hq10, hP⟩ := bnd1 hP
        refine SPL_one rfl (SP1_call (vm_enter b ph hh1 (by omega) hW0 hq10 _ hM) Tryz.call141 rfl rfl (by repeat (first | exact Part.nil _ | (apply Part.cons; with_reducible (first | exact P0 | exact P1 | exact P2 | exact P3 | exact P4 | exact P5 | exact P6 | exact P7 | exact P8 | exact P9 | exact P10 | exact P11 | exact P12 | exact P13 | exact P14 | exact P15 | exact P16 | exact P17 | exact P18 | exact P19 | exact P20 | exact P21 | exact P22 | exact P23)) | (apply Part.flat; simp only [List.cons_append, List.nil_append]) | (apply Part.cons; (first | exact P0 | exact P1 | exact P2 | exact P3 | exact P4 | exact P5 | exact P6 | exact P7 | exact P8 | exact P9 | exact P10 | exact P11 | exact P12 | exact P13 | exact P14 | exact P15 | exact P16 | exact P17 | exact P18 | exact P19 | exact P20 | exact P21 | exact P22 | exact P23)) | (apply Part.nilc))) ?_)
        rintro v post H' ⟨rfl, hh10, sg10, hM, rfl⟩ hH
        try simp only [List.cons_append, List.nil_append] at hH
        subst hH
        refine SPL_nil ?_
        refine thenP_n ?_
        refine SP_seq ?_
        refine SP_region ?_
        refine SPL_y (y_buildN (l := (evV ev0)) BN184 rfl rfl) rfl ?_
        refine SPL_one rfl (SP1_storeAll Tryz.sizeOf184 rfl rfl rfl rfl rfl (by first | exact U0 | exact U1 | exact U2 | exact U3 | exact U4 | exact U5 | exact U6 | exact U7 | exact U8 | exact U9 | exact U10 | exact U11 | exact U12 | exact U13 | exact U14 | exact U15 | exact U16 | exact U17 | exact U18 | exact U19 | exact U20 | exact U21 | exact U22 | exact U23) (by rfl) ?_)
        refine SPL_nil ?_
        refine thenP_n ?_
        refine SP_ret ?_
        refine thenP_ret (bodyP_ret (H' := [sg10]) (ResC rfl rfl Tryz.isAgg184 Tryz.sizeOf184 rfl (by repeat (first | exact Cells.all _ | exact Cells.amid hpre rfl (by decide) | exact Cells.head rfl | apply Cells.tail))) (by repeat (first | exact Part.nil _ | (apply Part.cons; with_reducible (first | exact P0 | exact P1 | exact P2 | exact P3 | exact P4 | exact P5 | exact P6 | exact P7 | exact P8 | exact P9 | exact P10 | exact P11 | exact P12 | exact P13 | exact P14 | exact P15 | exact P16 | exact P17 | exact P18 | exact P19 | exact P20 | exact P21 | exact P22 | exact P23)) | (apply Part.flat; simp only [List.cons_append, List.nil_append]) | (apply Part.cons; (first | exact P0 | exact P1 | exact P2 | exact P3 | exact P4 | exact P5 | exact P6 | exact P7 | exact P8 | exact P9 | exact P10 | exact P11 | exact P12 | exact P13 | exact P14 | exact P15 | exact P16 | exact P17 | exact P18 | exact P19 | exact P20 | exact P21 | exact P22 | exact P23)) | (apply Part.nilc))) ?_)
        injection hP with hP
        subst hP
        exact ⟨_, _, rfl, rfl, _, _, hM, rfl⟩
  intro h7_2
  first | rw [if_neg h7_2] at hP | rw [if_pos (Decidable.not_not.1 h7_2)] at hP | skip
  as_aux_lemma =>
    refine SPL_nil ?_
    refine thenP_n ?_
    refine SP_cond_f rfl ?_
    refine SP_skip ?_
    refine thenP_n ?_
    refine SP_seq ?_
    refine SP_seq ?_
    refine SP_region ?_
    refine SPL_y (y_fa fld_42_0 rfl) rfl ?_
    refine SPL_y (y_load Tryz.isAgg3 rfl (by repeat (first | exact Cell.amid hpre rfl | exact Cell.head rfl | apply Cell.tail))) rfl ?_
    refine SPL_if (y_neq rfl rfl) rfl ?_ ?_
    · intro h12_2
      first | rw [if_pos h12_2] at hP | rw [if_neg h12_2] at hP | skip
      as_aux_lemma =>
        refine SPL_nil ?_
        refine thenP_n ?_
        refine SP_cond_t rfl ?_
        refine SP_region ?_
        refine SPL_one rfl (SP1_callp (vm_raise s_call) Tryz.call281 rfl rfl (by repeat (first | exact Part.nil _ | (apply Part.cons; with_reducible (first | exact P0 | exact P1 | exact P2 | exact P3 | exact P4 | exact P5 | exact P6 | exact P7 | exact P8 | exact P9 | exact P10 | exact P11 | exact P12 | exact P13 | exact P14 | exact P15 | exact P16 | exact P17 | exact P18 | exact P19 | exact P20 | exact P21 | exact P22 | exact P23)) | (apply Part.flat; simp only [List.cons_append, List.nil_append]) | (apply Part.cons; (first | exact P0 | exact P1 | exact P2 | exact P3 | exact P4 | exact P5 | exact P6 | exact P7 | exact P8 | exact P9 | exact P10 | exact P11 | exact P12 | exact P13 | exact P14 | exact P15 | exact P16 | exact P17 | exact P18 | exact P19 | exact P20 | exact P21 | exact P22 | exact P23)) | (apply Part.nilc))) ?_ ?_)
        · rintro c post H' ⟨bb, rfl, rfl⟩ hH
          try simp only [List.cons_append, List.nil_append] at hH
          subst hH
          refine thenP_panic (bodyP_panic (H' := [sg6, blk bb 335 (valV (strV s_call))]) (by repeat (first | exact Part.nil _ | (apply Part.cons; with_reducible (first | exact P0 | exact P1 | exact P2 | exact P3 | exact P4 | exact P5 | exact P6 | exact P7 | exact P8 | exact P9 | exact P10 | exact P11 | exact P12 | exact P13 | exact P14 | exact P15 | exact P16 | exact P17 | exact P18 | exact P19 | exact P20 | exact P21 | exact P22 | exact P23)) | (apply Part.flat; simp only [List.cons_append, List.nil_append]) | (apply Part.cons; (first | exact P0 | exact P1 | exact P2 | exact P3 | exact P4 | exact P5 | exact P6 | exact P7 | exact P8 | exact P9 | exact P10 | exact P11 | exact P12 | exact P13 | exact P14 | exact P15 | exact P16 | exact P17 | exact P18 | exact P19 | exact P20 | exact P21 | exact P22 | exact P23)) | (apply Part.nilc))) ?_)
          injection hP with hP
          subst hP
          exact ⟨.thr (strV s_call) m6 bb, hh1, sg6, rfl, rfl, hM, rfl⟩
        rintro v post H' hF hH
        exact hF.elim
    intro h12_2
    first | rw [if_neg h12_2] at hP | rw [if_pos (Decidable.not_not.1 h12_2)] at hP | skip
    as_aux_lemma =>
      refine SPL_nil ?_
      refine thenP_n ?_
      refine SP_cond_f rfl ?_
      refine SP_skip ?_
      refine thenP_n ?_
      refine SP_seq ?_
      refine SP_block ?_
      refine SP_loop (G := List V × Option Addr × Nat × Seg × Nat) (fun g => 2000 - g.1.length) (fun g => [(0, pt b.vb), (1, I th), (2, tp b th), (3, .pointer (some ⟨q, 0 + i * 5, none⟩)), (10, pt b10), (12, I (at_ : Nat)), (13, pt b13), (14, .slice g.2.1 g.1.length g.2.2.1)]) (fun g => [sg6, g.2.2.2.1, blk b10 184 [I 0, I 0, I 0, I 0, .int .u64 0, S [], I 0, .int .u64 0, S []], blk b13 42 (valV f)]) (fun g => g.1 = args ++ List.replicate g.2.2.2.2 V.nil ∧ g.1.length ≤ 1000 ∧ ((g.2.2.1 = g.1.length ∧ ArgW hh1 th m6 g.1 g.2.1 g.2.2.2.1) ∨ Arr 42 3 g.2.1 g.1.length g.2.2.1 (g.1.flatMap valV) g.2.2.2.1)) ((args, aa, args.length, [], 0)) (⟨by simp, by dsimp only; omega, .inl ⟨rfl, hW0⟩⟩) (by repeat (first | exact Sub.nil _ | refine Sub.cons rfl ?_)) (by repeat (first | exact Part.nil _ | (apply Part.cons; with_reducible (first | exact P0 | exact P1 | exact P2 | exact P3 | exact P4 | exact P5 | exact P6 | exact P7 | exact P8 | exact P9 | exact P10 | exact P11 | exact P12 | exact P13 | exact P14 | exact P15 | exact P16 | exact P17 | exact P18 | exact P19 | exact P20 | exact P21 | exact P22 | exact P23)) | (apply Part.flat; simp only [List.cons_append, List.nil_append]) | (apply Part.cons; (first | exact P0 | exact P1 | exact P2 | exact P3 | exact P4 | exact P5 | exact P6 | exact P7 | exact P8 | exact P9 | exact P10 | exact P11 | exact P12 | exact P13 | exact P14 | exact P15 | exact P16 | exact P17 | exact P18 | exact P19 | exact P20 | exact P21 | exact P22 | exact P23)) | (apply Part.nilc))) ?_
      rintro ⟨args', aa', cap, sx, k⟩ ⟨hpad, hal', hcase⟩
      dsimp only at hpad hal' hcase ⊢
      rcases hcase with ⟨rfl, hW⟩ | hOw
      · refine SP_seq ?_
        refine SP_seq ?_
        refine SP_region ?_
        refine SPL_y (y_move rfl) rfl ?_
        refine SPL_y (y_len_l Tryz.underlying90 rfl) rfl ?_
        refine SPL_if (y_lss rfl rfl) rfl ?_ ?_
        · intro h14_2
          first | rw [if_pos h14_2] at hP | rw [if_neg h14_2] at hP | skip
          as_aux_lemma =>
            refine SPL_nil ?_
            refine thenP_n ?_
            refine SP_cond_t rfl ?_
            refine SP_skip ?_
            refine thenP_n ?_
            refine SP_block ?_
            have hlt : args'.length < 3 := by omega
            refine SP_region ?_
            refine SPL_y (y_move rfl) rfl ?_
            refine SPL_y (y_build B42 rfl rfl (by simp only [fillL, List.foldl_cons, List.foldl_nil, List.set_cons_zero, List.set_cons_succ]; exact rfl)) rfl ?_
            refine SPL_one rfl (SP1_slice1 el_90 rfl rfl rfl rfl rfl ?_)
            intro b83
            refine SPL_one rfl (SP1_appendW (m := args'.length) (xs := args'.flatMap valV) el_90 (.inl Tryz.underlying90) rfl rfl (hW.src hM (fun q o ws h => by repeat (first | exact h _ | apply Cells.tail))) (Src.of (by repeat (first | exact Cells.all _ | exact Cells.amid hpre rfl (by decide) | exact Cells.head rfl | apply Cells.tail)) (by rfl)) (by decide) (by omega) rfl ?_)
            intro a2 c2 s2 h2
            rw [show args'.length + 1 = (args' ++ [V.nil]).length from by simp] at h2 ⊢
            rw [show args'.flatMap valV ++ _ = (args' ++ [V.nil]).flatMap valV from by rw [List.flatMap_append]; rfl] at h2
            refine SPL_y (y_assign rfl) rfl ?_
            refine SPL_nil ?_
            refine inBlockP_n ?_
            refine thenP_n ?_
            exact Again.intro ((args' ++ [V.nil], a2, c2, s2, k + 1)) (⟨by dsimp only; rw [hpad, List.replicate_succ', List.append_assoc], by dsimp only; simp; omega, .inr h2⟩) (by dsimp only; simp; omega) (by repeat (first | exact Sub.nil _ | refine Sub.cons rfl ?_)) (by repeat (first | exact Part.nil _ | (apply Part.cons; with_reducible (first | exact P0 | exact P1 | exact P2 | exact P3 | exact P4 | exact P5 | exact P6 | exact P7 | exact P8 | exact P9 | exact P10 | exact P11 | exact P12 | exact P13 | exact P14 | exact P15 | exact P16 | exact P17 | exact P18 | exact P19 | exact P20 | exact P21 | exact P22 | exact P23)) | (apply Part.flat; simp only [List.cons_append, List.nil_append]) | (apply Part.cons; (first | exact P0 | exact P1 | exact P2 | exact P3 | exact P4 | exact P5 | exact P6 | exact P7 | exact P8 | exact P9 | exact P10 | exact P11 | exact P12 | exact P13 | exact P14 | exact P15 | exact P16 | exact P17 | exact P18 | exact P19 | exact P20 | exact P21 | exact P22 | exact P23)) | (apply Part.nilc)))
        intro h14_2
        first | rw [if_neg h14_2] at hP | rw [if_pos (Decidable.not_not.1 h14_2)] at hP | skip
        as_aux_lemma =>
          refine SPL_nil ?_
          refine thenP_n ?_
          refine SP_cond_f rfl ?_
          refine SP_exit ?_
          refine thenP_exit ?_
          refine thenP_exit ?_
          refine inBlockP_hit ?_
          refine thenP_n ?_
          refine SP_seq ?_
          have h3 : 3 ≤ args'.length := by omega
          have hgd : ∀ j, args'.getD j V.nil = args.getD j V.nil := fun j => by rw [hpad]; exact pad_getD _ _ _
          obtain ⟨wq, wo, haw, hA3⟩ := hW.three hM h3
          subst haw
          obtain ⟨a0, ha0⟩ : ∃ a, a = args.getD 0 V.nil := ⟨_, rfl⟩
          obtain ⟨a1, ha1⟩ : ∃ a, a = args.getD 1 V.nil := ⟨_, rfl⟩
          have hv1 : args'[1]? = some a1 := by rw [ha1, ← hgd, List.getD_eq_getElem?_getD, List.getElem?_eq_getElem (by omega)]; rfl
          rw [hgd, hgd, hgd, ← ha0, ← ha1] at hA3
          rw [← ha0, ← ha1] at hP
          refine SP_region ?_
          refine SPL_y (y_move rfl) rfl ?_
          refine SPL_y (y_toArr Tryz.underlying277 rfl (by omega)) rfl ?_
          refine SPL_y (y_assign rfl) rfl ?_
          refine SPL_nil ?_
          refine thenP_n ?_
          refine SP_seq ?_
          refine SP_region ?_
          refine SPL_one rfl (SP1_alloc Tryz.zeroValue42 rfl rfl ?_)
          intro b16
          refine SPL_one rfl (SP1_alloc Tryz.zeroValue42 rfl rfl ?_)
          intro b17
          refine SPL_nil ?_
          refine thenP_n ?_
          refine SP_seq ?_
          refine SP_seq ?_
          unfold callB at hP
          refine SP_region ?_
          refine SPL_y (y_fa fld_42_1 rfl) rfl ?_
          refine SPL_y (y_load Tryz.isAgg40 rfl (by repeat (first | exact Cell.amid hpre rfl | exact Cell.head rfl | apply Cell.tail))) rfl ?_
          refine SPL_nil ?_
          refine thenP_n ?_
          refine SP_block ?_
          refine SP_seq ?_
          refine SP_region ?_
          refine SPL_if (y_eql rfl rfl) rfl ?_ ?_
          · intro h20_0
            first | rw [if_pos h20_0] at hP | rw [if_neg h20_0] at hP | skip
            as_aux_lemma =>
              refine SPL_y (y_assign rfl) rfl ?_
              refine SPL_nil ?_
              refine thenP_n ?_
              refine SP_cond_t rfl ?_
              refine SP_seq ?_
              refine SP_seq ?_
              unfold cPcall getT at hP
              obtain ⟨t21, ht21, hP⟩ := bnd1 hP
              obtain ⟨g21, oa21, oc21, hg21, _, hrow21, _⟩ := hM.thr ht21
              refine SP_region ?_
              refine SPL_y (y_move rfl) rfl ?_
              refine SPL_y (y_nil rfl) rfl ?_
              refine SPL_y (y_ia_arr Tryz.underlying277 Tryz.sizeOf42 rfl rfl (by omega)) rfl ?_
              refine SPL_y (y_fa fld_42_0 rfl) rfl ?_
              refine SPL_y (y_load Tryz.isAgg3 rfl (by repeat (first | exact (hA3.a0.cell rfl) | apply Cell.tail))) rfl ?_
              refine SPL_ifn (y_eql rfl rfl) rfl ?_ ?_
              · intro h21_5
                first | rw [if_neg h21_5] at hP | rw [if_pos (Decidable.not_not.1 h21_5)] at hP | skip
                as_aux_lemma =>
                  refine SPL_y (y_move rfl) rfl ?_
                  refine SPL_gn rfl rfl rfl rfl ?_
                  refine SPL_gn rfl rfl rfl rfl ?_
                  refine SPL_gn rfl rfl rfl rfl ?_
                  refine SPL_gn rfl rfl rfl rfl ?_
                  refine SPL_gn rfl rfl rfl rfl ?_
                  refine SPL_gn rfl rfl rfl rfl ?_
                  refine SPL_y (y_pick_f rfl rfl) rfl ?_
                  refine SPL_nil ?_
                  refine thenP_n ?_
                  refine SP_cond_f rfl ?_
                  refine SP_skip ?_
                  refine thenP_n ?_
                  refine SP_seq ?_
                  refine SP_region ?_
                  refine SPL_y (y_build B42 rfl rfl (by simp only [fillL, List.foldl_cons, List.foldl_nil, List.set_cons_zero, List.set_cons_succ]; exact rfl)) rfl ?_
                  refine SPL_one rfl (SP1_storeAll Tryz.sizeOf42 rfl rfl rfl rfl rfl (by first | exact U0 | exact U1 | exact U2 | exact U3 | exact U4 | exact U5 | exact U6 | exact U7 | exact U8 | exact U9 | exact U10 | exact U11 | exact U12 | exact U13 | exact U14 | exact U15 | exact U16 | exact U17 | exact U18 | exact U19 | exact U20 | exact U21 | exact U22 | exact U23) (by rfl) ?_)
                  refine SPL_nil ?_
                  refine thenP_n ?_
                  refine SP_seq ?_
                  refine SP_seq ?_
                  refine SP_region ?_
                  refine SPL_y (y_move rfl) rfl ?_
                  refine SPL_y (y_nil rfl) rfl ?_
                  refine SPL_y (y_ia_arr Tryz.underlying277 Tryz.sizeOf42 rfl rfl (by omega)) rfl ?_
                  refine SPL_y (y_fa fld_42_0 rfl) rfl ?_
                  refine SPL_y (y_load Tryz.isAgg3 rfl (by repeat (first | exact (hA3.a0.cell rfl) | apply Cell.tail))) rfl ?_
                  refine SPL_if (y_eql rfl rfl) rfl ?_ ?_
                  · intro h25_5
                    first | rw [if_pos h25_5] at hP | rw [if_neg h25_5] at hP | skip
                    exact absurd h25_5 h21_5
                  intro h25_5
                  first | rw [if_neg h25_5] at hP | rw [if_pos (Decidable.not_not.1 h25_5)] at hP | skip
                  as_aux_lemma =>
                    refine SPL_nil ?_
                    refine thenP_n ?_
                    refine SP_cond_f rfl ?_
                    refine SP_skip ?_
                    refine thenP_n ?_
                    refine SP_region ?_
                    refine SPL_y (y_build B42 rfl rfl (by simp only [fillL, List.foldl_cons, List.foldl_nil, List.set_cons_zero, List.set_cons_succ]; exact rfl)) rfl ?_
                    refine SPL_one rfl (SP1_storeAll Tryz.sizeOf42 rfl rfl rfl rfl rfl (by first | exact U0 | exact U1 | exact U2 | exact U3 | exact U4 | exact U5 | exact U6 | exact U7 | exact U8 | exact U9 | exact U10 | exact U11 | exact U12 | exact U13 | exact U14 | exact U15 | exact U16 | exact U17 | exact U18 | exact U19 | exact U20 | exact U21 | exact U22 | exact U23) (by rfl) ?_)
                    refine SPL_nil ?_
                    refine inBlockP_n ?_
                    refine thenP_n ?_
                    refine SP_seq ?_
                    unfold finM at hP
                    try unfold getT at hP
                    obtain ⟨t62, ht62, hP⟩ := bnd1 hP
                    obtain ⟨g62, oa62, oc62, hg62, _, hrow62, hst62, hfr62, _⟩ := hM.thr ht62
                    have hl62 : at_ ≤ t62.stack.length := Decidable.byContradiction fun q => by rw [if_neg q] at hP; cases hP
                    rw [if_pos hl62] at hP
                    have hsp62 : ∃ xs sg, Arr 42 3 g62.sa t62.stack.length g62.sc xs sg := by
                      obtain ⟨_, _, _, _, _, _, _, _, _, _, _, _, hss, _⟩ := hM.opnT ht62 hg62
                      exact ⟨_, _, hss⟩
                    obtain ⟨xs62, sx62, hsp62⟩ := hsp62
                    have hml62 := hsp62.mle
                    obtain ⟨pre62, post62, na62, nc62, sg62, hpre62, hup62, hM62⟩ := hM.cutS ht62 hg62 (j := at_) hl62
                    refine SP_region ?_
                    refine SPL_y (y_move rfl) rfl ?_
                    refine SPL_y (y_move rfl) rfl ?_
                    refine SPL_y (y_nil rfl) rfl ?_
                    refine SPL_y (y_fa fld_263_2 rfl) rfl ?_
                    refine SPL_y (y_load Tryz.isAgg90 rfl (by repeat (first | exact (hrow62 _ 2 _ rfl) | apply Cell.tail))) rfl ?_
                    refine SPL_y (y_move rfl) rfl ?_
                    refine SPL_y (y_cut hsp62 Tryz.underlying90 Tryz.sizeOf42 rfl rfl (by omega)) rfl ?_
                    rw [Int.toNat_natCast]
                    refine SPL_y (y_nil rfl) rfl ?_
                    refine SPL_y (y_fa fld_263_2 rfl) rfl ?_
                    refine SPL_one rfl (SP1_storeM (j := 2) (pre := pre62) (cs := trow t62 g62 na62 nc62) (post := post62) Tryz.sizeOf90 rfl rfl rfl hpre62 (by repeat (first | exact hup62 _ | apply Upd.tail)) (by rfl) ?_)
                    replace hM := hM62
                    refine SPL_nil ?_
                    refine thenP_n ?_
                    refine SP_seq ?_
                    refine SP_region ?_
                    refine SPL_y (y_move rfl) rfl ?_
                    refine SPL_y (y_loads Tryz.isAgg42 Tryz.sizeOf42 rfl rfl (by repeat (first | exact Cells.all _ | exact Cells.amid hpre rfl (by decide) | exact Cells.head rfl | apply Cells.tail))) rfl ?_
                    refine SPL_y (y_loads Tryz.isAgg42 Tryz.sizeOf42 rfl rfl (by repeat (first | exact Cells.all _ | exact Cells.amid hpre rfl (by decide) | exact Cells.head rfl | apply Cells.tail))) rfl ?_
                    refine SPL_one rfl (SP1_sliceN (l := ([v1, strV s_call].flatMap valV)) el_90 rfl (by kernel_rfl) rfl rfl ?_)
                    intro b283
                    obtain ⟨m9, hq9, hP⟩ := bnd1 hP
                    refine SPL_one rfl (SP1_call (vm_push b ph _ _ hq9 _ hM) Tryz.call142 rfl rfl (by repeat (first | exact Part.nil _ | (apply Part.cons; with_reducible (first | exact P0 | exact P1 | exact P2 | exact P3 | exact P4 | exact P5 | exact P6 | exact P7 | exact P8 | exact P9 | exact P10 | exact P11 | exact P12 | exact P13 | exact P14 | exact P15 | exact P16 | exact P17 | exact P18 | exact P19 | exact P20 | exact P21 | exact P22 | exact P23)) | (apply Part.flat; simp only [List.cons_append, List.nil_append]) | (apply Part.cons; (first | exact P0 | exact P1 | exact P2 | exact P3 | exact P4 | exact P5 | exact P6 | exact P7 | exact P8 | exact P9 | exact P10 | exact P11 | exact P12 | exact P13 | exact P14 | exact P15 | exact P16 | exact P17 | exact P18 | exact P19 | exact P20 | exact P21 | exact P22 | exact P23)) | (apply Part.nilc))) ?_)
                    rintro v post H' ⟨rfl, hh9, sg9, hk9, hM, rfl⟩ hH
                    try simp only [List.cons_append, List.nil_append] at hH
                    subst hH
                    refine SPL_nil ?_
                    refine thenP_n ?_
                    refine SP_seq ?_
                    refine SP_region ?_
                    refine SPL_y (y_buildN (l := (evV ev0)) BN184 rfl rfl) rfl ?_
                    refine SPL_one rfl (SP1_storeAll Tryz.sizeOf184 rfl rfl rfl rfl rfl (by first | exact U0 | exact U1 | exact U2 | exact U3 | exact U4 | exact U5 | exact U6 | exact U7 | exact U8 | exact U9 | exact U10 | exact U11 | exact U12 | exact U13 | exact U14 | exact U15 | exact U16 | exact U17 | exact U18 | exact U19 | exact U20 | exact U21 | exact U22 | exact U23) (by rfl) ?_)
                    refine SPL_nil ?_
                    refine thenP_n ?_
                    refine SP_ret ?_
                    refine bodyP_ret (H' := [sg9]) (ResC rfl rfl Tryz.isAgg184 Tryz.sizeOf184 rfl (by repeat (first | exact Cells.all _ | exact Cells.amid hpre rfl (by decide) | exact Cells.head rfl | apply Cells.tail))) (by repeat (first | exact Part.nil _ | (apply Part.cons; with_reducible (first | exact P0 | exact P1 | exact P2 | exact P3 | exact P4 | exact P5 | exact P6 | exact P7 | exact P8 | exact P9 | exact P10 | exact P11 | exact P12 | exact P13 | exact P14 | exact P15 | exact P16 | exact P17 | exact P18 | exact P19 | exact P20 | exact P21 | exact P22 | exact P23)) | (apply Part.flat; simp only [List.cons_append, List.nil_append]) | (apply Part.cons; (first | exact P0 | exact P1 | exact P2 | exact P3 | exact P4 | exact P5 | exact P6 | exact P7 | exact P8 | exact P9 | exact P10 | exact P11 | exact P12 | exact P13 | exact P14 | exact P15 | exact P16 | exact P17 | exact P18 | exact P19 | exact P20 | exact P21 | exact P22 | exact P23)) | (apply Part.nilc))) ?_
                    injection hP with hP
                    subst hP
                    exact ⟨_, _, rfl, rfl, _, _, hM, rfl⟩
              intro h21_5
              first | rw [if_pos h21_5] at hP | rw [if_neg h21_5] at hP | skip
              as_aux_lemma =>
                refine SPL_y (y_move rfl) rfl ?_
                refine SPL_gy rfl rfl ?_
                refine SPL_y (y_move rfl) rfl ?_
                refine SPL_gy rfl rfl ?_
                refine SPL_y (y_nil rfl) rfl ?_
                refine SPL_gy rfl rfl ?_
                refine SPL_y (y_fa fld_263_3 rfl) rfl ?_
                refine SPL_gy rfl rfl ?_
                refine SPL_y (y_load Tryz.isAgg261 rfl (by repeat (first | exact (hrow21 _ 3 _ rfl) | apply Cell.tail))) rfl ?_
                refine SPL_gy rfl rfl ?_
                refine SPL_y (y_len_l Tryz.underlying261 rfl) rfl ?_
                refine SPL_gy rfl rfl ?_
                refine SPL_if (y_lss rfl rfl) rfl ?_ ?_
                · intro h21_12
                  first | rw [if_pos h21_12] at hP | rw [if_neg h21_12] at hP | skip
                  as_aux_lemma =>
                    refine SPL_y (y_pick_t rfl rfl) rfl ?_
                    refine SPL_nil ?_
                    refine thenP_n ?_
                    refine SP_cond_t rfl ?_
                    refine SP_seq ?_
                    have hn22 : 0 ≤ a0.n ∧ a0.n ≤ 1000000000 := Decidable.byContradiction fun q => by rw [if_neg q] at hP; cases hP
                    rw [if_pos hn22] at hP
                    refine SP_draw 12 [(0, 0), (1, 0), (2, 0), (3, 0), (4, 0), (5, 0), (8, 0), (9, 0), (10, 0), (11, 0), (6, 1), (7, 0), (12, 3)] mixed (by kernel_rfl) (fun _ _ _ _ _ h => h) (Part.refl _) ?_
                    refine SPO_p rfl (y_move rfl) rfl ?_
                    refine SPO_p rfl (y_move rfl) rfl ?_
                    refine SPO_p rfl (y_move rfl) rfl ?_
                    refine SPO_p rfl (y_nil rfl) rfl ?_
                    refine SPO_p rfl (y_ia_arr Tryz.underlying277 Tryz.sizeOf42 rfl rfl (by omega)) rfl ?_
                    refine SPO_p rfl (y_fa fld_42_1 rfl) rfl ?_
                    refine SPO_p rfl (y_move rfl) rfl ?_
                    refine SPO_p rfl (y_nil rfl) rfl ?_
                    refine SPO_p rfl (y_arr_lhm Tryz.underlying277 Tryz.sizeOf42 rfl rfl rfl rfl (by omega)) rfl ?_
                    refine SPO_p rfl (y_move rfl) rfl ?_
                    refine SPO_h rfl (y_load Tryz.isAgg40 rfl (by repeat (first | exact (hA3.a0.cell rfl) | apply Cell.tail))) rfl ?_
                    refine SPO_p rfl (y_conv Tryz.underlying40 Tryz.underlying3 rfl (show IntKind.i64.wrap a0.n = a0.n from by rw [IntKind.wrap_i64]; omega)) rfl ?_
                    unfold outE at hP
                    obtain ⟨m10, hq10, hP⟩ := bnd1 hP
                    refine SPO_z (k := 0) rfl rfl (SP1_call (vm_enter b ph hh1 (args := [a1]) (by simp) (hW.sub1 hv1) hq10 _ hM) Tryz.call141 rfl rfl (by repeat (first | exact Part.nil _ | (apply Part.cons; with_reducible (first | exact P0 | exact P1 | exact P2 | exact P3 | exact P4 | exact P5 | exact P6 | exact P7 | exact P8 | exact P9 | exact P10 | exact P11 | exact P12 | exact P13 | exact P14 | exact P15 | exact P16 | exact P17 | exact P18 | exact P19 | exact P20 | exact P21 | exact P22 | exact P23)) | (apply Part.flat; simp only [List.cons_append, List.nil_append]) | (apply Part.cons; (first | exact P0 | exact P1 | exact P2 | exact P3 | exact P4 | exact P5 | exact P6 | exact P7 | exact P8 | exact P9 | exact P10 | exact P11 | exact P12 | exact P13 | exact P14 | exact P15 | exact P16 | exact P17 | exact P18 | exact P19 | exact P20 | exact P21 | exact P22 | exact P23)) | (apply Part.nilc))) ?_)
                    rintro v post H' ⟨rfl, hh10, sg10, hM, rfl⟩ hH
                    try simp only [List.cons_append, List.nil_append] at hH
                    subst hH
                    refine SPO_nil ?_
                    refine thenP_n ?_
                    refine SP_seq ?_
                    refine SP_region ?_
                    refine SPL_y (y_buildN (l := (evV ev0)) BN184 rfl rfl) rfl ?_
                    refine SPL_one rfl (SP1_storeAll Tryz.sizeOf184 rfl rfl rfl rfl rfl (by first | exact U0 | exact U1 | exact U2 | exact U3 | exact U4 | exact U5 | exact U6 | exact U7 | exact U8 | exact U9 | exact U10 | exact U11 | exact U12 | exact U13 | exact U14 | exact U15 | exact U16 | exact U17 | exact U18 | exact U19 | exact U20 | exact U21 | exact U22 | exact U23) (by rfl) ?_)
                    refine SPL_nil ?_
                    refine thenP_n ?_
                    refine SP_ret ?_
                    refine thenP_ret (inBlockP_ret (thenP_ret (bodyP_ret (H' := [sg10]) (ResC rfl rfl Tryz.isAgg184 Tryz.sizeOf184 rfl (by repeat (first | exact Cells.all _ | exact Cells.amid hpre rfl (by decide) | exact Cells.head rfl | apply Cells.tail))) (by repeat (first | exact Part.nil _ | (apply Part.cons; with_reducible (first | exact P0 | exact P1 | exact P2 | exact P3 | exact P4 | exact P5 | exact P6 | exact P7 | exact P8 | exact P9 | exact P10 | exact P11 | exact P12 | exact P13 | exact P14 | exact P15 | exact P16 | exact P17 | exact P18 | exact P19 | exact P20 | exact P21 | exact P22 | exact P23)) | (apply Part.flat; simp only [List.cons_append, List.nil_append]) | (apply Part.cons; (first | exact P0 | exact P1 | exact P2 | exact P3 | exact P4 | exact P5 | exact P6 | exact P7 | exact P8 | exact P9 | exact P10 | exact P11 | exact P12 | exact P13 | exact P14 | exact P15 | exact P16 | exact P17 | exact P18 | exact P19 | exact P20 | exact P21 | exact P22 | exact P23)) | (apply Part.nilc))) ?_)))
                    injection hP with hP
                    subst hP
                    exact ⟨_, _, rfl, rfl, _, _, hM, rfl⟩
                intro h21_12
                first | rw [if_neg h21_12] at hP | rw [if_pos (Decidable.not_not.1 h21_12)] at hP | skip
                as_aux_lemma =>
                  refine SPL_y (y_pick_t rfl rfl) rfl ?_
                  refine SPL_nil ?_
                  refine thenP_n ?_
                  refine SP_cond_f rfl ?_
                  refine SP_skip ?_
                  refine thenP_n ?_
                  refine SP_seq ?_
                  refine SP_region ?_
                  refine SPL_y (y_build B42 rfl rfl (by simp only [fillL, List.foldl_cons, List.foldl_nil, List.set_cons_zero, List.set_cons_succ]; exact rfl)) rfl ?_
                  refine SPL_one rfl (SP1_storeAll Tryz.sizeOf42 rfl rfl rfl rfl rfl (by first | exact U0 | exact U1 | exact U2 | exact U3 | exact U4 | exact U5 | exact U6 | exact U7 | exact U8 | exact U9 | exact U10 | exact U11 | exact U12 | exact U13 | exact U14 | exact U15 | exact U16 | exact U17 | exact U18 | exact U19 | exact U20 | exact U21 | exact U22 | exact U23) (by rfl) ?_)
                  refine SPL_nil ?_
                  refine thenP_n ?_
                  refine SP_seq ?_
                  refine SP_seq ?_
                  refine SP_region ?_
                  refine SPL_y (y_move rfl) rfl ?_
                  refine SPL_y (y_nil rfl) rfl ?_
                  refine SPL_y (y_ia_arr Tryz.underlying277 Tryz.sizeOf42 rfl rfl (by omega)) rfl ?_
                  refine SPL_y (y_fa fld_42_0 rfl) rfl ?_
                  refine SPL_y (y_load Tryz.isAgg3 rfl (by repeat (first | exact (hA3.a0.cell rfl) | apply Cell.tail))) rfl ?_
                  refine SPL_ifn (y_eql rfl rfl) rfl ?_ ?_
                  · intro h25_5
                    first | rw [if_neg h25_5] at hP | rw [if_pos (Decidable.not_not.1 h25_5)] at hP | skip
                    exact absurd h21_5 h25_5
                  intro h25_5
                  first | rw [if_pos h25_5] at hP | rw [if_neg h25_5] at hP | skip
                  as_aux_lemma =>
                    refine SPL_nil ?_
                    refine thenP_n ?_
                    refine SP_cond_t rfl ?_
                    refine SP_region ?_
                    refine SPL_y (y_fa fld_42_2 rfl) rfl ?_
                    refine SPL_one rfl (SP1_store Tryz.sizeOf9 rfl rfl rfl (by first | exact U0 | exact U1 | exact U2 | exact U3 | exact U4 | exact U5 | exact U6 | exact U7 | exact U8 | exact U9 | exact U10 | exact U11 | exact U12 | exact U13 | exact U14 | exact U15 | exact U16 | exact U17 | exact U18 | exact U19 | exact U20 | exact U21 | exact U22 | exact U23) (by rfl) ?_)
                    refine SPL_nil ?_
                    refine thenP_n ?_
                    refine SP_region ?_
                    refine SPL_y (y_build B42 rfl rfl (by simp only [fillL, List.foldl_cons, List.foldl_nil, List.set_cons_zero, List.set_cons_succ]; exact rfl)) rfl ?_
                    refine SPL_one rfl (SP1_storeAll Tryz.sizeOf42 rfl rfl rfl rfl rfl (by first | exact U0 | exact U1 | exact U2 | exact U3 | exact U4 | exact U5 | exact U6 | exact U7 | exact U8 | exact U9 | exact U10 | exact U11 | exact U12 | exact U13 | exact U14 | exact U15 | exact U16 | exact U17 | exact U18 | exact U19 | exact U20 | exact U21 | exact U22 | exact U23) (by rfl) ?_)
                    refine SPL_nil ?_
                    refine inBlockP_n ?_
                    refine thenP_n ?_
                    refine SP_seq ?_
                    unfold finM at hP
                    try unfold getT at hP
                    obtain ⟨t62, ht62, hP⟩ := bnd1 hP
                    obtain ⟨g62, oa62, oc62, hg62, _, hrow62, hst62, hfr62, _⟩ := hM.thr ht62
                    have hl62 : at_ ≤ t62.stack.length := Decidable.byContradiction fun q => by rw [if_neg q] at hP; cases hP
                    rw [if_pos hl62] at hP
                    have hsp62 : ∃ xs sg, Arr 42 3 g62.sa t62.stack.length g62.sc xs sg := by
                      obtain ⟨_, _, _, _, _, _, _, _, _, _, _, _, hss, _⟩ := hM.opnT ht62 hg62
                      exact ⟨_, _, hss⟩
                    obtain ⟨xs62, sx62, hsp62⟩ := hsp62
                    have hml62 := hsp62.mle
                    obtain ⟨pre62, post62, na62, nc62, sg62, hpre62, hup62, hM62⟩ := hM.cutS ht62 hg62 (j := at_) hl62
                    refine SP_region ?_
                    refine SPL_y (y_move rfl) rfl ?_
                    refine SPL_y (y_move rfl) rfl ?_
                    refine SPL_y (y_nil rfl) rfl ?_
                    refine SPL_y (y_fa fld_263_2 rfl) rfl ?_
                    refine SPL_y (y_load Tryz.isAgg90 rfl (by repeat (first | exact (hrow62 _ 2 _ rfl) | apply Cell.tail))) rfl ?_
                    refine SPL_y (y_move rfl) rfl ?_
                    refine SPL_y (y_cut hsp62 Tryz.underlying90 Tryz.sizeOf42 rfl rfl (by omega)) rfl ?_
                    rw [Int.toNat_natCast]
                    refine SPL_y (y_nil rfl) rfl ?_
                    refine SPL_y (y_fa fld_263_2 rfl) rfl ?_
                    refine SPL_one rfl (SP1_storeM (j := 2) (pre := pre62) (cs := trow t62 g62 na62 nc62) (post := post62) Tryz.sizeOf90 rfl rfl rfl hpre62 (by repeat (first | exact hup62 _ | apply Upd.tail)) (by rfl) ?_)
                    replace hM := hM62
                    refine SPL_nil ?_
                    refine thenP_n ?_
                    refine SP_seq ?_
                    refine SP_region ?_
                    refine SPL_y (y_move rfl) rfl ?_
                    refine SPL_y (y_loads Tryz.isAgg42 Tryz.sizeOf42 rfl rfl (by repeat (first | exact Cells.all _ | exact Cells.amid hpre rfl (by decide) | exact Cells.head rfl | apply Cells.tail))) rfl ?_
                    refine SPL_y (y_loads Tryz.isAgg42 Tryz.sizeOf42 rfl rfl (by repeat (first | exact Cells.all _ | exact Cells.amid hpre rfl (by decide) | exact Cells.head rfl | apply Cells.tail))) rfl ?_
                    refine SPL_one rfl (SP1_sliceN (l := ([v1, strV s_depth].flatMap valV)) el_90 rfl (by kernel_rfl) rfl rfl ?_)
                    intro b283
                    obtain ⟨m9, hq9, hP⟩ := bnd1 hP
                    refine SPL_one rfl (SP1_call (vm_push b ph _ _ hq9 _ hM) Tryz.call142 rfl rfl (by repeat (first | exact Part.nil _ | (apply Part.cons; with_reducible (first | exact P0 | exact P1 | exact P2 | exact P3 | exact P4 | exact P5 | exact P6 | exact P7 | exact P8 | exact P9 | exact P10 | exact P11 | exact P12 | exact P13 | exact P14 | exact P15 | exact P16 | exact P17 | exact P18 | exact P19 | exact P20 | exact P21 | exact P22 | exact P23)) | (apply Part.flat; simp only [List.cons_append, List.nil_append]) | (apply Part.cons; (first | exact P0 | exact P1 | exact P2 | exact P3 | exact P4 | exact P5 | exact P6 | exact P7 | exact P8 | exact P9 | exact P10 | exact P11 | exact P12 | exact P13 | exact P14 | exact P15 | exact P16 | exact P17 | exact P18 | exact P19 | exact P20 | exact P21 | exact P22 | exact P23)) | (apply Part.nilc))) ?_)
                    rintro v post H' ⟨rfl, hh9, sg9, hk9, hM, rfl⟩ hH
                    try simp only [List.cons_append, List.nil_append] at hH
                    subst hH
                    refine SPL_nil ?_
                    refine thenP_n ?_
                    refine SP_seq ?_
                    refine SP_region ?_
                    refine SPL_y (y_buildN (l := (evV ev0)) BN184 rfl rfl) rfl ?_
                    refine SPL_one rfl (SP1_storeAll Tryz.sizeOf184 rfl rfl rfl rfl rfl (by first | exact U0 | exact U1 | exact U2 | exact U3 | exact U4 | exact U5 | exact U6 | exact U7 | exact U8 | exact U9 | exact U10 | exact U11 | exact U12 | exact U13 | exact U14 | exact U15 | exact U16 | exact U17 | exact U18 | exact U19 | exact U20 | exact U21 | exact U22 | exact U23) (by rfl) ?_)
                    refine SPL_nil ?_
                    refine thenP_n ?_
                    refine SP_ret ?_
                    refine bodyP_ret (H' := [sg9]) (ResC rfl rfl Tryz.isAgg184 Tryz.sizeOf184 rfl (by repeat (first | exact Cells.all _ | exact Cells.amid hpre rfl (by decide) | exact Cells.head rfl | apply Cells.tail))) (by repeat (first | exact Part.nil _ | (apply Part.cons; with_reducible (first | exact P0 | exact P1 | exact P2 | exact P3 | exact P4 | exact P5 | exact P6 | exact P7 | exact P8 | exact P9 | exact P10 | exact P11 | exact P12 | exact P13 | exact P14 | exact P15 | exact P16 | exact P17 | exact P18 | exact P19 | exact P20 | exact P21 | exact P22 | exact P23)) | (apply Part.flat; simp only [List.cons_append, List.nil_append]) | (apply Part.cons; (first | exact P0 | exact P1 | exact P2 | exact P3 | exact P4 | exact P5 | exact P6 | exact P7 | exact P8 | exact P9 | exact P10 | exact P11 | exact P12 | exact P13 | exact P14 | exact P15 | exact P16 | exact P17 | exact P18 | exact P19 | exact P20 | exact P21 | exact P22 | exact P23)) | (apply Part.nilc))) ?_
                    injection hP with hP
                    subst hP
                    exact ⟨_, _, rfl, rfl, _, _, hM, rfl⟩
          intro h20_0
          first | rw [if_neg h20_0] at hP | rw [if_pos (Decidable.not_not.1 h20_0)] at hP | skip
          as_aux_lemma =>
            refine SPL_y (y_assign rfl) rfl ?_
            refine SPL_nil ?_
            refine thenP_n ?_
            refine SP_cond_f rfl ?_
            refine SP_seq ?_
            refine SP_region ?_
            refine SPL_if (y_eql rfl rfl) rfl ?_ ?_
            · intro h28_0
              first | rw [if_pos h28_0] at hP | rw [if_neg h28_0] at hP | skip
              as_aux_lemma =>
                refine SPL_y (y_assign rfl) rfl ?_
                refine SPL_nil ?_
                refine thenP_n ?_
                refine SP_cond_t rfl ?_
                refine SP_seq ?_
                refine SP_seq ?_
                unfold cResume at hP
                refine SP_region ?_
                refine SPL_y (y_move rfl) rfl ?_
                refine SPL_y (y_nil rfl) rfl ?_
                refine SPL_y (y_ia_arr Tryz.underlying277 Tryz.sizeOf42 rfl rfl (by omega)) rfl ?_
                refine SPL_y (y_fa fld_42_0 rfl) rfl ?_
                refine SPL_y (y_load Tryz.isAgg3 rfl (by repeat (first | exact (hA3.a0.cell rfl) | apply Cell.tail))) rfl ?_
                refine SPL_if (y_neq rfl rfl) rfl ?_ ?_
                · intro h29_5
                  first | rw [if_pos h29_5] at hP | rw [if_neg h29_5] at hP | skip
                  as_aux_lemma =>
                    refine SPL_nil ?_
                    refine thenP_n ?_
                    refine SP_cond_t rfl ?_
                    refine SP_region ?_
                    refine SPL_one rfl (SP1_callp (vm_raise s_co) Tryz.call281 rfl rfl (by repeat (first | exact Part.nil _ | (apply Part.cons; with_reducible (first | exact P0 | exact P1 | exact P2 | exact P3 | exact P4 | exact P5 | exact P6 | exact P7 | exact P8 | exact P9 | exact P10 | exact P11 | exact P12 | exact P13 | exact P14 | exact P15 | exact P16 | exact P17 | exact P18 | exact P19 | exact P20 | exact P21 | exact P22 | exact P23)) | (apply Part.flat; simp only [List.cons_append, List.nil_append]) | (apply Part.cons; (first | exact P0 | exact P1 | exact P2 | exact P3 | exact P4 | exact P5 | exact P6 | exact P7 | exact P8 | exact P9 | exact P10 | exact P11 | exact P12 | exact P13 | exact P14 | exact P15 | exact P16 | exact P17 | exact P18 | exact P19 | exact P20 | exact P21 | exact P22 | exact P23)) | (apply Part.nilc))) ?_ ?_)
                    · rintro c post H' ⟨bb, rfl, rfl⟩ hH
                      try simp only [List.cons_append, List.nil_append] at hH
                      subst hH
                      refine thenP_panic (inBlockP_panic (thenP_panic (bodyP_panic (H' := [sg6, blk bb 335 (valV (strV s_co))]) (by repeat (first | exact Part.nil _ | (apply Part.cons; with_reducible (first | exact P0 | exact P1 | exact P2 | exact P3 | exact P4 | exact P5 | exact P6 | exact P7 | exact P8 | exact P9 | exact P10 | exact P11 | exact P12 | exact P13 | exact P14 | exact P15 | exact P16 | exact P17 | exact P18 | exact P19 | exact P20 | exact P21 | exact P22 | exact P23)) | (apply Part.flat; simp only [List.cons_append, List.nil_append]) | (apply Part.cons; (first | exact P0 | exact P1 | exact P2 | exact P3 | exact P4 | exact P5 | exact P6 | exact P7 | exact P8 | exact P9 | exact P10 | exact P11 | exact P12 | exact P13 | exact P14 | exact P15 | exact P16 | exact P17 | exact P18 | exact P19 | exact P20 | exact P21 | exact P22 | exact P23)) | (apply Part.nilc))) ?_)))
                      injection hP with hP
                      subst hP
                      exact ⟨.thr (strV s_co) m6 bb, hh1, sg6, rfl, rfl, hM, rfl⟩
                    rintro v post H' hF hH
                    exact hF.elim
                intro h29_5
                first | rw [if_neg h29_5] at hP | rw [if_pos (Decidable.not_not.1 h29_5)] at hP | skip
                as_aux_lemma =>
                  refine SPL_nil ?_
                  refine thenP_n ?_
                  refine SP_cond_f rfl ?_
                  refine SP_skip ?_
                  refine thenP_n ?_
                  refine SP_seq ?_
                  obtain ⟨u, hu, hP⟩ := bnd1 hP
                  obtain ⟨hub, hul, _, hui, hue⟩ := getI_some hu
                  have hu1 : m6.vs.threads[a0.n.toNat]? = some u := by rw [List.getElem?_eq_getElem hui, hue]
                  obtain ⟨gu, oau, ocu, hgu, _, hrowu, _⟩ := hM.thr hu1
                  refine SP_draw 999 [(0, 0), (1, 0), (2, 0), (4, 0), (5, 0), (6, 0), (7, 0), (3, 1), (8, 1), (9, 0), (10, 0), (11, 1), (12, 0)] mixed (by kernel_rfl) (fun _ _ _ _ _ h => h) (Part.refl _) ?_
                  refine SPO_p rfl (y_move rfl) rfl ?_
                  refine SPO_p rfl (y_nil rfl) rfl ?_
                  refine SPO_p rfl (y_fa fld_115_9 rfl) rfl ?_
                  refine SPO_p rfl (y_move rfl) rfl ?_
                  refine SPO_p rfl (y_nil rfl) rfl ?_
                  refine SPO_p rfl (y_ia_arr Tryz.underlying277 Tryz.sizeOf42 rfl rfl (by omega)) rfl ?_
                  refine SPO_p rfl (y_fa fld_42_1 rfl) rfl ?_
                  refine SPO_h rfl (y_load Tryz.isAgg107 rfl (by repeat (first | exact hM.threads | apply Cell.tail))) rfl ?_
                  refine SPO_h rfl (y_load Tryz.isAgg40 rfl (by repeat (first | exact (hA3.a0.cell rfl) | apply Cell.tail))) rfl ?_
                  refine SPO_p rfl (y_ia Tryz.underlying107 Tryz.sizeOf263 rfl rfl (by omega)) rfl ?_
                  refine SPO_p rfl (y_fa fld_263_0 rfl) rfl ?_
                  refine SPO_h rfl (y_load Tryz.isAgg3 rfl (by repeat (first | exact (hrowu _ 0 _ rfl) | apply Cell.tail))) rfl ?_
                  refine SPO_p rfl (y_assign rfl) rfl ?_
                  refine SPO_nil ?_
                  refine thenP_n ?_
                  refine SP_seq ?_
                  refine SP_seq ?_
                  refine SP_region ?_
                  refine SPL_y (y_move rfl) rfl ?_
                  refine SPL_if (y_eql rfl rfl) rfl ?_ ?_
                  · intro h32_1
                    first | rw [if_pos h32_1] at hP | rw [if_neg h32_1] at hP | skip
                    as_aux_lemma =>
                      refine SPL_y (y_move rfl) rfl ?_
                      refine SPL_gn rfl rfl rfl rfl ?_
                      refine SPL_gn rfl rfl rfl rfl ?_
                      refine SPL_y (y_pick_t rfl rfl) rfl ?_
                      refine SPL_nil ?_
                      refine thenP_n ?_
                      refine SP_cond_t rfl ?_
                      refine SP_seq ?_
                      rw [if_pos (by omega)] at hP
                      unfold getT at hP
                      obtain ⟨t33, ht33, hP⟩ := bnd1 hP
                      have hl33 : at_ ≤ t33.stack.length := Decidable.byContradiction fun q => by rw [if_neg q] at hP; cases hP
                      rw [if_pos hl33] at hP
                      injection hP with hP
                      subst hP
                      obtain ⟨g33, oa33, oc33, hg33, _, hrow33, _⟩ := hM.thr ht33
                      obtain ⟨pre33, post33, na33, nc33, sg33, hpre33, hup33, hM33⟩ := hM.setSt ht33 hg33 3
                      obtain ⟨u33, hu33⟩ : ∃ u, u = { t33 with st := 3 } := ⟨_, rfl⟩
                      have hv33 : (setTh m6 th { t33 with st := 3 }).vs.threads[th]? = some u33 := by rw [hu33]; exact setTh_get ht33
                      have hw33 : u33.stack = t33.stack := by rw [hu33]
                      refine SP_region ?_
                      refine SPL_y (y_move rfl) rfl ?_
                      refine SPL_y (y_nil rfl) rfl ?_
                      refine SPL_y (y_fa fld_263_0 rfl) rfl ?_
                      refine SPL_one rfl (SP1_storeM (j := 0) (pre := pre33) (cs := trow t33 g33 na33 nc33) (post := post33) Tryz.sizeOf3 rfl rfl rfl hpre33 (by repeat (first | exact hup33 _ | apply Upd.tail)) (by rfl) ?_)
                      refine SPL_nil ?_
                      refine thenP_n ?_
                      refine SP_seq ?_
                      obtain ⟨_, oa34, oc34, hg34, _, hrow34, _⟩ := hM33.thr hv33
                      rw [hg33] at hg34
                      injection hg34 with hg34
                      subst hg34
                      have hsp34 : ∃ xs sg, Arr 42 3 g33.sa u33.stack.length g33.sc xs sg := by
                        obtain ⟨_, _, _, _, _, _, _, _, _, _, _, _, hss, _⟩ := hM33.opnT hv33 hg33
                        exact ⟨_, _, hss⟩
                      obtain ⟨xs34, sx34, hsp34⟩ := hsp34
                      have hml34 := hsp34.mle
                      obtain ⟨pre34, post34, na34, nc34, sg34, hpre34, hup34, hM34, hkeep⟩ := hM33.cutK hv33 hg33 (j := at_) (by rw [hw33]; exact hl33)
                      rw [setTh_setTh, hu33] at hM34
                      have hB3 := ArgW.cut3 hW hg33 ht33 (seg' := sg34) (by rw [← hw33]; exact hkeep) h3
                      rw [hgd, hgd, hgd, ← ha0, ← ha1] at hB3
                      refine SP_region ?_
                      refine SPL_y (y_move rfl) rfl ?_
                      refine SPL_y (y_move rfl) rfl ?_
                      refine SPL_y (y_nil rfl) rfl ?_
                      refine SPL_y (y_fa fld_263_2 rfl) rfl ?_
                      refine SPL_y (y_load Tryz.isAgg90 rfl (by repeat (first | exact (hrow34 _ 2 _ rfl) | apply Cell.tail))) rfl ?_
                      refine SPL_y (y_move rfl) rfl ?_
                      refine SPL_y (y_cut hsp34 Tryz.underlying90 Tryz.sizeOf42 rfl rfl (by rw [hw33] at hml34; omega)) rfl ?_
                      rw [Int.toNat_natCast]
                      refine SPL_y (y_nil rfl) rfl ?_
                      refine SPL_y (y_fa fld_263_2 rfl) rfl ?_
                      refine SPL_one rfl (SP1_storeM (j := 2) (pre := pre34) (cs := trow u33 g33 na34 nc34) (post := post34) Tryz.sizeOf90 rfl rfl rfl hpre34 (by repeat (first | exact hup34 _ | apply Upd.tail)) (by rfl) ?_)
                      refine SPL_nil ?_
                      refine thenP_n ?_
                      refine SP_seq ?_
                      refine SP_draw 11 [(0, 0), (1, 0), (2, 0), (3, 0), (6, 0), (7, 0), (8, 0), (4, 1), (5, 0), (9, 1), (10, 0), (11, 3)] mixed (by kernel_rfl) (fun _ _ _ _ _ h => h) (Part.refl _) ?_
                      refine SPO_p rfl (y_move rfl) rfl ?_
                      refine SPO_p rfl (y_nil rfl) rfl ?_
                      refine SPO_p rfl (y_ia_arr Tryz.underlying277 Tryz.sizeOf42 rfl rfl (by omega)) rfl ?_
                      refine SPO_p rfl (y_fa fld_42_1 rfl) rfl ?_
                      refine SPO_p rfl (y_move rfl) rfl ?_
                      refine SPO_p rfl (y_nil rfl) rfl ?_
                      refine SPO_p rfl (y_ia_arr Tryz.underlying277 Tryz.sizeOf42 rfl rfl (by omega)) rfl ?_
                      refine SPO_h rfl (y_load Tryz.isAgg40 rfl (by repeat (first | exact (hB3.a0.cell rfl) | apply Cell.tail))) rfl ?_
                      refine SPO_p rfl (y_conv Tryz.underlying40 Tryz.underlying3 rfl (show IntKind.i64.wrap a0.n = a0.n from by rw [IntKind.wrap_i64]; omega)) rfl ?_
                      refine SPO_h rfl (y_loads Tryz.isAgg42 Tryz.sizeOf42 rfl rfl (by repeat (first | exact hB3.a1 | apply Cells.tail))) rfl ?_
                      refine SPO_p rfl (y_buildN (l := (evV ⟨4, a0.n, 0, a1, V.nil⟩)) BN184 rfl rfl) rfl ?_
                      refine SPO_z (k := 0) rfl rfl (SP1_storeAll Tryz.sizeOf184 rfl rfl rfl rfl rfl (by first | exact U0 | exact U1 | exact U2 | exact U3 | exact U4 | exact U5 | exact U6 | exact U7 | exact U8 | exact U9 | exact U10 | exact U11 | exact U12 | exact U13 | exact U14 | exact U15 | exact U16 | exact U17 | exact U18 | exact U19 | exact U20 | exact U21 | exact U22 | exact U23) (by rfl) ?_)
                      refine SPO_nil ?_
                      refine thenP_n ?_
                      refine SP_ret ?_
                      refine thenP_ret (inBlockP_ret (thenP_ret (bodyP_ret (H' := [sg34]) (ResC rfl rfl Tryz.isAgg184 Tryz.sizeOf184 rfl (by repeat (first | exact Cells.all _ | exact Cells.amid hpre rfl (by decide) | exact Cells.head rfl | apply Cells.tail))) (by repeat (first | exact Part.nil _ | (apply Part.cons; with_reducible (first | exact P0 | exact P1 | exact P2 | exact P3 | exact P4 | exact P5 | exact P6 | exact P7 | exact P8 | exact P9 | exact P10 | exact P11 | exact P12 | exact P13 | exact P14 | exact P15 | exact P16 | exact P17 | exact P18 | exact P19 | exact P20 | exact P21 | exact P22 | exact P23)) | (apply Part.flat; simp only [List.cons_append, List.nil_append]) | (apply Part.cons; (first | exact P0 | exact P1 | exact P2 | exact P3 | exact P4 | exact P5 | exact P6 | exact P7 | exact P8 | exact P9 | exact P10 | exact P11 | exact P12 | exact P13 | exact P14 | exact P15 | exact P16 | exact P17 | exact P18 | exact P19 | exact P20 | exact P21 | exact P22 | exact P23)) | (apply Part.nilc))) ?_)))
                      exact ⟨_, _, rfl, rfl, _, _, hM34, rfl⟩
                  intro h32_1
                  first | rw [if_neg h32_1] at hP | rw [if_pos (Decidable.not_not.1 h32_1)] at hP | skip
                  as_aux_lemma =>
                    refine SPL_y (y_move rfl) rfl ?_
                    refine SPL_gy rfl rfl ?_
                    refine SPL_y (y_move rfl) rfl ?_
                    refine SPL_gy rfl rfl ?_
                    refine SPL_if (y_eql rfl rfl) rfl ?_ ?_
                    · intro h32_4
                      first | rw [if_pos h32_4] at hP | rw [if_neg h32_4] at hP | skip
                      as_aux_lemma =>
                        refine SPL_y (y_pick_f rfl rfl) rfl ?_
                        refine SPL_nil ?_
                        refine thenP_n ?_
                        refine SP_cond_t rfl ?_
                        refine SP_seq ?_
                        rw [if_pos (by omega)] at hP
                        unfold getT at hP
                        obtain ⟨t33, ht33, hP⟩ := bnd1 hP
                        have hl33 : at_ ≤ t33.stack.length := Decidable.byContradiction fun q => by rw [if_neg q] at hP; cases hP
                        rw [if_pos hl33] at hP
                        injection hP with hP
                        subst hP
                        obtain ⟨g33, oa33, oc33, hg33, _, hrow33, _⟩ := hM.thr ht33
                        obtain ⟨pre33, post33, na33, nc33, sg33, hpre33, hup33, hM33⟩ := hM.setSt ht33 hg33 3
                        obtain ⟨u33, hu33⟩ : ∃ u, u = { t33 with st := 3 } := ⟨_, rfl⟩
                        have hv33 : (setTh m6 th { t33 with st := 3 }).vs.threads[th]? = some u33 := by rw [hu33]; exact setTh_get ht33
                        have hw33 : u33.stack = t33.stack := by rw [hu33]
                        refine SP_region ?_
                        refine SPL_y (y_move rfl) rfl ?_
                        refine SPL_y (y_nil rfl) rfl ?_
                        refine SPL_y (y_fa fld_263_0 rfl) rfl ?_
                        refine SPL_one rfl (SP1_storeM (j := 0) (pre := pre33) (cs := trow t33 g33 na33 nc33) (post := post33) Tryz.sizeOf3 rfl rfl rfl hpre33 (by repeat (first | exact hup33 _ | apply Upd.tail)) (by rfl) ?_)
                        refine SPL_nil ?_
                        refine thenP_n ?_
                        refine SP_seq ?_
                        obtain ⟨_, oa34, oc34, hg34, _, hrow34, _⟩ := hM33.thr hv33
                        rw [hg33] at hg34
                        injection hg34 with hg34
                        subst hg34
                        have hsp34 : ∃ xs sg, Arr 42 3 g33.sa u33.stack.length g33.sc xs sg := by
                          obtain ⟨_, _, _, _, _, _, _, _, _, _, _, _, hss, _⟩ := hM33.opnT hv33 hg33
                          exact ⟨_, _, hss⟩
                        obtain ⟨xs34, sx34, hsp34⟩ := hsp34
                        have hml34 := hsp34.mle
                        obtain ⟨pre34, post34, na34, nc34, sg34, hpre34, hup34, hM34, hkeep⟩ := hM33.cutK hv33 hg33 (j := at_) (by rw [hw33]; exact hl33)
                        rw [setTh_setTh, hu33] at hM34
                        have hB3 := ArgW.cut3 hW hg33 ht33 (seg' := sg34) (by rw [← hw33]; exact hkeep) h3
                        rw [hgd, hgd, hgd, ← ha0, ← ha1] at hB3
                        refine SP_region ?_
                        refine SPL_y (y_move rfl) rfl ?_
                        refine SPL_y (y_move rfl) rfl ?_
                        refine SPL_y (y_nil rfl) rfl ?_
                        refine SPL_y (y_fa fld_263_2 rfl) rfl ?_
                        refine SPL_y (y_load Tryz.isAgg90 rfl (by repeat (first | exact (hrow34 _ 2 _ rfl) | apply Cell.tail))) rfl ?_
                        refine SPL_y (y_move rfl) rfl ?_
                        refine SPL_y (y_cut hsp34 Tryz.underlying90 Tryz.sizeOf42 rfl rfl (by rw [hw33] at hml34; omega)) rfl ?_
                        rw [Int.toNat_natCast]
                        refine SPL_y (y_nil rfl) rfl ?_
                        refine SPL_y (y_fa fld_263_2 rfl) rfl ?_
                        refine SPL_one rfl (SP1_storeM (j := 2) (pre := pre34) (cs := trow u33 g33 na34 nc34) (post := post34) Tryz.sizeOf90 rfl rfl rfl hpre34 (by repeat (first | exact hup34 _ | apply Upd.tail)) (by rfl) ?_)
                        refine SPL_nil ?_
                        refine thenP_n ?_
                        refine SP_seq ?_
                        refine SP_draw 11 [(0, 0), (1, 0), (2, 0), (3, 0), (6, 0), (7, 0), (8, 0), (4, 1), (5, 0), (9, 1), (10, 0), (11, 3)] mixed (by kernel_rfl) (fun _ _ _ _ _ h => h) (Part.refl _) ?_
                        refine SPO_p rfl (y_move rfl) rfl ?_
                        refine SPO_p rfl (y_nil rfl) rfl ?_
                        refine SPO_p rfl (y_ia_arr Tryz.underlying277 Tryz.sizeOf42 rfl rfl (by omega)) rfl ?_
                        refine SPO_p rfl (y_fa fld_42_1 rfl) rfl ?_
                        refine SPO_p rfl (y_move rfl) rfl ?_
                        refine SPO_p rfl (y_nil rfl) rfl ?_
                        refine SPO_p rfl (y_ia_arr Tryz.underlying277 Tryz.sizeOf42 rfl rfl (by omega)) rfl ?_
                        refine SPO_h rfl (y_load Tryz.isAgg40 rfl (by repeat (first | exact (hB3.a0.cell rfl) | apply Cell.tail))) rfl ?_
                        refine SPO_p rfl (y_conv Tryz.underlying40 Tryz.underlying3 rfl (show IntKind.i64.wrap a0.n = a0.n from by rw [IntKind.wrap_i64]; omega)) rfl ?_
                        refine SPO_h rfl (y_loads Tryz.isAgg42 Tryz.sizeOf42 rfl rfl (by repeat (first | exact hB3.a1 | apply Cells.tail))) rfl ?_
                        refine SPO_p rfl (y_buildN (l := (evV ⟨4, a0.n, 0, a1, V.nil⟩)) BN184 rfl rfl) rfl ?_
                        refine SPO_z (k := 0) rfl rfl (SP1_storeAll Tryz.sizeOf184 rfl rfl rfl rfl rfl (by first | exact U0 | exact U1 | exact U2 | exact U3 | exact U4 | exact U5 | exact U6 | exact U7 | exact U8 | exact U9 | exact U10 | exact U11 | exact U12 | exact U13 | exact U14 | exact U15 | exact U16 | exact U17 | exact U18 | exact U19 | exact U20 | exact U21 | exact U22 | exact U23) (by rfl) ?_)
                        refine SPO_nil ?_
                        refine thenP_n ?_
                        refine SP_ret ?_
                        refine thenP_ret (inBlockP_ret (thenP_ret (bodyP_ret (H' := [sg34]) (ResC rfl rfl Tryz.isAgg184 Tryz.sizeOf184 rfl (by repeat (first | exact Cells.all _ | exact Cells.amid hpre rfl (by decide) | exact Cells.head rfl | apply Cells.tail))) (by repeat (first | exact Part.nil _ | (apply Part.cons; with_reducible (first | exact P0 | exact P1 | exact P2 | exact P3 | exact P4 | exact P5 | exact P6 | exact P7 | exact P8 | exact P9 | exact P10 | exact P11 | exact P12 | exact P13 | exact P14 | exact P15 | exact P16 | exact P17 | exact P18 | exact P19 | exact P20 | exact P21 | exact P22 | exact P23)) | (apply Part.flat; simp only [List.cons_append, List.nil_append]) | (apply Part.cons; (first | exact P0 | exact P1 | exact P2 | exact P3 | exact P4 | exact P5 | exact P6 | exact P7 | exact P8 | exact P9 | exact P10 | exact P11 | exact P12 | exact P13 | exact P14 | exact P15 | exact P16 | exact P17 | exact P18 | exact P19 | exact P20 | exact P21 | exact P22 | exact P23)) | (apply Part.nilc))) ?_)))
                        exact ⟨_, _, rfl, rfl, _, _, hM34, rfl⟩
                    intro h32_4
                    first | rw [if_neg h32_4] at hP | rw [if_pos (Decidable.not_not.1 h32_4)] at hP | skip
                    as_aux_lemma =>
                      refine SPL_y (y_pick_f rfl rfl) rfl ?_
                      refine SPL_nil ?_
                      refine thenP_n ?_
                      refine SP_cond_f rfl ?_
                      refine SP_skip ?_
                      refine thenP_n ?_
                      refine SP_seq ?_
                      rw [if_neg (by omega)] at hP
                      refine SP_region ?_
                      refine SPL_y (y_move rfl) rfl ?_
                      refine SPL_one rfl (SP1_call (api_StatusName u.st) Tryz.call170 rfl rfl (by repeat (first | exact Part.nil _ | (apply Part.cons; with_reducible (first | exact P0 | exact P1 | exact P2 | exact P3 | exact P4 | exact P5 | exact P6 | exact P7 | exact P8 | exact P9 | exact P10 | exact P11 | exact P12 | exact P13 | exact P14 | exact P15 | exact P16 | exact P17 | exact P18 | exact P19 | exact P20 | exact P21 | exact P22 | exact P23)) | (apply Part.flat; simp only [List.cons_append, List.nil_append]) | (apply Part.cons; (first | exact P0 | exact P1 | exact P2 | exact P3 | exact P4 | exact P5 | exact P6 | exact P7 | exact P8 | exact P9 | exact P10 | exact P11 | exact P12 | exact P13 | exact P14 | exact P15 | exact P16 | exact P17 | exact P18 | exact P19 | exact P20 | exact P21 | exact P22 | exact P23)) | (apply Part.nilc))) ?_)
                      rintro v post H' ⟨rfl, rfl⟩ hH
                      try simp only [List.cons_append, List.nil_append] at hH
                      subst hH
                      refine SPL_y (y_assign rfl) rfl ?_
                      refine SPL_nil ?_
                      refine thenP_n ?_
                      refine SP_seq ?_
                      refine SP_region ?_
                      refine SPL_y (y_build B42 rfl rfl (by simp only [fillL, List.foldl_cons, List.foldl_nil, List.set_cons_zero, List.set_cons_succ]; exact rfl)) rfl ?_
                      refine SPL_one rfl (SP1_storeAll Tryz.sizeOf42 rfl rfl rfl rfl rfl (by first | exact U0 | exact U1 | exact U2 | exact U3 | exact U4 | exact U5 | exact U6 | exact U7 | exact U8 | exact U9 | exact U10 | exact U11 | exact U12 | exact U13 | exact U14 | exact U15 | exact U16 | exact U17 | exact U18 | exact U19 | exact U20 | exact U21 | exact U22 | exact U23) (by rfl) ?_)
                      refine SPL_nil ?_
                      refine thenP_n ?_
                      refine SP_region ?_
                      refine SPL_y (y_move rfl) rfl ?_
                      refine SPL_y (y_build B42 rfl rfl (by simp only [fillL, List.foldl_cons, List.foldl_nil, List.set_cons_zero, List.set_cons_succ]; exact rfl)) rfl ?_
                      refine SPL_one rfl (SP1_storeAll Tryz.sizeOf42 rfl rfl rfl rfl rfl (by first | exact U0 | exact U1 | exact U2 | exact U3 | exact U4 | exact U5 | exact U6 | exact U7 | exact U8 | exact U9 | exact U10 | exact U11 | exact U12 | exact U13 | exact U14 | exact U15 | exact U16 | exact U17 | exact U18 | exact U19 | exact U20 | exact U21 | exact U22 | exact U23) (by rfl) ?_)
                      refine SPL_nil ?_
                      refine inBlockP_n ?_
                      refine thenP_n ?_
                      refine SP_seq ?_
                      unfold finM at hP
                      try unfold getT at hP
                      obtain ⟨t62, ht62, hP⟩ := bnd1 hP
                      obtain ⟨g62, oa62, oc62, hg62, _, hrow62, hst62, hfr62, _⟩ := hM.thr ht62
                      have hl62 : at_ ≤ t62.stack.length := Decidable.byContradiction fun q => by rw [if_neg q] at hP; cases hP
                      rw [if_pos hl62] at hP
                      have hsp62 : ∃ xs sg, Arr 42 3 g62.sa t62.stack.length g62.sc xs sg := by
                        obtain ⟨_, _, _, _, _, _, _, _, _, _, _, _, hss, _⟩ := hM.opnT ht62 hg62
                        exact ⟨_, _, hss⟩
                      obtain ⟨xs62, sx62, hsp62⟩ := hsp62
                      have hml62 := hsp62.mle
                      obtain ⟨pre62, post62, na62, nc62, sg62, hpre62, hup62, hM62⟩ := hM.cutS ht62 hg62 (j := at_) hl62
                      refine SP_region ?_
                      refine SPL_y (y_move rfl) rfl ?_
                      refine SPL_y (y_move rfl) rfl ?_
                      refine SPL_y (y_nil rfl) rfl ?_
                      refine SPL_y (y_fa fld_263_2 rfl) rfl ?_
                      refine SPL_y (y_load Tryz.isAgg90 rfl (by repeat (first | exact (hrow62 _ 2 _ rfl) | apply Cell.tail))) rfl ?_
                      refine SPL_y (y_move rfl) rfl ?_
                      refine SPL_y (y_cut hsp62 Tryz.underlying90 Tryz.sizeOf42 rfl rfl (by omega)) rfl ?_
                      rw [Int.toNat_natCast]
                      refine SPL_y (y_nil rfl) rfl ?_
                      refine SPL_y (y_fa fld_263_2 rfl) rfl ?_
                      refine SPL_one rfl (SP1_storeM (j := 2) (pre := pre62) (cs := trow t62 g62 na62 nc62) (post := post62) Tryz.sizeOf90 rfl rfl rfl hpre62 (by repeat (first | exact hup62 _ | apply Upd.tail)) (by rfl) ?_)
                      replace hM := hM62
                      refine SPL_nil ?_
                      refine thenP_n ?_
                      refine SP_seq ?_
                      refine SP_region ?_
                      refine SPL_y (y_move rfl) rfl ?_
                      refine SPL_y (y_loads Tryz.isAgg42 Tryz.sizeOf42 rfl rfl (by repeat (first | exact Cells.all _ | exact Cells.amid hpre rfl (by decide) | exact Cells.head rfl | apply Cells.tail))) rfl ?_
                      refine SPL_y (y_loads Tryz.isAgg42 Tryz.sizeOf42 rfl rfl (by repeat (first | exact Cells.all _ | exact Cells.amid hpre rfl (by decide) | exact Cells.head rfl | apply Cells.tail))) rfl ?_
                      refine SPL_one rfl (SP1_sliceN (l := ([v1, strV (statusName u.st)].flatMap valV)) el_90 rfl (by kernel_rfl) rfl rfl ?_)
                      intro b283
                      obtain ⟨m9, hq9, hP⟩ := bnd1 hP
                      refine SPL_one rfl (SP1_call (vm_push b ph _ _ hq9 _ hM) Tryz.call142 rfl rfl (by repeat (first | exact Part.nil _ | (apply Part.cons; with_reducible (first | exact P0 | exact P1 | exact P2 | exact P3 | exact P4 | exact P5 | exact P6 | exact P7 | exact P8 | exact P9 | exact P10 | exact P11 | exact P12 | exact P13 | exact P14 | exact P15 | exact P16 | exact P17 | exact P18 | exact P19 | exact P20 | exact P21 | exact P22 | exact P23)) | (apply Part.flat; simp only [List.cons_append, List.nil_append]) | (apply Part.cons; (first | exact P0 | exact P1 | exact P2 | exact P3 | exact P4 | exact P5 | exact P6 | exact P7 | exact P8 | exact P9 | exact P10 | exact P11 | exact P12 | exact P13 | exact P14 | exact P15 | exact P16 | exact P17 | exact P18 | exact P19 | exact P20 | exact P21 | exact P22 | exact P23)) | (apply Part.nilc))) ?_)
                      rintro v post H' ⟨rfl, hh9, sg9, hk9, hM, rfl⟩ hH
                      try simp only [List.cons_append, List.nil_append] at hH
                      subst hH
                      refine SPL_nil ?_
                      refine thenP_n ?_
                      refine SP_seq ?_
                      refine SP_region ?_
                      refine SPL_y (y_buildN (l := (evV ev0)) BN184 rfl rfl) rfl ?_
                      refine SPL_one rfl (SP1_storeAll Tryz.sizeOf184 rfl rfl rfl rfl rfl (by first | exact U0 | exact U1 | exact U2 | exact U3 | exact U4 | exact U5 | exact U6 | exact U7 | exact U8 | exact U9 | exact U10 | exact U11 | exact U12 | exact U13 | exact U14 | exact U15 | exact U16 | exact U17 | exact U18 | exact U19 | exact U20 | exact U21 | exact U22 | exact U23) (by rfl) ?_)
                      refine SPL_nil ?_
                      refine thenP_n ?_
                      refine SP_ret ?_
                      refine bodyP_ret (H' := [sg9]) (ResC rfl rfl Tryz.isAgg184 Tryz.sizeOf184 rfl (by repeat (first | exact Cells.all _ | exact Cells.amid hpre rfl (by decide) | exact Cells.head rfl | apply Cells.tail))) (by repeat (first | exact Part.nil _ | (apply Part.cons; with_reducible (first | exact P0 | exact P1 | exact P2 | exact P3 | exact P4 | exact P5 | exact P6 | exact P7 | exact P8 | exact P9 | exact P10 | exact P11 | exact P12 | exact P13 | exact P14 | exact P15 | exact P16 | exact P17 | exact P18 | exact P19 | exact P20 | exact P21 | exact P22 | exact P23)) | (apply Part.flat; simp only [List.cons_append, List.nil_append]) | (apply Part.cons; (first | exact P0 | exact P1 | exact P2 | exact P3 | exact P4 | exact P5 | exact P6 | exact P7 | exact P8 | exact P9 | exact P10 | exact P11 | exact P12 | exact P13 | exact P14 | exact P15 | exact P16 | exact P17 | exact P18 | exact P19 | exact P20 | exact P21 | exact P22 | exact P23)) | (apply Part.nilc))) ?_
                      injection hP with hP
                      subst hP
                      exact ⟨_, _, rfl, rfl, _, _, hM, rfl⟩
            intro h28_0
            first | rw [if_neg h28_0] at hP | rw [if_pos (Decidable.not_not.1 h28_0)] at hP | skip
            as_aux_lemma =>
              refine SPL_y (y_assign rfl) rfl ?_
              refine SPL_nil ?_
              refine thenP_n ?_
              refine SP_cond_f rfl ?_
              refine SP_seq ?_
              refine SP_region ?_
              refine SPL_if (y_eql rfl rfl) rfl ?_ ?_
              · intro h39_0
                first | rw [if_pos h39_0] at hP | rw [if_neg h39_0] at hP | skip
                as_aux_lemma =>
                  refine SPL_y (y_assign rfl) rfl ?_
                  refine SPL_nil ?_
                  refine thenP_n ?_
                  refine SP_cond_t rfl ?_
                  refine SP_seq ?_
                  refine SP_seq ?_
                  unfold cYield at hP
                  refine SP_region ?_
                  refine SPL_y (y_move rfl) rfl ?_
                  refine SPL_if (y_eql rfl rfl) rfl ?_ ?_
                  · intro h40_1
                    first | rw [if_pos h40_1] at hP | rw [if_neg h40_1] at hP | skip
                    as_aux_lemma =>
                      refine SPL_nil ?_
                      refine thenP_n ?_
                      refine SP_cond_t rfl ?_
                      refine SP_region ?_
                      refine SPL_one rfl (SP1_callp (vm_raise s_yield) Tryz.call281 rfl rfl (by repeat (first | exact Part.nil _ | (apply Part.cons; with_reducible (first | exact P0 | exact P1 | exact P2 | exact P3 | exact P4 | exact P5 | exact P6 | exact P7 | exact P8 | exact P9 | exact P10 | exact P11 | exact P12 | exact P13 | exact P14 | exact P15 | exact P16 | exact P17 | exact P18 | exact P19 | exact P20 | exact P21 | exact P22 | exact P23)) | (apply Part.flat; simp only [List.cons_append, List.nil_append]) | (apply Part.cons; (first | exact P0 | exact P1 | exact P2 | exact P3 | exact P4 | exact P5 | exact P6 | exact P7 | exact P8 | exact P9 | exact P10 | exact P11 | exact P12 | exact P13 | exact P14 | exact P15 | exact P16 | exact P17 | exact P18 | exact P19 | exact P20 | exact P21 | exact P22 | exact P23)) | (apply Part.nilc))) ?_ ?_)
                      · rintro c post H' ⟨bb, rfl, rfl⟩ hH
                        try simp only [List.cons_append, List.nil_append] at hH
                        subst hH
                        refine thenP_panic (inBlockP_panic (thenP_panic (bodyP_panic (H' := [sg6, blk bb 335 (valV (strV s_yield))]) (by repeat (first | exact Part.nil _ | (apply Part.cons; with_reducible (first | exact P0 | exact P1 | exact P2 | exact P3 | exact P4 | exact P5 | exact P6 | exact P7 | exact P8 | exact P9 | exact P10 | exact P11 | exact P12 | exact P13 | exact P14 | exact P15 | exact P16 | exact P17 | exact P18 | exact P19 | exact P20 | exact P21 | exact P22 | exact P23)) | (apply Part.flat; simp only [List.cons_append, List.nil_append]) | (apply Part.cons; (first | exact P0 | exact P1 | exact P2 | exact P3 | exact P4 | exact P5 | exact P6 | exact P7 | exact P8 | exact P9 | exact P10 | exact P11 | exact P12 | exact P13 | exact P14 | exact P15 | exact P16 | exact P17 | exact P18 | exact P19 | exact P20 | exact P21 | exact P22 | exact P23)) | (apply Part.nilc))) ?_)))
                        injection hP with hP
                        subst hP
                        exact ⟨.thr (strV s_yield) m6 bb, hh1, sg6, rfl, rfl, hM, rfl⟩
                      rintro v post H' hF hH
                      exact hF.elim
                  intro h40_1
                  first | rw [if_neg h40_1] at hP | rw [if_pos (Decidable.not_not.1 h40_1)] at hP | skip
                  as_aux_lemma =>
                    refine SPL_nil ?_
                    refine thenP_n ?_
                    refine SP_cond_f rfl ?_
                    refine SP_skip ?_
                    refine thenP_n ?_
                    refine SP_seq ?_
                    unfold getT at hP
                    obtain ⟨t42, ht42, hP⟩ := bnd1 hP
                    have hl42 : at_ ≤ t42.stack.length := Decidable.byContradiction fun q => by rw [if_neg q] at hP; cases hP
                    rw [if_pos hl42] at hP
                    injection hP with hP
                    subst hP
                    obtain ⟨g42, oa42, oc42, hg42, _, hrow42, _⟩ := hM.thr ht42
                    obtain ⟨pre42, post42, na42, nc42, sg42, hpre42, hup42, hM42⟩ := hM.setSt ht42 hg42 2
                    obtain ⟨u42, hu42⟩ : ∃ u, u = { t42 with st := 2 } := ⟨_, rfl⟩
                    have hv42 : (setTh m6 th { t42 with st := 2 }).vs.threads[th]? = some u42 := by rw [hu42]; exact setTh_get ht42
                    have hw42 : u42.stack = t42.stack := by rw [hu42]
                    refine SP_region ?_
                    refine SPL_y (y_move rfl) rfl ?_
                    refine SPL_y (y_nil rfl) rfl ?_
                    refine SPL_y (y_fa fld_263_0 rfl) rfl ?_
                    refine SPL_one rfl (SP1_storeM (j := 0) (pre := pre42) (cs := trow t42 g42 na42 nc42) (post := post42) Tryz.sizeOf3 rfl rfl rfl hpre42 (by repeat (first | exact hup42 _ | apply Upd.tail)) (by rfl) ?_)
                    refine SPL_nil ?_
                    refine thenP_n ?_
                    refine SP_seq ?_
                    obtain ⟨_, oa43, oc43, hg43, _, hrow43, _⟩ := hM42.thr hv42
                    rw [hg42] at hg43
                    injection hg43 with hg43
                    subst hg43
                    have hsp43 : ∃ xs sg, Arr 42 3 g42.sa u42.stack.length g42.sc xs sg := by
                      obtain ⟨_, _, _, _, _, _, _, _, _, _, _, _, hss, _⟩ := hM42.opnT hv42 hg42
                      exact ⟨_, _, hss⟩
                    obtain ⟨xs43, sx43, hsp43⟩ := hsp43
                    have hml43 := hsp43.mle
                    obtain ⟨pre43, post43, na43, nc43, sg43, hpre43, hup43, hM43, hkeep⟩ := hM42.cutK hv42 hg42 (j := at_) (by rw [hw42]; exact hl42)
                    rw [setTh_setTh, hu42] at hM43
                    have hB3 := ArgW.cut3 hW hg42 ht42 (seg' := sg43) (by rw [← hw42]; exact hkeep) h3
                    rw [hgd, hgd, hgd, ← ha0, ← ha1] at hB3
                    refine SP_region ?_
                    refine SPL_y (y_move rfl) rfl ?_
                    refine SPL_y (y_move rfl) rfl ?_
                    refine SPL_y (y_nil rfl) rfl ?_
                    refine SPL_y (y_fa fld_263_2 rfl) rfl ?_
                    refine SPL_y (y_load Tryz.isAgg90 rfl (by repeat (first | exact (hrow43 _ 2 _ rfl) | apply Cell.tail))) rfl ?_
                    refine SPL_y (y_move rfl) rfl ?_
                    refine SPL_y (y_cut hsp43 Tryz.underlying90 Tryz.sizeOf42 rfl rfl (by rw [hw42] at hml43; omega)) rfl ?_
                    rw [Int.toNat_natCast]
                    refine SPL_y (y_nil rfl) rfl ?_
                    refine SPL_y (y_fa fld_263_2 rfl) rfl ?_
                    refine SPL_one rfl (SP1_storeM (j := 2) (pre := pre43) (cs := trow u42 g42 na43 nc43) (post := post43) Tryz.sizeOf90 rfl rfl rfl hpre43 (by repeat (first | exact hup43 _ | apply Upd.tail)) (by rfl) ?_)
                    refine SPL_nil ?_
                    refine thenP_n ?_
                    refine SP_seq ?_
                    refine SP_region ?_
                    refine SPL_y (y_move rfl) rfl ?_
                    refine SPL_y (y_nil rfl) rfl ?_
                    refine SPL_y (y_ia_arr Tryz.underlying277 Tryz.sizeOf42 rfl rfl (by omega)) rfl ?_
                    refine SPL_y (y_loads Tryz.isAgg42 Tryz.sizeOf42 rfl rfl (by repeat (first | exact hB3.a0 | apply Cells.tail))) rfl ?_
                    refine SPL_y (y_buildN (l := (evV ⟨3, 0, 0, a0, V.nil⟩)) BN184 rfl rfl) rfl ?_
                    refine SPL_one rfl (SP1_storeAll Tryz.sizeOf184 rfl rfl rfl rfl rfl (by first | exact U0 | exact U1 | exact U2 | exact U3 | exact U4 | exact U5 | exact U6 | exact U7 | exact U8 | exact U9 | exact U10 | exact U11 | exact U12 | exact U13 | exact U14 | exact U15 | exact U16 | exact U17 | exact U18 | exact U19 | exact U20 | exact U21 | exact U22 | exact U23) (by rfl) ?_)
                    refine SPL_nil ?_
                    refine thenP_n ?_
                    refine SP_ret ?_
                    refine inBlockP_ret (thenP_ret (bodyP_ret (H' := [sg43]) (ResC rfl rfl Tryz.isAgg184 Tryz.sizeOf184 rfl (by repeat (first | exact Cells.all _ | exact Cells.amid hpre rfl (by decide) | exact Cells.head rfl | apply Cells.tail))) (by repeat (first | exact Part.nil _ | (apply Part.cons; with_reducible (first | exact P0 | exact P1 | exact P2 | exact P3 | exact P4 | exact P5 | exact P6 | exact P7 | exact P8 | exact P9 | exact P10 | exact P11 | exact P12 | exact P13 | exact P14 | exact P15 | exact P16 | exact P17 | exact P18 | exact P19 | exact P20 | exact P21 | exact P22 | exact P23)) | (apply Part.flat; simp only [List.cons_append, List.nil_append]) | (apply Part.cons; (first | exact P0 | exact P1 | exact P2 | exact P3 | exact P4 | exact P5 | exact P6 | exact P7 | exact P8 | exact P9 | exact P10 | exact P11 | exact P12 | exact P13 | exact P14 | exact P15 | exact P16 | exact P17 | exact P18 | exact P19 | exact P20 | exact P21 | exact P22 | exact P23)) | (apply Part.nilc))) ?_))
                    exact ⟨_, _, rfl, rfl, _, _, hM43, rfl⟩
              intro h39_0
              first | rw [if_neg h39_0] at hP | rw [if_pos (Decidable.not_not.1 h39_0)] at hP | skip
              as_aux_lemma =>
                refine SPL_y (y_assign rfl) rfl ?_
                refine SPL_nil ?_
                refine thenP_n ?_
                refine SP_cond_f rfl ?_
                refine SP_seq ?_
                refine SP_region ?_
                refine SPL_if (y_eql rfl rfl) rfl ?_ ?_
                · intro h45_0
                  first | rw [if_pos h45_0] at hP | rw [if_neg h45_0] at hP | skip
                  as_aux_lemma =>
                    refine SPL_y (y_assign rfl) rfl ?_
                    refine SPL_nil ?_
                    refine thenP_n ?_
                    refine SP_cond_t rfl ?_
                    refine SP_region ?_
                    refine SPL_y (y_move rfl) rfl ?_
                    refine SPL_y (y_move rfl) rfl ?_
                    obtain ⟨o46, hq46, hP⟩ := bndO hP
                    refine SPL_one rfl (SP1_callp (vm_bPrint b ph hh1 hq46 _ hM hA3) Tryz.call282 rfl rfl (by repeat (first | exact Part.nil _ | (apply Part.cons; with_reducible (first | exact P0 | exact P1 | exact P2 | exact P3 | exact P4 | exact P5 | exact P6 | exact P7 | exact P8 | exact P9 | exact P10 | exact P11 | exact P12 | exact P13 | exact P14 | exact P15 | exact P16 | exact P17 | exact P18 | exact P19 | exact P20 | exact P21 | exact P22 | exact P23)) | (apply Part.flat; simp only [List.cons_append, List.nil_append]) | (apply Part.cons; (first | exact P0 | exact P1 | exact P2 | exact P3 | exact P4 | exact P5 | exact P6 | exact P7 | exact P8 | exact P9 | exact P10 | exact P11 | exact P12 | exact P13 | exact P14 | exact P15 | exact P16 | exact P17 | exact P18 | exact P19 | exact P20 | exact P21 | exact P22 | exact P23)) | (apply Part.nilc))) ?_ ?_)
                    · rintro c post H' ⟨ex, hhx, sgx, rfl, rfl, hkx, hMx, rfl⟩ hH
                      try simp only [List.cons_append, List.nil_append] at hH
                      subst hH
                      refine inBlockP_panic (thenP_panic (bodyP_panic (H' := [sgx, escS ex]) (by repeat (first | exact Part.nil _ | (apply Part.cons; with_reducible (first | exact P0 | exact P1 | exact P2 | exact P3 | exact P4 | exact P5 | exact P6 | exact P7 | exact P8 | exact P9 | exact P10 | exact P11 | exact P12 | exact P13 | exact P14 | exact P15 | exact P16 | exact P17 | exact P18 | exact P19 | exact P20 | exact P21 | exact P22 | exact P23)) | (apply Part.flat; simp only [List.cons_append, List.nil_append]) | (apply Part.cons; (first | exact P0 | exact P1 | exact P2 | exact P3 | exact P4 | exact P5 | exact P6 | exact P7 | exact P8 | exact P9 | exact P10 | exact P11 | exact P12 | exact P13 | exact P14 | exact P15 | exact P16 | exact P17 | exact P18 | exact P19 | exact P20 | exact P21 | exact P22 | exact P23)) | (apply Part.nilc))) ?_))
                      rw [bindO_esc] at hP
                      injection hP with hP
                      subst hP
                      exact ⟨ex, hhx, sgx, rfl, rfl, hMx, rfl⟩
                    rintro v post H' ⟨⟨x16, x17⟩, m46, rfl, rfl, hh46, sg46, hk46, hM, rfl⟩ hH
                    try simp only [List.cons_append, List.nil_append] at hH
                    subst hH
                    dsimp only [bindO] at hP
                    refine SPL_y (y_move rfl) rfl ?_
                    refine SPL_y (y_ext rfl rfl) rfl ?_
                    refine SPL_y (y_ext rfl rfl) rfl ?_
                    refine SPL_one rfl (SP1_storeAll Tryz.sizeOf42 rfl rfl rfl rfl rfl (by first | exact U0 | exact U1 | exact U2 | exact U3 | exact U4 | exact U5 | exact U6 | exact U7 | exact U8 | exact U9 | exact U10 | exact U11 | exact U12 | exact U13 | exact U14 | exact U15 | exact U16 | exact U17 | exact U18 | exact U19 | exact U20 | exact U21 | exact U22 | exact U23) (by rfl) ?_)
                    refine SPL_one rfl (SP1_storeAll Tryz.sizeOf42 rfl rfl rfl rfl rfl (by first | exact U0 | exact U1 | exact U2 | exact U3 | exact U4 | exact U5 | exact U6 | exact U7 | exact U8 | exact U9 | exact U10 | exact U11 | exact U12 | exact U13 | exact U14 | exact U15 | exact U16 | exact U17 | exact U18 | exact U19 | exact U20 | exact U21 | exact U22 | exact U23) (by rfl) ?_)
                    refine SPL_nil ?_
                    refine inBlockP_n ?_
                    refine thenP_n ?_
                    refine SP_seq ?_
                    unfold finM at hP
                    try unfold getT at hP
                    obtain ⟨t62, ht62, hP⟩ := bnd1 hP
                    obtain ⟨g62, oa62, oc62, hg62, _, hrow62, hst62, hfr62, _⟩ := hM.thr ht62
                    have hl62 : at_ ≤ t62.stack.length := Decidable.byContradiction fun q => by rw [if_neg q] at hP; cases hP
                    rw [if_pos hl62] at hP
                    have hsp62 : ∃ xs sg, Arr 42 3 g62.sa t62.stack.length g62.sc xs sg := by
                      obtain ⟨_, _, _, _, _, _, _, _, _, _, _, _, hss, _⟩ := hM.opnT ht62 hg62
                      exact ⟨_, _, hss⟩
                    obtain ⟨xs62, sx62, hsp62⟩ := hsp62
                    have hml62 := hsp62.mle
                    obtain ⟨pre62, post62, na62, nc62, sg62, hpre62, hup62, hM62⟩ := hM.cutS ht62 hg62 (j := at_) hl62
                    refine SP_region ?_
                    refine SPL_y (y_move rfl) rfl ?_
                    refine SPL_y (y_move rfl) rfl ?_
                    refine SPL_y (y_nil rfl) rfl ?_
                    refine SPL_y (y_fa fld_263_2 rfl) rfl ?_
                    refine SPL_y (y_load Tryz.isAgg90 rfl (by repeat (first | exact (hrow62 _ 2 _ rfl) | apply Cell.tail))) rfl ?_
                    refine SPL_y (y_move rfl) rfl ?_
                    refine SPL_y (y_cut hsp62 Tryz.underlying90 Tryz.sizeOf42 rfl rfl (by omega)) rfl ?_
                    rw [Int.toNat_natCast]
                    refine SPL_y (y_nil rfl) rfl ?_
                    refine SPL_y (y_fa fld_263_2 rfl) rfl ?_
                    refine SPL_one rfl (SP1_storeM (j := 2) (pre := pre62) (cs := trow t62 g62 na62 nc62) (post := post62) Tryz.sizeOf90 rfl rfl rfl hpre62 (by repeat (first | exact hup62 _ | apply Upd.tail)) (by rfl) ?_)
                    replace hM := hM62
                    refine SPL_nil ?_
                    refine thenP_n ?_
                    refine SP_seq ?_
                    refine SP_region ?_
                    refine SPL_y (y_move rfl) rfl ?_
                    refine SPL_y (y_loads Tryz.isAgg42 Tryz.sizeOf42 rfl rfl (by repeat (first | exact Cells.all _ | exact Cells.amid hpre rfl (by decide) | exact Cells.head rfl | apply Cells.tail))) rfl ?_
                    refine SPL_y (y_loads Tryz.isAgg42 Tryz.sizeOf42 rfl rfl (by repeat (first | exact Cells.all _ | exact Cells.amid hpre rfl (by decide) | exact Cells.head rfl | apply Cells.tail))) rfl ?_
                    refine SPL_one rfl (SP1_sliceN (l := ([x16, x17].flatMap valV)) el_90 rfl (by kernel_rfl) rfl rfl ?_)
                    intro b283
                    obtain ⟨m9, hq9, hP⟩ := bnd1 hP
                    refine SPL_one rfl (SP1_call (vm_push b ph _ _ hq9 _ hM) Tryz.call142 rfl rfl (by repeat (first | exact Part.nil _ | (apply Part.cons; with_reducible (first | exact P0 | exact P1 | exact P2 | exact P3 | exact P4 | exact P5 | exact P6 | exact P7 | exact P8 | exact P9 | exact P10 | exact P11 | exact P12 | exact P13 | exact P14 | exact P15 | exact P16 | exact P17 | exact P18 | exact P19 | exact P20 | exact P21 | exact P22 | exact P23)) | (apply Part.flat; simp only [List.cons_append, List.nil_append]) | (apply Part.cons; (first | exact P0 | exact P1 | exact P2 | exact P3 | exact P4 | exact P5 | exact P6 | exact P7 | exact P8 | exact P9 | exact P10 | exact P11 | exact P12 | exact P13 | exact P14 | exact P15 | exact P16 | exact P17 | exact P18 | exact P19 | exact P20 | exact P21 | exact P22 | exact P23)) | (apply Part.nilc))) ?_)
                    rintro v post H' ⟨rfl, hh9, sg9, hk9, hM, rfl⟩ hH
                    try simp only [List.cons_append, List.nil_append] at hH
                    subst hH
                    refine SPL_nil ?_
                    refine thenP_n ?_
                    refine SP_seq ?_
                    refine SP_region ?_
                    refine SPL_y (y_buildN (l := (evV ev0)) BN184 rfl rfl) rfl ?_
                    refine SPL_one rfl (SP1_storeAll Tryz.sizeOf184 rfl rfl rfl rfl rfl (by first | exact U0 | exact U1 | exact U2 | exact U3 | exact U4 | exact U5 | exact U6 | exact U7 | exact U8 | exact U9 | exact U10 | exact U11 | exact U12 | exact U13 | exact U14 | exact U15 | exact U16 | exact U17 | exact U18 | exact U19 | exact U20 | exact U21 | exact U22 | exact U23) (by rfl) ?_)
                    refine SPL_nil ?_
                    refine thenP_n ?_
                    refine SP_ret ?_
                    refine bodyP_ret (H' := [sg9]) (ResC rfl rfl Tryz.isAgg184 Tryz.sizeOf184 rfl (by repeat (first | exact Cells.all _ | exact Cells.amid hpre rfl (by decide) | exact Cells.head rfl | apply Cells.tail))) (by repeat (first | exact Part.nil _ | (apply Part.cons; with_reducible (first | exact P0 | exact P1 | exact P2 | exact P3 | exact P4 | exact P5 | exact P6 | exact P7 | exact P8 | exact P9 | exact P10 | exact P11 | exact P12 | exact P13 | exact P14 | exact P15 | exact P16 | exact P17 | exact P18 | exact P19 | exact P20 | exact P21 | exact P22 | exact P23)) | (apply Part.flat; simp only [List.cons_append, List.nil_append]) | (apply Part.cons; (first | exact P0 | exact P1 | exact P2 | exact P3 | exact P4 | exact P5 | exact P6 | exact P7 | exact P8 | exact P9 | exact P10 | exact P11 | exact P12 | exact P13 | exact P14 | exact P15 | exact P16 | exact P17 | exact P18 | exact P19 | exact P20 | exact P21 | exact P22 | exact P23)) | (apply Part.nilc))) ?_
                    injection hP with hP
                    subst hP
                    exact ⟨_, _, rfl, rfl, _, _, hM, rfl⟩
                intro h45_0
                first | rw [if_neg h45_0] at hP | rw [if_pos (Decidable.not_not.1 h45_0)] at hP | skip
                as_aux_lemma =>
                  refine SPL_y (y_assign rfl) rfl ?_
                  refine SPL_nil ?_
                  refine thenP_n ?_
                  refine SP_cond_f rfl ?_
                  refine SP_seq ?_
                  refine SP_region ?_
                  refine SPL_if (y_eql rfl rfl) rfl ?_ ?_
                  · intro h47_0
                    first | rw [if_pos h47_0] at hP | rw [if_neg h47_0] at hP | skip
                    as_aux_lemma =>
                      refine SPL_y (y_assign rfl) rfl ?_
                      refine SPL_nil ?_
                      refine thenP_n ?_
                      refine SP_cond_t rfl ?_
                      refine SP_region ?_
                      refine SPL_y (y_move rfl) rfl ?_
                      refine SPL_y (y_move rfl) rfl ?_
                      obtain ⟨o46, hq46, hP⟩ := bndO hP
                      refine SPL_one rfl (SP1_callp (vm_bToString b ph hh1 hq46 _ hM hA3) Tryz.call283 rfl rfl (by repeat (first | exact Part.nil _ | (apply Part.cons; with_reducible (first | exact P0 | exact P1 | exact P2 | exact P3 | exact P4 | exact P5 | exact P6 | exact P7 | exact P8 | exact P9 | exact P10 | exact P11 | exact P12 | exact P13 | exact P14 | exact P15 | exact P16 | exact P17 | exact P18 | exact P19 | exact P20 | exact P21 | exact P22 | exact P23)) | (apply Part.flat; simp only [List.cons_append, List.nil_append]) | (apply Part.cons; (first | exact P0 | exact P1 | exact P2 | exact P3 | exact P4 | exact P5 | exact P6 | exact P7 | exact P8 | exact P9 | exact P10 | exact P11 | exact P12 | exact P13 | exact P14 | exact P15 | exact P16 | exact P17 | exact P18 | exact P19 | exact P20 | exact P21 | exact P22 | exact P23)) | (apply Part.nilc))) ?_ ?_)
                      · rintro c post H' ⟨ex, hhx, sgx, rfl, rfl, hkx, hMx, rfl⟩ hH
                        try simp only [List.cons_append, List.nil_append] at hH
                        subst hH
                        refine inBlockP_panic (thenP_panic (bodyP_panic (H' := [sgx, escS ex]) (by repeat (first | exact Part.nil _ | (apply Part.cons; with_reducible (first | exact P0 | exact P1 | exact P2 | exact P3 | exact P4 | exact P5 | exact P6 | exact P7 | exact P8 | exact P9 | exact P10 | exact P11 | exact P12 | exact P13 | exact P14 | exact P15 | exact P16 | exact P17 | exact P18 | exact P19 | exact P20 | exact P21 | exact P22 | exact P23)) | (apply Part.flat; simp only [List.cons_append, List.nil_append]) | (apply Part.cons; (first | exact P0 | exact P1 | exact P2 | exact P3 | exact P4 | exact P5 | exact P6 | exact P7 | exact P8 | exact P9 | exact P10 | exact P11 | exact P12 | exact P13 | exact P14 | exact P15 | exact P16 | exact P17 | exact P18 | exact P19 | exact P20 | exact P21 | exact P22 | exact P23)) | (apply Part.nilc))) ?_))
                        rw [bindO_esc] at hP
                        injection hP with hP
                        subst hP
                        exact ⟨ex, hhx, sgx, rfl, rfl, hMx, rfl⟩
                      rintro v post H' ⟨⟨x16, x17⟩, m46, rfl, rfl, hh46, sg46, hk46, hM, rfl⟩ hH
                      try simp only [List.cons_append, List.nil_append] at hH
                      subst hH
                      dsimp only [bindO] at hP
                      refine SPL_y (y_move rfl) rfl ?_
                      refine SPL_y (y_ext rfl rfl) rfl ?_
                      refine SPL_y (y_ext rfl rfl) rfl ?_
                      refine SPL_one rfl (SP1_storeAll Tryz.sizeOf42 rfl rfl rfl rfl rfl (by first | exact U0 | exact U1 | exact U2 | exact U3 | exact U4 | exact U5 | exact U6 | exact U7 | exact U8 | exact U9 | exact U10 | exact U11 | exact U12 | exact U13 | exact U14 | exact U15 | exact U16 | exact U17 | exact U18 | exact U19 | exact U20 | exact U21 | exact U22 | exact U23) (by rfl) ?_)
                      refine SPL_one rfl (SP1_storeAll Tryz.sizeOf42 rfl rfl rfl rfl rfl (by first | exact U0 | exact U1 | exact U2 | exact U3 | exact U4 | exact U5 | exact U6 | exact U7 | exact U8 | exact U9 | exact U10 | exact U11 | exact U12 | exact U13 | exact U14 | exact U15 | exact U16 | exact U17 | exact U18 | exact U19 | exact U20 | exact U21 | exact U22 | exact U23) (by rfl) ?_)
                      refine SPL_nil ?_
                      refine inBlockP_n ?_
                      refine thenP_n ?_
                      refine SP_seq ?_
                      unfold finM at hP
                      try unfold getT at hP
                      obtain ⟨t62, ht62, hP⟩ := bnd1 hP
                      obtain ⟨g62, oa62, oc62, hg62, _, hrow62, hst62, hfr62, _⟩ := hM.thr ht62
                      have hl62 : at_ ≤ t62.stack.length := Decidable.byContradiction fun q => by rw [if_neg q] at hP; cases hP
                      rw [if_pos hl62] at hP
                      have hsp62 : ∃ xs sg, Arr 42 3 g62.sa t62.stack.length g62.sc xs sg := by
                        obtain ⟨_, _, _, _, _, _, _, _, _, _, _, _, hss, _⟩ := hM.opnT ht62 hg62
                        exact ⟨_, _, hss⟩
                      obtain ⟨xs62, sx62, hsp62⟩ := hsp62
                      have hml62 := hsp62.mle
                      obtain ⟨pre62, post62, na62, nc62, sg62, hpre62, hup62, hM62⟩ := hM.cutS ht62 hg62 (j := at_) hl62
                      refine SP_region ?_
                      refine SPL_y (y_move rfl) rfl ?_
                      refine SPL_y (y_move rfl) rfl ?_
                      refine SPL_y (y_nil rfl) rfl ?_
                      refine SPL_y (y_fa fld_263_2 rfl) rfl ?_
                      refine SPL_y (y_load Tryz.isAgg90 rfl (by repeat (first | exact (hrow62 _ 2 _ rfl) | apply Cell.tail))) rfl ?_
                      refine SPL_y (y_move rfl) rfl ?_
                      refine SPL_y (y_cut hsp62 Tryz.underlying90 Tryz.sizeOf42 rfl rfl (by omega)) rfl ?_
                      rw [Int.toNat_natCast]
                      refine SPL_y (y_nil rfl) rfl ?_
                      refine SPL_y (y_fa fld_263_2 rfl) rfl ?_
                      refine SPL_one rfl (SP1_storeM (j := 2) (pre := pre62) (cs := trow t62 g62 na62 nc62) (post := post62) Tryz.sizeOf90 rfl rfl rfl hpre62 (by repeat (first | exact hup62 _ | apply Upd.tail)) (by rfl) ?_)
                      replace hM := hM62
                      refine SPL_nil ?_
                      refine thenP_n ?_
                      refine SP_seq ?_
                      refine SP_region ?_
                      refine SPL_y (y_move rfl) rfl ?_
                      refine SPL_y (y_loads Tryz.isAgg42 Tryz.sizeOf42 rfl rfl (by repeat (first | exact Cells.all _ | exact Cells.amid hpre rfl (by decide) | exact Cells.head rfl | apply Cells.tail))) rfl ?_
                      refine SPL_y (y_loads Tryz.isAgg42 Tryz.sizeOf42 rfl rfl (by repeat (first | exact Cells.all _ | exact Cells.amid hpre rfl (by decide) | exact Cells.head rfl | apply Cells.tail))) rfl ?_
                      refine SPL_one rfl (SP1_sliceN (l := ([x16, x17].flatMap valV)) el_90 rfl (by kernel_rfl) rfl rfl ?_)
                      intro b283
                      obtain ⟨m9, hq9, hP⟩ := bnd1 hP
                      refine SPL_one rfl (SP1_call (vm_push b ph _ _ hq9 _ hM) Tryz.call142 rfl rfl (by repeat (first | exact Part.nil _ | (apply Part.cons; with_reducible (first | exact P0 | exact P1 | exact P2 | exact P3 | exact P4 | exact P5 | exact P6 | exact P7 | exact P8 | exact P9 | exact P10 | exact P11 | exact P12 | exact P13 | exact P14 | exact P15 | exact P16 | exact P17 | exact P18 | exact P19 | exact P20 | exact P21 | exact P22 | exact P23)) | (apply Part.flat; simp only [List.cons_append, List.nil_append]) | (apply Part.cons; (first | exact P0 | exact P1 | exact P2 | exact P3 | exact P4 | exact P5 | exact P6 | exact P7 | exact P8 | exact P9 | exact P10 | exact P11 | exact P12 | exact P13 | exact P14 | exact P15 | exact P16 | exact P17 | exact P18 | exact P19 | exact P20 | exact P21 | exact P22 | exact P23)) | (apply Part.nilc))) ?_)
                      rintro v post H' ⟨rfl, hh9, sg9, hk9, hM, rfl⟩ hH
                      try simp only [List.cons_append, List.nil_append] at hH
                      subst hH
                      refine SPL_nil ?_
                      refine thenP_n ?_
                      refine SP_seq ?_
                      refine SP_region ?_
                      refine SPL_y (y_buildN (l := (evV ev0)) BN184 rfl rfl) rfl ?_
                      refine SPL_one rfl (SP1_storeAll Tryz.sizeOf184 rfl rfl rfl rfl rfl (by first | exact U0 | exact U1 | exact U2 | exact U3 | exact U4 | exact U5 | exact U6 | exact U7 | exact U8 | exact U9 | exact U10 | exact U11 | exact U12 | exact U13 | exact U14 | exact U15 | exact U16 | exact U17 | exact U18 | exact U19 | exact U20 | exact U21 | exact U22 | exact U23) (by rfl) ?_)
                      refine SPL_nil ?_
                      refine thenP_n ?_
                      refine SP_ret ?_
                      refine bodyP_ret (H' := [sg9]) (ResC rfl rfl Tryz.isAgg184 Tryz.sizeOf184 rfl (by repeat (first | exact Cells.all _ | exact Cells.amid hpre rfl (by decide) | exact Cells.head rfl | apply Cells.tail))) (by repeat (first | exact Part.nil _ | (apply Part.cons; with_reducible (first | exact P0 | exact P1 | exact P2 | exact P3 | exact P4 | exact P5 | exact P6 | exact P7 | exact P8 | exact P9 | exact P10 | exact P11 | exact P12 | exact P13 | exact P14 | exact P15 | exact P16 | exact P17 | exact P18 | exact P19 | exact P20 | exact P21 | exact P22 | exact P23)) | (apply Part.flat; simp only [List.cons_append, List.nil_append]) | (apply Part.cons; (first | exact P0 | exact P1 | exact P2 | exact P3 | exact P4 | exact P5 | exact P6 | exact P7 | exact P8 | exact P9 | exact P10 | exact P11 | exact P12 | exact P13 | exact P14 | exact P15 | exact P16 | exact P17 | exact P18 | exact P19 | exact P20 | exact P21 | exact P22 | exact P23)) | (apply Part.nilc))) ?_
                      injection hP with hP
                      subst hP
                      exact ⟨_, _, rfl, rfl, _, _, hM, rfl⟩
                  intro h47_0
                  first | rw [if_neg h47_0] at hP | rw [if_pos (Decidable.not_not.1 h47_0)] at hP | skip
                  as_aux_lemma =>
                    refine SPL_y (y_assign rfl) rfl ?_
                    refine SPL_nil ?_
                    refine thenP_n ?_
                    refine SP_cond_f rfl ?_
                    refine SP_seq ?_
                    refine SP_region ?_
                    refine SPL_if (y_eql rfl rfl) rfl ?_ ?_
                    · intro h49_0
                      first | rw [if_pos h49_0] at hP | rw [if_neg h49_0] at hP | skip
                      as_aux_lemma =>
                        refine SPL_y (y_assign rfl) rfl ?_
                        refine SPL_nil ?_
                        refine thenP_n ?_
                        refine SP_cond_t rfl ?_
                        refine SP_region ?_
                        refine SPL_y (y_move rfl) rfl ?_
                        refine SPL_y (y_move rfl) rfl ?_
                        obtain ⟨o46, hq46, hP⟩ := bndO hP
                        refine SPL_one rfl (SP1_callp (vm_bToNumber b ph hh1 hq46 _ hM hA3) Tryz.call284 rfl rfl (by repeat (first | exact Part.nil _ | (apply Part.cons; with_reducible (first | exact P0 | exact P1 | exact P2 | exact P3 | exact P4 | exact P5 | exact P6 | exact P7 | exact P8 | exact P9 | exact P10 | exact P11 | exact P12 | exact P13 | exact P14 | exact P15 | exact P16 | exact P17 | exact P18 | exact P19 | exact P20 | exact P21 | exact P22 | exact P23)) | (apply Part.flat; simp only [List.cons_append, List.nil_append]) | (apply Part.cons; (first | exact P0 | exact P1 | exact P2 | exact P3 | exact P4 | exact P5 | exact P6 | exact P7 | exact P8 | exact P9 | exact P10 | exact P11 | exact P12 | exact P13 | exact P14 | exact P15 | exact P16 | exact P17 | exact P18 | exact P19 | exact P20 | exact P21 | exact P22 | exact P23)) | (apply Part.nilc))) ?_ ?_)
                        · rintro c post H' ⟨ex, hhx, sgx, rfl, rfl, hkx, hMx, rfl⟩ hH
                          try simp only [List.cons_append, List.nil_append] at hH
                          subst hH
                          refine inBlockP_panic (thenP_panic (bodyP_panic (H' := [sgx, escS ex]) (by repeat (first | exact Part.nil _ | (apply Part.cons; with_reducible (first | exact P0 | exact P1 | exact P2 | exact P3 | exact P4 | exact P5 | exact P6 | exact P7 | exact P8 | exact P9 | exact P10 | exact P11 | exact P12 | exact P13 | exact P14 | exact P15 | exact P16 | exact P17 | exact P18 | exact P19 | exact P20 | exact P21 | exact P22 | exact P23)) | (apply Part.flat; simp only [List.cons_append, List.nil_append]) | (apply Part.cons; (first | exact P0 | exact P1 | exact P2 | exact P3 | exact P4 | exact P5 | exact P6 | exact P7 | exact P8 | exact P9 | exact P10 | exact P11 | exact P12 | exact P13 | exact P14 | exact P15 | exact P16 | exact P17 | exact P18 | exact P19 | exact P20 | exact P21 | exact P22 | exact P23)) | (apply Part.nilc))) ?_))
                          rw [bindO_esc] at hP
                          injection hP with hP
                          subst hP
                          exact ⟨ex, hhx, sgx, rfl, rfl, hMx, rfl⟩
                        rintro v post H' ⟨⟨x16, x17⟩, m46, rfl, rfl, hh46, sg46, hk46, hM, rfl⟩ hH
                        try simp only [List.cons_append, List.nil_append] at hH
                        subst hH
                        dsimp only [bindO] at hP
                        refine SPL_y (y_move rfl) rfl ?_
                        refine SPL_y (y_ext rfl rfl) rfl ?_
                        refine SPL_y (y_ext rfl rfl) rfl ?_
                        refine SPL_one rfl (SP1_storeAll Tryz.sizeOf42 rfl rfl rfl rfl rfl (by first | exact U0 | exact U1 | exact U2 | exact U3 | exact U4 | exact U5 | exact U6 | exact U7 | exact U8 | exact U9 | exact U10 | exact U11 | exact U12 | exact U13 | exact U14 | exact U15 | exact U16 | exact U17 | exact U18 | exact U19 | exact U20 | exact U21 | exact U22 | exact U23) (by rfl) ?_)
                        refine SPL_one rfl (SP1_storeAll Tryz.sizeOf42 rfl rfl rfl rfl rfl (by first | exact U0 | exact U1 | exact U2 | exact U3 | exact U4 | exact U5 | exact U6 | exact U7 | exact U8 | exact U9 | exact U10 | exact U11 | exact U12 | exact U13 | exact U14 | exact U15 | exact U16 | exact U17 | exact U18 | exact U19 | exact U20 | exact U21 | exact U22 | exact U23) (by rfl) ?_)
                        refine SPL_nil ?_
                        refine inBlockP_n ?_
                        refine thenP_n ?_
                        refine SP_seq ?_
                        unfold finM at hP
                        try unfold getT at hP
                        obtain ⟨t62, ht62, hP⟩ := bnd1 hP
                        obtain ⟨g62, oa62, oc62, hg62, _, hrow62, hst62, hfr62, _⟩ := hM.thr ht62
                        have hl62 : at_ ≤ t62.stack.length := Decidable.byContradiction fun q => by rw [if_neg q] at hP; cases hP
                        rw [if_pos hl62] at hP
                        have hsp62 : ∃ xs sg, Arr 42 3 g62.sa t62.stack.length g62.sc xs sg := by
                          obtain ⟨_, _, _, _, _, _, _, _, _, _, _, _, hss, _⟩ := hM.opnT ht62 hg62
                          exact ⟨_, _, hss⟩
                        obtain ⟨xs62, sx62, hsp62⟩ := hsp62
                        have hml62 := hsp62.mle
                        obtain ⟨pre62, post62, na62, nc62, sg62, hpre62, hup62, hM62⟩ := hM.cutS ht62 hg62 (j := at_) hl62
                        refine SP_region ?_
                        refine SPL_y (y_move rfl) rfl ?_
                        refine SPL_y (y_move rfl) rfl ?_
                        refine SPL_y (y_nil rfl) rfl ?_
                        refine SPL_y (y_fa fld_263_2 rfl) rfl ?_
                        refine SPL_y (y_load Tryz.isAgg90 rfl (by repeat (first | exact (hrow62 _ 2 _ rfl) | apply Cell.tail))) rfl ?_
                        refine SPL_y (y_move rfl) rfl ?_
                        refine SPL_y (y_cut hsp62 Tryz.underlying90 Tryz.sizeOf42 rfl rfl (by omega)) rfl ?_
                        rw [Int.toNat_natCast]
                        refine SPL_y (y_nil rfl) rfl ?_
                        refine SPL_y (y_fa fld_263_2 rfl) rfl ?_
                        refine SPL_one rfl (SP1_storeM (j := 2) (pre := pre62) (cs := trow t62 g62 na62 nc62) (post := post62) Tryz.sizeOf90 rfl rfl rfl hpre62 (by repeat (first | exact hup62 _ | apply Upd.tail)) (by rfl) ?_)
                        replace hM := hM62
                        refine SPL_nil ?_
                        refine thenP_n ?_
                        refine SP_seq ?_
                        refine SP_region ?_
                        refine SPL_y (y_move rfl) rfl ?_
                        refine SPL_y (y_loads Tryz.isAgg42 Tryz.sizeOf42 rfl rfl (by repeat (first | exact Cells.all _ | exact Cells.amid hpre rfl (by decide) | exact Cells.head rfl | apply Cells.tail))) rfl ?_
                        refine SPL_y (y_loads Tryz.isAgg42 Tryz.sizeOf42 rfl rfl (by repeat (first | exact Cells.all _ | exact Cells.amid hpre rfl (by decide) | exact Cells.head rfl | apply Cells.tail))) rfl ?_
                        refine SPL_one rfl (SP1_sliceN (l := ([x16, x17].flatMap valV)) el_90 rfl (by kernel_rfl) rfl rfl ?_)
                        intro b283
                        obtain ⟨m9, hq9, hP⟩ := bnd1 hP
                        refine SPL_one rfl (SP1_call (vm_push b ph _ _ hq9 _ hM) Tryz.call142 rfl rfl (by repeat (first | exact Part.nil _ | (apply Part.cons; with_reducible (first | exact P0 | exact P1 | exact P2 | exact P3 | exact P4 | exact P5 | exact P6 | exact P7 | exact P8 | exact P9 | exact P10 | exact P11 | exact P12 | exact P13 | exact P14 | exact P15 | exact P16 | exact P17 | exact P18 | exact P19 | exact P20 | exact P21 | exact P22 | exact P23)) | (apply Part.flat; simp only [List.cons_append, List.nil_append]) | (apply Part.cons; (first | exact P0 | exact P1 | exact P2 | exact P3 | exact P4 | exact P5 | exact P6 | exact P7 | exact P8 | exact P9 | exact P10 | exact P11 | exact P12 | exact P13 | exact P14 | exact P15 | exact P16 | exact P17 | exact P18 | exact P19 | exact P20 | exact P21 | exact P22 | exact P23)) | (apply Part.nilc))) ?_)
                        rintro v post H' ⟨rfl, hh9, sg9, hk9, hM, rfl⟩ hH
                        try simp only [List.cons_append, List.nil_append] at hH
                        subst hH
                        refine SPL_nil ?_
                        refine thenP_n ?_
                        refine SP_seq ?_
                        refine SP_region ?_
                        refine SPL_y (y_buildN (l := (evV ev0)) BN184 rfl rfl) rfl ?_
                        refine SPL_one rfl (SP1_storeAll Tryz.sizeOf184 rfl rfl rfl rfl rfl (by first | exact U0 | exact U1 | exact U2 | exact U3 | exact U4 | exact U5 | exact U6 | exact U7 | exact U8 | exact U9 | exact U10 | exact U11 | exact U12 | exact U13 | exact U14 | exact U15 | exact U16 | exact U17 | exact U18 | exact U19 | exact U20 | exact U21 | exact U22 | exact U23) (by rfl) ?_)
                        refine SPL_nil ?_
                        refine thenP_n ?_
                        refine SP_ret ?_
                        refine bodyP_ret (H' := [sg9]) (ResC rfl rfl Tryz.isAgg184 Tryz.sizeOf184 rfl (by repeat (first | exact Cells.all _ | exact Cells.amid hpre rfl (by decide) | exact Cells.head rfl | apply Cells.tail))) (by repeat (first | exact Part.nil _ | (apply Part.cons; with_reducible (first | exact P0 | exact P1 | exact P2 | exact P3 | exact P4 | exact P5 | exact P6 | exact P7 | exact P8 | exact P9 | exact P10 | exact P11 | exact P12 | exact P13 | exact P14 | exact P15 | exact P16 | exact P17 | exact P18 | exact P19 | exact P20 | exact P21 | exact P22 | exact P23)) | (apply Part.flat; simp only [List.cons_append, List.nil_append]) | (apply Part.cons; (first | exact P0 | exact P1 | exact P2 | exact P3 | exact P4 | exact P5 | exact P6 | exact P7 | exact P8 | exact P9 | exact P10 | exact P11 | exact P12 | exact P13 | exact P14 | exact P15 | exact P16 | exact P17 | exact P18 | exact P19 | exact P20 | exact P21 | exact P22 | exact P23)) | (apply Part.nilc))) ?_
                        injection hP with hP
                        subst hP
                        exact ⟨_, _, rfl, rfl, _, _, hM, rfl⟩
                    intro h49_0
                    first | rw [if_neg h49_0] at hP | rw [if_pos (Decidable.not_not.1 h49_0)] at hP | skip
                    as_aux_lemma =>
                      refine SPL_y (y_assign rfl) rfl ?_
                      refine SPL_nil ?_
                      refine thenP_n ?_
                      refine SP_cond_f rfl ?_
                      refine SP_seq ?_
                      refine SP_region ?_
                      refine SPL_if (y_eql rfl rfl) rfl ?_ ?_
                      · intro h51_0
                        first | rw [if_pos h51_0] at hP | rw [if_neg h51_0] at hP | skip
                        as_aux_lemma =>
                          refine SPL_y (y_assign rfl) rfl ?_
                          refine SPL_nil ?_
                          refine thenP_n ?_
                          refine SP_cond_t rfl ?_
                          refine SP_seq ?_
                          refine SP_region ?_
                          refine SPL_y (y_assign rfl) rfl ?_
                          refine SPL_nil ?_
                          refine thenP_n ?_
                          refine SP_region ?_
                          refine SPL_y (y_move rfl) rfl ?_
                          refine SPL_y (y_move rfl) rfl ?_
                          refine SPL_y (y_move rfl) rfl ?_
                          obtain ⟨o46, hq46, hP⟩ := bndO hP
                          refine SPL_one rfl (SP1_callv (f := 285) (first := []) (cap := []) (args := [pt b.vb, .pointer (some ⟨wq, wo, none⟩)]) rfl (vm_bTypeR b ph hh1 hq46 _ hM hA3) Tryz.call285 rfl rfl (by repeat (first | exact Part.nil _ | (apply Part.cons; with_reducible (first | exact P0 | exact P1 | exact P2 | exact P3 | exact P4 | exact P5 | exact P6 | exact P7 | exact P8 | exact P9 | exact P10 | exact P11 | exact P12 | exact P13 | exact P14 | exact P15 | exact P16 | exact P17 | exact P18 | exact P19 | exact P20 | exact P21 | exact P22 | exact P23)) | (apply Part.flat; simp only [List.cons_append, List.nil_append]) | (apply Part.cons; (first | exact P0 | exact P1 | exact P2 | exact P3 | exact P4 | exact P5 | exact P6 | exact P7 | exact P8 | exact P9 | exact P10 | exact P11 | exact P12 | exact P13 | exact P14 | exact P15 | exact P16 | exact P17 | exact P18 | exact P19 | exact P20 | exact P21 | exact P22 | exact P23)) | (apply Part.nilc))) ?_)
                          rintro v post H' ⟨⟨x16, x17⟩, m46, rfl, rfl, hh46, sg46, hk46, hM, rfl⟩ hH
                          try simp only [List.cons_append, List.nil_append] at hH
                          subst hH
                          dsimp only [bindO] at hP
                          refine SPL_y (y_move rfl) rfl ?_
                          refine SPL_y (y_ext rfl rfl) rfl ?_
                          refine SPL_y (y_ext rfl rfl) rfl ?_
                          refine SPL_one rfl (SP1_storeAll Tryz.sizeOf42 rfl rfl rfl rfl rfl (by first | exact U0 | exact U1 | exact U2 | exact U3 | exact U4 | exact U5 | exact U6 | exact U7 | exact U8 | exact U9 | exact U10 | exact U11 | exact U12 | exact U13 | exact U14 | exact U15 | exact U16 | exact U17 | exact U18 | exact U19 | exact U20 | exact U21 | exact U22 | exact U23) (by rfl) ?_)
                          refine SPL_one rfl (SP1_storeAll Tryz.sizeOf42 rfl rfl rfl rfl rfl (by first | exact U0 | exact U1 | exact U2 | exact U3 | exact U4 | exact U5 | exact U6 | exact U7 | exact U8 | exact U9 | exact U10 | exact U11 | exact U12 | exact U13 | exact U14 | exact U15 | exact U16 | exact U17 | exact U18 | exact U19 | exact U20 | exact U21 | exact U22 | exact U23) (by rfl) ?_)
                          refine SPL_nil ?_
                          refine inBlockP_n ?_
                          refine thenP_n ?_
                          refine SP_seq ?_
                          unfold finM at hP
                          try unfold getT at hP
                          obtain ⟨t62, ht62, hP⟩ := bnd1 hP
                          obtain ⟨g62, oa62, oc62, hg62, _, hrow62, hst62, hfr62, _⟩ := hM.thr ht62
                          have hl62 : at_ ≤ t62.stack.length := Decidable.byContradiction fun q => by rw [if_neg q] at hP; cases hP
                          rw [if_pos hl62] at hP
                          have hsp62 : ∃ xs sg, Arr 42 3 g62.sa t62.stack.length g62.sc xs sg := by
                            obtain ⟨_, _, _, _, _, _, _, _, _, _, _, _, hss, _⟩ := hM.opnT ht62 hg62
                            exact ⟨_, _, hss⟩
                          obtain ⟨xs62, sx62, hsp62⟩ := hsp62
                          have hml62 := hsp62.mle
                          obtain ⟨pre62, post62, na62, nc62, sg62, hpre62, hup62, hM62⟩ := hM.cutS ht62 hg62 (j := at_) hl62
                          refine SP_region ?_
                          refine SPL_y (y_move rfl) rfl ?_
                          refine SPL_y (y_move rfl) rfl ?_
                          refine SPL_y (y_nil rfl) rfl ?_
                          refine SPL_y (y_fa fld_263_2 rfl) rfl ?_
                          refine SPL_y (y_load Tryz.isAgg90 rfl (by repeat (first | exact (hrow62 _ 2 _ rfl) | apply Cell.tail))) rfl ?_
                          refine SPL_y (y_move rfl) rfl ?_
                          refine SPL_y (y_cut hsp62 Tryz.underlying90 Tryz.sizeOf42 rfl rfl (by omega)) rfl ?_
                          rw [Int.toNat_natCast]
                          refine SPL_y (y_nil rfl) rfl ?_
                          refine SPL_y (y_fa fld_263_2 rfl) rfl ?_
                          refine SPL_one rfl (SP1_storeM (j := 2) (pre := pre62) (cs := trow t62 g62 na62 nc62) (post := post62) Tryz.sizeOf90 rfl rfl rfl hpre62 (by repeat (first | exact hup62 _ | apply Upd.tail)) (by rfl) ?_)
                          replace hM := hM62
                          refine SPL_nil ?_
                          refine thenP_n ?_
                          refine SP_seq ?_
                          refine SP_region ?_
                          refine SPL_y (y_move rfl) rfl ?_
                          refine SPL_y (y_loads Tryz.isAgg42 Tryz.sizeOf42 rfl rfl (by repeat (first | exact Cells.all _ | exact Cells.amid hpre rfl (by decide) | exact Cells.head rfl | apply Cells.tail))) rfl ?_
                          refine SPL_y (y_loads Tryz.isAgg42 Tryz.sizeOf42 rfl rfl (by repeat (first | exact Cells.all _ | exact Cells.amid hpre rfl (by decide) | exact Cells.head rfl | apply Cells.tail))) rfl ?_
                          refine SPL_one rfl (SP1_sliceN (l := ([x16, x17].flatMap valV)) el_90 rfl (by kernel_rfl) rfl rfl ?_)
                          intro b283
                          obtain ⟨m9, hq9, hP⟩ := bnd1 hP
                          refine SPL_one rfl (SP1_call (vm_push b ph _ _ hq9 _ hM) Tryz.call142 rfl rfl (by repeat (first | exact Part.nil _ | (apply Part.cons; with_reducible (first | exact P0 | exact P1 | exact P2 | exact P3 | exact P4 | exact P5 | exact P6 | exact P7 | exact P8 | exact P9 | exact P10 | exact P11 | exact P12 | exact P13 | exact P14 | exact P15 | exact P16 | exact P17 | exact P18 | exact P19 | exact P20 | exact P21 | exact P22 | exact P23)) | (apply Part.flat; simp only [List.cons_append, List.nil_append]) | (apply Part.cons; (first | exact P0 | exact P1 | exact P2 | exact P3 | exact P4 | exact P5 | exact P6 | exact P7 | exact P8 | exact P9 | exact P10 | exact P11 | exact P12 | exact P13 | exact P14 | exact P15 | exact P16 | exact P17 | exact P18 | exact P19 | exact P20 | exact P21 | exact P22 | exact P23)) | (apply Part.nilc))) ?_)
                          rintro v post H' ⟨rfl, hh9, sg9, hk9, hM, rfl⟩ hH
                          try simp only [List.cons_append, List.nil_append] at hH
                          subst hH
                          refine SPL_nil ?_
                          refine thenP_n ?_
                          refine SP_seq ?_
                          refine SP_region ?_
                          refine SPL_y (y_buildN (l := (evV ev0)) BN184 rfl rfl) rfl ?_
                          refine SPL_one rfl (SP1_storeAll Tryz.sizeOf184 rfl rfl rfl rfl rfl (by first | exact U0 | exact U1 | exact U2 | exact U3 | exact U4 | exact U5 | exact U6 | exact U7 | exact U8 | exact U9 | exact U10 | exact U11 | exact U12 | exact U13 | exact U14 | exact U15 | exact U16 | exact U17 | exact U18 | exact U19 | exact U20 | exact U21 | exact U22 | exact U23) (by rfl) ?_)
                          refine SPL_nil ?_
                          refine thenP_n ?_
                          refine SP_ret ?_
                          refine bodyP_ret (H' := [sg9]) (ResC rfl rfl Tryz.isAgg184 Tryz.sizeOf184 rfl (by repeat (first | exact Cells.all _ | exact Cells.amid hpre rfl (by decide) | exact Cells.head rfl | apply Cells.tail))) (by repeat (first | exact Part.nil _ | (apply Part.cons; with_reducible (first | exact P0 | exact P1 | exact P2 | exact P3 | exact P4 | exact P5 | exact P6 | exact P7 | exact P8 | exact P9 | exact P10 | exact P11 | exact P12 | exact P13 | exact P14 | exact P15 | exact P16 | exact P17 | exact P18 | exact P19 | exact P20 | exact P21 | exact P22 | exact P23)) | (apply Part.flat; simp only [List.cons_append, List.nil_append]) | (apply Part.cons; (first | exact P0 | exact P1 | exact P2 | exact P3 | exact P4 | exact P5 | exact P6 | exact P7 | exact P8 | exact P9 | exact P10 | exact P11 | exact P12 | exact P13 | exact P14 | exact P15 | exact P16 | exact P17 | exact P18 | exact P19 | exact P20 | exact P21 | exact P22 | exact P23)) | (apply Part.nilc))) ?_
                          injection hP with hP
                          subst hP
                          exact ⟨_, _, rfl, rfl, _, _, hM, rfl⟩
                      intro h51_0
                      first | rw [if_neg h51_0] at hP | rw [if_pos (Decidable.not_not.1 h51_0)] at hP | skip
                      as_aux_lemma =>
                        refine SPL_y (y_assign rfl) rfl ?_
                        refine SPL_nil ?_
                        refine thenP_n ?_
                        refine SP_cond_f rfl ?_
                        refine SP_seq ?_
                        refine SP_region ?_
                        refine SPL_if (y_eql rfl rfl) rfl ?_ ?_
                        · intro h54_0
                          first | rw [if_pos h54_0] at hP | rw [if_neg h54_0] at hP | skip
                          as_aux_lemma =>
                            refine SPL_y (y_assign rfl) rfl ?_
                            refine SPL_nil ?_
                            refine thenP_n ?_
                            refine SP_cond_t rfl ?_
                            refine SP_region ?_
                            refine SPL_y (y_move rfl) rfl ?_
                            refine SPL_y (y_move rfl) rfl ?_
                            obtain ⟨o46, hq46, hP⟩ := bndO hP
                            refine SPL_one rfl (SP1_callp (vm_bError b ph hh1 hq46 _ hM hA3) Tryz.call286 rfl rfl (by repeat (first | exact Part.nil _ | (apply Part.cons; with_reducible (first | exact P0 | exact P1 | exact P2 | exact P3 | exact P4 | exact P5 | exact P6 | exact P7 | exact P8 | exact P9 | exact P10 | exact P11 | exact P12 | exact P13 | exact P14 | exact P15 | exact P16 | exact P17 | exact P18 | exact P19 | exact P20 | exact P21 | exact P22 | exact P23)) | (apply Part.flat; simp only [List.cons_append, List.nil_append]) | (apply Part.cons; (first | exact P0 | exact P1 | exact P2 | exact P3 | exact P4 | exact P5 | exact P6 | exact P7 | exact P8 | exact P9 | exact P10 | exact P11 | exact P12 | exact P13 | exact P14 | exact P15 | exact P16 | exact P17 | exact P18 | exact P19 | exact P20 | exact P21 | exact P22 | exact P23)) | (apply Part.nilc))) ?_ ?_)
                            · rintro c post H' ⟨ex, hhx, sgx, rfl, rfl, hkx, hMx, rfl⟩ hH
                              try simp only [List.cons_append, List.nil_append] at hH
                              subst hH
                              refine inBlockP_panic (thenP_panic (bodyP_panic (H' := [sgx, escS ex]) (by repeat (first | exact Part.nil _ | (apply Part.cons; with_reducible (first | exact P0 | exact P1 | exact P2 | exact P3 | exact P4 | exact P5 | exact P6 | exact P7 | exact P8 | exact P9 | exact P10 | exact P11 | exact P12 | exact P13 | exact P14 | exact P15 | exact P16 | exact P17 | exact P18 | exact P19 | exact P20 | exact P21 | exact P22 | exact P23)) | (apply Part.flat; simp only [List.cons_append, List.nil_append]) | (apply Part.cons; (first | exact P0 | exact P1 | exact P2 | exact P3 | exact P4 | exact P5 | exact P6 | exact P7 | exact P8 | exact P9 | exact P10 | exact P11 | exact P12 | exact P13 | exact P14 | exact P15 | exact P16 | exact P17 | exact P18 | exact P19 | exact P20 | exact P21 | exact P22 | exact P23)) | (apply Part.nilc))) ?_))
                              rw [bindO_esc] at hP
                              injection hP with hP
                              subst hP
                              exact ⟨ex, hhx, sgx, rfl, rfl, hMx, rfl⟩
                            rintro v post H' ⟨⟨x16, x17⟩, m46, rfl, rfl, hh46, sg46, hk46, hM, rfl⟩ hH
                            try simp only [List.cons_append, List.nil_append] at hH
                            subst hH
                            dsimp only [bindO] at hP
                            refine SPL_y (y_move rfl) rfl ?_
                            refine SPL_y (y_ext rfl rfl) rfl ?_
                            refine SPL_y (y_ext rfl rfl) rfl ?_
                            refine SPL_one rfl (SP1_storeAll Tryz.sizeOf42 rfl rfl rfl rfl rfl (by first | exact U0 | exact U1 | exact U2 | exact U3 | exact U4 | exact U5 | exact U6 | exact U7 | exact U8 | exact U9 | exact U10 | exact U11 | exact U12 | exact U13 | exact U14 | exact U15 | exact U16 | exact U17 | exact U18 | exact U19 | exact U20 | exact U21 | exact U22 | exact U23) (by rfl) ?_)
                            refine SPL_one rfl (SP1_storeAll Tryz.sizeOf42 rfl rfl rfl rfl rfl (by first | exact U0 | exact U1 | exact U2 | exact U3 | exact U4 | exact U5 | exact U6 | exact U7 | exact U8 | exact U9 | exact U10 | exact U11 | exact U12 | exact U13 | exact U14 | exact U15 | exact U16 | exact U17 | exact U18 | exact U19 | exact U20 | exact U21 | exact U22 | exact U23) (by rfl) ?_)
                            refine SPL_nil ?_
                            refine inBlockP_n ?_
                            refine thenP_n ?_
                            refine SP_seq ?_
                            unfold finM at hP
                            try unfold getT at hP
                            obtain ⟨t62, ht62, hP⟩ := bnd1 hP
                            obtain ⟨g62, oa62, oc62, hg62, _, hrow62, hst62, hfr62, _⟩ := hM.thr ht62
                            have hl62 : at_ ≤ t62.stack.length := Decidable.byContradiction fun q => by rw [if_neg q] at hP; cases hP
                            rw [if_pos hl62] at hP
                            have hsp62 : ∃ xs sg, Arr 42 3 g62.sa t62.stack.length g62.sc xs sg := by
                              obtain ⟨_, _, _, _, _, _, _, _, _, _, _, _, hss, _⟩ := hM.opnT ht62 hg62
                              exact ⟨_, _, hss⟩
                            obtain ⟨xs62, sx62, hsp62⟩ := hsp62
                            have hml62 := hsp62.mle
                            obtain ⟨pre62, post62, na62, nc62, sg62, hpre62, hup62, hM62⟩ := hM.cutS ht62 hg62 (j := at_) hl62
                            refine SP_region ?_
                            refine SPL_y (y_move rfl) rfl ?_
                            refine SPL_y (y_move rfl) rfl ?_
                            refine SPL_y (y_nil rfl) rfl ?_
                            refine SPL_y (y_fa fld_263_2 rfl) rfl ?_
                            refine SPL_y (y_load Tryz.isAgg90 rfl (by repeat (first | exact (hrow62 _ 2 _ rfl) | apply Cell.tail))) rfl ?_
                            refine SPL_y (y_move rfl) rfl ?_
                            refine SPL_y (y_cut hsp62 Tryz.underlying90 Tryz.sizeOf42 rfl rfl (by omega)) rfl ?_
                            rw [Int.toNat_natCast]
                            refine SPL_y (y_nil rfl) rfl ?_
                            refine SPL_y (y_fa fld_263_2 rfl) rfl ?_
                            refine SPL_one rfl (SP1_storeM (j := 2) (pre := pre62) (cs := trow t62 g62 na62 nc62) (post := post62) Tryz.sizeOf90 rfl rfl rfl hpre62 (by repeat (first | exact hup62 _ | apply Upd.tail)) (by rfl) ?_)
                            replace hM := hM62
                            refine SPL_nil ?_
                            refine thenP_n ?_
                            refine SP_seq ?_
                            refine SP_region ?_
                            refine SPL_y (y_move rfl) rfl ?_
                            refine SPL_y (y_loads Tryz.isAgg42 Tryz.sizeOf42 rfl rfl (by repeat (first | exact Cells.all _ | exact Cells.amid hpre rfl (by decide) | exact Cells.head rfl | apply Cells.tail))) rfl ?_
                            refine SPL_y (y_loads Tryz.isAgg42 Tryz.sizeOf42 rfl rfl (by repeat (first | exact Cells.all _ | exact Cells.amid hpre rfl (by decide) | exact Cells.head rfl | apply Cells.tail))) rfl ?_
                            refine SPL_one rfl (SP1_sliceN (l := ([x16, x17].flatMap valV)) el_90 rfl (by kernel_rfl) rfl rfl ?_)
                            intro b283
                            obtain ⟨m9, hq9, hP⟩ := bnd1 hP
                            refine SPL_one rfl (SP1_call (vm_push b ph _ _ hq9 _ hM) Tryz.call142 rfl rfl (by repeat (first | exact Part.nil _ | (apply Part.cons; with_reducible (first | exact P0 | exact P1 | exact P2 | exact P3 | exact P4 | exact P5 | exact P6 | exact P7 | exact P8 | exact P9 | exact P10 | exact P11 | exact P12 | exact P13 | exact P14 | exact P15 | exact P16 | exact P17 | exact P18 | exact P19 | exact P20 | exact P21 | exact P22 | exact P23)) | (apply Part.flat; simp only [List.cons_append, List.nil_append]) | (apply Part.cons; (first | exact P0 | exact P1 | exact P2 | exact P3 | exact P4 | exact P5 | exact P6 | exact P7 | exact P8 | exact P9 | exact P10 | exact P11 | exact P12 | exact P13 | exact P14 | exact P15 | exact P16 | exact P17 | exact P18 | exact P19 | exact P20 | exact P21 | exact P22 | exact P23)) | (apply Part.nilc))) ?_)
                            rintro v post H' ⟨rfl, hh9, sg9, hk9, hM, rfl⟩ hH
                            try simp only [List.cons_append, List.nil_append] at hH
                            subst hH
                            refine SPL_nil ?_
                            refine thenP_n ?_
                            refine SP_seq ?_
                            refine SP_region ?_
                            refine SPL_y (y_buildN (l := (evV ev0)) BN184 rfl rfl) rfl ?_
                            refine SPL_one rfl (SP1_storeAll Tryz.sizeOf184 rfl rfl rfl rfl rfl (by first | exact U0 | exact U1 | exact U2 | exact U3 | exact U4 | exact U5 | exact U6 | exact U7 | exact U8 | exact U9 | exact U10 | exact U11 | exact U12 | exact U13 | exact U14 | exact U15 | exact U16 | exact U17 | exact U18 | exact U19 | exact U20 | exact U21 | exact U22 | exact U23) (by rfl) ?_)
                            refine SPL_nil ?_
                            refine thenP_n ?_
                            refine SP_ret ?_
                            refine bodyP_ret (H' := [sg9]) (ResC rfl rfl Tryz.isAgg184 Tryz.sizeOf184 rfl (by repeat (first | exact Cells.all _ | exact Cells.amid hpre rfl (by decide) | exact Cells.head rfl | apply Cells.tail))) (by repeat (first | exact Part.nil _ | (apply Part.cons; with_reducible (first | exact P0 | exact P1 | exact P2 | exact P3 | exact P4 | exact P5 | exact P6 | exact P7 | exact P8 | exact P9 | exact P10 | exact P11 | exact P12 | exact P13 | exact P14 | exact P15 | exact P16 | exact P17 | exact P18 | exact P19 | exact P20 | exact P21 | exact P22 | exact P23)) | (apply Part.flat; simp only [List.cons_append, List.nil_append]) | (apply Part.cons; (first | exact P0 | exact P1 | exact P2 | exact P3 | exact P4 | exact P5 | exact P6 | exact P7 | exact P8 | exact P9 | exact P10 | exact P11 | exact P12 | exact P13 | exact P14 | exact P15 | exact P16 | exact P17 | exact P18 | exact P19 | exact P20 | exact P21 | exact P22 | exact P23)) | (apply Part.nilc))) ?_
                            injection hP with hP
                            subst hP
                            exact ⟨_, _, rfl, rfl, _, _, hM, rfl⟩
                        intro h54_0
                        first | rw [if_neg h54_0] at hP | rw [if_pos (Decidable.not_not.1 h54_0)] at hP | skip
                        as_aux_lemma =>
                          refine SPL_y (y_assign rfl) rfl ?_
                          refine SPL_nil ?_
                          refine thenP_n ?_
                          refine SP_cond_f rfl ?_
                          refine SP_seq ?_
                          refine SP_region ?_
                          refine SPL_if (y_eql rfl rfl) rfl ?_ ?_
                          · intro h56_0
                            first | rw [if_pos h56_0] at hP | rw [if_neg h56_0] at hP | skip
                            as_aux_lemma =>
                              refine SPL_y (y_assign rfl) rfl ?_
                              refine SPL_nil ?_
                              refine thenP_n ?_
                              refine SP_cond_t rfl ?_
                              refine SP_region ?_
                              refine SPL_y (y_move rfl) rfl ?_
                              refine SPL_y (y_move rfl) rfl ?_
                              obtain ⟨o46, hq46, hP⟩ := bndO hP
                              refine SPL_one rfl (SP1_callp (vm_bNext hN b ph hh1 hq46 _ hM hA3) Tryz.call287 rfl rfl (by repeat (first | exact Part.nil _ | (apply Part.cons; with_reducible (first | exact P0 | exact P1 | exact P2 | exact P3 | exact P4 | exact P5 | exact P6 | exact P7 | exact P8 | exact P9 | exact P10 | exact P11 | exact P12 | exact P13 | exact P14 | exact P15 | exact P16 | exact P17 | exact P18 | exact P19 | exact P20 | exact P21 | exact P22 | exact P23)) | (apply Part.flat; simp only [List.cons_append, List.nil_append]) | (apply Part.cons; (first | exact P0 | exact P1 | exact P2 | exact P3 | exact P4 | exact P5 | exact P6 | exact P7 | exact P8 | exact P9 | exact P10 | exact P11 | exact P12 | exact P13 | exact P14 | exact P15 | exact P16 | exact P17 | exact P18 | exact P19 | exact P20 | exact P21 | exact P22 | exact P23)) | (apply Part.nilc))) ?_ ?_)
                              · rintro c post H' ⟨ex, hhx, sgx, rfl, rfl, hkx, hMx, rfl⟩ hH
                                try simp only [List.cons_append, List.nil_append] at hH
                                subst hH
                                refine inBlockP_panic (thenP_panic (bodyP_panic (H' := [sgx, escS ex]) (by repeat (first | exact Part.nil _ | (apply Part.cons; with_reducible (first | exact P0 | exact P1 | exact P2 | exact P3 | exact P4 | exact P5 | exact P6 | exact P7 | exact P8 | exact P9 | exact P10 | exact P11 | exact P12 | exact P13 | exact P14 | exact P15 | exact P16 | exact P17 | exact P18 | exact P19 | exact P20 | exact P21 | exact P22 | exact P23)) | (apply Part.flat; simp only [List.cons_append, List.nil_append]) | (apply Part.cons; (first | exact P0 | exact P1 | exact P2 | exact P3 | exact P4 | exact P5 | exact P6 | exact P7 | exact P8 | exact P9 | exact P10 | exact P11 | exact P12 | exact P13 | exact P14 | exact P15 | exact P16 | exact P17 | exact P18 | exact P19 | exact P20 | exact P21 | exact P22 | exact P23)) | (apply Part.nilc))) ?_))
                                rw [bindO_esc] at hP
                                injection hP with hP
                                subst hP
                                exact ⟨ex, hhx, sgx, rfl, rfl, hMx, rfl⟩
                              rintro v post H' ⟨⟨x16, x17⟩, m46, rfl, rfl, hh46, sg46, hk46, hM, rfl⟩ hH
                              try simp only [List.cons_append, List.nil_append] at hH
                              subst hH
                              dsimp only [bindO] at hP
                              refine SPL_y (y_move rfl) rfl ?_
                              refine SPL_y (y_ext rfl rfl) rfl ?_
                              refine SPL_y (y_ext rfl rfl) rfl ?_
                              refine SPL_one rfl (SP1_storeAll Tryz.sizeOf42 rfl rfl rfl rfl rfl (by first | exact U0 | exact U1 | exact U2 | exact U3 | exact U4 | exact U5 | exact U6 | exact U7 | exact U8 | exact U9 | exact U10 | exact U11 | exact U12 | exact U13 | exact U14 | exact U15 | exact U16 | exact U17 | exact U18 | exact U19 | exact U20 | exact U21 | exact U22 | exact U23) (by rfl) ?_)
                              refine SPL_one rfl (SP1_storeAll Tryz.sizeOf42 rfl rfl rfl rfl rfl (by first | exact U0 | exact U1 | exact U2 | exact U3 | exact U4 | exact U5 | exact U6 | exact U7 | exact U8 | exact U9 | exact U10 | exact U11 | exact U12 | exact U13 | exact U14 | exact U15 | exact U16 | exact U17 | exact U18 | exact U19 | exact U20 | exact U21 | exact U22 | exact U23) (by rfl) ?_)
                              refine SPL_nil ?_
                              refine inBlockP_n ?_
                              refine thenP_n ?_
                              refine SP_seq ?_
                              unfold finM at hP
                              try unfold getT at hP
                              obtain ⟨t62, ht62, hP⟩ := bnd1 hP
                              obtain ⟨g62, oa62, oc62, hg62, _, hrow62, hst62, hfr62, _⟩ := hM.thr ht62
                              have hl62 : at_ ≤ t62.stack.length := Decidable.byContradiction fun q => by rw [if_neg q] at hP; cases hP
                              rw [if_pos hl62] at hP
                              have hsp62 : ∃ xs sg, Arr 42 3 g62.sa t62.stack.length g62.sc xs sg := by
                                obtain ⟨_, _, _, _, _, _, _, _, _, _, _, _, hss, _⟩ := hM.opnT ht62 hg62
                                exact ⟨_, _, hss⟩
                              obtain ⟨xs62, sx62, hsp62⟩ := hsp62
                              have hml62 := hsp62.mle
                              obtain ⟨pre62, post62, na62, nc62, sg62, hpre62, hup62, hM62⟩ := hM.cutS ht62 hg62 (j := at_) hl62
                              refine SP_region ?_
                              refine SPL_y (y_move rfl) rfl ?_
                              refine SPL_y (y_move rfl) rfl ?_
                              refine SPL_y (y_nil rfl) rfl ?_
                              refine SPL_y (y_fa fld_263_2 rfl) rfl ?_
                              refine SPL_y (y_load Tryz.isAgg90 rfl (by repeat (first | exact (hrow62 _ 2 _ rfl) | apply Cell.tail))) rfl ?_
                              refine SPL_y (y_move rfl) rfl ?_
                              refine SPL_y (y_cut hsp62 Tryz.underlying90 Tryz.sizeOf42 rfl rfl (by omega)) rfl ?_
                              rw [Int.toNat_natCast]
                              refine SPL_y (y_nil rfl) rfl ?_
                              refine SPL_y (y_fa fld_263_2 rfl) rfl ?_
                              refine SPL_one rfl (SP1_storeM (j := 2) (pre := pre62) (cs := trow t62 g62 na62 nc62) (post := post62) Tryz.sizeOf90 rfl rfl rfl hpre62 (by repeat (first | exact hup62 _ | apply Upd.tail)) (by rfl) ?_)
                              replace hM := hM62
                              refine SPL_nil ?_
                              refine thenP_n ?_
                              refine SP_seq ?_
                              refine SP_region ?_
                              refine SPL_y (y_move rfl) rfl ?_
                              refine SPL_y (y_loads Tryz.isAgg42 Tryz.sizeOf42 rfl rfl (by repeat (first | exact Cells.all _ | exact Cells.amid hpre rfl (by decide) | exact Cells.head rfl | apply Cells.tail))) rfl ?_
                              refine SPL_y (y_loads Tryz.isAgg42 Tryz.sizeOf42 rfl rfl (by repeat (first | exact Cells.all _ | exact Cells.amid hpre rfl (by decide) | exact Cells.head rfl | apply Cells.tail))) rfl ?_
                              refine SPL_one rfl (SP1_sliceN (l := ([x16, x17].flatMap valV)) el_90 rfl (by kernel_rfl) rfl rfl ?_)
                              intro b283
                              obtain ⟨m9, hq9, hP⟩ := bnd1 hP
                              refine SPL_one rfl (SP1_call (vm_push b ph _ _ hq9 _ hM) Tryz.call142 rfl rfl (by repeat (first | exact Part.nil _ | (apply Part.cons; with_reducible (first | exact P0 | exact P1 | exact P2 | exact P3 | exact P4 | exact P5 | exact P6 | exact P7 | exact P8 | exact P9 | exact P10 | exact P11 | exact P12 | exact P13 | exact P14 | exact P15 | exact P16 | exact P17 | exact P18 | exact P19 | exact P20 | exact P21 | exact P22 | exact P23)) | (apply Part.flat; simp only [List.cons_append, List.nil_append]) | (apply Part.cons; (first | exact P0 | exact P1 | exact P2 | exact P3 | exact P4 | exact P5 | exact P6 | exact P7 | exact P8 | exact P9 | exact P10 | exact P11 | exact P12 | exact P13 | exact P14 | exact P15 | exact P16 | exact P17 | exact P18 | exact P19 | exact P20 | exact P21 | exact P22 | exact P23)) | (apply Part.nilc))) ?_)
                              rintro v post H' ⟨rfl, hh9, sg9, hk9, hM, rfl⟩ hH
                              try simp only [List.cons_append, List.nil_append] at hH
                              subst hH
                              refine SPL_nil ?_
                              refine thenP_n ?_
                              refine SP_seq ?_
                              refine SP_region ?_
                              refine SPL_y (y_buildN (l := (evV ev0)) BN184 rfl rfl) rfl ?_
                              refine SPL_one rfl (SP1_storeAll Tryz.sizeOf184 rfl rfl rfl rfl rfl (by first | exact U0 | exact U1 | exact U2 | exact U3 | exact U4 | exact U5 | exact U6 | exact U7 | exact U8 | exact U9 | exact U10 | exact U11 | exact U12 | exact U13 | exact U14 | exact U15 | exact U16 | exact U17 | exact U18 | exact U19 | exact U20 | exact U21 | exact U22 | exact U23) (by rfl) ?_)
                              refine SPL_nil ?_
                              refine thenP_n ?_
                              refine SP_ret ?_
                              refine bodyP_ret (H' := [sg9]) (ResC rfl rfl Tryz.isAgg184 Tryz.sizeOf184 rfl (by repeat (first | exact Cells.all _ | exact Cells.amid hpre rfl (by decide) | exact Cells.head rfl | apply Cells.tail))) (by repeat (first | exact Part.nil _ | (apply Part.cons; with_reducible (first | exact P0 | exact P1 | exact P2 | exact P3 | exact P4 | exact P5 | exact P6 | exact P7 | exact P8 | exact P9 | exact P10 | exact P11 | exact P12 | exact P13 | exact P14 | exact P15 | exact P16 | exact P17 | exact P18 | exact P19 | exact P20 | exact P21 | exact P22 | exact P23)) | (apply Part.flat; simp only [List.cons_append, List.nil_append]) | (apply Part.cons; (first | exact P0 | exact P1 | exact P2 | exact P3 | exact P4 | exact P5 | exact P6 | exact P7 | exact P8 | exact P9 | exact P10 | exact P11 | exact P12 | exact P13 | exact P14 | exact P15 | exact P16 | exact P17 | exact P18 | exact P19 | exact P20 | exact P21 | exact P22 | exact P23)) | (apply Part.nilc))) ?_
                              injection hP with hP
                              subst hP
                              exact ⟨_, _, rfl, rfl, _, _, hM, rfl⟩
                          intro h56_0
                          first | rw [if_neg h56_0] at hP | rw [if_pos (Decidable.not_not.1 h56_0)] at hP | skip
                          as_aux_lemma =>
                            refine SPL_y (y_assign rfl) rfl ?_
                            refine SPL_nil ?_
                            refine thenP_n ?_
                            refine SP_cond_f rfl ?_
                            refine SP_seq ?_
                            refine SP_region ?_
                            refine SPL_if (y_eql rfl rfl) rfl ?_ ?_
                            · intro h58_0
                              first | rw [if_pos h58_0] at hP | rw [if_neg h58_0] at hP | skip
                              as_aux_lemma =>
                                refine SPL_y (y_assign rfl) rfl ?_
                                refine SPL_nil ?_
                                refine thenP_n ?_
                                refine SP_cond_t rfl ?_
                                refine SP_region ?_
                                refine SPL_y (y_move rfl) rfl ?_
                                refine SPL_y (y_move rfl) rfl ?_
                                obtain ⟨o46, hq46, hP⟩ := bndO hP
                                refine SPL_one rfl (SP1_callp (vm_bCreate b ph hh1 hq46 _ hM hA3) Tryz.call288 rfl rfl (by repeat (first | exact Part.nil _ | (apply Part.cons; with_reducible (first | exact P0 | exact P1 | exact P2 | exact P3 | exact P4 | exact P5 | exact P6 | exact P7 | exact P8 | exact P9 | exact P10 | exact P11 | exact P12 | exact P13 | exact P14 | exact P15 | exact P16 | exact P17 | exact P18 | exact P19 | exact P20 | exact P21 | exact P22 | exact P23)) | (apply Part.flat; simp only [List.cons_append, List.nil_append]) | (apply Part.cons; (first | exact P0 | exact P1 | exact P2 | exact P3 | exact P4 | exact P5 | exact P6 | exact P7 | exact P8 | exact P9 | exact P10 | exact P11 | exact P12 | exact P13 | exact P14 | exact P15 | exact P16 | exact P17 | exact P18 | exact P19 | exact P20 | exact P21 | exact P22 | exact P23)) | (apply Part.nilc))) ?_ ?_)
                                · rintro c post H' ⟨ex, hhx, sgx, rfl, rfl, hkx, hMx, rfl⟩ hH
                                  try simp only [List.cons_append, List.nil_append] at hH
                                  subst hH
                                  refine inBlockP_panic (thenP_panic (bodyP_panic (H' := [sgx, escS ex]) (by repeat (first | exact Part.nil _ | (apply Part.cons; with_reducible (first | exact P0 | exact P1 | exact P2 | exact P3 | exact P4 | exact P5 | exact P6 | exact P7 | exact P8 | exact P9 | exact P10 | exact P11 | exact P12 | exact P13 | exact P14 | exact P15 | exact P16 | exact P17 | exact P18 | exact P19 | exact P20 | exact P21 | exact P22 | exact P23)) | (apply Part.flat; simp only [List.cons_append, List.nil_append]) | (apply Part.cons; (first | exact P0 | exact P1 | exact P2 | exact P3 | exact P4 | exact P5 | exact P6 | exact P7 | exact P8 | exact P9 | exact P10 | exact P11 | exact P12 | exact P13 | exact P14 | exact P15 | exact P16 | exact P17 | exact P18 | exact P19 | exact P20 | exact P21 | exact P22 | exact P23)) | (apply Part.nilc))) ?_))
                                  rw [bindO_esc] at hP
                                  injection hP with hP
                                  subst hP
                                  exact ⟨ex, hhx, sgx, rfl, rfl, hMx, rfl⟩
                                rintro v post H' ⟨⟨x16, x17⟩, m46, rfl, rfl, hh46, sg46, hk46, hM, rfl⟩ hH
                                try simp only [List.cons_append, List.nil_append] at hH
                                subst hH
                                dsimp only [bindO] at hP
                                refine SPL_y (y_move rfl) rfl ?_
                                refine SPL_y (y_ext rfl rfl) rfl ?_
                                refine SPL_y (y_ext rfl rfl) rfl ?_
                                refine SPL_one rfl (SP1_storeAll Tryz.sizeOf42 rfl rfl rfl rfl rfl (by first | exact U0 | exact U1 | exact U2 | exact U3 | exact U4 | exact U5 | exact U6 | exact U7 | exact U8 | exact U9 | exact U10 | exact U11 | exact U12 | exact U13 | exact U14 | exact U15 | exact U16 | exact U17 | exact U18 | exact U19 | exact U20 | exact U21 | exact U22 | exact U23) (by rfl) ?_)
                                refine SPL_one rfl (SP1_storeAll Tryz.sizeOf42 rfl rfl rfl rfl rfl (by first | exact U0 | exact U1 | exact U2 | exact U3 | exact U4 | exact U5 | exact U6 | exact U7 | exact U8 | exact U9 | exact U10 | exact U11 | exact U12 | exact U13 | exact U14 | exact U15 | exact U16 | exact U17 | exact U18 | exact U19 | exact U20 | exact U21 | exact U22 | exact U23) (by rfl) ?_)
                                refine SPL_nil ?_
                                refine inBlockP_n ?_
                                refine thenP_n ?_
                                refine SP_seq ?_
                                unfold finM at hP
                                try unfold getT at hP
                                obtain ⟨t62, ht62, hP⟩ := bnd1 hP
                                obtain ⟨g62, oa62, oc62, hg62, _, hrow62, hst62, hfr62, _⟩ := hM.thr ht62
                                have hl62 : at_ ≤ t62.stack.length := Decidable.byContradiction fun q => by rw [if_neg q] at hP; cases hP
                                rw [if_pos hl62] at hP
                                have hsp62 : ∃ xs sg, Arr 42 3 g62.sa t62.stack.length g62.sc xs sg := by
                                  obtain ⟨_, _, _, _, _, _, _, _, _, _, _, _, hss, _⟩ := hM.opnT ht62 hg62
                                  exact ⟨_, _, hss⟩
                                obtain ⟨xs62, sx62, hsp62⟩ := hsp62
                                have hml62 := hsp62.mle
                                obtain ⟨pre62, post62, na62, nc62, sg62, hpre62, hup62, hM62⟩ := hM.cutS ht62 hg62 (j := at_) hl62
                                refine SP_region ?_
                                refine SPL_y (y_move rfl) rfl ?_
                                refine SPL_y (y_move rfl) rfl ?_
                                refine SPL_y (y_nil rfl) rfl ?_
                                refine SPL_y (y_fa fld_263_2 rfl) rfl ?_
                                refine SPL_y (y_load Tryz.isAgg90 rfl (by repeat (first | exact (hrow62 _ 2 _ rfl) | apply Cell.tail))) rfl ?_
                                refine SPL_y (y_move rfl) rfl ?_
                                refine SPL_y (y_cut hsp62 Tryz.underlying90 Tryz.sizeOf42 rfl rfl (by omega)) rfl ?_
                                rw [Int.toNat_natCast]
                                refine SPL_y (y_nil rfl) rfl ?_
                                refine SPL_y (y_fa fld_263_2 rfl) rfl ?_
                                refine SPL_one rfl (SP1_storeM (j := 2) (pre := pre62) (cs := trow t62 g62 na62 nc62) (post := post62) Tryz.sizeOf90 rfl rfl rfl hpre62 (by repeat (first | exact hup62 _ | apply Upd.tail)) (by rfl) ?_)
                                replace hM := hM62
                                refine SPL_nil ?_
                                refine thenP_n ?_
                                refine SP_seq ?_
                                refine SP_region ?_
                                refine SPL_y (y_move rfl) rfl ?_
                                refine SPL_y (y_loads Tryz.isAgg42 Tryz.sizeOf42 rfl rfl (by repeat (first | exact Cells.all _ | exact Cells.amid hpre rfl (by decide) | exact Cells.head rfl | apply Cells.tail))) rfl ?_
                                refine SPL_y (y_loads Tryz.isAgg42 Tryz.sizeOf42 rfl rfl (by repeat (first | exact Cells.all _ | exact Cells.amid hpre rfl (by decide) | exact Cells.head rfl | apply Cells.tail))) rfl ?_
                                refine SPL_one rfl (SP1_sliceN (l := ([x16, x17].flatMap valV)) el_90 rfl (by kernel_rfl) rfl rfl ?_)
                                intro b283
                                obtain ⟨m9, hq9, hP⟩ := bnd1 hP
                                refine SPL_one rfl (SP1_call (vm_push b ph _ _ hq9 _ hM) Tryz.call142 rfl rfl (by repeat (first | exact Part.nil _ | (apply Part.cons; with_reducible (first | exact P0 | exact P1 | exact P2 | exact P3 | exact P4 | exact P5 | exact P6 | exact P7 | exact P8 | exact P9 | exact P10 | exact P11 | exact P12 | exact P13 | exact P14 | exact P15 | exact P16 | exact P17 | exact P18 | exact P19 | exact P20 | exact P21 | exact P22 | exact P23)) | (apply Part.flat; simp only [List.cons_append, List.nil_append]) | (apply Part.cons; (first | exact P0 | exact P1 | exact P2 | exact P3 | exact P4 | exact P5 | exact P6 | exact P7 | exact P8 | exact P9 | exact P10 | exact P11 | exact P12 | exact P13 | exact P14 | exact P15 | exact P16 | exact P17 | exact P18 | exact P19 | exact P20 | exact P21 | exact P22 | exact P23)) | (apply Part.nilc))) ?_)
                                rintro v post H' ⟨rfl, hh9, sg9, hk9, hM, rfl⟩ hH
                                try simp only [List.cons_append, List.nil_append] at hH
                                subst hH
                                refine SPL_nil ?_
                                refine thenP_n ?_
                                refine SP_seq ?_
                                refine SP_region ?_
                                refine SPL_y (y_buildN (l := (evV ev0)) BN184 rfl rfl) rfl ?_
                                refine SPL_one rfl (SP1_storeAll Tryz.sizeOf184 rfl rfl rfl rfl rfl (by first | exact U0 | exact U1 | exact U2 | exact U3 | exact U4 | exact U5 | exact U6 | exact U7 | exact U8 | exact U9 | exact U10 | exact U11 | exact U12 | exact U13 | exact U14 | exact U15 | exact U16 | exact U17 | exact U18 | exact U19 | exact U20 | exact U21 | exact U22 | exact U23) (by rfl) ?_)
                                refine SPL_nil ?_
                                refine thenP_n ?_
                                refine SP_ret ?_
                                refine bodyP_ret (H' := [sg9]) (ResC rfl rfl Tryz.isAgg184 Tryz.sizeOf184 rfl (by repeat (first | exact Cells.all _ | exact Cells.amid hpre rfl (by decide) | exact Cells.head rfl | apply Cells.tail))) (by repeat (first | exact Part.nil _ | (apply Part.cons; with_reducible (first | exact P0 | exact P1 | exact P2 | exact P3 | exact P4 | exact P5 | exact P6 | exact P7 | exact P8 | exact P9 | exact P10 | exact P11 | exact P12 | exact P13 | exact P14 | exact P15 | exact P16 | exact P17 | exact P18 | exact P19 | exact P20 | exact P21 | exact P22 | exact P23)) | (apply Part.flat; simp only [List.cons_append, List.nil_append]) | (apply Part.cons; (first | exact P0 | exact P1 | exact P2 | exact P3 | exact P4 | exact P5 | exact P6 | exact P7 | exact P8 | exact P9 | exact P10 | exact P11 | exact P12 | exact P13 | exact P14 | exact P15 | exact P16 | exact P17 | exact P18 | exact P19 | exact P20 | exact P21 | exact P22 | exact P23)) | (apply Part.nilc))) ?_
                                injection hP with hP
                                subst hP
                                exact ⟨_, _, rfl, rfl, _, _, hM, rfl⟩
                            intro h58_0
                            first | rw [if_neg h58_0] at hP | rw [if_pos (Decidable.not_not.1 h58_0)] at hP | skip
                            as_aux_lemma =>
                              refine SPL_y (y_assign rfl) rfl ?_
                              refine SPL_nil ?_
                              refine thenP_n ?_
                              refine SP_cond_f rfl ?_
                              refine SP_seq ?_
                              refine SP_region ?_
                              refine SPL_ifn (y_eql rfl rfl) rfl ?_ ?_
                              · intro h60_0
                                first | rw [if_neg h60_0] at hP | rw [if_pos (Decidable.not_not.1 h60_0)] at hP | skip
                                as_aux_lemma =>
                                  refine SPL_y (y_assign rfl) rfl ?_
                                  refine SPL_nil ?_
                                  refine thenP_n ?_
                                  refine SP_cond_f rfl ?_
                                  refine SP_region ?_
                                  refine SPL_one rfl (SP1_callp (vm_raise s_call) Tryz.call281 rfl rfl (by repeat (first | exact Part.nil _ | (apply Part.cons; with_reducible (first | exact P0 | exact P1 | exact P2 | exact P3 | exact P4 | exact P5 | exact P6 | exact P7 | exact P8 | exact P9 | exact P10 | exact P11 | exact P12 | exact P13 | exact P14 | exact P15 | exact P16 | exact P17 | exact P18 | exact P19 | exact P20 | exact P21 | exact P22 | exact P23)) | (apply Part.flat; simp only [List.cons_append, List.nil_append]) | (apply Part.cons; (first | exact P0 | exact P1 | exact P2 | exact P3 | exact P4 | exact P5 | exact P6 | exact P7 | exact P8 | exact P9 | exact P10 | exact P11 | exact P12 | exact P13 | exact P14 | exact P15 | exact P16 | exact P17 | exact P18 | exact P19 | exact P20 | exact P21 | exact P22 | exact P23)) | (apply Part.nilc))) ?_ ?_)
                                  · rintro c post H' ⟨bb, rfl, rfl⟩ hH
                                    try simp only [List.cons_append, List.nil_append] at hH
                                    subst hH
                                    refine inBlockP_panic (thenP_panic (bodyP_panic (H' := [sg6, blk bb 335 (valV (strV s_call))]) (by repeat (first | exact Part.nil _ | (apply Part.cons; with_reducible (first | exact P0 | exact P1 | exact P2 | exact P3 | exact P4 | exact P5 | exact P6 | exact P7 | exact P8 | exact P9 | exact P10 | exact P11 | exact P12 | exact P13 | exact P14 | exact P15 | exact P16 | exact P17 | exact P18 | exact P19 | exact P20 | exact P21 | exact P22 | exact P23)) | (apply Part.flat; simp only [List.cons_append, List.nil_append]) | (apply Part.cons; (first | exact P0 | exact P1 | exact P2 | exact P3 | exact P4 | exact P5 | exact P6 | exact P7 | exact P8 | exact P9 | exact P10 | exact P11 | exact P12 | exact P13 | exact P14 | exact P15 | exact P16 | exact P17 | exact P18 | exact P19 | exact P20 | exact P21 | exact P22 | exact P23)) | (apply Part.nilc))) ?_))
                                    injection hP with hP
                                    subst hP
                                    exact ⟨.thr (strV s_call) m6 bb, hh1, sg6, rfl, rfl, hM, rfl⟩
                                  rintro v post H' hF hH
                                  exact hF.elim
                              intro h60_0
                              first | rw [if_pos h60_0] at hP | rw [if_neg h60_0] at hP | skip
                              as_aux_lemma =>
                                refine SPL_y (y_assign rfl) rfl ?_
                                refine SPL_nil ?_
                                refine thenP_n ?_
                                refine SP_cond_t rfl ?_
                                refine SP_region ?_
                                refine SPL_y (y_move rfl) rfl ?_
                                refine SPL_y (y_move rfl) rfl ?_
                                obtain ⟨o46, hq46, hP⟩ := bndO hP
                                refine SPL_one rfl (SP1_callp (vm_bStatus b ph hh1 hq46 _ hM hA3) Tryz.call289 rfl rfl (by repeat (first | exact Part.nil _ | (apply Part.cons; with_reducible (first | exact P0 | exact P1 | exact P2 | exact P3 | exact P4 | exact P5 | exact P6 | exact P7 | exact P8 | exact P9 | exact P10 | exact P11 | exact P12 | exact P13 | exact P14 | exact P15 | exact P16 | exact P17 | exact P18 | exact P19 | exact P20 | exact P21 | exact P22 | exact P23)) | (apply Part.flat; simp only [List.cons_append, List.nil_append]) | (apply Part.cons; (first | exact P0 | exact P1 | exact P2 | exact P3 | exact P4 | exact P5 | exact P6 | exact P7 | exact P8 | exact P9 | exact P10 | exact P11 | exact P12 | exact P13 | exact P14 | exact P15 | exact P16 | exact P17 | exact P18 | exact P19 | exact P20 | exact P21 | exact P22 | exact P23)) | (apply Part.nilc))) ?_ ?_)
                                · rintro c post H' ⟨ex, hhx, sgx, rfl, rfl, hkx, hMx, rfl⟩ hH
                                  try simp only [List.cons_append, List.nil_append] at hH
                                  subst hH
                                  refine inBlockP_panic (thenP_panic (bodyP_panic (H' := [sgx, escS ex]) (by repeat (first | exact Part.nil _ | (apply Part.cons; with_reducible (first | exact P0 | exact P1 | exact P2 | exact P3 | exact P4 | exact P5 | exact P6 | exact P7 | exact P8 | exact P9 | exact P10 | exact P11 | exact P12 | exact P13 | exact P14 | exact P15 | exact P16 | exact P17 | exact P18 | exact P19 | exact P20 | exact P21 | exact P22 | exact P23)) | (apply Part.flat; simp only [List.cons_append, List.nil_append]) | (apply Part.cons; (first | exact P0 | exact P1 | exact P2 | exact P3 | exact P4 | exact P5 | exact P6 | exact P7 | exact P8 | exact P9 | exact P10 | exact P11 | exact P12 | exact P13 | exact P14 | exact P15 | exact P16 | exact P17 | exact P18 | exact P19 | exact P20 | exact P21 | exact P22 | exact P23)) | (apply Part.nilc))) ?_))
                                  rw [bindO_esc] at hP
                                  injection hP with hP
                                  subst hP
                                  exact ⟨ex, hhx, sgx, rfl, rfl, hMx, rfl⟩
                                rintro v post H' ⟨⟨x16, x17⟩, m46, rfl, rfl, hh46, sg46, hk46, hM, rfl⟩ hH
                                try simp only [List.cons_append, List.nil_append] at hH
                                subst hH
                                dsimp only [bindO] at hP
                                refine SPL_y (y_move rfl) rfl ?_
                                refine SPL_y (y_ext rfl rfl) rfl ?_
                                refine SPL_y (y_ext rfl rfl) rfl ?_
                                refine SPL_one rfl (SP1_storeAll Tryz.sizeOf42 rfl rfl rfl rfl rfl (by first | exact U0 | exact U1 | exact U2 | exact U3 | exact U4 | exact U5 | exact U6 | exact U7 | exact U8 | exact U9 | exact U10 | exact U11 | exact U12 | exact U13 | exact U14 | exact U15 | exact U16 | exact U17 | exact U18 | exact U19 | exact U20 | exact U21 | exact U22 | exact U23) (by rfl) ?_)
                                refine SPL_one rfl (SP1_storeAll Tryz.sizeOf42 rfl rfl rfl rfl rfl (by first | exact U0 | exact U1 | exact U2 | exact U3 | exact U4 | exact U5 | exact U6 | exact U7 | exact U8 | exact U9 | exact U10 | exact U11 | exact U12 | exact U13 | exact U14 | exact U15 | exact U16 | exact U17 | exact U18 | exact U19 | exact U20 | exact U21 | exact U22 | exact U23) (by rfl) ?_)
                                refine SPL_nil ?_
                                refine inBlockP_n ?_
                                refine thenP_n ?_
                                refine SP_seq ?_
                                unfold finM at hP
                                try unfold getT at hP
                                obtain ⟨t62, ht62, hP⟩ := bnd1 hP
                                obtain ⟨g62, oa62, oc62, hg62, _, hrow62, hst62, hfr62, _⟩ := hM.thr ht62
                                have hl62 : at_ ≤ t62.stack.length := Decidable.byContradiction fun q => by rw [if_neg q] at hP; cases hP
                                rw [if_pos hl62] at hP
                                have hsp62 : ∃ xs sg, Arr 42 3 g62.sa t62.stack.length g62.sc xs sg := by
                                  obtain ⟨_, _, _, _, _, _, _, _, _, _, _, _, hss, _⟩ := hM.opnT ht62 hg62
                                  exact ⟨_, _, hss⟩
                                obtain ⟨xs62, sx62, hsp62⟩ := hsp62
                                have hml62 := hsp62.mle
                                obtain ⟨pre62, post62, na62, nc62, sg62, hpre62, hup62, hM62⟩ := hM.cutS ht62 hg62 (j := at_) hl62
                                refine SP_region ?_
                                refine SPL_y (y_move rfl) rfl ?_
                                refine SPL_y (y_move rfl) rfl ?_
                                refine SPL_y (y_nil rfl) rfl ?_
                                refine SPL_y (y_fa fld_263_2 rfl) rfl ?_
                                refine SPL_y (y_load Tryz.isAgg90 rfl (by repeat (first | exact (hrow62 _ 2 _ rfl) | apply Cell.tail))) rfl ?_
                                refine SPL_y (y_move rfl) rfl ?_
                                refine SPL_y (y_cut hsp62 Tryz.underlying90 Tryz.sizeOf42 rfl rfl (by omega)) rfl ?_
                                rw [Int.toNat_natCast]
                                refine SPL_y (y_nil rfl) rfl ?_
                                refine SPL_y (y_fa fld_263_2 rfl) rfl ?_
                                refine SPL_one rfl (SP1_storeM (j := 2) (pre := pre62) (cs := trow t62 g62 na62 nc62) (post := post62) Tryz.sizeOf90 rfl rfl rfl hpre62 (by repeat (first | exact hup62 _ | apply Upd.tail)) (by rfl) ?_)
                                replace hM := hM62
                                refine SPL_nil ?_
                                refine thenP_n ?_
                                refine SP_seq ?_
                                refine SP_region ?_
                                refine SPL_y (y_move rfl) rfl ?_
                                refine SPL_y (y_loads Tryz.isAgg42 Tryz.sizeOf42 rfl rfl (by repeat (first | exact Cells.all _ | exact Cells.amid hpre rfl (by decide) | exact Cells.head rfl | apply Cells.tail))) rfl ?_
                                refine SPL_y (y_loads Tryz.isAgg42 Tryz.sizeOf42 rfl rfl (by repeat (first | exact Cells.all _ | exact Cells.amid hpre rfl (by decide) | exact Cells.head rfl | apply Cells.tail))) rfl ?_
                                refine SPL_one rfl (SP1_sliceN (l := ([x16, x17].flatMap valV)) el_90 rfl (by kernel_rfl) rfl rfl ?_)
                                intro b283
                                obtain ⟨m9, hq9, hP⟩ := bnd1 hP
                                refine SPL_one rfl (SP1_call (vm_push b ph _ _ hq9 _ hM) Tryz.call142 rfl rfl (by repeat (first | exact Part.nil _ | (apply Part.cons; with_reducible (first | exact P0 | exact P1 | exact P2 | exact P3 | exact P4 | exact P5 | exact P6 | exact P7 | exact P8 | exact P9 | exact P10 | exact P11 | exact P12 | exact P13 | exact P14 | exact P15 | exact P16 | exact P17 | exact P18 | exact P19 | exact P20 | exact P21 | exact P22 | exact P23)) | (apply Part.flat; simp only [List.cons_append, List.nil_append]) | (apply Part.cons; (first | exact P0 | exact P1 | exact P2 | exact P3 | exact P4 | exact P5 | exact P6 | exact P7 | exact P8 | exact P9 | exact P10 | exact P11 | exact P12 | exact P13 | exact P14 | exact P15 | exact P16 | exact P17 | exact P18 | exact P19 | exact P20 | exact P21 | exact P22 | exact P23)) | (apply Part.nilc))) ?_)
                                rintro v post H' ⟨rfl, hh9, sg9, hk9, hM, rfl⟩ hH
                                try simp only [List.cons_append, List.nil_append] at hH
                                subst hH
                                refine SPL_nil ?_
                                refine thenP_n ?_
                                refine SP_seq ?_
                                refine SP_region ?_
                                refine SPL_y (y_buildN (l := (evV ev0)) BN184 rfl rfl) rfl ?_
                                refine SPL_one rfl (SP1_storeAll Tryz.sizeOf184 rfl rfl rfl rfl rfl (by first | exact U0 | exact U1 | exact U2 | exact U3 | exact U4 | exact U5 | exact U6 | exact U7 | exact U8 | exact U9 | exact U10 | exact U11 | exact U12 | exact U13 | exact U14 | exact U15 | exact U16 | exact U17 | exact U18 | exact U19 | exact U20 | exact U21 | exact U22 | exact U23) (by rfl) ?_)
                                refine SPL_nil ?_
                                refine thenP_n ?_
                                refine SP_ret ?_
                                refine bodyP_ret (H' := [sg9]) (ResC rfl rfl Tryz.isAgg184 Tryz.sizeOf184 rfl (by repeat (first | exact Cells.all _ | exact Cells.amid hpre rfl (by decide) | exact Cells.head rfl | apply Cells.tail))) (by repeat (first | exact Part.nil _ | (apply Part.cons; with_reducible (first | exact P0 | exact P1 | exact P2 | exact P3 | exact P4 | exact P5 | exact P6 | exact P7 | exact P8 | exact P9 | exact P10 | exact P11 | exact P12 | exact P13 | exact P14 | exact P15 | exact P16 | exact P17 | exact P18 | exact P19 | exact P20 | exact P21 | exact P22 | exact P23)) | (apply Part.flat; simp only [List.cons_append, List.nil_append]) | (apply Part.cons; (first | exact P0 | exact P1 | exact P2 | exact P3 | exact P4 | exact P5 | exact P6 | exact P7 | exact P8 | exact P9 | exact P10 | exact P11 | exact P12 | exact P13 | exact P14 | exact P15 | exact P16 | exact P17 | exact P18 | exact P19 | exact P20 | exact P21 | exact P22 | exact P23)) | (apply Part.nilc))) ?_
                                injection hP with hP
                                subst hP
                                exact ⟨_, _, rfl, rfl, _, _, hM, rfl⟩
      · refine SP_seq ?_
        refine SP_seq ?_
        refine SP_region ?_
        refine SPL_y (y_move rfl) rfl ?_
        refine SPL_y (y_len_l Tryz.underlying90 rfl) rfl ?_
        refine SPL_if (y_lss rfl rfl) rfl ?_ ?_
        · intro h14_2
          first | rw [if_pos h14_2] at hP | rw [if_neg h14_2] at hP | skip
          as_aux_lemma =>
            refine SPL_nil ?_
            refine thenP_n ?_
            refine SP_cond_t rfl ?_
            refine SP_skip ?_
            refine thenP_n ?_
            refine SP_block ?_
            have hlt : args'.length < 3 := by omega
            refine SP_region ?_
            refine SPL_y (y_move rfl) rfl ?_
            refine SPL_y (y_build B42 rfl rfl (by simp only [fillL, List.foldl_cons, List.foldl_nil, List.set_cons_zero, List.set_cons_succ]; exact rfl)) rfl ?_
            refine SPL_one rfl (SP1_slice1 el_90 rfl rfl rfl rfl rfl ?_)
            intro b83
            refine SPL_one rfl (SP1_append el_90 (.inl Tryz.underlying90) rfl rfl hOw (by first | exact P0 | exact P1 | exact P2 | exact P3 | exact P4 | exact P5 | exact P6 | exact P7 | exact P8 | exact P9 | exact P10 | exact P11 | exact P12 | exact P13 | exact P14 | exact P15 | exact P16 | exact P17 | exact P18 | exact P19 | exact P20 | exact P21 | exact P22 | exact P23) (Src.of (by repeat (first | exact Cells.all _ | exact Cells.amid hpre rfl (by decide) | exact Cells.head rfl | apply Cells.tail)) (by rfl)) (by rfl) (by omega) rfl ?_)
            intro a2 c2 s2 h2
            rw [show args'.length + 1 = (args' ++ [V.nil]).length from by simp] at h2 ⊢
            rw [show args'.flatMap valV ++ _ = (args' ++ [V.nil]).flatMap valV from by rw [List.flatMap_append]; rfl] at h2
            refine SPL_y (y_assign rfl) rfl ?_
            refine SPL_nil ?_
            refine inBlockP_n ?_
            refine thenP_n ?_
            exact Again.intro ((args' ++ [V.nil], a2, c2, s2, k + 1)) (⟨by dsimp only; rw [hpad, List.replicate_succ', List.append_assoc], by dsimp only; simp; omega, .inr h2⟩) (by dsimp only; simp; omega) (by repeat (first | exact Sub.nil _ | refine Sub.cons rfl ?_)) (by repeat (first | exact Part.nil _ | (apply Part.cons; with_reducible (first | exact P0 | exact P1 | exact P2 | exact P3 | exact P4 | exact P5 | exact P6 | exact P7 | exact P8 | exact P9 | exact P10 | exact P11 | exact P12 | exact P13 | exact P14 | exact P15 | exact P16 | exact P17 | exact P18 | exact P19 | exact P20 | exact P21 | exact P22 | exact P23)) | (apply Part.flat; simp only [List.cons_append, List.nil_append]) | (apply Part.cons; (first | exact P0 | exact P1 | exact P2 | exact P3 | exact P4 | exact P5 | exact P6 | exact P7 | exact P8 | exact P9 | exact P10 | exact P11 | exact P12 | exact P13 | exact P14 | exact P15 | exact P16 | exact P17 | exact P18 | exact P19 | exact P20 | exact P21 | exact P22 | exact P23)) | (apply Part.nilc)))
        intro h14_2
        first | rw [if_neg h14_2] at hP | rw [if_pos (Decidable.not_not.1 h14_2)] at hP | skip
        as_aux_lemma =>
          refine SPL_nil ?_
          refine thenP_n ?_
          refine SP_cond_f rfl ?_
          refine SP_exit ?_
          refine thenP_exit ?_
          refine thenP_exit ?_
          refine inBlockP_hit ?_
          refine thenP_n ?_
          refine SP_seq ?_
          have hW := ArgW.own (hh := hh1) (th := th) (m := m6) hOw
          have h3 : 3 ≤ args'.length := by omega
          have hgd : ∀ j, args'.getD j V.nil = args.getD j V.nil := fun j => by rw [hpad]; exact pad_getD _ _ _
          obtain ⟨wq, wo, haw, hA3⟩ := hW.three hM h3
          subst haw
          obtain ⟨a0, ha0⟩ : ∃ a, a = args.getD 0 V.nil := ⟨_, rfl⟩
          obtain ⟨a1, ha1⟩ : ∃ a, a = args.getD 1 V.nil := ⟨_, rfl⟩
          have hv1 : args'[1]? = some a1 := by rw [ha1, ← hgd, List.getD_eq_getElem?_getD, List.getElem?_eq_getElem (by omega)]; rfl
          rw [hgd, hgd, hgd, ← ha0, ← ha1] at hA3
          rw [← ha0, ← ha1] at hP
          refine SP_region ?_
          refine SPL_y (y_move rfl) rfl ?_
          refine SPL_y (y_toArr Tryz.underlying277 rfl (by omega)) rfl ?_
          refine SPL_y (y_assign rfl) rfl ?_
          refine SPL_nil ?_
          refine thenP_n ?_
          refine SP_seq ?_
          refine SP_region ?_
          refine SPL_one rfl (SP1_alloc Tryz.zeroValue42 rfl rfl ?_)
          intro b16
          refine SPL_one rfl (SP1_alloc Tryz.zeroValue42 rfl rfl ?_)
          intro b17
          refine SPL_nil ?_
          refine thenP_n ?_
          refine SP_seq ?_
          refine SP_seq ?_
          unfold callB at hP
          refine SP_region ?_
          refine SPL_y (y_fa fld_42_1 rfl) rfl ?_
          refine SPL_y (y_load Tryz.isAgg40 rfl (by repeat (first | exact Cell.amid hpre rfl | exact Cell.head rfl | apply Cell.tail))) rfl ?_
          refine SPL_nil ?_
          refine thenP_n ?_
          refine SP_block ?_
          refine SP_seq ?_
          refine SP_region ?_
          refine SPL_if (y_eql rfl rfl) rfl ?_ ?_
          · intro h20_0
            first | rw [if_pos h20_0] at hP | rw [if_neg h20_0] at hP | skip
            as_aux_lemma =>
              refine SPL_y (y_assign rfl) rfl ?_
              refine SPL_nil ?_
              refine thenP_n ?_
              refine SP_cond_t rfl ?_
              refine SP_seq ?_
              refine SP_seq ?_
              unfold cPcall getT at hP
              obtain ⟨t21, ht21, hP⟩ := bnd1 hP
              obtain ⟨g21, oa21, oc21, hg21, _, hrow21, _⟩ := hM.thr ht21
              refine SP_region ?_
              refine SPL_y (y_move rfl) rfl ?_
              refine SPL_y (y_nil rfl) rfl ?_
              refine SPL_y (y_ia_arr Tryz.underlying277 Tryz.sizeOf42 rfl rfl (by omega)) rfl ?_
              refine SPL_y (y_fa fld_42_0 rfl) rfl ?_
              refine SPL_y (y_load Tryz.isAgg3 rfl (by repeat (first | exact (hA3.a0.cell rfl) | apply Cell.tail))) rfl ?_
              refine SPL_ifn (y_eql rfl rfl) rfl ?_ ?_
              · intro h21_5
                first | rw [if_neg h21_5] at hP | rw [if_pos (Decidable.not_not.1 h21_5)] at hP | skip
                as_aux_lemma =>
                  refine SPL_y (y_move rfl) rfl ?_
                  refine SPL_gn rfl rfl rfl rfl ?_
                  refine SPL_gn rfl rfl rfl rfl ?_
                  refine SPL_gn rfl rfl rfl rfl ?_
                  refine SPL_gn rfl rfl rfl rfl ?_
                  refine SPL_gn rfl rfl rfl rfl ?_
                  refine SPL_gn rfl rfl rfl rfl ?_
                  refine SPL_y (y_pick_f rfl rfl) rfl ?_
                  refine SPL_nil ?_
                  refine thenP_n ?_
                  refine SP_cond_f rfl ?_
                  refine SP_skip ?_
                  refine thenP_n ?_
                  refine SP_seq ?_
                  refine SP_region ?_
                  refine SPL_y (y_build B42 rfl rfl (by simp only [fillL, List.foldl_cons, List.foldl_nil, List.set_cons_zero, List.set_cons_succ]; exact rfl)) rfl ?_
                  refine SPL_one rfl (SP1_storeAll Tryz.sizeOf42 rfl rfl rfl rfl rfl (by first | exact U0 | exact U1 | exact U2 | exact U3 | exact U4 | exact U5 | exact U6 | exact U7 | exact U8 | exact U9 | exact U10 | exact U11 | exact U12 | exact U13 | exact U14 | exact U15 | exact U16 | exact U17 | exact U18 | exact U19 | exact U20 | exact U21 | exact U22 | exact U23) (by rfl) ?_)
                  refine SPL_nil ?_
                  refine thenP_n ?_
                  refine SP_seq ?_
                  refine SP_seq ?_
                  refine SP_region ?_
                  refine SPL_y (y_move rfl) rfl ?_
                  refine SPL_y (y_nil rfl) rfl ?_
                  refine SPL_y (y_ia_arr Tryz.underlying277 Tryz.sizeOf42 rfl rfl (by omega)) rfl ?_
                  refine SPL_y (y_fa fld_42_0 rfl) rfl ?_
                  refine SPL_y (y_load Tryz.isAgg3 rfl (by repeat (first | exact (hA3.a0.cell rfl) | apply Cell.tail))) rfl ?_
                  refine SPL_if (y_eql rfl rfl) rfl ?_ ?_
                  · intro h25_5
                    first | rw [if_pos h25_5] at hP | rw [if_neg h25_5] at hP | skip
                    exact absurd h25_5 h21_5
                  intro h25_5
                  first | rw [if_neg h25_5] at hP | rw [if_pos (Decidable.not_not.1 h25_5)] at hP | skip
                  as_aux_lemma =>
                    refine SPL_nil ?_
                    refine thenP_n ?_
                    refine SP_cond_f rfl ?_
                    refine SP_skip ?_
                    refine thenP_n ?_
                    refine SP_region ?_
                    refine SPL_y (y_build B42 rfl rfl (by simp only [fillL, List.foldl_cons, List.foldl_nil, List.set_cons_zero, List.set_cons_succ]; exact rfl)) rfl ?_
                    refine SPL_one rfl (SP1_storeAll Tryz.sizeOf42 rfl rfl rfl rfl rfl (by first | exact U0 | exact U1 | exact U2 | exact U3 | exact U4 | exact U5 | exact U6 | exact U7 | exact U8 | exact U9 | exact U10 | exact U11 | exact U12 | exact U13 | exact U14 | exact U15 | exact U16 | exact U17 | exact U18 | exact U19 | exact U20 | exact U21 | exact U22 | exact U23) (by rfl) ?_)
                    refine SPL_nil ?_
                    refine inBlockP_n ?_
                    refine thenP_n ?_
                    refine SP_seq ?_
                    unfold finM at hP
                    try unfold getT at hP
                    obtain ⟨t62, ht62, hP⟩ := bnd1 hP
                    obtain ⟨g62, oa62, oc62, hg62, _, hrow62, hst62, hfr62, _⟩ := hM.thr ht62
                    have hl62 : at_ ≤ t62.stack.length := Decidable.byContradiction fun q => by rw [if_neg q] at hP; cases hP
                    rw [if_pos hl62] at hP
                    have hsp62 : ∃ xs sg, Arr 42 3 g62.sa t62.stack.length g62.sc xs sg := by
                      obtain ⟨_, _, _, _, _, _, _, _, _, _, _, _, hss, _⟩ := hM.opnT ht62 hg62
                      exact ⟨_, _, hss⟩
                    obtain ⟨xs62, sx62, hsp62⟩ := hsp62
                    have hml62 := hsp62.mle
                    obtain ⟨pre62, post62, na62, nc62, sg62, hpre62, hup62, hM62⟩ := hM.cutS ht62 hg62 (j := at_) hl62
                    refine SP_region ?_
                    refine SPL_y (y_move rfl) rfl ?_
                    refine SPL_y (y_move rfl) rfl ?_
                    refine SPL_y (y_nil rfl) rfl ?_
                    refine SPL_y (y_fa fld_263_2 rfl) rfl ?_
                    refine SPL_y (y_load Tryz.isAgg90 rfl (by repeat (first | exact (hrow62 _ 2 _ rfl) | apply Cell.tail))) rfl ?_
                    refine SPL_y (y_move rfl) rfl ?_
                    refine SPL_y (y_cut hsp62 Tryz.underlying90 Tryz.sizeOf42 rfl rfl (by omega)) rfl ?_
                    rw [Int.toNat_natCast]
                    refine SPL_y (y_nil rfl) rfl ?_
                    refine SPL_y (y_fa fld_263_2 rfl) rfl ?_
                    refine SPL_one rfl (SP1_storeM (j := 2) (pre := pre62) (cs := trow t62 g62 na62 nc62) (post := post62) Tryz.sizeOf90 rfl rfl rfl hpre62 (by repeat (first | exact hup62 _ | apply Upd.tail)) (by rfl) ?_)
                    replace hM := hM62
                    refine SPL_nil ?_
                    refine thenP_n ?_
                    refine SP_seq ?_
                    refine SP_region ?_
                    refine SPL_y (y_move rfl) rfl ?_
                    refine SPL_y (y_loads Tryz.isAgg42 Tryz.sizeOf42 rfl rfl (by repeat (first | exact Cells.all _ | exact Cells.amid hpre rfl (by decide) | exact Cells.head rfl | apply Cells.tail))) rfl ?_
                    refine SPL_y (y_loads Tryz.isAgg42 Tryz.sizeOf42 rfl rfl (by repeat (first | exact Cells.all _ | exact Cells.amid hpre rfl (by decide) | exact Cells.head rfl | apply Cells.tail))) rfl ?_
                    refine SPL_one rfl (SP1_sliceN (l := ([v1, strV s_call].flatMap valV)) el_90 rfl (by kernel_rfl) rfl rfl ?_)
                    intro b283
                    obtain ⟨m9, hq9, hP⟩ := bnd1 hP
                    refine SPL_one rfl (SP1_call (vm_push b ph _ _ hq9 _ hM) Tryz.call142 rfl rfl (by repeat (first | exact Part.nil _ | (apply Part.cons; with_reducible (first | exact P0 | exact P1 | exact P2 | exact P3 | exact P4 | exact P5 | exact P6 | exact P7 | exact P8 | exact P9 | exact P10 | exact P11 | exact P12 | exact P13 | exact P14 | exact P15 | exact P16 | exact P17 | exact P18 | exact P19 | exact P20 | exact P21 | exact P22 | exact P23)) | (apply Part.flat; simp only [List.cons_append, List.nil_append]) | (apply Part.cons; (first | exact P0 | exact P1 | exact P2 | exact P3 | exact P4 | exact P5 | exact P6 | exact P7 | exact P8 | exact P9 | exact P10 | exact P11 | exact P12 | exact P13 | exact P14 | exact P15 | exact P16 | exact P17 | exact P18 | exact P19 | exact P20 | exact P21 | exact P22 | exact P23)) | (apply Part.nilc))) ?_)
                    rintro v post H' ⟨rfl, hh9, sg9, hk9, hM, rfl⟩ hH
                    try simp only [List.cons_append, List.nil_append] at hH
                    subst hH
                    refine SPL_nil ?_
                    refine thenP_n ?_
                    refine SP_seq ?_
                    refine SP_region ?_
                    refine SPL_y (y_buildN (l := (evV ev0)) BN184 rfl rfl) rfl ?_
                    refine SPL_one rfl (SP1_storeAll Tryz.sizeOf184 rfl rfl rfl rfl rfl (by first | exact U0 | exact U1 | exact U2 | exact U3 | exact U4 | exact U5 | exact U6 | exact U7 | exact U8 | exact U9 | exact U10 | exact U11 | exact U12 | exact U13 | exact U14 | exact U15 | exact U16 | exact U17 | exact U18 | exact U19 | exact U20 | exact U21 | exact U22 | exact U23) (by rfl) ?_)
                    refine SPL_nil ?_
                    refine thenP_n ?_
                    refine SP_ret ?_
                    refine bodyP_ret (H' := [sg9]) (ResC rfl rfl Tryz.isAgg184 Tryz.sizeOf184 rfl (by repeat (first | exact Cells.all _ | exact Cells.amid hpre rfl (by decide) | exact Cells.head rfl | apply Cells.tail))) (by repeat (first | exact Part.nil _ | (apply Part.cons; with_reducible (first | exact P0 | exact P1 | exact P2 | exact P3 | exact P4 | exact P5 | exact P6 | exact P7 | exact P8 | exact P9 | exact P10 | exact P11 | exact P12 | exact P13 | exact P14 | exact P15 | exact P16 | exact P17 | exact P18 | exact P19 | exact P20 | exact P21 | exact P22 | exact P23)) | (apply Part.flat; simp only [List.cons_append, List.nil_append]) | (apply Part.cons; (first | exact P0 | exact P1 | exact P2 | exact P3 | exact P4 | exact P5 | exact P6 | exact P7 | exact P8 | exact P9 | exact P10 | exact P11 | exact P12 | exact P13 | exact P14 | exact P15 | exact P16 | exact P17 | exact P18 | exact P19 | exact P20 | exact P21 | exact P22 | exact P23)) | (apply Part.nilc))) ?_
                    injection hP with hP
                    subst hP
                    exact ⟨_, _, rfl, rfl, _, _, hM, rfl⟩
              intro h21_5
              first | rw [if_pos h21_5] at hP | rw [if_neg h21_5] at hP | skip
              as_aux_lemma =>
                refine SPL_y (y_move rfl) rfl ?_
                refine SPL_gy rfl rfl ?_
                refine SPL_y (y_move rfl) rfl ?_
                refine SPL_gy rfl rfl ?_
                refine SPL_y (y_nil rfl) rfl ?_
                refine SPL_gy rfl rfl ?_
                refine SPL_y (y_fa fld_263_3 rfl) rfl ?_
                refine SPL_gy rfl rfl ?_
                refine SPL_y (y_load Tryz.isAgg261 rfl (by repeat (first | exact (hrow21 _ 3 _ rfl) | apply Cell.tail))) rfl ?_
                refine SPL_gy rfl rfl ?_
                refine SPL_y (y_len_l Tryz.underlying261 rfl) rfl ?_
                refine SPL_gy rfl rfl ?_
                refine SPL_if (y_lss rfl rfl) rfl ?_ ?_
                · intro h21_12
                  first | rw [if_pos h21_12] at hP | rw [if_neg h21_12] at hP | skip
                  as_aux_lemma =>
                    refine SPL_y (y_pick_t rfl rfl) rfl ?_
                    refine SPL_nil ?_
                    refine thenP_n ?_
                    refine SP_cond_t rfl ?_
                    refine SP_seq ?_
                    have hn22 : 0 ≤ a0.n ∧ a0.n ≤ 1000000000 := Decidable.byContradiction fun q => by rw [if_neg q] at hP; cases hP
                    rw [if_pos hn22] at hP
                    refine SP_draw 12 [(0, 0), (1, 0), (2, 0), (3, 0), (4, 0), (5, 0), (8, 0), (9, 0), (10, 0), (11, 0), (6, 1), (7, 0), (12, 3)] mixed (by kernel_rfl) (fun _ _ _ _ _ h => h) (Part.refl _) ?_
                    refine SPO_p rfl (y_move rfl) rfl ?_
                    refine SPO_p rfl (y_move rfl) rfl ?_
                    refine SPO_p rfl (y_move rfl) rfl ?_
                    refine SPO_p rfl (y_nil rfl) rfl ?_
                    refine SPO_p rfl (y_ia_arr Tryz.underlying277 Tryz.sizeOf42 rfl rfl (by omega)) rfl ?_
                    refine SPO_p rfl (y_fa fld_42_1 rfl) rfl ?_
                    refine SPO_p rfl (y_move rfl) rfl ?_
                    refine SPO_p rfl (y_nil rfl) rfl ?_
                    refine SPO_p rfl (y_arr_lhm Tryz.underlying277 Tryz.sizeOf42 rfl rfl rfl rfl (by omega)) rfl ?_
                    refine SPO_p rfl (y_move rfl) rfl ?_
                    refine SPO_h rfl (y_load Tryz.isAgg40 rfl (by repeat (first | exact (hA3.a0.cell rfl) | apply Cell.tail))) rfl ?_
                    refine SPO_p rfl (y_conv Tryz.underlying40 Tryz.underlying3 rfl (show IntKind.i64.wrap a0.n = a0.n from by rw [IntKind.wrap_i64]; omega)) rfl ?_
                    unfold outE at hP
                    obtain ⟨m10, hq10, hP⟩ := bnd1 hP
                    refine SPO_z (k := 0) rfl rfl (SP1_call (vm_enter b ph hh1 (args := [a1]) (by simp) (hW.sub1 hv1) hq10 _ hM) Tryz.call141 rfl rfl (by repeat (first | exact Part.nil _ | (apply Part.cons; with_reducible (first | exact P0 | exact P1 | exact P2 | exact P3 | exact P4 | exact P5 | exact P6 | exact P7 | exact P8 | exact P9 | exact P10 | exact P11 | exact P12 | exact P13 | exact P14 | exact P15 | exact P16 | exact P17 | exact P18 | exact P19 | exact P20 | exact P21 | exact P22 | exact P23)) | (apply Part.flat; simp only [List.cons_append, List.nil_append]) | (apply Part.cons; (first | exact P0 | exact P1 | exact P2 | exact P3 | exact P4 | exact P5 | exact P6 | exact P7 | exact P8 | exact P9 | exact P10 | exact P11 | exact P12 | exact P13 | exact P14 | exact P15 | exact P16 | exact P17 | exact P18 | exact P19 | exact P20 | exact P21 | exact P22 | exact P23)) | (apply Part.nilc))) ?_)
                    rintro v post H' ⟨rfl, hh10, sg10, hM, rfl⟩ hH
                    try simp only [List.cons_append, List.nil_append] at hH
                    subst hH
                    refine SPO_nil ?_
                    refine thenP_n ?_
                    refine SP_seq ?_
                    refine SP_region ?_
                    refine SPL_y (y_buildN (l := (evV ev0)) BN184 rfl rfl) rfl ?_
                    refine SPL_one rfl (SP1_storeAll Tryz.sizeOf184 rfl rfl rfl rfl rfl (by first | exact U0 | exact U1 | exact U2 | exact U3 | exact U4 | exact U5 | exact U6 | exact U7 | exact U8 | exact U9 | exact U10 | exact U11 | exact U12 | exact U13 | exact U14 | exact U15 | exact U16 | exact U17 | exact U18 | exact U19 | exact U20 | exact U21 | exact U22 | exact U23) (by rfl) ?_)
                    refine SPL_nil ?_
                    refine thenP_n ?_
                    refine SP_ret ?_
                    refine thenP_ret (inBlockP_ret (thenP_ret (bodyP_ret (H' := [sg10]) (ResC rfl rfl Tryz.isAgg184 Tryz.sizeOf184 rfl (by repeat (first | exact Cells.all _ | exact Cells.amid hpre rfl (by decide) | exact Cells.head rfl | apply Cells.tail))) (by repeat (first | exact Part.nil _ | (apply Part.cons; with_reducible (first | exact P0 | exact P1 | exact P2 | exact P3 | exact P4 | exact P5 | exact P6 | exact P7 | exact P8 | exact P9 | exact P10 | exact P11 | exact P12 | exact P13 | exact P14 | exact P15 | exact P16 | exact P17 | exact P18 | exact P19 | exact P20 | exact P21 | exact P22 | exact P23)) | (apply Part.flat; simp only [List.cons_append, List.nil_append]) | (apply Part.cons; (first | exact P0 | exact P1 | exact P2 | exact P3 | exact P4 | exact P5 | exact P6 | exact P7 | exact P8 | exact P9 | exact P10 | exact P11 | exact P12 | exact P13 | exact P14 | exact P15 | exact P16 | exact P17 | exact P18 | exact P19 | exact P20 | exact P21 | exact P22 | exact P23)) | (apply Part.nilc))) ?_)))
                    injection hP with hP
                    subst hP
                    exact ⟨_, _, rfl, rfl, _, _, hM, rfl⟩
                intro h21_12
                first | rw [if_neg h21_12] at hP | rw [if_pos (Decidable.not_not.1 h21_12)] at hP | skip
                as_aux_lemma =>
                  refine SPL_y (y_pick_t rfl rfl) rfl ?_
                  refine SPL_nil ?_
                  refine thenP_n ?_
                  refine SP_cond_f rfl ?_
                  refine SP_skip ?_
                  refine thenP_n ?_
                  refine SP_seq ?_
                  refine SP_region ?_
                  refine SPL_y (y_build B42 rfl rfl (by simp only [fillL, List.foldl_cons, List.foldl_nil, List.set_cons_zero, List.set_cons_succ]; exact rfl)) rfl ?_
                  refine SPL_one rfl (SP1_storeAll Tryz.sizeOf42 rfl rfl rfl rfl rfl (by first | exact U0 | exact U1 | exact U2 | exact U3 | exact U4 | exact U5 | exact U6 | exact U7 | exact U8 | exact U9 | exact U10 | exact U11 | exact U12 | exact U13 | exact U14 | exact U15 | exact U16 | exact U17 | exact U18 | exact U19 | exact U20 | exact U21 | exact U22 | exact U23) (by rfl) ?_)
                  refine SPL_nil ?_
                  refine thenP_n ?_
                  refine SP_seq ?_
                  refine SP_seq ?_
                  refine SP_region ?_
                  refine SPL_y (y_move rfl) rfl ?_
                  refine SPL_y (y_nil rfl) rfl ?_
                  refine SPL_y (y_ia_arr Tryz.underlying277 Tryz.sizeOf42 rfl rfl (by omega)) rfl ?_
                  refine SPL_y (y_fa fld_42_0 rfl) rfl ?_
                  refine SPL_y (y_load Tryz.isAgg3 rfl (by repeat (first | exact (hA3.a0.cell rfl) | apply Cell.tail))) rfl ?_
                  refine SPL_ifn (y_eql rfl rfl) rfl ?_ ?_
                  · intro h25_5
                    first | rw [if_neg h25_5] at hP | rw [if_pos (Decidable.not_not.1 h25_5)] at hP | skip
                    exact absurd h21_5 h25_5
                  intro h25_5
                  first | rw [if_pos h25_5] at hP | rw [if_neg h25_5] at hP | skip
                  as_aux_lemma =>
                    refine SPL_nil ?_
                    refine thenP_n ?_
                    refine SP_cond_t rfl ?_
                    refine SP_region ?_
                    refine SPL_y (y_fa fld_42_2 rfl) rfl ?_
                    refine SPL_one rfl (SP1_store Tryz.sizeOf9 rfl rfl rfl (by first | exact U0 | exact U1 | exact U2 | exact U3 | exact U4 | exact U5 | exact U6 | exact U7 | exact U8 | exact U9 | exact U10 | exact U11 | exact U12 | exact U13 | exact U14 | exact U15 | exact U16 | exact U17 | exact U18 | exact U19 | exact U20 | exact U21 | exact U22 | exact U23) (by rfl) ?_)
                    refine SPL_nil ?_
                    refine thenP_n ?_
                    refine SP_region ?_
                    refine SPL_y (y_build B42 rfl rfl (by simp only [fillL, List.foldl_cons, List.foldl_nil, List.set_cons_zero, List.set_cons_succ]; exact rfl)) rfl ?_
                    refine SPL_one rfl (SP1_storeAll Tryz.sizeOf42 rfl rfl rfl rfl rfl (by first | exact U0 | exact U1 | exact U2 | exact U3 | exact U4 | exact U5 | exact U6 | exact U7 | exact U8 | exact U9 | exact U10 | exact U11 | exact U12 | exact U13 | exact U14 | exact U15 | exact U16 | exact U17 | exact U18 | exact U19 | exact U20 | exact U21 | exact U22 | exact U23) (by rfl) ?_)
                    refine SPL_nil ?_
                    refine inBlockP_n ?_
                    refine thenP_n ?_
                    refine SP_seq ?_
                    unfold finM at hP
                    try unfold getT at hP
                    obtain ⟨t62, ht62, hP⟩ := bnd1 hP
                    obtain ⟨g62, oa62, oc62, hg62, _, hrow62, hst62, hfr62, _⟩ := hM.thr ht62
                    have hl62 : at_ ≤ t62.stack.length := Decidable.byContradiction fun q => by rw [if_neg q] at hP; cases hP
                    rw [if_pos hl62] at hP
                    have hsp62 : ∃ xs sg, Arr 42 3 g62.sa t62.stack.length g62.sc xs sg := by
                      obtain ⟨_, _, _, _, _, _, _, _, _, _, _, _, hss, _⟩ := hM.opnT ht62 hg62
                      exact ⟨_, _, hss⟩
                    obtain ⟨xs62, sx62, hsp62⟩ := hsp62
                    have hml62 := hsp62.mle
                    obtain ⟨pre62, post62, na62, nc62, sg62, hpre62, hup62, hM62⟩ := hM.cutS ht62 hg62 (j := at_) hl62
                    refine SP_region ?_
                    refine SPL_y (y_move rfl) rfl ?_
                    refine SPL_y (y_move rfl) rfl ?_
                    refine SPL_y (y_nil rfl) rfl ?_
                    refine SPL_y (y_fa fld_263_2 rfl) rfl ?_
                    refine SPL_y (y_load Tryz.isAgg90 rfl (by repeat (first | exact (hrow62 _ 2 _ rfl) | apply Cell.tail))) rfl ?_
                    refine SPL_y (y_move rfl) rfl ?_
                    refine SPL_y (y_cut hsp62 Tryz.underlying90 Tryz.sizeOf42 rfl rfl (by omega)) rfl ?_
                    rw [Int.toNat_natCast]
                    refine SPL_y (y_nil rfl) rfl ?_
                    refine SPL_y (y_fa fld_263_2 rfl) rfl ?_
                    refine SPL_one rfl (SP1_storeM (j := 2) (pre := pre62) (cs := trow t62 g62 na62 nc62) (post := post62) Tryz.sizeOf90 rfl rfl rfl hpre62 (by repeat (first | exact hup62 _ | apply Upd.tail)) (by rfl) ?_)
                    replace hM := hM62
                    refine SPL_nil ?_
                    refine thenP_n ?_
                    refine SP_seq ?_
                    refine SP_region ?_
                    refine SPL_y (y_move rfl) rfl ?_
                    refine SPL_y (y_loads Tryz.isAgg42 Tryz.sizeOf42 rfl rfl (by repeat (first | exact Cells.all _ | exact Cells.amid hpre rfl (by decide) | exact Cells.head rfl | apply Cells.tail))) rfl ?_
                    refine SPL_y (y_loads Tryz.isAgg42 Tryz.sizeOf42 rfl rfl (by repeat (first | exact Cells.all _ | exact Cells.amid hpre rfl (by decide) | exact Cells.head rfl | apply Cells.tail))) rfl ?_
                    refine SPL_one rfl (SP1_sliceN (l := ([v1, strV s_depth].flatMap valV)) el_90 rfl (by kernel_rfl) rfl rfl ?_)
                    intro b283
                    obtain ⟨m9, hq9, hP⟩ := bnd1 hP
                    refine SPL_one rfl (SP1_call (vm_push b ph _ _ hq9 _ hM) Tryz.call142 rfl rfl (by repeat (first | exact Part.nil _ | (apply Part.cons; with_reducible (first | exact P0 | exact P1 | exact P2 | exact P3 | exact P4 | exact P5 | exact P6 | exact P7 | exact P8 | exact P9 | exact P10 | exact P11 | exact P12 | exact P13 | exact P14 | exact P15 | exact P16 | exact P17 | exact P18 | exact P19 | exact P20 | exact P21 | exact P22 | exact P23)) | (apply Part.flat; simp only [List.cons_append, List.nil_append]) | (apply Part.cons; (first | exact P0 | exact P1 | exact P2 | exact P3 | exact P4 | exact P5 | exact P6 | exact P7 | exact P8 | exact P9 | exact P10 | exact P11 | exact P12 | exact P13 | exact P14 | exact P15 | exact P16 | exact P17 | exact P18 | exact P19 | exact P20 | exact P21 | exact P22 | exact P23)) | (apply Part.nilc))) ?_)
                    rintro v post H' ⟨rfl, hh9, sg9, hk9, hM, rfl⟩ hH
                    try simp only [List.cons_append, List.nil_append] at hH
                    subst hH
                    refine SPL_nil ?_
                    refine thenP_n ?_
                    refine SP_seq ?_
                    refine SP_region ?_
                    refine SPL_y (y_buildN (l := (evV ev0)) BN184 rfl rfl) rfl ?_
                    refine SPL_one rfl (SP1_storeAll Tryz.sizeOf184 rfl rfl rfl rfl rfl (by first | exact U0 | exact U1 | exact U2 | exact U3 | exact U4 | exact U5 | exact U6 | exact U7 | exact U8 | exact U9 | exact U10 | exact U11 | exact U12 | exact U13 | exact U14 | exact U15 | exact U16 | exact U17 | exact U18 | exact U19 | exact U20 | exact U21 | exact U22 | exact U23) (by rfl) ?_)
                    refine SPL_nil ?_
                    refine thenP_n ?_
                    refine SP_ret ?_
                    refine bodyP_ret (H' := [sg9]) (ResC rfl rfl Tryz.isAgg184 Tryz.sizeOf184 rfl (by repeat (first | exact Cells.all _ | exact Cells.amid hpre rfl (by decide) | exact Cells.head rfl | apply Cells.tail))) (by repeat (first | exact Part.nil _ | (apply Part.cons; with_reducible (first | exact P0 | exact P1 | exact P2 | exact P3 | exact P4 | exact P5 | exact P6 | exact P7 | exact P8 | exact P9 | exact P10 | exact P11 | exact P12 | exact P13 | exact P14 | exact P15 | exact P16 | exact P17 | exact P18 | exact P19 | exact P20 | exact P21 | exact P22 | exact P23)) | (apply Part.flat; simp only [List.cons_append, List.nil_append]) | (apply Part.cons; (first | exact P0 | exact P1 | exact P2 | exact P3 | exact P4 | exact P5 | exact P6 | exact P7 | exact P8 | exact P9 | exact P10 | exact P11 | exact P12 | exact P13 | exact P14 | exact P15 | exact P16 | exact P17 | exact P18 | exact P19 | exact P20 | exact P21 | exact P22 | exact P23)) | (apply Part.nilc))) ?_
                    injection hP with hP
                    subst hP
                    exact ⟨_, _, rfl, rfl, _, _, hM, rfl⟩
          intro h20_0
          first | rw [if_neg h20_0] at hP | rw [if_pos (Decidable.not_not.1 h20_0)] at hP | skip
          as_aux_lemma =>
            refine SPL_y (y_assign rfl) rfl ?_
            refine SPL_nil ?_
            refine thenP_n ?_
            refine SP_cond_f rfl ?_
            refine SP_seq ?_
            refine SP_region ?_
            refine SPL_if (y_eql rfl rfl) rfl ?_ ?_
            · intro h28_0
              first | rw [if_pos h28_0] at hP | rw [if_neg h28_0] at hP | skip
              as_aux_lemma =>
                refine SPL_y (y_assign rfl) rfl ?_
                refine SPL_nil ?_
                refine thenP_n ?_
                refine SP_cond_t rfl ?_
                refine SP_seq ?_
                refine SP_seq ?_
                unfold cResume at hP
                refine SP_region ?_
                refine SPL_y (y_move rfl) rfl ?_
                refine SPL_y (y_nil rfl) rfl ?_
                refine SPL_y (y_ia_arr Tryz.underlying277 Tryz.sizeOf42 rfl rfl (by omega)) rfl ?_
                refine SPL_y (y_fa fld_42_0 rfl) rfl ?_
                refine SPL_y (y_load Tryz.isAgg3 rfl (by repeat (first | exact (hA3.a0.cell rfl) | apply Cell.tail))) rfl ?_
                refine SPL_if (y_neq rfl rfl) rfl ?_ ?_
                · intro h29_5
                  first | rw [if_pos h29_5] at hP | rw [if_neg h29_5] at hP | skip
                  as_aux_lemma =>
                    refine SPL_nil ?_
                    refine thenP_n ?_
                    refine SP_cond_t rfl ?_
                    refine SP_region ?_
                    refine SPL_one rfl (SP1_callp (vm_raise s_co) Tryz.call281 rfl rfl (by repeat (first | exact Part.nil _ | (apply Part.cons; with_reducible (first | exact P0 | exact P1 | exact P2 | exact P3 | exact P4 | exact P5 | exact P6 | exact P7 | exact P8 | exact P9 | exact P10 | exact P11 | exact P12 | exact P13 | exact P14 | exact P15 | exact P16 | exact P17 | exact P18 | exact P19 | exact P20 | exact P21 | exact P22 | exact P23)) | (apply Part.flat; simp only [List.cons_append, List.nil_append]) | (apply Part.cons; (first | exact P0 | exact P1 | exact P2 | exact P3 | exact P4 | exact P5 | exact P6 | exact P7 | exact P8 | exact P9 | exact P10 | exact P11 | exact P12 | exact P13 | exact P14 | exact P15 | exact P16 | exact P17 | exact P18 | exact P19 | exact P20 | exact P21 | exact P22 | exact P23)) | (apply Part.nilc))) ?_ ?_)
                    · rintro c post H' ⟨bb, rfl, rfl⟩ hH
                      try simp only [List.cons_append, List.nil_append] at hH
                      subst hH
                      refine thenP_panic (inBlockP_panic (thenP_panic (bodyP_panic (H' := [sg6, blk bb 335 (valV (strV s_co))]) (by repeat (first | exact Part.nil _ | (apply Part.cons; with_reducible (first | exact P0 | exact P1 | exact P2 | exact P3 | exact P4 | exact P5 | exact P6 | exact P7 | exact P8 | exact P9 | exact P10 | exact P11 | exact P12 | exact P13 | exact P14 | exact P15 | exact P16 | exact P17 | exact P18 | exact P19 | exact P20 | exact P21 | exact P22 | exact P23)) | (apply Part.flat; simp only [List.cons_append, List.nil_append]) | (apply Part.cons; (first | exact P0 | exact P1 | exact P2 | exact P3 | exact P4 | exact P5 | exact P6 | exact P7 | exact P8 | exact P9 | exact P10 | exact P11 | exact P12 | exact P13 | exact P14 | exact P15 | exact P16 | exact P17 | exact P18 | exact P19 | exact P20 | exact P21 | exact P22 | exact P23)) | (apply Part.nilc))) ?_)))
                      injection hP with hP
                      subst hP
                      exact ⟨.thr (strV s_co) m6 bb, hh1, sg6, rfl, rfl, hM, rfl⟩
                    rintro v post H' hF hH
                    exact hF.elim
                intro h29_5
                first | rw [if_neg h29_5] at hP | rw [if_pos (Decidable.not_not.1 h29_5)] at hP | skip
                as_aux_lemma =>
                  refine SPL_nil ?_
                  refine thenP_n ?_
                  refine SP_cond_f rfl ?_
                  refine SP_skip ?_
                  refine thenP_n ?_
                  refine SP_seq ?_
                  obtain ⟨u, hu, hP⟩ := bnd1 hP
                  obtain ⟨hub, hul, _, hui, hue⟩ := getI_some hu
                  have hu1 : m6.vs.threads[a0.n.toNat]? = some u := by rw [List.getElem?_eq_getElem hui, hue]
                  obtain ⟨gu, oau, ocu, hgu, _, hrowu, _⟩ := hM.thr hu1
                  refine SP_draw 999 [(0, 0), (1, 0), (2, 0), (4, 0), (5, 0), (6, 0), (7, 0), (3, 1), (8, 1), (9, 0), (10, 0), (11, 1), (12, 0)] mixed (by kernel_rfl) (fun _ _ _ _ _ h => h) (Part.refl _) ?_
                  refine SPO_p rfl (y_move rfl) rfl ?_
                  refine SPO_p rfl (y_nil rfl) rfl ?_
                  refine SPO_p rfl (y_fa fld_115_9 rfl) rfl ?_
                  refine SPO_p rfl (y_move rfl) rfl ?_
                  refine SPO_p rfl (y_nil rfl) rfl ?_
                  refine SPO_p rfl (y_ia_arr Tryz.underlying277 Tryz.sizeOf42 rfl rfl (by omega)) rfl ?_
                  refine SPO_p rfl (y_fa fld_42_1 rfl) rfl ?_
                  refine SPO_h rfl (y_load Tryz.isAgg107 rfl (by repeat (first | exact hM.threads | apply Cell.tail))) rfl ?_
                  refine SPO_h rfl (y_load Tryz.isAgg40 rfl (by repeat (first | exact (hA3.a0.cell rfl) | apply Cell.tail))) rfl ?_
                  refine SPO_p rfl (y_ia Tryz.underlying107 Tryz.sizeOf263 rfl rfl (by omega)) rfl ?_
                  refine SPO_p rfl (y_fa fld_263_0 rfl) rfl ?_
                  refine SPO_h rfl (y_load Tryz.isAgg3 rfl (by repeat (first | exact (hrowu _ 0 _ rfl) | apply Cell.tail))) rfl ?_
                  refine SPO_p rfl (y_assign rfl) rfl ?_
                  refine SPO_nil ?_
                  refine thenP_n ?_
                  refine SP_seq ?_
                  refine SP_seq ?_
                  refine SP_region ?_
                  refine SPL_y (y_move rfl) rfl ?_
                  refine SPL_if (y_eql rfl rfl) rfl ?_ ?_
                  · intro h32_1
                    first | rw [if_pos h32_1] at hP | rw [if_neg h32_1] at hP | skip
                    as_aux_lemma =>
                      refine SPL_y (y_move rfl) rfl ?_
                      refine SPL_gn rfl rfl rfl rfl ?_
                      refine SPL_gn rfl rfl rfl rfl ?_
                      refine SPL_y (y_pick_t rfl rfl) rfl ?_
                      refine SPL_nil ?_
                      refine thenP_n ?_
                      refine SP_cond_t rfl ?_
                      refine SP_seq ?_
                      rw [if_pos (by omega)] at hP
                      unfold getT at hP
                      obtain ⟨t33, ht33, hP⟩ := bnd1 hP
                      have hl33 : at_ ≤ t33.stack.length := Decidable.byContradiction fun q => by rw [if_neg q] at hP; cases hP
                      rw [if_pos hl33] at hP
                      injection hP with hP
                      subst hP
                      obtain ⟨g33, oa33, oc33, hg33, _, hrow33, _⟩ := hM.thr ht33
                      obtain ⟨pre33, post33, na33, nc33, sg33, hpre33, hup33, hM33⟩ := hM.setSt ht33 hg33 3
                      obtain ⟨u33, hu33⟩ : ∃ u, u = { t33 with st := 3 } := ⟨_, rfl⟩
                      have hv33 : (setTh m6 th { t33 with st := 3 }).vs.threads[th]? = some u33 := by rw [hu33]; exact setTh_get ht33
                      have hw33 : u33.stack = t33.stack := by rw [hu33]
                      refine SP_region ?_
                      refine SPL_y (y_move rfl) rfl ?_
                      refine SPL_y (y_nil rfl) rfl ?_
                      refine SPL_y (y_fa fld_263_0 rfl) rfl ?_
                      refine SPL_one rfl (SP1_storeM (j := 0) (pre := pre33) (cs := trow t33 g33 na33 nc33) (post := post33) Tryz.sizeOf3 rfl rfl rfl hpre33 (by repeat (first | exact hup33 _ | apply Upd.tail)) (by rfl) ?_)
                      refine SPL_nil ?_
                      refine thenP_n ?_
                      refine SP_seq ?_
                      obtain ⟨_, oa34, oc34, hg34, _, hrow34, _⟩ := hM33.thr hv33
                      rw [hg33] at hg34
                      injection hg34 with hg34
                      subst hg34
                      have hsp34 : ∃ xs sg, Arr 42 3 g33.sa u33.stack.length g33.sc xs sg := by
                        obtain ⟨_, _, _, _, _, _, _, _, _, _, _, _, hss, _⟩ := hM33.opnT hv33 hg33
                        exact ⟨_, _, hss⟩
                      obtain ⟨xs34, sx34, hsp34⟩ := hsp34
                      have hml34 := hsp34.mle
                      obtain ⟨pre34, post34, na34, nc34, sg34, hpre34, hup34, hM34, hkeep⟩ := hM33.cutK hv33 hg33 (j := at_) (by rw [hw33]; exact hl33)
                      rw [setTh_setTh, hu33] at hM34
                      have hB3 := ArgW.cut3 hW hg33 ht33 (seg' := sg34) (by rw [← hw33]; exact hkeep) h3
                      rw [hgd, hgd, hgd, ← ha0, ← ha1] at hB3
                      refine SP_region ?_
                      refine SPL_y (y_move rfl) rfl ?_
                      refine SPL_y (y_move rfl) rfl ?_
                      refine SPL_y (y_nil rfl) rfl ?_
                      refine SPL_y (y_fa fld_263_2 rfl) rfl ?_
                      refine SPL_y (y_load Tryz.isAgg90 rfl (by repeat (first | exact (hrow34 _ 2 _ rfl) | apply Cell.tail))) rfl ?_
                      refine SPL_y (y_move rfl) rfl ?_
                      refine SPL_y (y_cut hsp34 Tryz.underlying90 Tryz.sizeOf42 rfl rfl (by rw [hw33] at hml34; omega)) rfl ?_
                      rw [Int.toNat_natCast]
                      refine SPL_y (y_nil rfl) rfl ?_
                      refine SPL_y (y_fa fld_263_2 rfl) rfl ?_
                      refine SPL_one rfl (SP1_storeM (j := 2) (pre := pre34) (cs := trow u33 g33 na34 nc34) (post := post34) Tryz.sizeOf90 rfl rfl rfl hpre34 (by repeat (first | exact hup34 _ | apply Upd.tail)) (by rfl) ?_)
                      refine SPL_nil ?_
                      refine thenP_n ?_
                      refine SP_seq ?_
                      refine SP_draw 11 [(0, 0), (1, 0), (2, 0), (3, 0), (6, 0), (7, 0), (8, 0), (4, 1), (5, 0), (9, 1), (10, 0), (11, 3)] mixed (by kernel_rfl) (fun _ _ _ _ _ h => h) (Part.refl _) ?_
                      refine SPO_p rfl (y_move rfl) rfl ?_
                      refine SPO_p rfl (y_nil rfl) rfl ?_
                      refine SPO_p rfl (y_ia_arr Tryz.underlying277 Tryz.sizeOf42 rfl rfl (by omega)) rfl ?_
                      refine SPO_p rfl (y_fa fld_42_1 rfl) rfl ?_
                      refine SPO_p rfl (y_move rfl) rfl ?_
                      refine SPO_p rfl (y_nil rfl) rfl ?_
                      refine SPO_p rfl (y_ia_arr Tryz.underlying277 Tryz.sizeOf42 rfl rfl (by omega)) rfl ?_
                      refine SPO_h rfl (y_load Tryz.isAgg40 rfl (by repeat (first | exact (hB3.a0.cell rfl) | apply Cell.tail))) rfl ?_
                      refine SPO_p rfl (y_conv Tryz.underlying40 Tryz.underlying3 rfl (show IntKind.i64.wrap a0.n = a0.n from by rw [IntKind.wrap_i64]; omega)) rfl ?_
                      refine SPO_h rfl (y_loads Tryz.isAgg42 Tryz.sizeOf42 rfl rfl (by repeat (first | exact hB3.a1 | apply Cells.tail))) rfl ?_
                      refine SPO_p rfl (y_buildN (l := (evV ⟨4, a0.n, 0, a1, V.nil⟩)) BN184 rfl rfl) rfl ?_
                      refine SPO_z (k := 0) rfl rfl (SP1_storeAll Tryz.sizeOf184 rfl rfl rfl rfl rfl (by first | exact U0 | exact U1 | exact U2 | exact U3 | exact U4 | exact U5 | exact U6 | exact U7 | exact U8 | exact U9 | exact U10 | exact U11 | exact U12 | exact U13 | exact U14 | exact U15 | exact U16 | exact U17 | exact U18 | exact U19 | exact U20 | exact U21 | exact U22 | exact U23) (by rfl) ?_)
                      refine SPO_nil ?_
                      refine thenP_n ?_
                      refine SP_ret ?_
                      refine thenP_ret (inBlockP_ret (thenP_ret (bodyP_ret (H' := [sg34]) (ResC rfl rfl Tryz.isAgg184 Tryz.sizeOf184 rfl (by repeat (first | exact Cells.all _ | exact Cells.amid hpre rfl (by decide) | exact Cells.head rfl | apply Cells.tail))) (by repeat (first | exact Part.nil _ | (apply Part.cons; with_reducible (first | exact P0 | exact P1 | exact P2 | exact P3 | exact P4 | exact P5 | exact P6 | exact P7 | exact P8 | exact P9 | exact P10 | exact P11 | exact P12 | exact P13 | exact P14 | exact P15 | exact P16 | exact P17 | exact P18 | exact P19 | exact P20 | exact P21 | exact P22 | exact P23)) | (apply Part.flat; simp only [List.cons_append, List.nil_append]) | (apply Part.cons; (first | exact P0 | exact P1 | exact P2 | exact P3 | exact P4 | exact P5 | exact P6 | exact P7 | exact P8 | exact P9 | exact P10 | exact P11 | exact P12 | exact P13 | exact P14 | exact P15 | exact P16 | exact P17 | exact P18 | exact P19 | exact P20 | exact P21 | exact P22 | exact P23)) | (apply Part.nilc))) ?_)))
                      exact ⟨_, _, rfl, rfl, _, _, hM34, rfl⟩
                  intro h32_1
                  first | rw [if_neg h32_1] at hP | rw [if_pos (Decidable.not_not.1 h32_1)] at hP | skip
                  as_aux_lemma =>
                    refine SPL_y (y_move rfl) rfl ?_
                    refine SPL_gy rfl rfl ?_
                    refine SPL_y (y_move rfl) rfl ?_
                    refine SPL_gy rfl rfl ?_
                    refine SPL_if (y_eql rfl rfl) rfl ?_ ?_
                    · intro h32_4
                      first | rw [if_pos h32_4] at hP | rw [if_neg h32_4] at hP | skip
                      as_aux_lemma =>
                        refine SPL_y (y_pick_f rfl rfl) rfl ?_
                        refine SPL_nil ?_
                        refine thenP_n ?_
                        refine SP_cond_t rfl ?_
                        refine SP_seq ?_
                        rw [if_pos (by omega)] at hP
                        unfold getT at hP
                        obtain ⟨t33, ht33, hP⟩ := bnd1 hP
                        have hl33 : at_ ≤ t33.stack.length := Decidable.byContradiction fun q => by rw [if_neg q] at hP; cases hP
                        rw [if_pos hl33] at hP
                        injection hP with hP
                        subst hP
                        obtain ⟨g33, oa33, oc33, hg33, _, hrow33, _⟩ := hM.thr ht33
                        obtain ⟨pre33, post33, na33, nc33, sg33, hpre33, hup33, hM33⟩ := hM.setSt ht33 hg33 3
                        obtain ⟨u33, hu33⟩ : ∃ u, u = { t33 with st := 3 } := ⟨_, rfl⟩
                        have hv33 : (setTh m6 th { t33 with st := 3 }).vs.threads[th]? = some u33 := by rw [hu33]; exact setTh_get ht33
                        have hw33 : u33.stack = t33.stack := by rw [hu33]
                        refine SP_region ?_
                        refine SPL_y (y_move rfl) rfl ?_
                        refine SPL_y (y_nil rfl) rfl ?_
                        refine SPL_y (y_fa fld_263_0 rfl) rfl ?_
                        refine SPL_one rfl (SP1_storeM (j := 0) (pre := pre33) (cs := trow t33 g33 na33 nc33) (post := post33) Tryz.sizeOf3 rfl rfl rfl hpre33 (by repeat (first | exact hup33 _ | apply Upd.tail)) (by rfl) ?_)
                        refine SPL_nil ?_
                        refine thenP_n ?_
                        refine SP_seq ?_
                        obtain ⟨_, oa34, oc34, hg34, _, hrow34, _⟩ := hM33.thr hv33
                        rw [hg33] at hg34
                        injection hg34 with hg34
                        subst hg34
                        have hsp34 : ∃ xs sg, Arr 42 3 g33.sa u33.stack.length g33.sc xs sg := by
                          obtain ⟨_, _, _, _, _, _, _, _, _, _, _, _, hss, _⟩ := hM33.opnT hv33 hg33
                          exact ⟨_, _, hss⟩
                        obtain ⟨xs34, sx34, hsp34⟩ := hsp34
                        have hml34 := hsp34.mle
                        obtain ⟨pre34, post34, na34, nc34, sg34, hpre34, hup34, hM34, hkeep⟩ := hM33.cutK hv33 hg33 (j := at_) (by rw [hw33]; exact hl33)
                        rw [setTh_setTh, hu33] at hM34
                        have hB3 := ArgW.cut3 hW hg33 ht33 (seg' := sg34) (by rw [← hw33]; exact hkeep) h3
                        rw [hgd, hgd, hgd, ← ha0, ← ha1] at hB3
                        refine SP_region ?_
                        refine SPL_y (y_move rfl) rfl ?_
                        refine SPL_y (y_move rfl) rfl ?_
                        refine SPL_y (y_nil rfl) rfl ?_
                        refine SPL_y (y_fa fld_263_2 rfl) rfl ?_
                        refine SPL_y (y_load Tryz.isAgg90 rfl (by repeat (first | exact (hrow34 _ 2 _ rfl) | apply Cell.tail))) rfl ?_
                        refine SPL_y (y_move rfl) rfl ?_
                        refine SPL_y (y_cut hsp34 Tryz.underlying90 Tryz.sizeOf42 rfl rfl (by rw [hw33] at hml34; omega)) rfl ?_
                        rw [Int.toNat_natCast]
                        refine SPL_y (y_nil rfl) rfl ?_
                        refine SPL_y (y_fa fld_263_2 rfl) rfl ?_
                        refine SPL_one rfl (SP1_storeM (j := 2) (pre := pre34) (cs := trow u33 g33 na34 nc34) (post := post34) Tryz.sizeOf90 rfl rfl rfl hpre34 (by repeat (first | exact hup34 _ | apply Upd.tail)) (by rfl) ?_)
                        refine SPL_nil ?_
                        refine thenP_n ?_
                        refine SP_seq ?_
                        refine SP_draw 11 [(0, 0), (1, 0), (2, 0), (3, 0), (6, 0), (7, 0), (8, 0), (4, 1), (5, 0), (9, 1), (10, 0), (11, 3)] mixed (by kernel_rfl) (fun _ _ _ _ _ h => h) (Part.refl _) ?_
                        refine SPO_p rfl (y_move rfl) rfl ?_
                        refine SPO_p rfl (y_nil rfl) rfl ?_
                        refine SPO_p rfl (y_ia_arr Tryz.underlying277 Tryz.sizeOf42 rfl rfl (by omega)) rfl ?_
                        refine SPO_p rfl (y_fa fld_42_1 rfl) rfl ?_
                        refine SPO_p rfl (y_move rfl) rfl ?_
                        refine SPO_p rfl (y_nil rfl) rfl ?_
                        refine SPO_p rfl (y_ia_arr Tryz.underlying277 Tryz.sizeOf42 rfl rfl (by omega)) rfl ?_
                        refine SPO_h rfl (y_load Tryz.isAgg40 rfl (by repeat (first | exact (hB3.a0.cell rfl) | apply Cell.tail))) rfl ?_
                        refine SPO_p rfl (y_conv Tryz.underlying40 Tryz.underlying3 rfl (show IntKind.i64.wrap a0.n = a0.n from by rw [IntKind.wrap_i64]; omega)) rfl ?_
                        refine SPO_h rfl (y_loads Tryz.isAgg42 Tryz.sizeOf42 rfl rfl (by repeat (first | exact hB3.a1 | apply Cells.tail))) rfl ?_
                        refine SPO_p rfl (y_buildN (l := (evV ⟨4, a0.n, 0, a1, V.nil⟩)) BN184 rfl rfl) rfl ?_
                        refine SPO_z (k := 0) rfl rfl (SP1_storeAll Tryz.sizeOf184 rfl rfl rfl rfl rfl (by first | exact U0 | exact U1 | exact U2 | exact U3 | exact U4 | exact U5 | exact U6 | exact U7 | exact U8 | exact U9 | exact U10 | exact U11 | exact U12 | exact U13 | exact U14 | exact U15 | exact U16 | exact U17 | exact U18 | exact U19 | exact U20 | exact U21 | exact U22 | exact U23) (by rfl) ?_)
                        refine SPO_nil ?_
                        refine thenP_n ?_
                        refine SP_ret ?_
                        refine thenP_ret (inBlockP_ret (thenP_ret (bodyP_ret (H' := [sg34]) (ResC rfl rfl Tryz.isAgg184 Tryz.sizeOf184 rfl (by repeat (first | exact Cells.all _ | exact Cells.amid hpre rfl (by decide) | exact Cells.head rfl | apply Cells.tail))) (by repeat (first | exact Part.nil _ | (apply Part.cons; with_reducible (first | exact P0 | exact P1 | exact P2 | exact P3 | exact P4 | exact P5 | exact P6 | exact P7 | exact P8 | exact P9 | exact P10 | exact P11 | exact P12 | exact P13 | exact P14 | exact P15 | exact P16 | exact P17 | exact P18 | exact P19 | exact P20 | exact P21 | exact P22 | exact P23)) | (apply Part.flat; simp only [List.cons_append, List.nil_append]) | (apply Part.cons; (first | exact P0 | exact P1 | exact P2 | exact P3 | exact P4 | exact P5 | exact P6 | exact P7 | exact P8 | exact P9 | exact P10 | exact P11 | exact P12 | exact P13 | exact P14 | exact P15 | exact P16 | exact P17 | exact P18 | exact P19 | exact P20 | exact P21 | exact P22 | exact P23)) | (apply Part.nilc))) ?_)))
                        exact ⟨_, _, rfl, rfl, _, _, hM34, rfl⟩
                    intro h32_4
                    first | rw [if_neg h32_4] at hP | rw [if_pos (Decidable.not_not.1 h32_4)] at hP | skip
                    as_aux_lemma =>
                      refine SPL_y (y_pick_f rfl rfl) rfl ?_
                      refine SPL_nil ?_
                      refine thenP_n ?_
                      refine SP_cond_f rfl ?_
                      refine SP_skip ?_
                      refine thenP_n ?_
                      refine SP_seq ?_
                      rw [if_neg (by omega)] at hP
                      refine SP_region ?_
                      refine SPL_y (y_move rfl) rfl ?_
                      refine SPL_one rfl (SP1_call (api_StatusName u.st) Tryz.call170 rfl rfl (by repeat (first | exact Part.nil _ | (apply Part.cons; with_reducible (first | exact P0 | exact P1 | exact P2 | exact P3 | exact P4 | exact P5 | exact P6 | exact P7 | exact P8 | exact P9 | exact P10 | exact P11 | exact P12 | exact P13 | exact P14 | exact P15 | exact P16 | exact P17 | exact P18 | exact P19 | exact P20 | exact P21 | exact P22 | exact P23)) | (apply Part.flat; simp only [List.cons_append, List.nil_append]) | (apply Part.cons; (first | exact P0 | exact P1 | exact P2 | exact P3 | exact P4 | exact P5 | exact P6 | exact P7 | exact P8 | exact P9 | exact P10 | exact P11 | exact P12 | exact P13 | exact P14 | exact P15 | exact P16 | exact P17 | exact P18 | exact P19 | exact P20 | exact P21 | exact P22 | exact P23)) | (apply Part.nilc))) ?_)
                      rintro v post H' ⟨rfl, rfl⟩ hH
                      try simp only [List.cons_append, List.nil_append] at hH
                      subst hH
                      refine SPL_y (y_assign rfl) rfl ?_
                      refine SPL_nil ?_
                      refine thenP_n ?_
                      refine SP_seq ?_
                      refine SP_region ?_
                      refine SPL_y (y_build B42 rfl rfl (by simp only [fillL, List.foldl_cons, List.foldl_nil, List.set_cons_zero, List.set_cons_succ]; exact rfl)) rfl ?_
                      refine SPL_one rfl (SP1_storeAll Tryz.sizeOf42 rfl rfl rfl rfl rfl (by first | exact U0 | exact U1 | exact U2 | exact U3 | exact U4 | exact U5 | exact U6 | exact U7 | exact U8 | exact U9 | exact U10 | exact U11 | exact U12 | exact U13 | exact U14 | exact U15 | exact U16 | exact U17 | exact U18 | exact U19 | exact U20 | exact U21 | exact U22 | exact U23) (by rfl) ?_)
                      refine SPL_nil ?_
                      refine thenP_n ?_
                      refine SP_region ?_
                      refine SPL_y (y_move rfl) rfl ?_
                      refine SPL_y (y_build B42 rfl rfl (by simp only [fillL, List.foldl_cons, List.foldl_nil, List.set_cons_zero, List.set_cons_succ]; exact rfl)) rfl ?_
                      refine SPL_one rfl (SP1_storeAll Tryz.sizeOf42 rfl rfl rfl rfl rfl (by first | exact U0 | exact U1 | exact U2 | exact U3 | exact U4 | exact U5 | exact U6 | exact U7 | exact U8 | exact U9 | exact U10 | exact U11 | exact U12 | exact U13 | exact U14 | exact U15 | exact U16 | exact U17 | exact U18 | exact U19 | exact U20 | exact U21 | exact U22 | exact U23) (by rfl) ?_)
                      refine SPL_nil ?_
                      refine inBlockP_n ?_
                      refine thenP_n ?_
                      refine SP_seq ?_
                      unfold finM at hP
                      try unfold getT at hP
                      obtain ⟨t62, ht62, hP⟩ := bnd1 hP
                      obtain ⟨g62, oa62, oc62, hg62, _, hrow62, hst62, hfr62, _⟩ := hM.thr ht62
                      have hl62 : at_ ≤ t62.stack.length := Decidable.byContradiction fun q => by rw [if_neg q] at hP; cases hP
                      rw [if_pos hl62] at hP
                      have hsp62 : ∃ xs sg, Arr 42 3 g62.sa t62.stack.length g62.sc xs sg := by
                        obtain ⟨_, _, _, _, _, _, _, _, _, _, _, _, hss, _⟩ := hM.opnT ht62 hg62
                        exact ⟨_, _, hss⟩
                      obtain ⟨xs62, sx62, hsp62⟩ := hsp62
                      have hml62 := hsp62.mle
                      obtain ⟨pre62, post62, na62, nc62, sg62, hpre62, hup62, hM62⟩ := hM.cutS ht62 hg62 (j := at_) hl62
                      refine SP_region ?_
                      refine SPL_y (y_move rfl) rfl ?_
                      refine SPL_y (y_move rfl) rfl ?_
                      refine SPL_y (y_nil rfl) rfl ?_
                      refine SPL_y (y_fa fld_263_2 rfl) rfl ?_
                      refine SPL_y (y_load Tryz.isAgg90 rfl (by repeat (first | exact (hrow62 _ 2 _ rfl) | apply Cell.tail))) rfl ?_
                      refine SPL_y (y_move rfl) rfl ?_
                      refine SPL_y (y_cut hsp62 Tryz.underlying90 Tryz.sizeOf42 rfl rfl (by omega)) rfl ?_
                      rw [Int.toNat_natCast]
                      refine SPL_y (y_nil rfl) rfl ?_
                      refine SPL_y (y_fa fld_263_2 rfl) rfl ?_
                      refine SPL_one rfl (SP1_storeM (j := 2) (pre := pre62) (cs := trow t62 g62 na62 nc62) (post := post62) Tryz.sizeOf90 rfl rfl rfl hpre62 (by repeat (first | exact hup62 _ | apply Upd.tail)) (by rfl) ?_)
                      replace hM := hM62
                      refine SPL_nil ?_
                      refine thenP_n ?_
                      refine SP_seq ?_
                      refine SP_region ?_
                      refine SPL_y (y_move rfl) rfl ?_
                      refine SPL_y (y_loads Tryz.isAgg42 Tryz.sizeOf42 rfl rfl (by repeat (first | exact Cells.all _ | exact Cells.amid hpre rfl (by decide) | exact Cells.head rfl | apply Cells.tail))) rfl ?_
                      refine SPL_y (y_loads Tryz.isAgg42 Tryz.sizeOf42 rfl rfl (by repeat (first | exact Cells.all _ | exact Cells.amid hpre rfl (by decide) | exact Cells.head rfl | apply Cells.tail))) rfl ?_
                      refine SPL_one rfl (SP1_sliceN (l := ([v1, strV (statusName u.st)].flatMap valV)) el_90 rfl (by kernel_rfl) rfl rfl ?_)
                      intro b283
                      obtain ⟨m9, hq9, hP⟩ := bnd1 hP
                      refine SPL_one rfl (SP1_call (vm_push b ph _ _ hq9 _ hM) Tryz.call142 rfl rfl (by repeat (first | exact Part.nil _ | (apply Part.cons; with_reducible (first | exact P0 | exact P1 | exact P2 | exact P3 | exact P4 | exact P5 | exact P6 | exact P7 | exact P8 | exact P9 | exact P10 | exact P11 | exact P12 | exact P13 | exact P14 | exact P15 | exact P16 | exact P17 | exact P18 | exact P19 | exact P20 | exact P21 | exact P22 | exact P23)) | (apply Part.flat; simp only [List.cons_append, List.nil_append]) | (apply Part.cons; (first | exact P0 | exact P1 | exact P2 | exact P3 | exact P4 | exact P5 | exact P6 | exact P7 | exact P8 | exact P9 | exact P10 | exact P11 | exact P12 | exact P13 | exact P14 | exact P15 | exact P16 | exact P17 | exact P18 | exact P19 | exact P20 | exact P21 | exact P22 | exact P23)) | (apply Part.nilc))) ?_)
                      rintro v post H' ⟨rfl, hh9, sg9, hk9, hM, rfl⟩ hH
                      try simp only [List.cons_append, List.nil_append] at hH
                      subst hH
                      refine SPL_nil ?_
                      refine thenP_n ?_
                      refine SP_seq ?_
                      refine SP_region ?_
                      refine SPL_y (y_buildN (l := (evV ev0)) BN184 rfl rfl) rfl ?_
                      refine SPL_one rfl (SP1_storeAll Tryz.sizeOf184 rfl rfl rfl rfl rfl (by first | exact U0 | exact U1 | exact U2 | exact U3 | exact U4 | exact U5 | exact U6 | exact U7 | exact U8 | exact U9 | exact U10 | exact U11 | exact U12 | exact U13 | exact U14 | exact U15 | exact U16 | exact U17 | exact U18 | exact U19 | exact U20 | exact U21 | exact U22 | exact U23) (by rfl) ?_)
                      refine SPL_nil ?_
                      refine thenP_n ?_
                      refine SP_ret ?_
                      refine bodyP_ret (H' := [sg9]) (ResC rfl rfl Tryz.isAgg184 Tryz.sizeOf184 rfl (by repeat (first | exact Cells.all _ | exact Cells.amid hpre rfl (by decide) | exact Cells.head rfl | apply Cells.tail))) (by repeat (first | exact Part.nil _ | (apply Part.cons; with_reducible (first | exact P0 | exact P1 | exact P2 | exact P3 | exact P4 | exact P5 | exact P6 | exact P7 | exact P8 | exact P9 | exact P10 | exact P11 | exact P12 | exact P13 | exact P14 | exact P15 | exact P16 | exact P17 | exact P18 | exact P19 | exact P20 | exact P21 | exact P22 | exact P23)) | (apply Part.flat; simp only [List.cons_append, List.nil_append]) | (apply Part.cons; (first | exact P0 | exact P1 | exact P2 | exact P3 | exact P4 | exact P5 | exact P6 | exact P7 | exact P8 | exact P9 | exact P10 | exact P11 | exact P12 | exact P13 | exact P14 | exact P15 | exact P16 | exact P17 | exact P18 | exact P19 | exact P20 | exact P21 | exact P22 | exact P23)) | (apply Part.nilc))) ?_
                      injection hP with hP
                      subst hP
                      exact ⟨_, _, rfl, rfl, _, _, hM, rfl⟩
            intro h28_0
            first | rw [if_neg h28_0] at hP | rw [if_pos (Decidable.not_not.1 h28_0)] at hP | skip
            as_aux_lemma =>
              refine SPL_y (y_assign rfl) rfl ?_
              refine SPL_nil ?_
              refine thenP_n ?_
              refine SP_cond_f rfl ?_
              refine SP_seq ?_
              refine SP_region ?_
              refine SPL_if (y_eql rfl rfl) rfl ?_ ?_
              · intro h39_0
                first | rw [if_pos h39_0] at hP | rw [if_neg h39_0] at hP | skip
                as_aux_lemma =>
                  refine SPL_y (y_assign rfl) rfl ?_
                  refine SPL_nil ?_
                  refine thenP_n ?_
                  refine SP_cond_t rfl ?_
                  refine SP_seq ?_
                  refine SP_seq ?_
                  unfold cYield at hP
                  refine SP_region ?_
                  refine SPL_y (y_move rfl) rfl ?_
                  refine SPL_if (y_eql rfl rfl) rfl ?_ ?_
                  · intro h40_1
                    first | rw [if_pos h40_1] at hP | rw [if_neg h40_1] at hP | skip
                    as_aux_lemma =>
                      refine SPL_nil ?_
                      refine thenP_n ?_
                      refine SP_cond_t rfl ?_
                      refine SP_region ?_
                      refine SPL_one rfl (SP1_callp (vm_raise s_yield) Tryz.call281 rfl rfl (by repeat (first | exact Part.nil _ | (apply Part.cons; with_reducible (first | exact P0 | exact P1 | exact P2 | exact P3 | exact P4 | exact P5 | exact P6 | exact P7 | exact P8 | exact P9 | exact P10 | exact P11 | exact P12 | exact P13 | exact P14 | exact P15 | exact P16 | exact P17 | exact P18 | exact P19 | exact P20 | exact P21 | exact P22 | exact P23)) | (apply Part.flat; simp only [List.cons_append, List.nil_append]) | (apply Part.cons; (first | exact P0 | exact P1 | exact P2 | exact P3 | exact P4 | exact P5 | exact P6 | exact P7 | exact P8 | exact P9 | exact P10 | exact P11 | exact P12 | exact P13 | exact P14 | exact P15 | exact P16 | exact P17 | exact P18 | exact P19 | exact P20 | exact P21 | exact P22 | exact P23)) | (apply Part.nilc))) ?_ ?_)
                      · rintro c post H' ⟨bb, rfl, rfl⟩ hH
                        try simp only [List.cons_append, List.nil_append] at hH
                        subst hH
                        refine thenP_panic (inBlockP_panic (thenP_panic (bodyP_panic (H' := [sg6, blk bb 335 (valV (strV s_yield))]) (by repeat (first | exact Part.nil _ | (apply Part.cons; with_reducible (first | exact P0 | exact P1 | exact P2 | exact P3 | exact P4 | exact P5 | exact P6 | exact P7 | exact P8 | exact P9 | exact P10 | exact P11 | exact P12 | exact P13 | exact P14 | exact P15 | exact P16 | exact P17 | exact P18 | exact P19 | exact P20 | exact P21 | exact P22 | exact P23)) | (apply Part.flat; simp only [List.cons_append, List.nil_append]) | (apply Part.cons; (first | exact P0 | exact P1 | exact P2 | exact P3 | exact P4 | exact P5 | exact P6 | exact P7 | exact P8 | exact P9 | exact P10 | exact P11 | exact P12 | exact P13 | exact P14 | exact P15 | exact P16 | exact P17 | exact P18 | exact P19 | exact P20 | exact P21 | exact P22 | exact P23)) | (apply Part.nilc))) ?_)))
                        injection hP with hP
                        subst hP
                        exact ⟨.thr (strV s_yield) m6 bb, hh1, sg6, rfl, rfl, hM, rfl⟩
                      rintro v post H' hF hH
                      exact hF.elim
                  intro h40_1
                  first | rw [if_neg h40_1] at hP | rw [if_pos (Decidable.not_not.1 h40_1)] at hP | skip
                  as_aux_lemma =>
                    refine SPL_nil ?_
                    refine thenP_n ?_
                    refine SP_cond_f rfl ?_
                    refine SP_skip ?_
                    refine thenP_n ?_
                    refine SP_seq ?_
                    unfold getT at hP
                    obtain ⟨t42, ht42, hP⟩ := bnd1 hP
                    have hl42 : at_ ≤ t42.stack.length := Decidable.byContradiction fun q => by rw [if_neg q] at hP; cases hP
                    rw [if_pos hl42] at hP
                    injection hP with hP
                    subst hP
                    obtain ⟨g42, oa42, oc42, hg42, _, hrow42, _⟩ := hM.thr ht42
                    obtain ⟨pre42, post42, na42, nc42, sg42, hpre42, hup42, hM42⟩ := hM.setSt ht42 hg42 2
                    obtain ⟨u42, hu42⟩ : ∃ u, u = { t42 with st := 2 } := ⟨_, rfl⟩
                    have hv42 : (setTh m6 th { t42 with st := 2 }).vs.threads[th]? = some u42 := by rw [hu42]; exact setTh_get ht42
                    have hw42 : u42.stack = t42.stack := by rw [hu42]
                    refine SP_region ?_
                    refine SPL_y (y_move rfl) rfl ?_
                    refine SPL_y (y_nil rfl) rfl ?_
                    refine SPL_y (y_fa fld_263_0 rfl) rfl ?_
                    refine SPL_one rfl (SP1_storeM (j := 0) (pre := pre42) (cs := trow t42 g42 na42 nc42) (post := post42) Tryz.sizeOf3 rfl rfl rfl hpre42 (by repeat (first | exact hup42 _ | apply Upd.tail)) (by rfl) ?_)
                    refine SPL_nil ?_
                    refine thenP_n ?_
                    refine SP_seq ?_
                    obtain ⟨_, oa43, oc43, hg43, _, hrow43, _⟩ := hM42.thr hv42
                    rw [hg42] at hg43
                    injection hg43 with hg43
                    subst hg43
                    have hsp43 : ∃ xs sg, Arr 42 3 g42.sa u42.stack.length g42.sc xs sg := by
                      obtain ⟨_, _, _, _, _, _, _, _, _, _, _, _, hss, _⟩ := hM42.opnT hv42 hg42
                      exact ⟨_, _, hss⟩
                    obtain ⟨xs43, sx43, hsp43⟩ := hsp43
                    have hml43 := hsp43.mle
                    obtain ⟨pre43, post43, na43, nc43, sg43, hpre43, hup43, hM43, hkeep⟩ := hM42.cutK hv42 hg42 (j := at_) (by rw [hw42]; exact hl42)
                    rw [setTh_setTh, hu42] at hM43
                    have hB3 := ArgW.cut3 hW hg42 ht42 (seg' := sg43) (by rw [← hw42]; exact hkeep) h3
                    rw [hgd, hgd, hgd, ← ha0, ← ha1] at hB3
                    refine SP_region ?_
                    refine SPL_y (y_move rfl) rfl ?_
                    refine SPL_y (y_move rfl) rfl ?_
                    refine SPL_y (y_nil rfl) rfl ?_
                    refine SPL_y (y_fa fld_263_2 rfl) rfl ?_
                    refine SPL_y (y_load Tryz.isAgg90 rfl (by repeat (first | exact (hrow43 _ 2 _ rfl) | apply Cell.tail))) rfl ?_
                    refine SPL_y (y_move rfl) rfl ?_
                    refine SPL_y (y_cut hsp43 Tryz.underlying90 Tryz.sizeOf42 rfl rfl (by rw [hw42] at hml43; omega)) rfl ?_
                    rw [Int.toNat_natCast]
                    refine SPL_y (y_nil rfl) rfl ?_
                    refine SPL_y (y_fa fld_263_2 rfl) rfl ?_
                    refine SPL_one rfl (SP1_storeM (j := 2) (pre := pre43) (cs := trow u42 g42 na43 nc43) (post := post43) Tryz.sizeOf90 rfl rfl rfl hpre43 (by repeat (first | exact hup43 _ | apply Upd.tail)) (by rfl) ?_)
                    refine SPL_nil ?_
                    refine thenP_n ?_
                    refine SP_seq ?_
                    refine SP_region ?_
                    refine SPL_y (y_move rfl) rfl ?_
                    refine SPL_y (y_nil rfl) rfl ?_
                    refine SPL_y (y_ia_arr Tryz.underlying277 Tryz.sizeOf42 rfl rfl (by omega)) rfl ?_
                    refine SPL_y (y_loads Tryz.isAgg42 Tryz.sizeOf42 rfl rfl (by repeat (first | exact hB3.a0 | apply Cells.tail))) rfl ?_
                    refine SPL_y (y_buildN (l := (evV ⟨3, 0, 0, a0, V.nil⟩)) BN184 rfl rfl) rfl ?_
                    refine SPL_one rfl (SP1_storeAll Tryz.sizeOf184 rfl rfl rfl rfl rfl (by first | exact U0 | exact U1 | exact U2 | exact U3 | exact U4 | exact U5 | exact U6 | exact U7 | exact U8 | exact U9 | exact U10 | exact U11 | exact U12 | exact U13 | exact U14 | exact U15 | exact U16 | exact U17 | exact U18 | exact U19 | exact U20 | exact U21 | exact U22 | exact U23) (by rfl) ?_)
                    refine SPL_nil ?_
                    refine thenP_n ?_
                    refine SP_ret ?_
                    refine inBlockP_ret (thenP_ret (bodyP_ret (H' := [sg43]) (ResC rfl rfl Tryz.isAgg184 Tryz.sizeOf184 rfl (by repeat (first | exact Cells.all _ | exact Cells.amid hpre rfl (by decide) | exact Cells.head rfl | apply Cells.tail))) (by repeat (first | exact Part.nil _ | (apply Part.cons; with_reducible (first | exact P0 | exact P1 | exact P2 | exact P3 | exact P4 | exact P5 | exact P6 | exact P7 | exact P8 | exact P9 | exact P10 | exact P11 | exact P12 | exact P13 | exact P14 | exact P15 | exact P16 | exact P17 | exact P18 | exact P19 | exact P20 | exact P21 | exact P22 | exact P23)) | (apply Part.flat; simp only [List.cons_append, List.nil_append]) | (apply Part.cons; (first | exact P0 | exact P1 | exact P2 | exact P3 | exact P4 | exact P5 | exact P6 | exact P7 | exact P8 | exact P9 | exact P10 | exact P11 | exact P12 | exact P13 | exact P14 | exact P15 | exact P16 | exact P17 | exact P18 | exact P19 | exact P20 | exact P21 | exact P22 | exact P23)) | (apply Part.nilc))) ?_))
                    exact ⟨_, _, rfl, rfl, _, _, hM43, rfl⟩
              intro h39_0
              first | rw [if_neg h39_0] at hP | rw [if_pos (Decidable.not_not.1 h39_0)] at hP | skip
              as_aux_lemma =>
                refine SPL_y (y_assign rfl) rfl ?_
                refine SPL_nil ?_
                refine thenP_n ?_
                refine SP_cond_f rfl ?_
                refine SP_seq ?_
                refine SP_region ?_
                refine SPL_if (y_eql rfl rfl) rfl ?_ ?_
                · intro h45_0
                  first | rw [if_pos h45_0] at hP | rw [if_neg h45_0] at hP | skip
                  as_aux_lemma =>
                    refine SPL_y (y_assign rfl) rfl ?_
                    refine SPL_nil ?_
                    refine thenP_n ?_
                    refine SP_cond_t rfl ?_
                    refine SP_region ?_
                    refine SPL_y (y_move rfl) rfl ?_
                    refine SPL_y (y_move rfl) rfl ?_
                    obtain ⟨o46, hq46, hP⟩ := bndO hP
                    refine SPL_one rfl (SP1_callp (vm_bPrint b ph hh1 hq46 _ hM hA3) Tryz.call282 rfl rfl (by repeat (first | exact Part.nil _ | (apply Part.cons; with_reducible (first | exact P0 | exact P1 | exact P2 | exact P3 | exact P4 | exact P5 | exact P6 | exact P7 | exact P8 | exact P9 | exact P10 | exact P11 | exact P12 | exact P13 | exact P14 | exact P15 | exact P16 | exact P17 | exact P18 | exact P19 | exact P20 | exact P21 | exact P22 | exact P23)) | (apply Part.flat; simp only [List.cons_append, List.nil_append]) | (apply Part.cons; (first | exact P0 | exact P1 | exact P2 | exact P3 | exact P4 | exact P5 | exact P6 | exact P7 | exact P8 | exact P9 | exact P10 | exact P11 | exact P12 | exact P13 | exact P14 | exact P15 | exact P16 | exact P17 | exact P18 | exact P19 | exact P20 | exact P21 | exact P22 | exact P23)) | (apply Part.nilc))) ?_ ?_)
                    · rintro c post H' ⟨ex, hhx, sgx, rfl, rfl, hkx, hMx, rfl⟩ hH
                      try simp only [List.cons_append, List.nil_append] at hH
                      subst hH
                      refine inBlockP_panic (thenP_panic (bodyP_panic (H' := [sgx, escS ex]) (by repeat (first | exact Part.nil _ | (apply Part.cons; with_reducible (first | exact P0 | exact P1 | exact P2 | exact P3 | exact P4 | exact P5 | exact P6 | exact P7 | exact P8 | exact P9 | exact P10 | exact P11 | exact P12 | exact P13 | exact P14 | exact P15 | exact P16 | exact P17 | exact P18 | exact P19 | exact P20 | exact P21 | exact P22 | exact P23)) | (apply Part.flat; simp only [List.cons_append, List.nil_append]) | (apply Part.cons; (first | exact P0 | exact P1 | exact P2 | exact P3 | exact P4 | exact P5 | exact P6 | exact P7 | exact P8 | exact P9 | exact P10 | exact P11 | exact P12 | exact P13 | exact P14 | exact P15 | exact P16 | exact P17 | exact P18 | exact P19 | exact P20 | exact P21 | exact P22 | exact P23)) | (apply Part.nilc))) ?_))
                      rw [bindO_esc] at hP
                      injection hP with hP
                      subst hP
                      exact ⟨ex, hhx, sgx, rfl, rfl, hMx, rfl⟩
                    rintro v post H' ⟨⟨x16, x17⟩, m46, rfl, rfl, hh46, sg46, hk46, hM, rfl⟩ hH
                    try simp only [List.cons_append, List.nil_append] at hH
                    subst hH
                    dsimp only [bindO] at hP
                    refine SPL_y (y_move rfl) rfl ?_
                    refine SPL_y (y_ext rfl rfl) rfl ?_
                    refine SPL_y (y_ext rfl rfl) rfl ?_
                    refine SPL_one rfl (SP1_storeAll Tryz.sizeOf42 rfl rfl rfl rfl rfl (by first | exact U0 | exact U1 | exact U2 | exact U3 | exact U4 | exact U5 | exact U6 | exact U7 | exact U8 | exact U9 | exact U10 | exact U11 | exact U12 | exact U13 | exact U14 | exact U15 | exact U16 | exact U17 | exact U18 | exact U19 | exact U20 | exact U21 | exact U22 | exact U23) (by rfl) ?_)
                    refine SPL_one rfl (SP1_storeAll Tryz.sizeOf42 rfl rfl rfl rfl rfl (by first | exact U0 | exact U1 | exact U2 | exact U3 | exact U4 | exact U5 | exact U6 | exact U7 | exact U8 | exact U9 | exact U10 | exact U11 | exact U12 | exact U13 | exact U14 | exact U15 | exact U16 | exact U17 | exact U18 | exact U19 | exact U20 | exact U21 | exact U22 | exact U23) (by rfl) ?_)
                    refine SPL_nil ?_
                    refine inBlockP_n ?_
                    refine thenP_n ?_
                    refine SP_seq ?_
                    unfold finM at hP
                    try unfold getT at hP
                    obtain ⟨t62, ht62, hP⟩ := bnd1 hP
                    obtain ⟨g62, oa62, oc62, hg62, _, hrow62, hst62, hfr62, _⟩ := hM.thr ht62
                    have hl62 : at_ ≤ t62.stack.length := Decidable.byContradiction fun q => by rw [if_neg q] at hP; cases hP
                    rw [if_pos hl62] at hP
                    have hsp62 : ∃ xs sg, Arr 42 3 g62.sa t62.stack.length g62.sc xs sg := by
                      obtain ⟨_, _, _, _, _, _, _, _, _, _, _, _, hss, _⟩ := hM.opnT ht62 hg62
                      exact ⟨_, _, hss⟩
                    obtain ⟨xs62, sx62, hsp62⟩ := hsp62
                    have hml62 := hsp62.mle
                    obtain ⟨pre62, post62, na62, nc62, sg62, hpre62, hup62, hM62⟩ := hM.cutS ht62 hg62 (j := at_) hl62
                    refine SP_region ?_
                    refine SPL_y (y_move rfl) rfl ?_
                    refine SPL_y (y_move rfl) rfl ?_
                    refine SPL_y (y_nil rfl) rfl ?_
                    refine SPL_y (y_fa fld_263_2 rfl) rfl ?_
                    refine SPL_y (y_load Tryz.isAgg90 rfl (by repeat (first | exact (hrow62 _ 2 _ rfl) | apply Cell.tail))) rfl ?_
                    refine SPL_y (y_move rfl) rfl ?_
                    refine SPL_y (y_cut hsp62 Tryz.underlying90 Tryz.sizeOf42 rfl rfl (by omega)) rfl ?_
                    rw [Int.toNat_natCast]
                    refine SPL_y (y_nil rfl) rfl ?_
                    refine SPL_y (y_fa fld_263_2 rfl) rfl ?_
                    refine SPL_one rfl (SP1_storeM (j := 2) (pre := pre62) (cs := trow t62 g62 na62 nc62) (post := post62) Tryz.sizeOf90 rfl rfl rfl hpre62 (by repeat (first | exact hup62 _ | apply Upd.tail)) (by rfl) ?_)
                    replace hM := hM62
                    refine SPL_nil ?_
                    refine thenP_n ?_
                    refine SP_seq ?_
                    refine SP_region ?_
                    refine SPL_y (y_move rfl) rfl ?_
                    refine SPL_y (y_loads Tryz.isAgg42 Tryz.sizeOf42 rfl rfl (by repeat (first | exact Cells.all _ | exact Cells.amid hpre rfl (by decide) | exact Cells.head rfl | apply Cells.tail))) rfl ?_
                    refine SPL_y (y_loads Tryz.isAgg42 Tryz.sizeOf42 rfl rfl (by repeat (first | exact Cells.all _ | exact Cells.amid hpre rfl (by decide) | exact Cells.head rfl | apply Cells.tail))) rfl ?_
                    refine SPL_one rfl (SP1_sliceN (l := ([x16, x17].flatMap valV)) el_90 rfl (by kernel_rfl) rfl rfl ?_)
                    intro b283
                    obtain ⟨m9, hq9, hP⟩ := bnd1 hP
                    refine SPL_one rfl (SP1_call (vm_push b ph _ _ hq9 _ hM) Tryz.call142 rfl rfl (by repeat (first | exact Part.nil _ | (apply Part.cons; with_reducible (first | exact P0 | exact P1 | exact P2 | exact P3 | exact P4 | exact P5 | exact P6 | exact P7 | exact P8 | exact P9 | exact P10 | exact P11 | exact P12 | exact P13 | exact P14 | exact P15 | exact P16 | exact P17 | exact P18 | exact P19 | exact P20 | exact P21 | exact P22 | exact P23)) | (apply Part.flat; simp only [List.cons_append, List.nil_append]) | (apply Part.cons; (first | exact P0 | exact P1 | exact P2 | exact P3 | exact P4 | exact P5 | exact P6 | exact P7 | exact P8 | exact P9 | exact P10 | exact P11 | exact P12 | exact P13 | exact P14 | exact P15 | exact P16 | exact P17 | exact P18 | exact P19 | exact P20 | exact P21 | exact P22 | exact P23)) | (apply Part.nilc))) ?_)
                    rintro v post H' ⟨rfl, hh9, sg9, hk9, hM, rfl⟩ hH
                    try simp only [List.cons_append, List.nil_append] at hH
                    subst hH
                    refine SPL_nil ?_
                    refine thenP_n ?_
                    refine SP_seq ?_
                    refine SP_region ?_
                    refine SPL_y (y_buildN (l := (evV ev0)) BN184 rfl rfl) rfl ?_
                    refine SPL_one rfl (SP1_storeAll Tryz.sizeOf184 rfl rfl rfl rfl rfl (by first | exact U0 | exact U1 | exact U2 | exact U3 | exact U4 | exact U5 | exact U6 | exact U7 | exact U8 | exact U9 | exact U10 | exact U11 | exact U12 | exact U13 | exact U14 | exact U15 | exact U16 | exact U17 | exact U18 | exact U19 | exact U20 | exact U21 | exact U22 | exact U23) (by rfl) ?_)
                    refine SPL_nil ?_
                    refine thenP_n ?_
                    refine SP_ret ?_
                    refine bodyP_ret (H' := [sg9]) (ResC rfl rfl Tryz.isAgg184 Tryz.sizeOf184 rfl (by repeat (first | exact Cells.all _ | exact Cells.amid hpre rfl (by decide) | exact Cells.head rfl | apply Cells.tail))) (by repeat (first | exact Part.nil _ | (apply Part.cons; with_reducible (first | exact P0 | exact P1 | exact P2 | exact P3 | exact P4 | exact P5 | exact P6 | exact P7 | exact P8 | exact P9 | exact P10 | exact P11 | exact P12 | exact P13 | exact P14 | exact P15 | exact P16 | exact P17 | exact P18 | exact P19 | exact P20 | exact P21 | exact P22 | exact P23)) | (apply Part.flat; simp only [List.cons_append, List.nil_append]) | (apply Part.cons; (first | exact P0 | exact P1 | exact P2 | exact P3 | exact P4 | exact P5 | exact P6 | exact P7 | exact P8 | exact P9 | exact P10 | exact P11 | exact P12 | exact P13 | exact P14 | exact P15 | exact P16 | exact P17 | exact P18 | exact P19 | exact P20 | exact P21 | exact P22 | exact P23)) | (apply Part.nilc))) ?_
                    injection hP with hP
                    subst hP
                    exact ⟨_, _, rfl, rfl, _, _, hM, rfl⟩
                intro h45_0
                first | rw [if_neg h45_0] at hP | rw [if_pos (Decidable.not_not.1 h45_0)] at hP | skip
                as_aux_lemma =>
                  refine SPL_y (y_assign rfl) rfl ?_
                  refine SPL_nil ?_
                  refine thenP_n ?_
                  refine SP_cond_f rfl ?_
                  refine SP_seq ?_
                  refine SP_region ?_
                  refine SPL_if (y_eql rfl rfl) rfl ?_ ?_
                  · intro h47_0
                    first | rw [if_pos h47_0] at hP | rw [if_neg h47_0] at hP | skip
                    as_aux_lemma =>
                      refine SPL_y (y_assign rfl) rfl ?_
                      refine SPL_nil ?_
                      refine thenP_n ?_
                      refine SP_cond_t rfl ?_
                      refine SP_region ?_
                      refine SPL_y (y_move rfl) rfl ?_
                      refine SPL_y (y_move rfl) rfl ?_
                      obtain ⟨o46, hq46, hP⟩ := bndO hP
                      refine SPL_one rfl (SP1_callp (vm_bToString b ph hh1 hq46 _ hM hA3) Tryz.call283 rfl rfl (by repeat (first | exact Part.nil _ | (apply Part.cons; with_reducible (first | exact P0 | exact P1 | exact P2 | exact P3 | exact P4 | exact P5 | exact P6 | exact P7 | exact P8 | exact P9 | exact P10 | exact P11 | exact P12 | exact P13 | exact P14 | exact P15 | exact P16 | exact P17 | exact P18 | exact P19 | exact P20 | exact P21 | exact P22 | exact P23)) | (apply Part.flat; simp only [List.cons_append, List.nil_append]) | (apply Part.cons; (first | exact P0 | exact P1 | exact P2 | exact P3 | exact P4 | exact P5 | exact P6 | exact P7 | exact P8 | exact P9 | exact P10 | exact P11 | exact P12 | exact P13 | exact P14 | exact P15 | exact P16 | exact P17 | exact P18 | exact P19 | exact P20 | exact P21 | exact P22 | exact P23)) | (apply Part.nilc))) ?_ ?_)
                      · rintro c post H' ⟨ex, hhx, sgx, rfl, rfl, hkx, hMx, rfl⟩ hH
                        try simp only [List.cons_append, List.nil_append] at hH
                        subst hH
                        refine inBlockP_panic (thenP_panic (bodyP_panic (H' := [sgx, escS ex]) (by repeat (first | exact Part.nil _ | (apply Part.cons; with_reducible (first | exact P0 | exact P1 | exact P2 | exact P3 | exact P4 | exact P5 | exact P6 | exact P7 | exact P8 | exact P9 | exact P10 | exact P11 | exact P12 | exact P13 | exact P14 | exact P15 | exact P16 | exact P17 | exact P18 | exact P19 | exact P20 | exact P21 | exact P22 | exact P23)) | (apply Part.flat; simp only [List.cons_append, List.nil_append]) | (apply Part.cons; (first | exact P0 | exact P1 | exact P2 | exact P3 | exact P4 | exact P5 | exact P6 | exact P7 | exact P8 | exact P9 | exact P10 | exact P11 | exact P12 | exact P13 | exact P14 | exact P15 | exact P16 | exact P17 | exact P18 | exact P19 | exact P20 | exact P21 | exact P22 | exact P23)) | (apply Part.nilc))) ?_))
                        rw [bindO_esc] at hP
                        injection hP with hP
                        subst hP
                        exact ⟨ex, hhx, sgx, rfl, rfl, hMx, rfl⟩
                      rintro v post H' ⟨⟨x16, x17⟩, m46, rfl, rfl, hh46, sg46, hk46, hM, rfl⟩ hH
                      try simp only [List.cons_append, List.nil_append] at hH
                      subst hH
                      dsimp only [bindO] at hP
                      refine SPL_y (y_move rfl) rfl ?_
                      refine SPL_y (y_ext rfl rfl) rfl ?_
                      refine SPL_y (y_ext rfl rfl) rfl ?_
                      refine SPL_one rfl (SP1_storeAll Tryz.sizeOf42 rfl rfl rfl rfl rfl (by first | exact U0 | exact U1 | exact U2 | exact U3 | exact U4 | exact U5 | exact U6 | exact U7 | exact U8 | exact U9 | exact U10 | exact U11 | exact U12 | exact U13 | exact U14 | exact U15 | exact U16 | exact U17 | exact U18 | exact U19 | exact U20 | exact U21 | exact U22 | exact U23) (by rfl) ?_)
                      refine SPL_one rfl (SP1_storeAll Tryz.sizeOf42 rfl rfl rfl rfl rfl (by first | exact U0 | exact U1 | exact U2 | exact U3 | exact U4 | exact U5 | exact U6 | exact U7 | exact U8 | exact U9 | exact U10 | exact U11 | exact U12 | exact U13 | exact U14 | exact U15 | exact U16 | exact U17 | exact U18 | exact U19 | exact U20 | exact U21 | exact U22 | exact U23) (by rfl) ?_)
                      refine SPL_nil ?_
                      refine inBlockP_n ?_
                      refine thenP_n ?_
                      refine SP_seq ?_
                      unfold finM at hP
                      try unfold getT at hP
                      obtain ⟨t62, ht62, hP⟩ := bnd1 hP
                      obtain ⟨g62, oa62, oc62, hg62, _, hrow62, hst62, hfr62, _⟩ := hM.thr ht62
                      have hl62 : at_ ≤ t62.stack.length := Decidable.byContradiction fun q => by rw [if_neg q] at hP; cases hP
                      rw [if_pos hl62] at hP
                      have hsp62 : ∃ xs sg, Arr 42 3 g62.sa t62.stack.length g62.sc xs sg := by
                        obtain ⟨_, _, _, _, _, _, _, _, _, _, _, _, hss, _⟩ := hM.opnT ht62 hg62
                        exact ⟨_, _, hss⟩
                      obtain ⟨xs62, sx62, hsp62⟩ := hsp62
                      have hml62 := hsp62.mle
                      obtain ⟨pre62, post62, na62, nc62, sg62, hpre62, hup62, hM62⟩ := hM.cutS ht62 hg62 (j := at_) hl62
                      refine SP_region ?_
                      refine SPL_y (y_move rfl) rfl ?_
                      refine SPL_y (y_move rfl) rfl ?_
                      refine SPL_y (y_nil rfl) rfl ?_
                      refine SPL_y (y_fa fld_263_2 rfl) rfl ?_
                      refine SPL_y (y_load Tryz.isAgg90 rfl (by repeat (first | exact (hrow62 _ 2 _ rfl) | apply Cell.tail))) rfl ?_
                      refine SPL_y (y_move rfl) rfl ?_
                      refine SPL_y (y_cut hsp62 Tryz.underlying90 Tryz.sizeOf42 rfl rfl (by omega)) rfl ?_
                      rw [Int.toNat_natCast]
                      refine SPL_y (y_nil rfl) rfl ?_
                      refine SPL_y (y_fa fld_263_2 rfl) rfl ?_
                      refine SPL_one rfl (SP1_storeM (j := 2) (pre := pre62) (cs := trow t62 g62 na62 nc62) (post := post62) Tryz.sizeOf90 rfl rfl rfl hpre62 (by repeat (first | exact hup62 _ | apply Upd.tail)) (by rfl) ?_)
                      replace hM := hM62
                      refine SPL_nil ?_
                      refine thenP_n ?_
                      refine SP_seq ?_
                      refine SP_region ?_
                      refine SPL_y (y_move rfl) rfl ?_
                      refine SPL_y (y_loads Tryz.isAgg42 Tryz.sizeOf42 rfl rfl (by repeat (first | exact Cells.all _ | exact Cells.amid hpre rfl (by decide) | exact Cells.head rfl | apply Cells.tail))) rfl ?_
                      refine SPL_y (y_loads Tryz.isAgg42 Tryz.sizeOf42 rfl rfl (by repeat (first | exact Cells.all _ | exact Cells.amid hpre rfl (by decide) | exact Cells.head rfl | apply Cells.tail))) rfl ?_
                      refine SPL_one rfl (SP1_sliceN (l := ([x16, x17].flatMap valV)) el_90 rfl (by kernel_rfl) rfl rfl ?_)
                      intro b283
                      obtain ⟨m9, hq9, hP⟩ := bnd1 hP
                      refine SPL_one rfl (SP1_call (vm_push b ph _ _ hq9 _ hM) Tryz.call142 rfl rfl (by repeat (first | exact Part.nil _ | (apply Part.cons; with_reducible (first | exact P0 | exact P1 | exact P2 | exact P3 | exact P4 | exact P5 | exact P6 | exact P7 | exact P8 | exact P9 | exact P10 | exact P11 | exact P12 | exact P13 | exact P14 | exact P15 | exact P16 | exact P17 | exact P18 | exact P19 | exact P20 | exact P21 | exact P22 | exact P23)) | (apply Part.flat; simp only [List.cons_append, List.nil_append]) | (apply Part.cons; (first | exact P0 | exact P1 | exact P2 | exact P3 | exact P4 | exact P5 | exact P6 | exact P7 | exact P8 | exact P9 | exact P10 | exact P11 | exact P12 | exact P13 | exact P14 | exact P15 | exact P16 | exact P17 | exact P18 | exact P19 | exact P20 | exact P21 | exact P22 | exact P23)) | (apply Part.nilc))) ?_)
                      rintro v post H' ⟨rfl, hh9, sg9, hk9, hM, rfl⟩ hH
                      try simp only [List.cons_append, List.nil_append] at hH
                      subst hH
                      refine SPL_nil ?_
                      refine thenP_n ?_
                      refine SP_seq ?_
                      refine SP_region ?_
                      refine SPL_y (y_buildN (l := (evV ev0)) BN184 rfl rfl) rfl ?_
                      refine SPL_one rfl (SP1_storeAll Tryz.sizeOf184 rfl rfl rfl rfl rfl (by first | exact U0 | exact U1 | exact U2 | exact U3 | exact U4 | exact U5 | exact U6 | exact U7 | exact U8 | exact U9 | exact U10 | exact U11 | exact U12 | exact U13 | exact U14 | exact U15 | exact U16 | exact U17 | exact U18 | exact U19 | exact U20 | exact U21 | exact U22 | exact U23) (by rfl) ?_)
                      refine SPL_nil ?_
                      refine thenP_n ?_
                      refine SP_ret ?_
                      refine bodyP_ret (H' := [sg9]) (ResC rfl rfl Tryz.isAgg184 Tryz.sizeOf184 rfl (by repeat (first | exact Cells.all _ | exact Cells.amid hpre rfl (by decide) | exact Cells.head rfl | apply Cells.tail))) (by repeat (first | exact Part.nil _ | (apply Part.cons; with_reducible (first | exact P0 | exact P1 | exact P2 | exact P3 | exact P4 | exact P5 | exact P6 | exact P7 | exact P8 | exact P9 | exact P10 | exact P11 | exact P12 | exact P13 | exact P14 | exact P15 | exact P16 | exact P17 | exact P18 | exact P19 | exact P20 | exact P21 | exact P22 | exact P23)) | (apply Part.flat; simp only [List.cons_append, List.nil_append]) | (apply Part.cons; (first | exact P0 | exact P1 | exact P2 | exact P3 | exact P4 | exact P5 | exact P6 | exact P7 | exact P8 | exact P9 | exact P10 | exact P11 | exact P12 | exact P13 | exact P14 | exact P15 | exact P16 | exact P17 | exact P18 | exact P19 | exact P20 | exact P21 | exact P22 | exact P23)) | (apply Part.nilc))) ?_
                      injection hP with hP
                      subst hP
                      exact ⟨_, _, rfl, rfl, _, _, hM, rfl⟩
                  intro h47_0
                  first | rw [if_neg h47_0] at hP | rw [if_pos (Decidable.not_not.1 h47_0)] at hP | skip
                  as_aux_lemma =>
                    refine SPL_y (y_assign rfl) rfl ?_
                    refine SPL_nil ?_
                    refine thenP_n ?_
                    refine SP_cond_f rfl ?_
                    refine SP_seq ?_
                    refine SP_region ?_
                    refine SPL_if (y_eql rfl rfl) rfl ?_ ?_
                    · intro h49_0
                      first | rw [if_pos h49_0] at hP | rw [if_neg h49_0] at hP | skip
                      as_aux_lemma =>
                        refine SPL_y (y_assign rfl) rfl ?_
                        refine SPL_nil ?_
                        refine thenP_n ?_
                        refine SP_cond_t rfl ?_
                        refine SP_region ?_
                        refine SPL_y (y_move rfl) rfl ?_
                        refine SPL_y (y_move rfl) rfl ?_
                        obtain ⟨o46, hq46, hP⟩ := bndO hP
                        refine SPL_one rfl (SP1_callp (vm_bToNumber b ph hh1 hq46 _ hM hA3) Tryz.call284 rfl rfl (by repeat (first | exact Part.nil _ | (apply Part.cons; with_reducible (first | exact P0 | exact P1 | exact P2 | exact P3 | exact P4 | exact P5 | exact P6 | exact P7 | exact P8 | exact P9 | exact P10 | exact P11 | exact P12 | exact P13 | exact P14 | exact P15 | exact P16 | exact P17 | exact P18 | exact P19 | exact P20 | exact P21 | exact P22 | exact P23)) | (apply Part.flat; simp only [List.cons_append, List.nil_append]) | (apply Part.cons; (first | exact P0 | exact P1 | exact P2 | exact P3 | exact P4 | exact P5 | exact P6 | exact P7 | exact P8 | exact P9 | exact P10 | exact P11 | exact P12 | exact P13 | exact P14 | exact P15 | exact P16 | exact P17 | exact P18 | exact P19 | exact P20 | exact P21 | exact P22 | exact P23)) | (apply Part.nilc))) ?_ ?_)
                        · rintro c post H' ⟨ex, hhx, sgx, rfl, rfl, hkx, hMx, rfl⟩ hH
                          try simp only [List.cons_append, List.nil_append] at hH
                          subst hH
                          refine inBlockP_panic (thenP_panic (bodyP_panic (H' := [sgx, escS ex]) (by repeat (first | exact Part.nil _ | (apply Part.cons; with_reducible (first | exact P0 | exact P1 | exact P2 | exact P3 | exact P4 | exact P5 | exact P6 | exact P7 | exact P8 | exact P9 | exact P10 | exact P11 | exact P12 | exact P13 | exact P14 | exact P15 | exact P16 | exact P17 | exact P18 | exact P19 | exact P20 | exact P21 | exact P22 | exact P23)) | (apply Part.flat; simp only [List.cons_append, List.nil_append]) | (apply Part.cons; (first | exact P0 | exact P1 | exact P2 | exact P3 | exact P4 | exact P5 | exact P6 | exact P7 | exact P8 | exact P9 | exact P10 | exact P11 | exact P12 | exact P13 | exact P14 | exact P15 | exact P16 | exact P17 | exact P18 | exact P19 | exact P20 | exact P21 | exact P22 | exact P23)) | (apply Part.nilc))) ?_))
                          rw [bindO_esc] at hP
                          injection hP with hP
                          subst hP
                          exact ⟨ex, hhx, sgx, rfl, rfl, hMx, rfl⟩
                        rintro v post H' ⟨⟨x16, x17⟩, m46, rfl, rfl, hh46, sg46, hk46, hM, rfl⟩ hH
                        try simp only [List.cons_append, List.nil_append] at hH
                        subst hH
                        dsimp only [bindO] at hP
                        refine SPL_y (y_move rfl) rfl ?_
                        refine SPL_y (y_ext rfl rfl) rfl ?_
                        refine SPL_y (y_ext rfl rfl) rfl ?_
                        refine SPL_one rfl (SP1_storeAll Tryz.sizeOf42 rfl rfl rfl rfl rfl (by first | exact U0 | exact U1 | exact U2 | exact U3 | exact U4 | exact U5 | exact U6 | exact U7 | exact U8 | exact U9 | exact U10 | exact U11 | exact U12 | exact U13 | exact U14 | exact U15 | exact U16 | exact U17 | exact U18 | exact U19 | exact U20 | exact U21 | exact U22 | exact U23) (by rfl) ?_)
                        refine SPL_one rfl (SP1_storeAll Tryz.sizeOf42 rfl rfl rfl rfl rfl (by first | exact U0 | exact U1 | exact U2 | exact U3 | exact U4 | exact U5 | exact U6 | exact U7 | exact U8 | exact U9 | exact U10 | exact U11 | exact U12 | exact U13 | exact U14 | exact U15 | exact U16 | exact U17 | exact U18 | exact U19 | exact U20 | exact U21 | exact U22 | exact U23) (by rfl) ?_)
                        refine SPL_nil ?_
                        refine inBlockP_n ?_
                        refine thenP_n ?_
                        refine SP_seq ?_
                        unfold finM at hP
                        try unfold getT at hP
                        obtain ⟨t62, ht62, hP⟩ := bnd1 hP
                        obtain ⟨g62, oa62, oc62, hg62, _, hrow62, hst62, hfr62, _⟩ := hM.thr ht62
                        have hl62 : at_ ≤ t62.stack.length := Decidable.byContradiction fun q => by rw [if_neg q] at hP; cases hP
                        rw [if_pos hl62] at hP
                        have hsp62 : ∃ xs sg, Arr 42 3 g62.sa t62.stack.length g62.sc xs sg := by
                          obtain ⟨_, _, _, _, _, _, _, _, _, _, _, _, hss, _⟩ := hM.opnT ht62 hg62
                          exact ⟨_, _, hss⟩
                        obtain ⟨xs62, sx62, hsp62⟩ := hsp62
                        have hml62 := hsp62.mle
                        obtain ⟨pre62, post62, na62, nc62, sg62, hpre62, hup62, hM62⟩ := hM.cutS ht62 hg62 (j := at_) hl62
                        refine SP_region ?_
                        refine SPL_y (y_move rfl) rfl ?_
                        refine SPL_y (y_move rfl) rfl ?_
                        refine SPL_y (y_nil rfl) rfl ?_
                        refine SPL_y (y_fa fld_263_2 rfl) rfl ?_
                        refine SPL_y (y_load Tryz.isAgg90 rfl (by repeat (first | exact (hrow62 _ 2 _ rfl) | apply Cell.tail))) rfl ?_
                        refine SPL_y (y_move rfl) rfl ?_
                        refine SPL_y (y_cut hsp62 Tryz.underlying90 Tryz.sizeOf42 rfl rfl (by omega)) rfl ?_
                        rw [Int.toNat_natCast]
                        refine SPL_y (y_nil rfl) rfl ?_
                        refine SPL_y (y_fa fld_263_2 rfl) rfl ?_
                        refine SPL_one rfl (SP1_storeM (j := 2) (pre := pre62) (cs := trow t62 g62 na62 nc62) (post := post62) Tryz.sizeOf90 rfl rfl rfl hpre62 (by repeat (first | exact hup62 _ | apply Upd.tail)) (by rfl) ?_)
                        replace hM := hM62
                        refine SPL_nil ?_
                        refine thenP_n ?_
                        refine SP_seq ?_
                        refine SP_region ?_
                        refine SPL_y (y_move rfl) rfl ?_
                        refine SPL_y (y_loads Tryz.isAgg42 Tryz.sizeOf42 rfl rfl (by repeat (first | exact Cells.all _ | exact Cells.amid hpre rfl (by decide) | exact Cells.head rfl | apply Cells.tail))) rfl ?_
                        refine SPL_y (y_loads Tryz.isAgg42 Tryz.sizeOf42 rfl rfl (by repeat (first | exact Cells.all _ | exact Cells.amid hpre rfl (by decide) | exact Cells.head rfl | apply Cells.tail))) rfl ?_
                        refine SPL_one rfl (SP1_sliceN (l := ([x16, x17].flatMap valV)) el_90 rfl (by kernel_rfl) rfl rfl ?_)
                        intro b283
                        obtain ⟨m9, hq9, hP⟩ := bnd1 hP
                        refine SPL_one rfl (SP1_call (vm_push b ph _ _ hq9 _ hM) Tryz.call142 rfl rfl (by repeat (first | exact Part.nil _ | (apply Part.cons; with_reducible (first | exact P0 | exact P1 | exact P2 | exact P3 | exact P4 | exact P5 | exact P6 | exact P7 | exact P8 | exact P9 | exact P10 | exact P11 | exact P12 | exact P13 | exact P14 | exact P15 | exact P16 | exact P17 | exact P18 | exact P19 | exact P20 | exact P21 | exact P22 | exact P23)) | (apply Part.flat; simp only [List.cons_append, List.nil_append]) | (apply Part.cons; (first | exact P0 | exact P1 | exact P2 | exact P3 | exact P4 | exact P5 | exact P6 | exact P7 | exact P8 | exact P9 | exact P10 | exact P11 | exact P12 | exact P13 | exact P14 | exact P15 | exact P16 | exact P17 | exact P18 | exact P19 | exact P20 | exact P21 | exact P22 | exact P23)) | (apply Part.nilc))) ?_)
                        rintro v post H' ⟨rfl, hh9, sg9, hk9, hM, rfl⟩ hH
                        try simp only [List.cons_append, List.nil_append] at hH
                        subst hH
                        refine SPL_nil ?_
                        refine thenP_n ?_
                        refine SP_seq ?_
                        refine SP_region ?_
                        refine SPL_y (y_buildN (l := (evV ev0)) BN184 rfl rfl) rfl ?_
                        refine SPL_one rfl (SP1_storeAll Tryz.sizeOf184 rfl rfl rfl rfl rfl (by first | exact U0 | exact U1 | exact U2 | exact U3 | exact U4 | exact U5 | exact U6 | exact U7 | exact U8 | exact U9 | exact U10 | exact U11 | exact U12 | exact U13 | exact U14 | exact U15 | exact U16 | exact U17 | exact U18 | exact U19 | exact U20 | exact U21 | exact U22 | exact U23) (by rfl) ?_)
                        refine SPL_nil ?_
                        refine thenP_n ?_
                        refine SP_ret ?_
                        refine bodyP_ret (H' := [sg9]) (ResC rfl rfl Tryz.isAgg184 Tryz.sizeOf184 rfl (by repeat (first | exact Cells.all _ | exact Cells.amid hpre rfl (by decide) | exact Cells.head rfl | apply Cells.tail))) (by repeat (first | exact Part.nil _ | (apply Part.cons; with_reducible (first | exact P0 | exact P1 | exact P2 | exact P3 | exact P4 | exact P5 | exact P6 | exact P7 | exact P8 | exact P9 | exact P10 | exact P11 | exact P12 | exact P13 | exact P14 | exact P15 | exact P16 | exact P17 | exact P18 | exact P19 | exact P20 | exact P21 | exact P22 | exact P23)) | (apply Part.flat; simp only [List.cons_append, List.nil_append]) | (apply Part.cons; (first | exact P0 | exact P1 | exact P2 | exact P3 | exact P4 | exact P5 | exact P6 | exact P7 | exact P8 | exact P9 | exact P10 | exact P11 | exact P12 | exact P13 | exact P14 | exact P15 | exact P16 | exact P17 | exact P18 | exact P19 | exact P20 | exact P21 | exact P22 | exact P23)) | (apply Part.nilc))) ?_
                        injection hP with hP
                        subst hP
                        exact ⟨_, _, rfl, rfl, _, _, hM, rfl⟩
                    intro h49_0
                    first | rw [if_neg h49_0] at hP | rw [if_pos (Decidable.not_not.1 h49_0)] at hP | skip
                    as_aux_lemma =>
                      refine SPL_y (y_assign rfl) rfl ?_
                      refine SPL_nil ?_
                      refine thenP_n ?_
                      refine SP_cond_f rfl ?_
                      refine SP_seq ?_
                      refine SP_region ?_
                      refine SPL_if (y_eql rfl rfl) rfl ?_ ?_
                      · intro h51_0
                        first | rw [if_pos h51_0] at hP | rw [if_neg h51_0] at hP | skip
                        as_aux_lemma =>
                          refine SPL_y (y_assign rfl) rfl ?_
                          refine SPL_nil ?_
                          refine thenP_n ?_
                          refine SP_cond_t rfl ?_
                          refine SP_seq ?_
                          refine SP_region ?_
                          refine SPL_y (y_assign rfl) rfl ?_
                          refine SPL_nil ?_
                          refine thenP_n ?_
                          refine SP_region ?_
                          refine SPL_y (y_move rfl) rfl ?_
                          refine SPL_y (y_move rfl) rfl ?_
                          refine SPL_y (y_move rfl) rfl ?_
                          obtain ⟨o46, hq46, hP⟩ := bndO hP
                          refine SPL_one rfl (SP1_callv (f := 285) (first := []) (cap := []) (args := [pt b.vb, .pointer (some ⟨wq, wo, none⟩)]) rfl (vm_bTypeR b ph hh1 hq46 _ hM hA3) Tryz.call285 rfl rfl (by repeat (first | exact Part.nil _ | (apply Part.cons; with_reducible (first | exact P0 | exact P1 | exact P2 | exact P3 | exact P4 | exact P5 | exact P6 | exact P7 | exact P8 | exact P9 | exact P10 | exact P11 | exact P12 | exact P13 | exact P14 | exact P15 | exact P16 | exact P17 | exact P18 | exact P19 | exact P20 | exact P21 | exact P22 | exact P23)) | (apply Part.flat; simp only [List.cons_append, List.nil_append]) | (apply Part.cons; (first | exact P0 | exact P1 | exact P2 | exact P3 | exact P4 | exact P5 | exact P6 | exact P7 | exact P8 | exact P9 | exact P10 | exact P11 | exact P12 | exact P13 | exact P14 | exact P15 | exact P16 | exact P17 | exact P18 | exact P19 | exact P20 | exact P21 | exact P22 | exact P23)) | (apply Part.nilc))) ?_)
                          rintro v post H' ⟨⟨x16, x17⟩, m46, rfl, rfl, hh46, sg46, hk46, hM, rfl⟩ hH
                          try simp only [List.cons_append, List.nil_append] at hH
                          subst hH
                          dsimp only [bindO] at hP
                          refine SPL_y (y_move rfl) rfl ?_
                          refine SPL_y (y_ext rfl rfl) rfl ?_
                          refine SPL_y (y_ext rfl rfl) rfl ?_
                          refine SPL_one rfl (SP1_storeAll Tryz.sizeOf42 rfl rfl rfl rfl rfl (by first | exact U0 | exact U1 | exact U2 | exact U3 | exact U4 | exact U5 | exact U6 | exact U7 | exact U8 | exact U9 | exact U10 | exact U11 | exact U12 | exact U13 | exact U14 | exact U15 | exact U16 | exact U17 | exact U18 | exact U19 | exact U20 | exact U21 | exact U22 | exact U23) (by rfl) ?_)
                          refine SPL_one rfl (SP1_storeAll Tryz.sizeOf42 rfl rfl rfl rfl rfl (by first | exact U0 | exact U1 | exact U2 | exact U3 | exact U4 | exact U5 | exact U6 | exact U7 | exact U8 | exact U9 | exact U10 | exact U11 | exact U12 | exact U13 | exact U14 | exact U15 | exact U16 | exact U17 | exact U18 | exact U19 | exact U20 | exact U21 | exact U22 | exact U23) (by rfl) ?_)
                          refine SPL_nil ?_
                          refine inBlockP_n ?_
                          refine thenP_n ?_
                          refine SP_seq ?_
                          unfold finM at hP
                          try unfold getT at hP
                          obtain ⟨t62, ht62, hP⟩ := bnd1 hP
                          obtain ⟨g62, oa62, oc62, hg62, _, hrow62, hst62, hfr62, _⟩ := hM.thr ht62
                          have hl62 : at_ ≤ t62.stack.length := Decidable.byContradiction fun q => by rw [if_neg q] at hP; cases hP
                          rw [if_pos hl62] at hP
                          have hsp62 : ∃ xs sg, Arr 42 3 g62.sa t62.stack.length g62.sc xs sg := by
                            obtain ⟨_, _, _, _, _, _, _, _, _, _, _, _, hss, _⟩ := hM.opnT ht62 hg62
                            exact ⟨_, _, hss⟩
                          obtain ⟨xs62, sx62, hsp62⟩ := hsp62
                          have hml62 := hsp62.mle
                          obtain ⟨pre62, post62, na62, nc62, sg62, hpre62, hup62, hM62⟩ := hM.cutS ht62 hg62 (j := at_) hl62
                          refine SP_region ?_
                          refine SPL_y (y_move rfl) rfl ?_
                          refine SPL_y (y_move rfl) rfl ?_
                          refine SPL_y (y_nil rfl) rfl ?_
                          refine SPL_y (y_fa fld_263_2 rfl) rfl ?_
                          refine SPL_y (y_load Tryz.isAgg90 rfl (by repeat (first | exact (hrow62 _ 2 _ rfl) | apply Cell.tail))) rfl ?_
                          refine SPL_y (y_move rfl) rfl ?_
                          refine SPL_y (y_cut hsp62 Tryz.underlying90 Tryz.sizeOf42 rfl rfl (by omega)) rfl ?_
                          rw [Int.toNat_natCast]
                          refine SPL_y (y_nil rfl) rfl ?_
                          refine SPL_y (y_fa fld_263_2 rfl) rfl ?_
                          refine SPL_one rfl (SP1_storeM (j := 2) (pre := pre62) (cs := trow t62 g62 na62 nc62) (post := post62) Tryz.sizeOf90 rfl rfl rfl hpre62 (by repeat (first | exact hup62 _ | apply Upd.tail)) (by rfl) ?_)
                          replace hM := hM62
                          refine SPL_nil ?_
                          refine thenP_n ?_
                          refine SP_seq ?_
                          refine SP_region ?_
                          refine SPL_y (y_move rfl) rfl ?_
                          refine SPL_y (y_loads Tryz.isAgg42 Tryz.sizeOf42 rfl rfl (by repeat (first | exact Cells.all _ | exact Cells.amid hpre rfl (by decide) | exact Cells.head rfl | apply Cells.tail))) rfl ?_
                          refine SPL_y (y_loads Tryz.isAgg42 Tryz.sizeOf42 rfl rfl (by repeat (first | exact Cells.all _ | exact Cells.amid hpre rfl (by decide) | exact Cells.head rfl | apply Cells.tail))) rfl ?_
                          refine SPL_one rfl (SP1_sliceN (l := ([x16, x17].flatMap valV)) el_90 rfl (by kernel_rfl) rfl rfl ?_)
                          intro b283
                          obtain ⟨m9, hq9, hP⟩ := bnd1 hP
                          refine SPL_one rfl (SP1_call (vm_push b ph _ _ hq9 _ hM) Tryz.call142 rfl rfl (by repeat (first | exact Part.nil _ | (apply Part.cons; with_reducible (first | exact P0 | exact P1 | exact P2 | exact P3 | exact P4 | exact P5 | exact P6 | exact P7 | exact P8 | exact P9 | exact P10 | exact P11 | exact P12 | exact P13 | exact P14 | exact P15 | exact P16 | exact P17 | exact P18 | exact P19 | exact P20 | exact P21 | exact P22 | exact P23)) | (apply Part.flat; simp only [List.cons_append, List.nil_append]) | (apply Part.cons; (first | exact P0 | exact P1 | exact P2 | exact P3 | exact P4 | exact P5 | exact P6 | exact P7 | exact P8 | exact P9 | exact P10 | exact P11 | exact P12 | exact P13 | exact P14 | exact P15 | exact P16 | exact P17 | exact P18 | exact P19 | exact P20 | exact P21 | exact P22 | exact P23)) | (apply Part.nilc))) ?_)
                          rintro v post H' ⟨rfl, hh9, sg9, hk9, hM, rfl⟩ hH
                          try simp only [List.cons_append, List.nil_append] at hH
                          subst hH
                          refine SPL_nil ?_
                          refine thenP_n ?_
                          refine SP_seq ?_
                          refine SP_region ?_
                          refine SPL_y (y_buildN (l := (evV ev0)) BN184 rfl rfl) rfl ?_
                          refine SPL_one rfl (SP1_storeAll Tryz.sizeOf184 rfl rfl rfl rfl rfl (by first | exact U0 | exact U1 | exact U2 | exact U3 | exact U4 | exact U5 | exact U6 | exact U7 | exact U8 | exact U9 | exact U10 | exact U11 | exact U12 | exact U13 | exact U14 | exact U15 | exact U16 | exact U17 | exact U18 | exact U19 | exact U20 | exact U21 | exact U22 | exact U23) (by rfl) ?_)
                          refine SPL_nil ?_
                          refine thenP_n ?_
                          refine SP_ret ?_
                          refine bodyP_ret (H' := [sg9]) (ResC rfl rfl Tryz.isAgg184 Tryz.sizeOf184 rfl (by repeat (first | exact Cells.all _ | exact Cells.amid hpre rfl (by decide) | exact Cells.head rfl | apply Cells.tail))) (by repeat (first | exact Part.nil _ | (apply Part.cons; with_reducible (first | exact P0 | exact P1 | exact P2 | exact P3 | exact P4 | exact P5 | exact P6 | exact P7 | exact P8 | exact P9 | exact P10 | exact P11 | exact P12 | exact P13 | exact P14 | exact P15 | exact P16 | exact P17 | exact P18 | exact P19 | exact P20 | exact P21 | exact P22 | exact P23)) | (apply Part.flat; simp only [List.cons_append, List.nil_append]) | (apply Part.cons; (first | exact P0 | exact P1 | exact P2 | exact P3 | exact P4 | exact P5 | exact P6 | exact P7 | exact P8 | exact P9 | exact P10 | exact P11 | exact P12 | exact P13 | exact P14 | exact P15 | exact P16 | exact P17 | exact P18 | exact P19 | exact P20 | exact P21 | exact P22 | exact P23)) | (apply Part.nilc))) ?_
                          injection hP with hP
                          subst hP
                          exact ⟨_, _, rfl, rfl, _, _, hM, rfl⟩
                      intro h51_0
                      first | rw [if_neg h51_0] at hP | rw [if_pos (Decidable.not_not.1 h51_0)] at hP | skip
                      as_aux_lemma =>
                        refine SPL_y (y_assign rfl) rfl ?_
                        refine SPL_nil ?_
                        refine thenP_n ?_
                        refine SP_cond_f rfl ?_
                        refine SP_seq ?_
                        refine SP_region ?_
                        refine SPL_if (y_eql rfl rfl) rfl ?_ ?_
                        · intro h54_0
                          first | rw [if_pos h54_0] at hP | rw [if_neg h54_0] at hP | skip
                          as_aux_lemma =>
                            refine SPL_y (y_assign rfl) rfl ?_
                            refine SPL_nil ?_
                            refine thenP_n ?_
                            refine SP_cond_t rfl ?_
                            refine SP_region ?_
                            refine SPL_y (y_move rfl) rfl ?_
                            refine SPL_y (y_move rfl) rfl ?_
                            obtain ⟨o46, hq46, hP⟩ := bndO hP
                            refine SPL_one rfl (SP1_callp (vm_bError b ph hh1 hq46 _ hM hA3) Tryz.call286 rfl rfl (by repeat (first | exact Part.nil _ | (apply Part.cons; with_reducible (first | exact P0 | exact P1 | exact P2 | exact P3 | exact P4 | exact P5 | exact P6 | exact P7 | exact P8 | exact P9 | exact P10 | exact P11 | exact P12 | exact P13 | exact P14 | exact P15 | exact P16 | exact P17 | exact P18 | exact P19 | exact P20 | exact P21 | exact P22 | exact P23)) | (apply Part.flat; simp only [List.cons_append, List.nil_append]) | (apply Part.cons; (first | exact P0 | exact P1 | exact P2 | exact P3 | exact P4 | exact P5 | exact P6 | exact P7 | exact P8 | exact P9 | exact P10 | exact P11 | exact P12 | exact P13 | exact P14 | exact P15 | exact P16 | exact P17 | exact P18 | exact P19 | exact P20 | exact P21 | exact P22 | exact P23)) | (apply Part.nilc))) ?_ ?_)
                            · rintro c post H' ⟨ex, hhx, sgx, rfl, rfl, hkx, hMx, rfl⟩ hH
                              try simp only [List.cons_append, List.nil_append] at hH
                              subst hH
                              refine inBlockP_panic (thenP_panic (bodyP_panic (H' := [sgx, escS ex]) (by repeat (first | exact Part.nil _ | (apply Part.cons; with_reducible (first | exact P0 | exact P1 | exact P2 | exact P3 | exact P4 | exact P5 | exact P6 | exact P7 | exact P8 | exact P9 | exact P10 | exact P11 | exact P12 | exact P13 | exact P14 | exact P15 | exact P16 | exact P17 | exact P18 | exact P19 | exact P20 | exact P21 | exact P22 | exact P23)) | (apply Part.flat; simp only [List.cons_append, List.nil_append]) | (apply Part.cons; (first | exact P0 | exact P1 | exact P2 | exact P3 | exact P4 | exact P5 | exact P6 | exact P7 | exact P8 | exact P9 | exact P10 | exact P11 | exact P12 | exact P13 | exact P14 | exact P15 | exact P16 | exact P17 | exact P18 | exact P19 | exact P20 | exact P21 | exact P22 | exact P23)) | (apply Part.nilc))) ?_))
                              rw [bindO_esc] at hP
                              injection hP with hP
                              subst hP
                              exact ⟨ex, hhx, sgx, rfl, rfl, hMx, rfl⟩
                            rintro v post H' ⟨⟨x16, x17⟩, m46, rfl, rfl, hh46, sg46, hk46, hM, rfl⟩ hH
                            try simp only [List.cons_append, List.nil_append] at hH
                            subst hH
                            dsimp only [bindO] at hP
                            refine SPL_y (y_move rfl) rfl ?_
                            refine SPL_y (y_ext rfl rfl) rfl ?_
                            refine SPL_y (y_ext rfl rfl) rfl ?_
                            refine SPL_one rfl (SP1_storeAll Tryz.sizeOf42 rfl rfl rfl rfl rfl (by first | exact U0 | exact U1 | exact U2 | exact U3 | exact U4 | exact U5 | exact U6 | exact U7 | exact U8 | exact U9 | exact U10 | exact U11 | exact U12 | exact U13 | exact U14 | exact U15 | exact U16 | exact U17 | exact U18 | exact U19 | exact U20 | exact U21 | exact U22 | exact U23) (by rfl) ?_)
                            refine SPL_one rfl (SP1_storeAll Tryz.sizeOf42 rfl rfl rfl rfl rfl (by first | exact U0 | exact U1 | exact U2 | exact U3 | exact U4 | exact U5 | exact U6 | exact U7 | exact U8 | exact U9 | exact U10 | exact U11 | exact U12 | exact U13 | exact U14 | exact U15 | exact U16 | exact U17 | exact U18 | exact U19 | exact U20 | exact U21 | exact U22 | exact U23) (by rfl) ?_)
                            refine SPL_nil ?_
                            refine inBlockP_n ?_
                            refine thenP_n ?_
                            refine SP_seq ?_
                            unfold finM at hP
                            try unfold getT at hP
                            obtain ⟨t62, ht62, hP⟩ := bnd1 hP
                            obtain ⟨g62, oa62, oc62, hg62, _, hrow62, hst62, hfr62, _⟩ := hM.thr ht62
                            have hl62 : at_ ≤ t62.stack.length := Decidable.byContradiction fun q => by rw [if_neg q] at hP; cases hP
                            rw [if_pos hl62] at hP
                            have hsp62 : ∃ xs sg, Arr 42 3 g62.sa t62.stack.length g62.sc xs sg := by
                              obtain ⟨_, _, _, _, _, _, _, _, _, _, _, _, hss, _⟩ := hM.opnT ht62 hg62
                              exact ⟨_, _, hss⟩
                            obtain ⟨xs62, sx62, hsp62⟩ := hsp62
                            have hml62 := hsp62.mle
                            obtain ⟨pre62, post62, na62, nc62, sg62, hpre62, hup62, hM62⟩ := hM.cutS ht62 hg62 (j := at_) hl62
                            refine SP_region ?_
                            refine SPL_y (y_move rfl) rfl ?_
                            refine SPL_y (y_move rfl) rfl ?_
                            refine SPL_y (y_nil rfl) rfl ?_
                            refine SPL_y (y_fa fld_263_2 rfl) rfl ?_
                            refine SPL_y (y_load Tryz.isAgg90 rfl (by repeat (first | exact (hrow62 _ 2 _ rfl) | apply Cell.tail))) rfl ?_
                            refine SPL_y (y_move rfl) rfl ?_
                            refine SPL_y (y_cut hsp62 Tryz.underlying90 Tryz.sizeOf42 rfl rfl (by omega)) rfl ?_
                            rw [Int.toNat_natCast]
                            refine SPL_y (y_nil rfl) rfl ?_
                            refine SPL_y (y_fa fld_263_2 rfl) rfl ?_
                            refine SPL_one rfl (SP1_storeM (j := 2) (pre := pre62) (cs := trow t62 g62 na62 nc62) (post := post62) Tryz.sizeOf90 rfl rfl rfl hpre62 (by repeat (first | exact hup62 _ | apply Upd.tail)) (by rfl) ?_)
                            replace hM := hM62
                            refine SPL_nil ?_
                            refine thenP_n ?_
                            refine SP_seq ?_
                            refine SP_region ?_
                            refine SPL_y (y_move rfl) rfl ?_
                            refine SPL_y (y_loads Tryz.isAgg42 Tryz.sizeOf42 rfl rfl (by repeat (first | exact Cells.all _ | exact Cells.amid hpre rfl (by decide) | exact Cells.head rfl | apply Cells.tail))) rfl ?_
                            refine SPL_y (y_loads Tryz.isAgg42 Tryz.sizeOf42 rfl rfl (by repeat (first | exact Cells.all _ | exact Cells.amid hpre rfl (by decide) | exact Cells.head rfl | apply Cells.tail))) rfl ?_
                            refine SPL_one rfl (SP1_sliceN (l := ([x16, x17].flatMap valV)) el_90 rfl (by kernel_rfl) rfl rfl ?_)
                            intro b283
                            obtain ⟨m9, hq9, hP⟩ := bnd1 hP
                            refine SPL_one rfl (SP1_call (vm_push b ph _ _ hq9 _ hM) Tryz.call142 rfl rfl (by repeat (first | exact Part.nil _ | (apply Part.cons; with_reducible (first | exact P0 | exact P1 | exact P2 | exact P3 | exact P4 | exact P5 | exact P6 | exact P7 | exact P8 | exact P9 | exact P10 | exact P11 | exact P12 | exact P13 | exact P14 | exact P15 | exact P16 | exact P17 | exact P18 | exact P19 | exact P20 | exact P21 | exact P22 | exact P23)) | (apply Part.flat; simp only [List.cons_append, List.nil_append]) | (apply Part.cons; (first | exact P0 | exact P1 | exact P2 | exact P3 | exact P4 | exact P5 | exact P6 | exact P7 | exact P8 | exact P9 | exact P10 | exact P11 | exact P12 | exact P13 | exact P14 | exact P15 | exact P16 | exact P17 | exact P18 | exact P19 | exact P20 | exact P21 | exact P22 | exact P23)) | (apply Part.nilc))) ?_)
                            rintro v post H' ⟨rfl, hh9, sg9, hk9, hM, rfl⟩ hH
                            try simp only [List.cons_append, List.nil_append] at hH
                            subst hH
                            refine SPL_nil ?_
                            refine thenP_n ?_
                            refine SP_seq ?_
                            refine SP_region ?_
                            refine SPL_y (y_buildN (l := (evV ev0)) BN184 rfl rfl) rfl ?_
                            refine SPL_one rfl (SP1_storeAll Tryz.sizeOf184 rfl rfl rfl rfl rfl (by first | exact U0 | exact U1 | exact U2 | exact U3 | exact U4 | exact U5 | exact U6 | exact U7 | exact U8 | exact U9 | exact U10 | exact U11 | exact U12 | exact U13 | exact U14 | exact U15 | exact U16 | exact U17 | exact U18 | exact U19 | exact U20 | exact U21 | exact U22 | exact U23) (by rfl) ?_)
                            refine SPL_nil ?_
                            refine thenP_n ?_
                            refine SP_ret ?_
                            refine bodyP_ret (H' := [sg9]) (ResC rfl rfl Tryz.isAgg184 Tryz.sizeOf184 rfl (by repeat (first | exact Cells.all _ | exact Cells.amid hpre rfl (by decide) | exact Cells.head rfl | apply Cells.tail))) (by repeat (first | exact Part.nil _ | (apply Part.cons; with_reducible (first | exact P0 | exact P1 | exact P2 | exact P3 | exact P4 | exact P5 | exact P6 | exact P7 | exact P8 | exact P9 | exact P10 | exact P11 | exact P12 | exact P13 | exact P14 | exact P15 | exact P16 | exact P17 | exact P18 | exact P19 | exact P20 | exact P21 | exact P22 | exact P23)) | (apply Part.flat; simp only [List.cons_append, List.nil_append]) | (apply Part.cons; (first | exact P0 | exact P1 | exact P2 | exact P3 | exact P4 | exact P5 | exact P6 | exact P7 | exact P8 | exact P9 | exact P10 | exact P11 | exact P12 | exact P13 | exact P14 | exact P15 | exact P16 | exact P17 | exact P18 | exact P19 | exact P20 | exact P21 | exact P22 | exact P23)) | (apply Part.nilc))) ?_
                            injection hP with hP
                            subst hP
                            exact ⟨_, _, rfl, rfl, _, _, hM, rfl⟩
                        intro h54_0
                        first | rw [if_neg h54_0] at hP | rw [if_pos (Decidable.not_not.1 h54_0)] at hP | skip
                        as_aux_lemma =>
                          refine SPL_y (y_assign rfl) rfl ?_
                          refine SPL_nil ?_
                          refine thenP_n ?_
                          refine SP_cond_f rfl ?_
                          refine SP_seq ?_
                          refine SP_region ?_
                          refine SPL_if (y_eql rfl rfl) rfl ?_ ?_
                          · intro h56_0
                            first | rw [if_pos h56_0] at hP | rw [if_neg h56_0] at hP | skip
                            as_aux_lemma =>
                              refine SPL_y (y_assign rfl) rfl ?_
                              refine SPL_nil ?_
                              refine thenP_n ?_
                              refine SP_cond_t rfl ?_
                              refine SP_region ?_
                              refine SPL_y (y_move rfl) rfl ?_
                              refine SPL_y (y_move rfl) rfl ?_
                              obtain ⟨o46, hq46, hP⟩ := bndO hP
                              refine SPL_one rfl (SP1_callp (vm_bNext hN b ph hh1 hq46 _ hM hA3) Tryz.call287 rfl rfl (by repeat (first | exact Part.nil _ | (apply Part.cons; with_reducible (first | exact P0 | exact P1 | exact P2 | exact P3 | exact P4 | exact P5 | exact P6 | exact P7 | exact P8 | exact P9 | exact P10 | exact P11 | exact P12 | exact P13 | exact P14 | exact P15 | exact P16 | exact P17 | exact P18 | exact P19 | exact P20 | exact P21 | exact P22 | exact P23)) | (apply Part.flat; simp only [List.cons_append, List.nil_append]) | (apply Part.cons; (first | exact P0 | exact P1 | exact P2 | exact P3 | exact P4 | exact P5 | exact P6 | exact P7 | exact P8 | exact P9 | exact P10 | exact P11 | exact P12 | exact P13 | exact P14 | exact P15 | exact P16 | exact P17 | exact P18 | exact P19 | exact P20 | exact P21 | exact P22 | exact P23)) | (apply Part.nilc))) ?_ ?_)
                              · rintro c post H' ⟨ex, hhx, sgx, rfl, rfl, hkx, hMx, rfl⟩ hH
                                try simp only [List.cons_append, List.nil_append] at hH
                                subst hH
                                refine inBlockP_panic (thenP_panic (bodyP_panic (H' := [sgx, escS ex]) (by repeat (first | exact Part.nil _ | (apply Part.cons; with_reducible (first | exact P0 | exact P1 | exact P2 | exact P3 | exact P4 | exact P5 | exact P6 | exact P7 | exact P8 | exact P9 | exact P10 | exact P11 | exact P12 | exact P13 | exact P14 | exact P15 | exact P16 | exact P17 | exact P18 | exact P19 | exact P20 | exact P21 | exact P22 | exact P23)) | (apply Part.flat; simp only [List.cons_append, List.nil_append]) | (apply Part.cons; (first | exact P0 | exact P1 | exact P2 | exact P3 | exact P4 | exact P5 | exact P6 | exact P7 | exact P8 | exact P9 | exact P10 | exact P11 | exact P12 | exact P13 | exact P14 | exact P15 | exact P16 | exact P17 | exact P18 | exact P19 | exact P20 | exact P21 | exact P22 | exact P23)) | (apply Part.nilc))) ?_))
                                rw [bindO_esc] at hP
                                injection hP with hP
                                subst hP
                                exact ⟨ex, hhx, sgx, rfl, rfl, hMx, rfl⟩
                              rintro v post H' ⟨⟨x16, x17⟩, m46, rfl, rfl, hh46, sg46, hk46, hM, rfl⟩ hH
                              try simp only [List.cons_append, List.nil_append] at hH
                              subst hH
                              dsimp only [bindO] at hP
                              refine SPL_y (y_move rfl) rfl ?_
                              refine SPL_y (y_ext rfl rfl) rfl ?_
                              refine SPL_y (y_ext rfl rfl) rfl ?_
                              refine SPL_one rfl (SP1_storeAll Tryz.sizeOf42 rfl rfl rfl rfl rfl (by first | exact U0 | exact U1 | exact U2 | exact U3 | exact U4 | exact U5 | exact U6 | exact U7 | exact U8 | exact U9 | exact U10 | exact U11 | exact U12 | exact U13 | exact U14 | exact U15 | exact U16 | exact U17 | exact U18 | exact U19 | exact U20 | exact U21 | exact U22 | exact U23) (by rfl) ?_)
                              refine SPL_one rfl (SP1_storeAll Tryz.sizeOf42 rfl rfl rfl rfl rfl (by first | exact U0 | exact U1 | exact U2 | exact U3 | exact U4 | exact U5 | exact U6 | exact U7 | exact U8 | exact U9 | exact U10 | exact U11 | exact U12 | exact U13 | exact U14 | exact U15 | exact U16 | exact U17 | exact U18 | exact U19 | exact U20 | exact U21 | exact U22 | exact U23) (by rfl) ?_)
                              refine SPL_nil ?_
                              refine inBlockP_n ?_
                              refine thenP_n ?_
                              refine SP_seq ?_
                              unfold finM at hP
                              try unfold getT at hP
                              obtain ⟨t62, ht62, hP⟩ := bnd1 hP
                              obtain ⟨g62, oa62, oc62, hg62, _, hrow62, hst62, hfr62, _⟩ := hM.thr ht62
                              have hl62 : at_ ≤ t62.stack.length := Decidable.byContradiction fun q => by rw [if_neg q] at hP; cases hP
                              rw [if_pos hl62] at hP
                              have hsp62 : ∃ xs sg, Arr 42 3 g62.sa t62.stack.length g62.sc xs sg := by
                                obtain ⟨_, _, _, _, _, _, _, _, _, _, _, _, hss, _⟩ := hM.opnT ht62 hg62
                                exact ⟨_, _, hss⟩
                              obtain ⟨xs62, sx62, hsp62⟩ := hsp62
                              have hml62 := hsp62.mle
                              obtain ⟨pre62, post62, na62, nc62, sg62, hpre62, hup62, hM62⟩ := hM.cutS ht62 hg62 (j := at_) hl62
                              refine SP_region ?_
                              refine SPL_y (y_move rfl) rfl ?_
                              refine SPL_y (y_move rfl) rfl ?_
                              refine SPL_y (y_nil rfl) rfl ?_
                              refine SPL_y (y_fa fld_263_2 rfl) rfl ?_
                              refine SPL_y (y_load Tryz.isAgg90 rfl (by repeat (first | exact (hrow62 _ 2 _ rfl) | apply Cell.tail))) rfl ?_
                              refine SPL_y (y_move rfl) rfl ?_
                              refine SPL_y (y_cut hsp62 Tryz.underlying90 Tryz.sizeOf42 rfl rfl (by omega)) rfl ?_
                              rw [Int.toNat_natCast]
                              refine SPL_y (y_nil rfl) rfl ?_
                              refine SPL_y (y_fa fld_263_2 rfl) rfl ?_
                              refine SPL_one rfl (SP1_storeM (j := 2) (pre := pre62) (cs := trow t62 g62 na62 nc62) (post := post62) Tryz.sizeOf90 rfl rfl rfl hpre62 (by repeat (first | exact hup62 _ | apply Upd.tail)) (by rfl) ?_)
                              replace hM := hM62
                              refine SPL_nil ?_
                              refine thenP_n ?_
                              refine SP_seq ?_
                              refine SP_region ?_
                              refine SPL_y (y_move rfl) rfl ?_
                              refine SPL_y (y_loads Tryz.isAgg42 Tryz.sizeOf42 rfl rfl (by repeat (first | exact Cells.all _ | exact Cells.amid hpre rfl (by decide) | exact Cells.head rfl | apply Cells.tail))) rfl ?_
                              refine SPL_y (y_loads Tryz.isAgg42 Tryz.sizeOf42 rfl rfl (by repeat (first | exact Cells.all _ | exact Cells.amid hpre rfl (by decide) | exact Cells.head rfl | apply Cells.tail))) rfl ?_
                              refine SPL_one rfl (SP1_sliceN (l := ([x16, x17].flatMap valV)) el_90 rfl (by kernel_rfl) rfl rfl ?_)
                              intro b283
                              obtain ⟨m9, hq9, hP⟩ := bnd1 hP
                              refine SPL_one rfl (SP1_call (vm_push b ph _ _ hq9 _ hM) Tryz.call142 rfl rfl (by repeat (first | exact Part.nil _ | (apply Part.cons; with_reducible (first | exact P0 | exact P1 | exact P2 | exact P3 | exact P4 | exact P5 | exact P6 | exact P7 | exact P8 | exact P9 | exact P10 | exact P11 | exact P12 | exact P13 | exact P14 | exact P15 | exact P16 | exact P17 | exact P18 | exact P19 | exact P20 | exact P21 | exact P22 | exact P23)) | (apply Part.flat; simp only [List.cons_append, List.nil_append]) | (apply Part.cons; (first | exact P0 | exact P1 | exact P2 | exact P3 | exact P4 | exact P5 | exact P6 | exact P7 | exact P8 | exact P9 | exact P10 | exact P11 | exact P12 | exact P13 | exact P14 | exact P15 | exact P16 | exact P17 | exact P18 | exact P19 | exact P20 | exact P21 | exact P22 | exact P23)) | (apply Part.nilc))) ?_)
                              rintro v post H' ⟨rfl, hh9, sg9, hk9, hM, rfl⟩ hH
                              try simp only [List.cons_append, List.nil_append] at hH
                              subst hH
                              refine SPL_nil ?_
                              refine thenP_n ?_
                              refine SP_seq ?_
                              refine SP_region ?_
                              refine SPL_y (y_buildN (l := (evV ev0)) BN184 rfl rfl) rfl ?_
                              refine SPL_one rfl (SP1_storeAll Tryz.sizeOf184 rfl rfl rfl rfl rfl (by first | exact U0 | exact U1 | exact U2 | exact U3 | exact U4 | exact U5 | exact U6 | exact U7 | exact U8 | exact U9 | exact U10 | exact U11 | exact U12 | exact U13 | exact U14 | exact U15 | exact U16 | exact U17 | exact U18 | exact U19 | exact U20 | exact U21 | exact U22 | exact U23) (by rfl) ?_)
                              refine SPL_nil ?_
                              refine thenP_n ?_
                              refine SP_ret ?_
                              refine bodyP_ret (H' := [sg9]) (ResC rfl rfl Tryz.isAgg184 Tryz.sizeOf184 rfl (by repeat (first | exact Cells.all _ | exact Cells.amid hpre rfl (by decide) | exact Cells.head rfl | apply Cells.tail))) (by repeat (first | exact Part.nil _ | (apply Part.cons; with_reducible (first | exact P0 | exact P1 | exact P2 | exact P3 | exact P4 | exact P5 | exact P6 | exact P7 | exact P8 | exact P9 | exact P10 | exact P11 | exact P12 | exact P13 | exact P14 | exact P15 | exact P16 | exact P17 | exact P18 | exact P19 | exact P20 | exact P21 | exact P22 | exact P23)) | (apply Part.flat; simp only [List.cons_append, List.nil_append]) | (apply Part.cons; (first | exact P0 | exact P1 | exact P2 | exact P3 | exact P4 | exact P5 | exact P6 | exact P7 | exact P8 | exact P9 | exact P10 | exact P11 | exact P12 | exact P13 | exact P14 | exact P15 | exact P16 | exact P17 | exact P18 | exact P19 | exact P20 | exact P21 | exact P22 | exact P23)) | (apply Part.nilc))) ?_
                              injection hP with hP
                              subst hP
                              exact ⟨_, _, rfl, rfl, _, _, hM, rfl⟩
                          intro h56_0
                          first | rw [if_neg h56_0] at hP | rw [if_pos (Decidable.not_not.1 h56_0)] at hP | skip
                          as_aux_lemma =>
                            refine SPL_y (y_assign rfl) rfl ?_
                            refine SPL_nil ?_
                            refine thenP_n ?_
                            refine SP_cond_f rfl ?_
                            refine SP_seq ?_
                            refine SP_region ?_
                            refine SPL_if (y_eql rfl rfl) rfl ?_ ?_
                            · intro h58_0
                              first | rw [if_pos h58_0] at hP | rw [if_neg h58_0] at hP | skip
                              as_aux_lemma =>
                                refine SPL_y (y_assign rfl) rfl ?_
                                refine SPL_nil ?_
                                refine thenP_n ?_
                                refine SP_cond_t rfl ?_
                                refine SP_region ?_
                                refine SPL_y (y_move rfl) rfl ?_
                                refine SPL_y (y_move rfl) rfl ?_
                                obtain ⟨o46, hq46, hP⟩ := bndO hP
                                refine SPL_one rfl (SP1_callp (vm_bCreate b ph hh1 hq46 _ hM hA3) Tryz.call288 rfl rfl (by repeat (first | exact Part.nil _ | (apply Part.cons; with_reducible (first | exact P0 | exact P1 | exact P2 | exact P3 | exact P4 | exact P5 | exact P6 | exact P7 | exact P8 | exact P9 | exact P10 | exact P11 | exact P12 | exact P13 | exact P14 | exact P15 | exact P16 | exact P17 | exact P18 | exact P19 | exact P20 | exact P21 | exact P22 | exact P23)) | (apply Part.flat; simp only [List.cons_append, List.nil_append]) | (apply Part.cons; (first | exact P0 | exact P1 | exact P2 | exact P3 | exact P4 | exact P5 | exact P6 | exact P7 | exact P8 | exact P9 | exact P10 | exact P11 | exact P12 | exact P13 | exact P14 | exact P15 | exact P16 | exact P17 | exact P18 | exact P19 | exact P20 | exact P21 | exact P22 | exact P23)) | (apply Part.nilc))) ?_ ?_)
                                · rintro c post H' ⟨ex, hhx, sgx, rfl, rfl, hkx, hMx, rfl⟩ hH
                                  try simp only [List.cons_append, List.nil_append] at hH
                                  subst hH
                                  refine inBlockP_panic (thenP_panic (bodyP_panic (H' := [sgx, escS ex]) (by repeat (first | exact Part.nil _ | (apply Part.cons; with_reducible (first | exact P0 | exact P1 | exact P2 | exact P3 | exact P4 | exact P5 | exact P6 | exact P7 | exact P8 | exact P9 | exact P10 | exact P11 | exact P12 | exact P13 | exact P14 | exact P15 | exact P16 | exact P17 | exact P18 | exact P19 | exact P20 | exact P21 | exact P22 | exact P23)) | (apply Part.flat; simp only [List.cons_append, List.nil_append]) | (apply Part.cons; (first | exact P0 | exact P1 | exact P2 | exact P3 | exact P4 | exact P5 | exact P6 | exact P7 | exact P8 | exact P9 | exact P10 | exact P11 | exact P12 | exact P13 | exact P14 | exact P15 | exact P16 | exact P17 | exact P18 | exact P19 | exact P20 | exact P21 | exact P22 | exact P23)) | (apply Part.nilc))) ?_))
                                  rw [bindO_esc] at hP
                                  injection hP with hP
                                  subst hP
                                  exact ⟨ex, hhx, sgx, rfl, rfl, hMx, rfl⟩
                                rintro v post H' ⟨⟨x16, x17⟩, m46, rfl, rfl, hh46, sg46, hk46, hM, rfl⟩ hH
                                try simp only [List.cons_append, List.nil_append] at hH
                                subst hH
                                dsimp only [bindO] at hP
                                refine SPL_y (y_move rfl) rfl ?_
                                refine SPL_y (y_ext rfl rfl) rfl ?_
                                refine SPL_y (y_ext rfl rfl) rfl ?_
                                refine SPL_one rfl (SP1_storeAll Tryz.sizeOf42 rfl rfl rfl rfl rfl (by first | exact U0 | exact U1 | exact U2 | exact U3 | exact U4 | exact U5 | exact U6 | exact U7 | exact U8 | exact U9 | exact U10 | exact U11 | exact U12 | exact U13 | exact U14 | exact U15 | exact U16 | exact U17 | exact U18 | exact U19 | exact U20 | exact U21 | exact U22 | exact U23) (by rfl) ?_)
                                refine SPL_one rfl (SP1_storeAll Tryz.sizeOf42 rfl rfl rfl rfl rfl (by first | exact U0 | exact U1 | exact U2 | exact U3 | exact U4 | exact U5 | exact U6 | exact U7 | exact U8 | exact U9 | exact U10 | exact U11 | exact U12 | exact U13 | exact U14 | exact U15 | exact U16 | exact U17 | exact U18 | exact U19 | exact U20 | exact U21 | exact U22 | exact U23) (by rfl) ?_)
                                refine SPL_nil ?_
                                refine inBlockP_n ?_
                                refine thenP_n ?_
                                refine SP_seq ?_
                                unfold finM at hP
                                try unfold getT at hP
                                obtain ⟨t62, ht62, hP⟩ := bnd1 hP
                                obtain ⟨g62, oa62, oc62, hg62, _, hrow62, hst62, hfr62, _⟩ := hM.thr ht62
                                have hl62 : at_ ≤ t62.stack.length := Decidable.byContradiction fun q => by rw [if_neg q] at hP; cases hP
                                rw [if_pos hl62] at hP
                                have hsp62 : ∃ xs sg, Arr 42 3 g62.sa t62.stack.length g62.sc xs sg := by
                                  obtain ⟨_, _, _, _, _, _, _, _, _, _, _, _, hss, _⟩ := hM.opnT ht62 hg62
                                  exact ⟨_, _, hss⟩
                                obtain ⟨xs62, sx62, hsp62⟩ := hsp62
                                have hml62 := hsp62.mle
                                obtain ⟨pre62, post62, na62, nc62, sg62, hpre62, hup62, hM62⟩ := hM.cutS ht62 hg62 (j := at_) hl62
                                refine SP_region ?_
                                refine SPL_y (y_move rfl) rfl ?_
                                refine SPL_y (y_move rfl) rfl ?_
                                refine SPL_y (y_nil rfl) rfl ?_
                                refine SPL_y (y_fa fld_263_2 rfl) rfl ?_
                                refine SPL_y (y_load Tryz.isAgg90 rfl (by repeat (first | exact (hrow62 _ 2 _ rfl) | apply Cell.tail))) rfl ?_
                                refine SPL_y (y_move rfl) rfl ?_
                                refine SPL_y (y_cut hsp62 Tryz.underlying90 Tryz.sizeOf42 rfl rfl (by omega)) rfl ?_
                                rw [Int.toNat_natCast]
                                refine SPL_y (y_nil rfl) rfl ?_
                                refine SPL_y (y_fa fld_263_2 rfl) rfl ?_
                                refine SPL_one rfl (SP1_storeM (j := 2) (pre := pre62) (cs := trow t62 g62 na62 nc62) (post := post62) Tryz.sizeOf90 rfl rfl rfl hpre62 (by repeat (first | exact hup62 _ | apply Upd.tail)) (by rfl) ?_)
                                replace hM := hM62
                                refine SPL_nil ?_
                                refine thenP_n ?_
                                refine SP_seq ?_
                                refine SP_region ?_
                                refine SPL_y (y_move rfl) rfl ?_
                                refine SPL_y (y_loads Tryz.isAgg42 Tryz.sizeOf42 rfl rfl (by repeat (first | exact Cells.all _ | exact Cells.amid hpre rfl (by decide) | exact Cells.head rfl | apply Cells.tail))) rfl ?_
                                refine SPL_y (y_loads Tryz.isAgg42 Tryz.sizeOf42 rfl rfl (by repeat (first | exact Cells.all _ | exact Cells.amid hpre rfl (by decide) | exact Cells.head rfl | apply Cells.tail))) rfl ?_
                                refine SPL_one rfl (SP1_sliceN (l := ([x16, x17].flatMap valV)) el_90 rfl (by kernel_rfl) rfl rfl ?_)
                                intro b283
                                obtain ⟨m9, hq9, hP⟩ := bnd1 hP
                                refine SPL_one rfl (SP1_call (vm_push b ph _ _ hq9 _ hM) Tryz.call142 rfl rfl (by repeat (first | exact Part.nil _ | (apply Part.cons; with_reducible (first | exact P0 | exact P1 | exact P2 | exact P3 | exact P4 | exact P5 | exact P6 | exact P7 | exact P8 | exact P9 | exact P10 | exact P11 | exact P12 | exact P13 | exact P14 | exact P15 | exact P16 | exact P17 | exact P18 | exact P19 | exact P20 | exact P21 | exact P22 | exact P23)) | (apply Part.flat; simp only [List.cons_append, List.nil_append]) | (apply Part.cons; (first | exact P0 | exact P1 | exact P2 | exact P3 | exact P4 | exact P5 | exact P6 | exact P7 | exact P8 | exact P9 | exact P10 | exact P11 | exact P12 | exact P13 | exact P14 | exact P15 | exact P16 | exact P17 | exact P18 | exact P19 | exact P20 | exact P21 | exact P22 | exact P23)) | (apply Part.nilc))) ?_)
                                rintro v post H' ⟨rfl, hh9, sg9, hk9, hM, rfl⟩ hH
                                try simp only [List.cons_append, List.nil_append] at hH
                                subst hH
                                refine SPL_nil ?_
                                refine thenP_n ?_
                                refine SP_seq ?_
                                refine SP_region ?_
                                refine SPL_y (y_buildN (l := (evV ev0)) BN184 rfl rfl) rfl ?_
                                refine SPL_one rfl (SP1_storeAll Tryz.sizeOf184 rfl rfl rfl rfl rfl (by first | exact U0 | exact U1 | exact U2 | exact U3 | exact U4 | exact U5 | exact U6 | exact U7 | exact U8 | exact U9 | exact U10 | exact U11 | exact U12 | exact U13 | exact U14 | exact U15 | exact U16 | exact U17 | exact U18 | exact U19 | exact U20 | exact U21 | exact U22 | exact U23) (by rfl) ?_)
                                refine SPL_nil ?_
                                refine thenP_n ?_
                                refine SP_ret ?_
                                refine bodyP_ret (H' := [sg9]) (ResC rfl rfl Tryz.isAgg184 Tryz.sizeOf184 rfl (by repeat (first | exact Cells.all _ | exact Cells.amid hpre rfl (by decide) | exact Cells.head rfl | apply Cells.tail))) (by repeat (first | exact Part.nil _ | (apply Part.cons; with_reducible (first | exact P0 | exact P1 | exact P2 | exact P3 | exact P4 | exact P5 | exact P6 | exact P7 | exact P8 | exact P9 | exact P10 | exact P11 | exact P12 | exact P13 | exact P14 | exact P15 | exact P16 | exact P17 | exact P18 | exact P19 | exact P20 | exact P21 | exact P22 | exact P23)) | (apply Part.flat; simp only [List.cons_append, List.nil_append]) | (apply Part.cons; (first | exact P0 | exact P1 | exact P2 | exact P3 | exact P4 | exact P5 | exact P6 | exact P7 | exact P8 | exact P9 | exact P10 | exact P11 | exact P12 | exact P13 | exact P14 | exact P15 | exact P16 | exact P17 | exact P18 | exact P19 | exact P20 | exact P21 | exact P22 | exact P23)) | (apply Part.nilc))) ?_
                                injection hP with hP
                                subst hP
                                exact ⟨_, _, rfl, rfl, _, _, hM, rfl⟩
                            intro h58_0
                            first | rw [if_neg h58_0] at hP | rw [if_pos (Decidable.not_not.1 h58_0)] at hP | skip
                            as_aux_lemma =>
                              refine SPL_y (y_assign rfl) rfl ?_
                              refine SPL_nil ?_
                              refine thenP_n ?_
                              refine SP_cond_f rfl ?_
                              refine SP_seq ?_
                              refine SP_region ?_
                              refine SPL_ifn (y_eql rfl rfl) rfl ?_ ?_
                              · intro h60_0
                                first | rw [if_neg h60_0] at hP | rw [if_pos (Decidable.not_not.1 h60_0)] at hP | skip
                                as_aux_lemma =>
                                  refine SPL_y (y_assign rfl) rfl ?_
                                  refine SPL_nil ?_
                                  refine thenP_n ?_
                                  refine SP_cond_f rfl ?_
                                  refine SP_region ?_
                                  refine SPL_one rfl (SP1_callp (vm_raise s_call) Tryz.call281 rfl rfl (by repeat (first | exact Part.nil _ | (apply Part.cons; with_reducible (first | exact P0 | exact P1 | exact P2 | exact P3 | exact P4 | exact P5 | exact P6 | exact P7 | exact P8 | exact P9 | exact P10 | exact P11 | exact P12 | exact P13 | exact P14 | exact P15 | exact P16 | exact P17 | exact P18 | exact P19 | exact P20 | exact P21 | exact P22 | exact P23)) | (apply Part.flat; simp only [List.cons_append, List.nil_append]) | (apply Part.cons; (first | exact P0 | exact P1 | exact P2 | exact P3 | exact P4 | exact P5 | exact P6 | exact P7 | exact P8 | exact P9 | exact P10 | exact P11 | exact P12 | exact P13 | exact P14 | exact P15 | exact P16 | exact P17 | exact P18 | exact P19 | exact P20 | exact P21 | exact P22 | exact P23)) | (apply Part.nilc))) ?_ ?_)
                                  · rintro c post H' ⟨bb, rfl, rfl⟩ hH
                                    try simp only [List.cons_append, List.nil_append] at hH
                                    subst hH
                                    refine inBlockP_panic (thenP_panic (bodyP_panic (H' := [sg6, blk bb 335 (valV (strV s_call))]) (by repeat (first | exact Part.nil _ | (apply Part.cons; with_reducible (first | exact P0 | exact P1 | exact P2 | exact P3 | exact P4 | exact P5 | exact P6 | exact P7 | exact P8 | exact P9 | exact P10 | exact P11 | exact P12 | exact P13 | exact P14 | exact P15 | exact P16 | exact P17 | exact P18 | exact P19 | exact P20 | exact P21 | exact P22 | exact P23)) | (apply Part.flat; simp only [List.cons_append, List.nil_append]) | (apply Part.cons; (first | exact P0 | exact P1 | exact P2 | exact P3 | exact P4 | exact P5 | exact P6 | exact P7 | exact P8 | exact P9 | exact P10 | exact P11 | exact P12 | exact P13 | exact P14 | exact P15 | exact P16 | exact P17 | exact P18 | exact P19 | exact P20 | exact P21 | exact P22 | exact P23)) | (apply Part.nilc))) ?_))
                                    injection hP with hP
                                    subst hP
                                    exact ⟨.thr (strV s_call) m6 bb, hh1, sg6, rfl, rfl, hM, rfl⟩
                                  rintro v post H' hF hH
                                  exact hF.elim
                              intro h60_0
                              first | rw [if_pos h60_0] at hP | rw [if_neg h60_0] at hP | skip
                              as_aux_lemma =>
                                refine SPL_y (y_assign rfl) rfl ?_
                                refine SPL_nil ?_
                                refine thenP_n ?_
                                refine SP_cond_t rfl ?_
                                refine SP_region ?_
                                refine SPL_y (y_move rfl) rfl ?_
                                refine SPL_y (y_move rfl) rfl ?_
                                obtain ⟨o46, hq46, hP⟩ := bndO hP
                                refine SPL_one rfl (SP1_callp (vm_bStatus b ph hh1 hq46 _ hM hA3) Tryz.call289 rfl rfl (by repeat (first | exact Part.nil _ | (apply Part.cons; with_reducible (first | exact P0 | exact P1 | exact P2 | exact P3 | exact P4 | exact P5 | exact P6 | exact P7 | exact P8 | exact P9 | exact P10 | exact P11 | exact P12 | exact P13 | exact P14 | exact P15 | exact P16 | exact P17 | exact P18 | exact P19 | exact P20 | exact P21 | exact P22 | exact P23)) | (apply Part.flat; simp only [List.cons_append, List.nil_append]) | (apply Part.cons; (first | exact P0 | exact P1 | exact P2 | exact P3 | exact P4 | exact P5 | exact P6 | exact P7 | exact P8 | exact P9 | exact P10 | exact P11 | exact P12 | exact P13 | exact P14 | exact P15 | exact P16 | exact P17 | exact P18 | exact P19 | exact P20 | exact P21 | exact P22 | exact P23)) | (apply Part.nilc))) ?_ ?_)
                                · rintro c post H' ⟨ex, hhx, sgx, rfl, rfl, hkx, hMx, rfl⟩ hH
                                  try simp only [List.cons_append, List.nil_append] at hH
                                  subst hH
                                  refine inBlockP_panic (thenP_panic (bodyP_panic (H' := [sgx, escS ex]) (by repeat (first | exact Part.nil _ | (apply Part.cons; with_reducible (first | exact P0 | exact P1 | exact P2 | exact P3 | exact P4 | exact P5 | exact P6 | exact P7 | exact P8 | exact P9 | exact P10 | exact P11 | exact P12 | exact P13 | exact P14 | exact P15 | exact P16 | exact P17 | exact P18 | exact P19 | exact P20 | exact P21 | exact P22 | exact P23)) | (apply Part.flat; simp only [List.cons_append, List.nil_append]) | (apply Part.cons; (first | exact P0 | exact P1 | exact P2 | exact P3 | exact P4 | exact P5 | exact P6 | exact P7 | exact P8 | exact P9 | exact P10 | exact P11 | exact P12 | exact P13 | exact P14 | exact P15 | exact P16 | exact P17 | exact P18 | exact P19 | exact P20 | exact P21 | exact P22 | exact P23)) | (apply Part.nilc))) ?_))
                                  rw [bindO_esc] at hP
                                  injection hP with hP
                                  subst hP
                                  exact ⟨ex, hhx, sgx, rfl, rfl, hMx, rfl⟩
                                rintro v post H' ⟨⟨x16, x17⟩, m46, rfl, rfl, hh46, sg46, hk46, hM, rfl⟩ hH
                                try simp only [List.cons_append, List.nil_append] at hH
                                subst hH
                                dsimp only [bindO] at hP
                                refine SPL_y (y_move rfl) rfl ?_
                                refine SPL_y (y_ext rfl rfl) rfl ?_
                                refine SPL_y (y_ext rfl rfl) rfl ?_
                                refine SPL_one rfl (SP1_storeAll Tryz.sizeOf42 rfl rfl rfl rfl rfl (by first | exact U0 | exact U1 | exact U2 | exact U3 | exact U4 | exact U5 | exact U6 | exact U7 | exact U8 | exact U9 | exact U10 | exact U11 | exact U12 | exact U13 | exact U14 | exact U15 | exact U16 | exact U17 | exact U18 | exact U19 | exact U20 | exact U21 | exact U22 | exact U23) (by rfl) ?_)
                                refine SPL_one rfl (SP1_storeAll Tryz.sizeOf42 rfl rfl rfl rfl rfl (by first | exact U0 | exact U1 | exact U2 | exact U3 | exact U4 | exact U5 | exact U6 | exact U7 | exact U8 | exact U9 | exact U10 | exact U11 | exact U12 | exact U13 | exact U14 | exact U15 | exact U16 | exact U17 | exact U18 | exact U19 | exact U20 | exact U21 | exact U22 | exact U23) (by rfl) ?_)
                                refine SPL_nil ?_
                                refine inBlockP_n ?_
                                refine thenP_n ?_
                                refine SP_seq ?_
                                unfold finM at hP
                                try unfold getT at hP
                                obtain ⟨t62, ht62, hP⟩ := bnd1 hP
                                obtain ⟨g62, oa62, oc62, hg62, _, hrow62, hst62, hfr62, _⟩ := hM.thr ht62
                                have hl62 : at_ ≤ t62.stack.length := Decidable.byContradiction fun q => by rw [if_neg q] at hP; cases hP
                                rw [if_pos hl62] at hP
                                have hsp62 : ∃ xs sg, Arr 42 3 g62.sa t62.stack.length g62.sc xs sg := by
                                  obtain ⟨_, _, _, _, _, _, _, _, _, _, _, _, hss, _⟩ := hM.opnT ht62 hg62
                                  exact ⟨_, _, hss⟩
                                obtain ⟨xs62, sx62, hsp62⟩ := hsp62
                                have hml62 := hsp62.mle
                                obtain ⟨pre62, post62, na62, nc62, sg62, hpre62, hup62, hM62⟩ := hM.cutS ht62 hg62 (j := at_) hl62
                                refine SP_region ?_
                                refine SPL_y (y_move rfl) rfl ?_
                                refine SPL_y (y_move rfl) rfl ?_
                                refine SPL_y (y_nil rfl) rfl ?_
                                refine SPL_y (y_fa fld_263_2 rfl) rfl ?_
                                refine SPL_y (y_load Tryz.isAgg90 rfl (by repeat (first | exact (hrow62 _ 2 _ rfl) | apply Cell.tail))) rfl ?_
                                refine SPL_y (y_move rfl) rfl ?_
                                refine SPL_y (y_cut hsp62 Tryz.underlying90 Tryz.sizeOf42 rfl rfl (by omega)) rfl ?_
                                rw [Int.toNat_natCast]
                                refine SPL_y (y_nil rfl) rfl ?_
                                refine SPL_y (y_fa fld_263_2 rfl) rfl ?_
                                refine SPL_one rfl (SP1_storeM (j := 2) (pre := pre62) (cs := trow t62 g62 na62 nc62) (post := post62) Tryz.sizeOf90 rfl rfl rfl hpre62 (by repeat (first | exact hup62 _ | apply Upd.tail)) (by rfl) ?_)
                                replace hM := hM62
                                refine SPL_nil ?_
                                refine thenP_n ?_
                                refine SP_seq ?_
                                refine SP_region ?_
                                refine SPL_y (y_move rfl) rfl ?_
                                refine SPL_y (y_loads Tryz.isAgg42 Tryz.sizeOf42 rfl rfl (by repeat (first | exact Cells.all _ | exact Cells.amid hpre rfl (by decide) | exact Cells.head rfl | apply Cells.tail))) rfl ?_
                                refine SPL_y (y_loads Tryz.isAgg42 Tryz.sizeOf42 rfl rfl (by repeat (first | exact Cells.all _ | exact Cells.amid hpre rfl (by decide) | exact Cells.head rfl | apply Cells.tail))) rfl ?_
                                refine SPL_one rfl (SP1_sliceN (l := ([x16, x17].flatMap valV)) el_90 rfl (by kernel_rfl) rfl rfl ?_)
                                intro b283
                                obtain ⟨m9, hq9, hP⟩ := bnd1 hP
                                refine SPL_one rfl (SP1_call (vm_push b ph _ _ hq9 _ hM) Tryz.call142 rfl rfl (by repeat (first | exact Part.nil _ | (apply Part.cons; with_reducible (first | exact P0 | exact P1 | exact P2 | exact P3 | exact P4 | exact P5 | exact P6 | exact P7 | exact P8 | exact P9 | exact P10 | exact P11 | exact P12 | exact P13 | exact P14 | exact P15 | exact P16 | exact P17 | exact P18 | exact P19 | exact P20 | exact P21 | exact P22 | exact P23)) | (apply Part.flat; simp only [List.cons_append, List.nil_append]) | (apply Part.cons; (first | exact P0 | exact P1 | exact P2 | exact P3 | exact P4 | exact P5 | exact P6 | exact P7 | exact P8 | exact P9 | exact P10 | exact P11 | exact P12 | exact P13 | exact P14 | exact P15 | exact P16 | exact P17 | exact P18 | exact P19 | exact P20 | exact P21 | exact P22 | exact P23)) | (apply Part.nilc))) ?_)
                                rintro v post H' ⟨rfl, hh9, sg9, hk9, hM, rfl⟩ hH
                                try simp only [List.cons_append, List.nil_append] at hH
                                subst hH
                                refine SPL_nil ?_
                                refine thenP_n ?_
                                refine SP_seq ?_
                                refine SP_region ?_
                                refine SPL_y (y_buildN (l := (evV ev0)) BN184 rfl rfl) rfl ?_
                                refine SPL_one rfl (SP1_storeAll Tryz.sizeOf184 rfl rfl rfl rfl rfl (by first | exact U0 | exact U1 | exact U2 | exact U3 | exact U4 | exact U5 | exact U6 | exact U7 | exact U8 | exact U9 | exact U10 | exact U11 | exact U12 | exact U13 | exact U14 | exact U15 | exact U16 | exact U17 | exact U18 | exact U19 | exact U20 | exact U21 | exact U22 | exact U23) (by rfl) ?_)
                                refine SPL_nil ?_
                                refine thenP_n ?_
                                refine SP_ret ?_
                                refine bodyP_ret (H' := [sg9]) (ResC rfl rfl Tryz.isAgg184 Tryz.sizeOf184 rfl (by repeat (first | exact Cells.all _ | exact Cells.amid hpre rfl (by decide) | exact Cells.head rfl | apply Cells.tail))) (by repeat (first | exact Part.nil _ | (apply Part.cons; with_reducible (first | exact P0 | exact P1 | exact P2 | exact P3 | exact P4 | exact P5 | exact P6 | exact P7 | exact P8 | exact P9 | exact P10 | exact P11 | exact P12 | exact P13 | exact P14 | exact P15 | exact P16 | exact P17 | exact P18 | exact P19 | exact P20 | exact P21 | exact P22 | exact P23)) | (apply Part.flat; simp only [List.cons_append, List.nil_append]) | (apply Part.cons; (first | exact P0 | exact P1 | exact P2 | exact P3 | exact P4 | exact P5 | exact P6 | exact P7 | exact P8 | exact P9 | exact P10 | exact P11 | exact P12 | exact P13 | exact P14 | exact P15 | exact P16 | exact P17 | exact P18 | exact P19 | exact P20 | exact P21 | exact P22 | exact P23)) | (apply Part.nilc))) ?_
                                injection hP with hP
                                subst hP
                                exact ⟨_, _, rfl, rfl, _, _, hM, rfl⟩

end Go.Sl
