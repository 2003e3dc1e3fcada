/- Walks: package numm, Format (made by program out of short notes) -/
import Derived.Test.Qxb6500573aGreatDoorWNmE
namespace Go.Sl
open Go Go.Wl Go.Proofs
open Go.Nm
set_option maxRecDepth 100000
set_option linter.unusedVariables false
set_option linter.unusedSimpArgs false
theorem fmt_w {m : Nat} {e : Int} (h1 : 0 ≤ e ∧ e < 53) (h2 : m * 2 ^ e.toNat % 18446744073709551616 / 2 ^ e.toNat = m ∧ m * 2 ^ e.toNat % 18446744073709551616 < 9007199254740992) : fmtW m e = utoa (m * 2 ^ e.toNat % 18446744073709551616) := by unfold fmtW; rw [if_pos ⟨h1, h2⟩]
theorem fmt_p {m : Nat} {e : Int} (h : ¬ ((0 ≤ e ∧ e < 53) ∧ (m * 2 ^ e.toNat % 18446744073709551616 / 2 ^ e.toNat = m ∧ m * 2 ^ e.toNat % 18446744073709551616 < 9007199254740992))) : fmtW m e = utoa m ++ [112] ++ itoa e := by unfold fmtW; rw [if_neg h]
theorem tz_shr {m t : Nat} : m / 2 ^ t / 2 = m / 2 ^ (t + 1) := by rw [Nat.div_div_eq_div_mul, ← Nat.pow_succ]

theorem nm_Format (nv : Value) (x : Nat) (hx : x < 18446744073709551616) : Spec Tryz.prog 231 [nv, .int .u64 ((x : Nat) : Int)] [] (Ret fun v H => v = S (formatW x) ∧ H = []) := by
  refine Spec_enter Tryz.func231 rfl Tryz.ntmps231 rfl ?_
  show SP _ _ _ _ _ [(0, _), (1, _)] _
  refine SP_seq ?_
  refine SP_region ?_
  refine SPL_y (y_assign rfl) rfl ?_
  refine SPL_nil ?_
  refine thenP_n ?_
  refine SP_seq ?_
  refine SP_seq ?_
  refine SP_region ?_
  refine SPL_y (y_move rfl) rfl ?_
  refine SPL_one rfl (SP1_call (nm_isNaN x hx) Tryz.call230 rfl rfl (by repeat (first | exact Part.nil _ | (apply Part.cons; with_reducible (first | exact P0 | exact P1 | exact P2 | exact P3 | exact P4 | exact P5 | exact P6 | exact P7 | exact P8 | exact P9 | exact P10 | exact P11 | exact P12 | exact P13 | exact P14 | exact P15 | exact P16 | exact P17 | exact P18 | exact P19 | exact P20 | exact P21 | exact P22 | exact P23)) | (apply Part.flat; simp only [List.cons_append, List.nil_append]) | (apply Part.cons; (first | exact P0 | exact P1 | exact P2 | exact P3 | exact P4 | exact P5 | exact P6 | exact P7 | exact P8 | exact P9 | exact P10 | exact P11 | exact P12 | exact P13 | exact P14 | exact P15 | exact P16 | exact P17 | exact P18 | exact P19 | exact P20 | exact P21 | exact P22 | exact P23)) | (apply Part.nilc))) ?_)
  rintro v post H' ⟨rfl, rfl⟩ hH
  try simp only [List.cons_append, List.nil_append] at hH
  subst hH
  generalize hn : decide (isNaNW x) = qn
  rcases qn with _ | _
  · refine SPL_nil ?_
    refine thenP_n ?_
    refine SP_cond_f rfl ?_
    refine SP_skip ?_
    refine thenP_n ?_
    refine SP_seq ?_
    refine SP_region ?_
    refine SPL_y (y_assign rfl) rfl ?_
    refine SPL_nil ?_
    refine thenP_n ?_
    refine SP_mid (G := List UInt8) (fun p => [(1, .int .u64 ((x : Nat) : Int)), (5, S p)]) (fun _ => []) (fun p => p = (if sgW x = true then [45] else [])) ?_ ?_
    · refine SP_seq ?_
      refine SP_region ?_
      refine SPL_y (y_move rfl) rfl ?_
      refine SPL_y (y_and rfl rfl (w_sg hx)) rfl ?_
      refine SPL_ifn (y_neq rfl rfl) rfl ?_ ?_
      · intro h4_2
        refine SPL_nil ?_
        refine thenP_n ?_
        refine SP_cond_f rfl ?_
        refine SP_skip ?_
        refine thenP_n ?_
        exact Mid.intro ([]) (by rw [if_neg (fun q => h4_2 (bne_sg.2 q))]) (by repeat (first | exact Sub.nil _ | refine Sub.cons rfl ?_)) (by repeat (first | exact Part.nil _ | (apply Part.cons; with_reducible (first | exact P0 | exact P1 | exact P2 | exact P3 | exact P4 | exact P5 | exact P6 | exact P7 | exact P8 | exact P9 | exact P10 | exact P11 | exact P12 | exact P13 | exact P14 | exact P15 | exact P16 | exact P17 | exact P18 | exact P19 | exact P20 | exact P21 | exact P22 | exact P23)) | (apply Part.flat; simp only [List.cons_append, List.nil_append]) | (apply Part.cons; (first | exact P0 | exact P1 | exact P2 | exact P3 | exact P4 | exact P5 | exact P6 | exact P7 | exact P8 | exact P9 | exact P10 | exact P11 | exact P12 | exact P13 | exact P14 | exact P15 | exact P16 | exact P17 | exact P18 | exact P19 | exact P20 | exact P21 | exact P22 | exact P23)) | (apply Part.nilc)))
      intro h4_2
      refine SPL_nil ?_
      refine thenP_n ?_
      refine SP_cond_t rfl ?_
      refine SP_region ?_
      refine SPL_y (y_assign rfl) rfl ?_
      refine SPL_nil ?_
      refine thenP_n ?_
      exact Mid.intro ([45]) (by rw [if_pos (bne_sg.1 h4_2)]) (by repeat (first | exact Sub.nil _ | refine Sub.cons rfl ?_)) (by repeat (first | exact Part.nil _ | (apply Part.cons; with_reducible (first | exact P0 | exact P1 | exact P2 | exact P3 | exact P4 | exact P5 | exact P6 | exact P7 | exact P8 | exact P9 | exact P10 | exact P11 | exact P12 | exact P13 | exact P14 | exact P15 | exact P16 | exact P17 | exact P18 | exact P19 | exact P20 | exact P21 | exact P22 | exact P23)) | (apply Part.flat; simp only [List.cons_append, List.nil_append]) | (apply Part.cons; (first | exact P0 | exact P1 | exact P2 | exact P3 | exact P4 | exact P5 | exact P6 | exact P7 | exact P8 | exact P9 | exact P10 | exact P11 | exact P12 | exact P13 | exact P14 | exact P15 | exact P16 | exact P17 | exact P18 | exact P19 | exact P20 | exact P21 | exact P22 | exact P23)) | (apply Part.nilc)))
    rintro pre hpre1
    have hpl : pre.length ≤ 1 := by rw [hpre1]; split <;> simp
    refine SP_seq ?_
    refine SP_seq ?_
    refine SP_region ?_
    refine SPL_y (y_move rfl) rfl ?_
    refine SPL_one rfl (SP1_call (nm_isInf x hx) Tryz.call225 rfl rfl (by repeat (first | exact Part.nil _ | (apply Part.cons; with_reducible (first | exact P0 | exact P1 | exact P2 | exact P3 | exact P4 | exact P5 | exact P6 | exact P7 | exact P8 | exact P9 | exact P10 | exact P11 | exact P12 | exact P13 | exact P14 | exact P15 | exact P16 | exact P17 | exact P18 | exact P19 | exact P20 | exact P21 | exact P22 | exact P23)) | (apply Part.flat; simp only [List.cons_append, List.nil_append]) | (apply Part.cons; (first | exact P0 | exact P1 | exact P2 | exact P3 | exact P4 | exact P5 | exact P6 | exact P7 | exact P8 | exact P9 | exact P10 | exact P11 | exact P12 | exact P13 | exact P14 | exact P15 | exact P16 | exact P17 | exact P18 | exact P19 | exact P20 | exact P21 | exact P22 | exact P23)) | (apply Part.nilc))) ?_)
    rintro v post H' ⟨rfl, rfl⟩ hH
    try simp only [List.cons_append, List.nil_append] at hH
    subst hH
    generalize hi : decide (isInfW x) = qi
    rcases qi with _ | _
    · refine SPL_nil ?_
      refine thenP_n ?_
      refine SP_cond_f rfl ?_
      refine SP_skip ?_
      refine thenP_n ?_
      refine SP_seq ?_
      refine SP_seq ?_
      refine SP_region ?_
      refine SPL_y (y_move rfl) rfl ?_
      refine SPL_one rfl (SP1_call (nm_isZero x hx) Tryz.call226 rfl rfl (by repeat (first | exact Part.nil _ | (apply Part.cons; with_reducible (first | exact P0 | exact P1 | exact P2 | exact P3 | exact P4 | exact P5 | exact P6 | exact P7 | exact P8 | exact P9 | exact P10 | exact P11 | exact P12 | exact P13 | exact P14 | exact P15 | exact P16 | exact P17 | exact P18 | exact P19 | exact P20 | exact P21 | exact P22 | exact P23)) | (apply Part.flat; simp only [List.cons_append, List.nil_append]) | (apply Part.cons; (first | exact P0 | exact P1 | exact P2 | exact P3 | exact P4 | exact P5 | exact P6 | exact P7 | exact P8 | exact P9 | exact P10 | exact P11 | exact P12 | exact P13 | exact P14 | exact P15 | exact P16 | exact P17 | exact P18 | exact P19 | exact P20 | exact P21 | exact P22 | exact P23)) | (apply Part.nilc))) ?_)
      rintro v post H' ⟨rfl, rfl⟩ hH
      try simp only [List.cons_append, List.nil_append] at hH
      subst hH
      generalize hz : decide (isZW x) = qz
      rcases qz with _ | _
      · refine SPL_nil ?_
        refine thenP_n ?_
        refine SP_cond_f rfl ?_
        refine SP_skip ?_
        refine thenP_n ?_
        refine SP_seq ?_
        refine SP_region ?_
        refine SPL_y (y_move rfl) rfl ?_
        refine SPL_one rfl (SP1_call (nm_parts x hx) Tryz.call227 rfl rfl (by repeat (first | exact Part.nil _ | (apply Part.cons; with_reducible (first | exact P0 | exact P1 | exact P2 | exact P3 | exact P4 | exact P5 | exact P6 | exact P7 | exact P8 | exact P9 | exact P10 | exact P11 | exact P12 | exact P13 | exact P14 | exact P15 | exact P16 | exact P17 | exact P18 | exact P19 | exact P20 | exact P21 | exact P22 | exact P23)) | (apply Part.flat; simp only [List.cons_append, List.nil_append]) | (apply Part.cons; (first | exact P0 | exact P1 | exact P2 | exact P3 | exact P4 | exact P5 | exact P6 | exact P7 | exact P8 | exact P9 | exact P10 | exact P11 | exact P12 | exact P13 | exact P14 | exact P15 | exact P16 | exact P17 | exact P18 | exact P19 | exact P20 | exact P21 | exact P22 | exact P23)) | (apply Part.nilc))) ?_)
        rintro v post H' ⟨rfl, rfl⟩ hH
        try simp only [List.cons_append, List.nil_append] at hH
        subst hH
        refine SPL_y (y_move rfl) rfl ?_
        have hP0 : pM x ≠ 0 := Nat.ne_of_gt (pM_pos (of_decide_eq_false hz) (fin_of (of_decide_eq_false hn) (of_decide_eq_false hi)))
        have hPl := pM_lt x
        refine SPL_y (y_ext rfl rfl) rfl ?_
        refine SPL_y (y_ext rfl rfl) rfl ?_
        refine SPL_y (y_assign rfl) rfl ?_
        refine SPL_y (y_assign rfl) rfl ?_
        refine SPL_nil ?_
        refine thenP_n ?_
        refine SP_mid (G := Nat × Int) (fun g => [(5, S pre), (6, .int .u64 ((g.1 : Nat) : Int)), (7, I g.2)]) (fun _ => []) (fun g => g.1 = pM x / 2 ^ tz 53 (pM x) 0 ∧ g.2 = pE x + tz 53 (pM x) 0) ?_ ?_
        · refine SP_block ?_
          refine SP_loop (G := Nat × Nat × Int) (fun g => 53 - g.1) (fun g => [(5, S pre), (6, .int .u64 ((g.2.1 : Nat) : Int)), (7, I g.2.2)]) (fun _ => []) (fun g => g.1 ≤ 52 ∧ tz 53 (pM x) 0 = tz (53 - g.1) (pM x) g.1 ∧ pM x % 2 ^ g.1 = 0 ∧ g.2.1 = pM x / 2 ^ g.1 ∧ g.2.2 = pE x + g.1) ((0, pM x, pE x)) (⟨by dsimp only; decide, rfl, by simp [Nat.mod_one], by simp, by simp⟩) (by repeat (first | exact Sub.nil _ | refine Sub.cons rfl ?_)) (by repeat (first | exact Part.nil _ | (apply Part.cons; with_reducible (first | exact P0 | exact P1 | exact P2 | exact P3 | exact P4 | exact P5 | exact P6 | exact P7 | exact P8 | exact P9 | exact P10 | exact P11 | exact P12 | exact P13 | exact P14 | exact P15 | exact P16 | exact P17 | exact P18 | exact P19 | exact P20 | exact P21 | exact P22 | exact P23)) | (apply Part.flat; simp only [List.cons_append, List.nil_append]) | (apply Part.cons; (first | exact P0 | exact P1 | exact P2 | exact P3 | exact P4 | exact P5 | exact P6 | exact P7 | exact P8 | exact P9 | exact P10 | exact P11 | exact P12 | exact P13 | exact P14 | exact P15 | exact P16 | exact P17 | exact P18 | exact P19 | exact P20 | exact P21 | exact P22 | exact P23)) | (apply Part.nilc))) ?_
          rintro ⟨t, mt, et⟩ ⟨ht1, htt, ht3, hm1, he1⟩
          dsimp only at ht1 htt ht3 hm1 he1 ⊢
          subst hm1 he1
          have hdl := Nat.div_le_self (pM x) (2 ^ t)
          have hpe := pE_ge x
          have hpl2 := pE_le x
          refine SP_seq ?_
          refine SP_seq ?_
          refine SP_region ?_
          refine SPL_y (y_move rfl) rfl ?_
          refine SPL_y (y_and rfl rfl (w_and1 (by omega))) rfl ?_
          refine SPL_ifn (y_eql rfl rfl) rfl ?_ ?_
          · intro h11_2
            refine SPL_nil ?_
            refine thenP_n ?_
            refine SP_cond_f rfl ?_
            refine SP_exit ?_
            refine thenP_exit ?_
            refine thenP_exit ?_
            refine inBlockP_hit ?_
            refine thenP_n ?_
            have htz : tz 53 (pM x) 0 = t := by rw [htt, tz_stop (by intro q; rw [q] at h11_2; exact h11_2 rfl)]
            exact Mid.intro ((pM x / 2 ^ t, pE x + (t : Int))) (⟨by rw [htz], by rw [htz]⟩) (by repeat (first | exact Sub.nil _ | refine Sub.cons rfl ?_)) (by repeat (first | exact Part.nil _ | (apply Part.cons; with_reducible (first | exact P0 | exact P1 | exact P2 | exact P3 | exact P4 | exact P5 | exact P6 | exact P7 | exact P8 | exact P9 | exact P10 | exact P11 | exact P12 | exact P13 | exact P14 | exact P15 | exact P16 | exact P17 | exact P18 | exact P19 | exact P20 | exact P21 | exact P22 | exact P23)) | (apply Part.flat; simp only [List.cons_append, List.nil_append]) | (apply Part.cons; (first | exact P0 | exact P1 | exact P2 | exact P3 | exact P4 | exact P5 | exact P6 | exact P7 | exact P8 | exact P9 | exact P10 | exact P11 | exact P12 | exact P13 | exact P14 | exact P15 | exact P16 | exact P17 | exact P18 | exact P19 | exact P20 | exact P21 | exact P22 | exact P23)) | (apply Part.nilc)))
          intro h11_2
          refine SPL_nil ?_
          refine thenP_n ?_
          refine SP_cond_t rfl ?_
          refine SP_skip ?_
          refine thenP_n ?_
          refine SP_block ?_
          refine SP_seq ?_
          refine SP_region ?_
          refine SPL_y (y_move rfl) rfl ?_
          refine SPL_y (y_shr rfl rfl (by decide) (show _ = ((pM x / 2 ^ t / 2 : Nat) : Int) from w_shr (k := 1) (by decide))) rfl ?_
          refine SPL_y (y_assign rfl) rfl ?_
          refine SPL_nil ?_
          refine thenP_n ?_
          refine SP_region ?_
          refine SPL_y (y_move rfl) rfl ?_
          refine SPL_y (y_add rfl rfl (by omega)) rfl ?_
          refine SPL_y (y_assign rfl) rfl ?_
          refine SPL_nil ?_
          refine inBlockP_n ?_
          refine thenP_n ?_
          have hq0 : pM x / 2 ^ t % 2 = 0 := by omega
          have hm1 := mod_step ht3 hq0
          have ht5 : t + 1 ≤ 52 := by
            refine Decidable.byContradiction fun q => ?_
            obtain rfl : t = 52 := by omega
            rw [Nat.mod_eq_of_lt (by omega)] at hm1
            exact hP0 hm1
          exact Again.intro ((t + 1, pM x / 2 ^ t / 2, pE x + (t : Int) + 1)) (⟨ht5, by rw [htt, show 53 - t = (53 - (t + 1)) + 1 by omega, tz_step hq0], hm1, tz_shr, by dsimp only; omega⟩) (by dsimp only; omega) (by repeat (first | exact Sub.nil _ | refine Sub.cons rfl ?_)) (by repeat (first | exact Part.nil _ | (apply Part.cons; with_reducible (first | exact P0 | exact P1 | exact P2 | exact P3 | exact P4 | exact P5 | exact P6 | exact P7 | exact P8 | exact P9 | exact P10 | exact P11 | exact P12 | exact P13 | exact P14 | exact P15 | exact P16 | exact P17 | exact P18 | exact P19 | exact P20 | exact P21 | exact P22 | exact P23)) | (apply Part.flat; simp only [List.cons_append, List.nil_append]) | (apply Part.cons; (first | exact P0 | exact P1 | exact P2 | exact P3 | exact P4 | exact P5 | exact P6 | exact P7 | exact P8 | exact P9 | exact P10 | exact P11 | exact P12 | exact P13 | exact P14 | exact P15 | exact P16 | exact P17 | exact P18 | exact P19 | exact P20 | exact P21 | exact P22 | exact P23)) | (apply Part.nilc)))
        rintro ⟨m, e⟩ ⟨hm, he⟩
        dsimp only at hm he ⊢
        have hspec := tz_spec hP0 hPl
        have hmle : m ≤ pM x := by rw [hm]; exact Nat.div_le_self _ _
        have hpe := pE_ge x
        have hpl2 := pE_le x
        refine SP_seq ?_
        refine SP_seq ?_
        refine SP_region ?_
        refine SPL_y (y_move rfl) rfl ?_
        refine SPL_ifn (y_geq rfl rfl) rfl ?_ ?_
        · intro h14_1
          refine SPL_y (y_move rfl) rfl ?_
          refine SPL_gn rfl rfl rfl rfl ?_
          refine SPL_gn rfl rfl rfl rfl ?_
          refine SPL_y (y_pick_f rfl rfl) rfl ?_
          refine SPL_nil ?_
          refine thenP_n ?_
          refine SP_cond_f rfl ?_
          refine SP_skip ?_
          refine thenP_n ?_
          refine SP_seq ?_
          refine SP_region ?_
          refine SPL_y (y_move rfl) rfl ?_
          refine SPL_one rfl (SP1_call (api_Utoa m (by omega)) Tryz.call33 rfl rfl (by repeat (first | exact Part.nil _ | (apply Part.cons; with_reducible (first | exact P0 | exact P1 | exact P2 | exact P3 | exact P4 | exact P5 | exact P6 | exact P7 | exact P8 | exact P9 | exact P10 | exact P11 | exact P12 | exact P13 | exact P14 | exact P15 | exact P16 | exact P17 | exact P18 | exact P19 | exact P20 | exact P21 | exact P22 | exact P23)) | (apply Part.flat; simp only [List.cons_append, List.nil_append]) | (apply Part.cons; (first | exact P0 | exact P1 | exact P2 | exact P3 | exact P4 | exact P5 | exact P6 | exact P7 | exact P8 | exact P9 | exact P10 | exact P11 | exact P12 | exact P13 | exact P14 | exact P15 | exact P16 | exact P17 | exact P18 | exact P19 | exact P20 | exact P21 | exact P22 | exact P23)) | (apply Part.nilc))) ?_)
          rintro v post H' ⟨rfl, rfl⟩ hH
          try simp only [List.cons_append, List.nil_append] at hH
          subst hH
          refine SPL_y (y_assign rfl) rfl ?_
          refine SPL_nil ?_
          refine thenP_n ?_
          refine SP_seq ?_
          refine SP_region ?_
          refine SPL_y (y_move rfl) rfl ?_
          refine SPL_one rfl (SP1_call (api_Itoa e (by omega) (by omega)) Tryz.call32 rfl rfl (by repeat (first | exact Part.nil _ | (apply Part.cons; with_reducible (first | exact P0 | exact P1 | exact P2 | exact P3 | exact P4 | exact P5 | exact P6 | exact P7 | exact P8 | exact P9 | exact P10 | exact P11 | exact P12 | exact P13 | exact P14 | exact P15 | exact P16 | exact P17 | exact P18 | exact P19 | exact P20 | exact P21 | exact P22 | exact P23)) | (apply Part.flat; simp only [List.cons_append, List.nil_append]) | (apply Part.cons; (first | exact P0 | exact P1 | exact P2 | exact P3 | exact P4 | exact P5 | exact P6 | exact P7 | exact P8 | exact P9 | exact P10 | exact P11 | exact P12 | exact P13 | exact P14 | exact P15 | exact P16 | exact P17 | exact P18 | exact P19 | exact P20 | exact P21 | exact P22 | exact P23)) | (apply Part.nilc))) ?_)
          rintro v post H' ⟨rfl, rfl⟩ hH
          try simp only [List.cons_append, List.nil_append] at hH
          subst hH
          refine SPL_y (y_assign rfl) rfl ?_
          refine SPL_nil ?_
          refine thenP_n ?_
          refine SP_seq ?_
          refine SP_region ?_
          have hul := utoa_len m
          have hul2 := itoa_len e
          refine SPL_y (y_move rfl) rfl ?_
          refine SPL_y (y_move rfl) rfl ?_
          refine SPL_y (y_cat rfl rfl (by first | omega | (simp; omega))) rfl ?_
          refine SPL_y (y_cat rfl rfl (by first | omega | (simp; omega))) rfl ?_
          refine SPL_y (y_move rfl) rfl ?_
          refine SPL_y (y_cat rfl rfl (by first | omega | (simp; omega))) rfl ?_
          refine SPL_y (y_assign rfl) rfl ?_
          refine SPL_nil ?_
          refine thenP_n ?_
          refine SP_ret ?_
          refine bodyP_ret (H' := []) (Res1 rfl rfl) (by repeat (first | exact Part.nil _ | (apply Part.cons; with_reducible (first | exact P0 | exact P1 | exact P2 | exact P3 | exact P4 | exact P5 | exact P6 | exact P7 | exact P8 | exact P9 | exact P10 | exact P11 | exact P12 | exact P13 | exact P14 | exact P15 | exact P16 | exact P17 | exact P18 | exact P19 | exact P20 | exact P21 | exact P22 | exact P23)) | (apply Part.flat; simp only [List.cons_append, List.nil_append]) | (apply Part.cons; (first | exact P0 | exact P1 | exact P2 | exact P3 | exact P4 | exact P5 | exact P6 | exact P7 | exact P8 | exact P9 | exact P10 | exact P11 | exact P12 | exact P13 | exact P14 | exact P15 | exact P16 | exact P17 | exact P18 | exact P19 | exact P20 | exact P21 | exact P22 | exact P23)) | (apply Part.nilc))) ?_
          refine ⟨?_, rfl⟩
          unfold formatW
          rw [if_neg (of_decide_eq_false hn), if_neg (of_decide_eq_false hi), if_neg (of_decide_eq_false hz), ← hpre1, ← hm, ← he, fmt_p (by omega)]
          simp
        intro h14_1
        refine SPL_y (y_move rfl) rfl ?_
        refine SPL_gy rfl rfl ?_
        refine SPL_y (y_move rfl) rfl ?_
        refine SPL_gy rfl rfl ?_
        refine SPL_ifn (y_lss rfl rfl) rfl ?_ ?_
        · intro h14_4
          refine SPL_y (y_pick_t rfl rfl) rfl ?_
          refine SPL_nil ?_
          refine thenP_n ?_
          refine SP_cond_f rfl ?_
          refine SP_skip ?_
          refine thenP_n ?_
          refine SP_seq ?_
          refine SP_region ?_
          refine SPL_y (y_move rfl) rfl ?_
          refine SPL_one rfl (SP1_call (api_Utoa m (by omega)) Tryz.call33 rfl rfl (by repeat (first | exact Part.nil _ | (apply Part.cons; with_reducible (first | exact P0 | exact P1 | exact P2 | exact P3 | exact P4 | exact P5 | exact P6 | exact P7 | exact P8 | exact P9 | exact P10 | exact P11 | exact P12 | exact P13 | exact P14 | exact P15 | exact P16 | exact P17 | exact P18 | exact P19 | exact P20 | exact P21 | exact P22 | exact P23)) | (apply Part.flat; simp only [List.cons_append, List.nil_append]) | (apply Part.cons; (first | exact P0 | exact P1 | exact P2 | exact P3 | exact P4 | exact P5 | exact P6 | exact P7 | exact P8 | exact P9 | exact P10 | exact P11 | exact P12 | exact P13 | exact P14 | exact P15 | exact P16 | exact P17 | exact P18 | exact P19 | exact P20 | exact P21 | exact P22 | exact P23)) | (apply Part.nilc))) ?_)
          rintro v post H' ⟨rfl, rfl⟩ hH
          try simp only [List.cons_append, List.nil_append] at hH
          subst hH
          refine SPL_y (y_assign rfl) rfl ?_
          refine SPL_nil ?_
          refine thenP_n ?_
          refine SP_seq ?_
          refine SP_region ?_
          refine SPL_y (y_move rfl) rfl ?_
          refine SPL_one rfl (SP1_call (api_Itoa e (by omega) (by omega)) Tryz.call32 rfl rfl (by repeat (first | exact Part.nil _ | (apply Part.cons; with_reducible (first | exact P0 | exact P1 | exact P2 | exact P3 | exact P4 | exact P5 | exact P6 | exact P7 | exact P8 | exact P9 | exact P10 | exact P11 | exact P12 | exact P13 | exact P14 | exact P15 | exact P16 | exact P17 | exact P18 | exact P19 | exact P20 | exact P21 | exact P22 | exact P23)) | (apply Part.flat; simp only [List.cons_append, List.nil_append]) | (apply Part.cons; (first | exact P0 | exact P1 | exact P2 | exact P3 | exact P4 | exact P5 | exact P6 | exact P7 | exact P8 | exact P9 | exact P10 | exact P11 | exact P12 | exact P13 | exact P14 | exact P15 | exact P16 | exact P17 | exact P18 | exact P19 | exact P20 | exact P21 | exact P22 | exact P23)) | (apply Part.nilc))) ?_)
          rintro v post H' ⟨rfl, rfl⟩ hH
          try simp only [List.cons_append, List.nil_append] at hH
          subst hH
          refine SPL_y (y_assign rfl) rfl ?_
          refine SPL_nil ?_
          refine thenP_n ?_
          refine SP_seq ?_
          refine SP_region ?_
          have hul := utoa_len m
          have hul2 := itoa_len e
          refine SPL_y (y_move rfl) rfl ?_
          refine SPL_y (y_move rfl) rfl ?_
          refine SPL_y (y_cat rfl rfl (by first | omega | (simp; omega))) rfl ?_
          refine SPL_y (y_cat rfl rfl (by first | omega | (simp; omega))) rfl ?_
          refine SPL_y (y_move rfl) rfl ?_
          refine SPL_y (y_cat rfl rfl (by first | omega | (simp; omega))) rfl ?_
          refine SPL_y (y_assign rfl) rfl ?_
          refine SPL_nil ?_
          refine thenP_n ?_
          refine SP_ret ?_
          refine bodyP_ret (H' := []) (Res1 rfl rfl) (by repeat (first | exact Part.nil _ | (apply Part.cons; with_reducible (first | exact P0 | exact P1 | exact P2 | exact P3 | exact P4 | exact P5 | exact P6 | exact P7 | exact P8 | exact P9 | exact P10 | exact P11 | exact P12 | exact P13 | exact P14 | exact P15 | exact P16 | exact P17 | exact P18 | exact P19 | exact P20 | exact P21 | exact P22 | exact P23)) | (apply Part.flat; simp only [List.cons_append, List.nil_append]) | (apply Part.cons; (first | exact P0 | exact P1 | exact P2 | exact P3 | exact P4 | exact P5 | exact P6 | exact P7 | exact P8 | exact P9 | exact P10 | exact P11 | exact P12 | exact P13 | exact P14 | exact P15 | exact P16 | exact P17 | exact P18 | exact P19 | exact P20 | exact P21 | exact P22 | exact P23)) | (apply Part.nilc))) ?_
          refine ⟨?_, rfl⟩
          unfold formatW
          rw [if_neg (of_decide_eq_false hn), if_neg (of_decide_eq_false hi), if_neg (of_decide_eq_false hz), ← hpre1, ← hm, ← he, fmt_p (by omega)]
          simp
        intro h14_4
        refine SPL_y (y_pick_t rfl rfl) rfl ?_
        refine SPL_nil ?_
        refine thenP_n ?_
        refine SP_cond_t rfl ?_
        refine SP_seq ?_
        refine SP_region ?_
        obtain ⟨q2, hqq⟩ : ∃ q2, q2 = m * 2 ^ e.toNat % 18446744073709551616 := ⟨_, rfl⟩
        have hq2 : q2 < 18446744073709551616 := by rw [hqq]; exact Nat.mod_lt _ (by decide)
        refine SPL_y (y_move rfl) rfl ?_
        refine SPL_y (y_move rfl) rfl ?_
        refine SPL_y (y_conv Tryz.underlying3 Tryz.underlying75 rfl (u64i (k := e.toNat) (by omega) (by omega))) rfl ?_
        refine SPL_y (y_shl rfl rfl (by omega) (show _ = ((q2 : Nat) : Int) from by rw [hqq]; exact w_shl (by omega))) rfl ?_
        refine SPL_y (y_move rfl) rfl ?_
        refine SPL_y (y_conv Tryz.underlying3 Tryz.underlying75 rfl (u64i (k := e.toNat) (by omega) (by omega))) rfl ?_
        refine SPL_y (y_shr rfl rfl (by omega) (w_shr (by omega))) rfl ?_
        refine SPL_y (y_move rfl) rfl ?_
        refine SPL_ifn (y_eql rfl rfl) rfl ?_ ?_
        · intro h15_8
          refine SPL_y (y_move rfl) rfl ?_
          refine SPL_gn rfl rfl rfl rfl ?_
          refine SPL_gn rfl rfl rfl rfl ?_
          refine SPL_gn rfl rfl rfl rfl ?_
          refine SPL_gn rfl rfl rfl rfl ?_
          refine SPL_gn rfl rfl rfl rfl ?_
          refine SPL_y (y_pick_f rfl rfl) rfl ?_
          refine SPL_nil ?_
          refine thenP_n ?_
          refine SP_cond_f rfl ?_
          refine SP_skip ?_
          refine thenP_n ?_
          refine SP_seq ?_
          refine SP_region ?_
          refine SPL_y (y_move rfl) rfl ?_
          refine SPL_one rfl (SP1_call (api_Utoa m (by omega)) Tryz.call33 rfl rfl (by repeat (first | exact Part.nil _ | (apply Part.cons; with_reducible (first | exact P0 | exact P1 | exact P2 | exact P3 | exact P4 | exact P5 | exact P6 | exact P7 | exact P8 | exact P9 | exact P10 | exact P11 | exact P12 | exact P13 | exact P14 | exact P15 | exact P16 | exact P17 | exact P18 | exact P19 | exact P20 | exact P21 | exact P22 | exact P23)) | (apply Part.flat; simp only [List.cons_append, List.nil_append]) | (apply Part.cons; (first | exact P0 | exact P1 | exact P2 | exact P3 | exact P4 | exact P5 | exact P6 | exact P7 | exact P8 | exact P9 | exact P10 | exact P11 | exact P12 | exact P13 | exact P14 | exact P15 | exact P16 | exact P17 | exact P18 | exact P19 | exact P20 | exact P21 | exact P22 | exact P23)) | (apply Part.nilc))) ?_)
          rintro v post H' ⟨rfl, rfl⟩ hH
          try simp only [List.cons_append, List.nil_append] at hH
          subst hH
          refine SPL_y (y_assign rfl) rfl ?_
          refine SPL_nil ?_
          refine thenP_n ?_
          refine SP_seq ?_
          refine SP_region ?_
          refine SPL_y (y_move rfl) rfl ?_
          refine SPL_one rfl (SP1_call (api_Itoa e (by omega) (by omega)) Tryz.call32 rfl rfl (by repeat (first | exact Part.nil _ | (apply Part.cons; with_reducible (first | exact P0 | exact P1 | exact P2 | exact P3 | exact P4 | exact P5 | exact P6 | exact P7 | exact P8 | exact P9 | exact P10 | exact P11 | exact P12 | exact P13 | exact P14 | exact P15 | exact P16 | exact P17 | exact P18 | exact P19 | exact P20 | exact P21 | exact P22 | exact P23)) | (apply Part.flat; simp only [List.cons_append, List.nil_append]) | (apply Part.cons; (first | exact P0 | exact P1 | exact P2 | exact P3 | exact P4 | exact P5 | exact P6 | exact P7 | exact P8 | exact P9 | exact P10 | exact P11 | exact P12 | exact P13 | exact P14 | exact P15 | exact P16 | exact P17 | exact P18 | exact P19 | exact P20 | exact P21 | exact P22 | exact P23)) | (apply Part.nilc))) ?_)
          rintro v post H' ⟨rfl, rfl⟩ hH
          try simp only [List.cons_append, List.nil_append] at hH
          subst hH
          refine SPL_y (y_assign rfl) rfl ?_
          refine SPL_nil ?_
          refine thenP_n ?_
          refine SP_seq ?_
          refine SP_region ?_
          have hul := utoa_len m
          have hul2 := itoa_len e
          refine SPL_y (y_move rfl) rfl ?_
          refine SPL_y (y_move rfl) rfl ?_
          refine SPL_y (y_cat rfl rfl (by first | omega | (simp; omega))) rfl ?_
          refine SPL_y (y_cat rfl rfl (by first | omega | (simp; omega))) rfl ?_
          refine SPL_y (y_move rfl) rfl ?_
          refine SPL_y (y_cat rfl rfl (by first | omega | (simp; omega))) rfl ?_
          refine SPL_y (y_assign rfl) rfl ?_
          refine SPL_nil ?_
          refine thenP_n ?_
          refine SP_ret ?_
          refine bodyP_ret (H' := []) (Res1 rfl rfl) (by repeat (first | exact Part.nil _ | (apply Part.cons; with_reducible (first | exact P0 | exact P1 | exact P2 | exact P3 | exact P4 | exact P5 | exact P6 | exact P7 | exact P8 | exact P9 | exact P10 | exact P11 | exact P12 | exact P13 | exact P14 | exact P15 | exact P16 | exact P17 | exact P18 | exact P19 | exact P20 | exact P21 | exact P22 | exact P23)) | (apply Part.flat; simp only [List.cons_append, List.nil_append]) | (apply Part.cons; (first | exact P0 | exact P1 | exact P2 | exact P3 | exact P4 | exact P5 | exact P6 | exact P7 | exact P8 | exact P9 | exact P10 | exact P11 | exact P12 | exact P13 | exact P14 | exact P15 | exact P16 | exact P17 | exact P18 | exact P19 | exact P20 | exact P21 | exact P22 | exact P23)) | (apply Part.nilc))) ?_
          refine ⟨?_, rfl⟩
          unfold formatW
          rw [if_neg (of_decide_eq_false hn), if_neg (of_decide_eq_false hi), if_neg (of_decide_eq_false hz), ← hpre1, ← hm, ← he, fmt_p (by rw [← hqq]; omega)]
          simp
        intro h15_8
        refine SPL_y (y_move rfl) rfl ?_
        refine SPL_gy rfl rfl ?_
        refine SPL_y (y_move rfl) rfl ?_
        refine SPL_gy rfl rfl ?_
        refine SPL_y (y_move rfl) rfl ?_
        refine SPL_gy rfl rfl ?_
        refine SPL_y (y_conv Tryz.underlying3 Tryz.underlying75 rfl (u64i (k := e.toNat) (by omega) (by omega))) rfl ?_
        refine SPL_gy rfl rfl ?_
        refine SPL_y (y_shl rfl rfl (by omega) (show _ = ((q2 : Nat) : Int) from by rw [hqq]; exact w_shl (by omega))) rfl ?_
        refine SPL_gy rfl rfl ?_
        refine SPL_if (y_lss rfl rfl) rfl ?_ ?_
        · intro h15_14
          refine SPL_y (y_pick_t rfl rfl) rfl ?_
          refine SPL_nil ?_
          refine thenP_n ?_
          refine SP_cond_t rfl ?_
          refine SP_seq ?_
          refine SP_region ?_
          refine SPL_y (y_move rfl) rfl ?_
          refine SPL_y (y_move rfl) rfl ?_
          refine SPL_y (y_conv Tryz.underlying3 Tryz.underlying75 rfl (u64i (k := e.toNat) (by omega) (by omega))) rfl ?_
          refine SPL_y (y_shl rfl rfl (by omega) (show _ = ((q2 : Nat) : Int) from by rw [hqq]; exact w_shl (by omega))) rfl ?_
          refine SPL_one rfl (SP1_call (api_Utoa q2 hq2) Tryz.call33 rfl rfl (by repeat (first | exact Part.nil _ | (apply Part.cons; with_reducible (first | exact P0 | exact P1 | exact P2 | exact P3 | exact P4 | exact P5 | exact P6 | exact P7 | exact P8 | exact P9 | exact P10 | exact P11 | exact P12 | exact P13 | exact P14 | exact P15 | exact P16 | exact P17 | exact P18 | exact P19 | exact P20 | exact P21 | exact P22 | exact P23)) | (apply Part.flat; simp only [List.cons_append, List.nil_append]) | (apply Part.cons; (first | exact P0 | exact P1 | exact P2 | exact P3 | exact P4 | exact P5 | exact P6 | exact P7 | exact P8 | exact P9 | exact P10 | exact P11 | exact P12 | exact P13 | exact P14 | exact P15 | exact P16 | exact P17 | exact P18 | exact P19 | exact P20 | exact P21 | exact P22 | exact P23)) | (apply Part.nilc))) ?_)
          rintro v post H' ⟨rfl, rfl⟩ hH
          try simp only [List.cons_append, List.nil_append] at hH
          subst hH
          refine SPL_y (y_assign rfl) rfl ?_
          refine SPL_nil ?_
          refine thenP_n ?_
          refine SP_seq ?_
          refine SP_region ?_
          have hul := utoa_len q2
          refine SPL_y (y_move rfl) rfl ?_
          refine SPL_y (y_move rfl) rfl ?_
          refine SPL_y (y_cat rfl rfl (by first | omega | (simp; omega))) rfl ?_
          refine SPL_y (y_assign rfl) rfl ?_
          refine SPL_nil ?_
          refine thenP_n ?_
          refine SP_ret ?_
          refine thenP_ret (bodyP_ret (H' := []) (Res1 rfl rfl) (by repeat (first | exact Part.nil _ | (apply Part.cons; with_reducible (first | exact P0 | exact P1 | exact P2 | exact P3 | exact P4 | exact P5 | exact P6 | exact P7 | exact P8 | exact P9 | exact P10 | exact P11 | exact P12 | exact P13 | exact P14 | exact P15 | exact P16 | exact P17 | exact P18 | exact P19 | exact P20 | exact P21 | exact P22 | exact P23)) | (apply Part.flat; simp only [List.cons_append, List.nil_append]) | (apply Part.cons; (first | exact P0 | exact P1 | exact P2 | exact P3 | exact P4 | exact P5 | exact P6 | exact P7 | exact P8 | exact P9 | exact P10 | exact P11 | exact P12 | exact P13 | exact P14 | exact P15 | exact P16 | exact P17 | exact P18 | exact P19 | exact P20 | exact P21 | exact P22 | exact P23)) | (apply Part.nilc))) ?_)
          refine ⟨?_, rfl⟩
          unfold formatW
          rw [if_neg (of_decide_eq_false hn), if_neg (of_decide_eq_false hi), if_neg (of_decide_eq_false hz), ← hpre1, ← hm, ← he, fmt_w ⟨by omega, by omega⟩ (by rw [← hqq]; omega), ← hqq]
        intro h15_14
        refine SPL_y (y_pick_t rfl rfl) rfl ?_
        refine SPL_nil ?_
        refine thenP_n ?_
        refine SP_cond_f rfl ?_
        refine SP_skip ?_
        refine thenP_n ?_
        refine SP_seq ?_
        refine SP_region ?_
        refine SPL_y (y_move rfl) rfl ?_
        refine SPL_one rfl (SP1_call (api_Utoa m (by omega)) Tryz.call33 rfl rfl (by repeat (first | exact Part.nil _ | (apply Part.cons; with_reducible (first | exact P0 | exact P1 | exact P2 | exact P3 | exact P4 | exact P5 | exact P6 | exact P7 | exact P8 | exact P9 | exact P10 | exact P11 | exact P12 | exact P13 | exact P14 | exact P15 | exact P16 | exact P17 | exact P18 | exact P19 | exact P20 | exact P21 | exact P22 | exact P23)) | (apply Part.flat; simp only [List.cons_append, List.nil_append]) | (apply Part.cons; (first | exact P0 | exact P1 | exact P2 | exact P3 | exact P4 | exact P5 | exact P6 | exact P7 | exact P8 | exact P9 | exact P10 | exact P11 | exact P12 | exact P13 | exact P14 | exact P15 | exact P16 | exact P17 | exact P18 | exact P19 | exact P20 | exact P21 | exact P22 | exact P23)) | (apply Part.nilc))) ?_)
        rintro v post H' ⟨rfl, rfl⟩ hH
        try simp only [List.cons_append, List.nil_append] at hH
        subst hH
        refine SPL_y (y_assign rfl) rfl ?_
        refine SPL_nil ?_
        refine thenP_n ?_
        refine SP_seq ?_
        refine SP_region ?_
        refine SPL_y (y_move rfl) rfl ?_
        refine SPL_one rfl (SP1_call (api_Itoa e (by omega) (by omega)) Tryz.call32 rfl rfl (by repeat (first | exact Part.nil _ | (apply Part.cons; with_reducible (first | exact P0 | exact P1 | exact P2 | exact P3 | exact P4 | exact P5 | exact P6 | exact P7 | exact P8 | exact P9 | exact P10 | exact P11 | exact P12 | exact P13 | exact P14 | exact P15 | exact P16 | exact P17 | exact P18 | exact P19 | exact P20 | exact P21 | exact P22 | exact P23)) | (apply Part.flat; simp only [List.cons_append, List.nil_append]) | (apply Part.cons; (first | exact P0 | exact P1 | exact P2 | exact P3 | exact P4 | exact P5 | exact P6 | exact P7 | exact P8 | exact P9 | exact P10 | exact P11 | exact P12 | exact P13 | exact P14 | exact P15 | exact P16 | exact P17 | exact P18 | exact P19 | exact P20 | exact P21 | exact P22 | exact P23)) | (apply Part.nilc))) ?_)
        rintro v post H' ⟨rfl, rfl⟩ hH
        try simp only [List.cons_append, List.nil_append] at hH
        subst hH
        refine SPL_y (y_assign rfl) rfl ?_
        refine SPL_nil ?_
        refine thenP_n ?_
        refine SP_seq ?_
        refine SP_region ?_
        have hul := utoa_len m
        have hul2 := itoa_len e
        refine SPL_y (y_move rfl) rfl ?_
        refine SPL_y (y_move rfl) rfl ?_
        refine SPL_y (y_cat rfl rfl (by first | omega | (simp; omega))) rfl ?_
        refine SPL_y (y_cat rfl rfl (by first | omega | (simp; omega))) rfl ?_
        refine SPL_y (y_move rfl) rfl ?_
        refine SPL_y (y_cat rfl rfl (by first | omega | (simp; omega))) rfl ?_
        refine SPL_y (y_assign rfl) rfl ?_
        refine SPL_nil ?_
        refine thenP_n ?_
        refine SP_ret ?_
        refine bodyP_ret (H' := []) (Res1 rfl rfl) (by repeat (first | exact Part.nil _ | (apply Part.cons; with_reducible (first | exact P0 | exact P1 | exact P2 | exact P3 | exact P4 | exact P5 | exact P6 | exact P7 | exact P8 | exact P9 | exact P10 | exact P11 | exact P12 | exact P13 | exact P14 | exact P15 | exact P16 | exact P17 | exact P18 | exact P19 | exact P20 | exact P21 | exact P22 | exact P23)) | (apply Part.flat; simp only [List.cons_append, List.nil_append]) | (apply Part.cons; (first | exact P0 | exact P1 | exact P2 | exact P3 | exact P4 | exact P5 | exact P6 | exact P7 | exact P8 | exact P9 | exact P10 | exact P11 | exact P12 | exact P13 | exact P14 | exact P15 | exact P16 | exact P17 | exact P18 | exact P19 | exact P20 | exact P21 | exact P22 | exact P23)) | (apply Part.nilc))) ?_
        refine ⟨?_, rfl⟩
        unfold formatW
        rw [if_neg (of_decide_eq_false hn), if_neg (of_decide_eq_false hi), if_neg (of_decide_eq_false hz), ← hpre1, ← hm, ← he, fmt_p (by rw [← hqq]; omega)]
        simp
      · refine SPL_nil ?_
        refine thenP_n ?_
        refine SP_cond_t rfl ?_
        refine SP_seq ?_
        refine SP_region ?_
        refine SPL_y (y_move rfl) rfl ?_
        refine SPL_y (y_cat rfl rfl (by first | omega | (simp; omega))) rfl ?_
        refine SPL_y (y_assign rfl) rfl ?_
        refine SPL_nil ?_
        refine thenP_n ?_
        refine SP_ret ?_
        refine thenP_ret (bodyP_ret (H' := []) (Res1 rfl rfl) (by repeat (first | exact Part.nil _ | (apply Part.cons; with_reducible (first | exact P0 | exact P1 | exact P2 | exact P3 | exact P4 | exact P5 | exact P6 | exact P7 | exact P8 | exact P9 | exact P10 | exact P11 | exact P12 | exact P13 | exact P14 | exact P15 | exact P16 | exact P17 | exact P18 | exact P19 | exact P20 | exact P21 | exact P22 | exact P23)) | (apply Part.flat; simp only [List.cons_append, List.nil_append]) | (apply Part.cons; (first | exact P0 | exact P1 | exact P2 | exact P3 | exact P4 | exact P5 | exact P6 | exact P7 | exact P8 | exact P9 | exact P10 | exact P11 | exact P12 | exact P13 | exact P14 | exact P15 | exact P16 | exact P17 | exact P18 | exact P19 | exact P20 | exact P21 | exact P22 | exact P23)) | (apply Part.nilc))) ?_)
        refine ⟨?_, rfl⟩
        unfold formatW
        rw [if_neg (of_decide_eq_false hn), if_neg (of_decide_eq_false hi), if_pos (of_decide_eq_true hz), ← hpre1]
    · refine SPL_nil ?_
      refine thenP_n ?_
      refine SP_cond_t rfl ?_
      refine SP_seq ?_
      refine SP_region ?_
      refine SPL_y (y_move rfl) rfl ?_
      refine SPL_y (y_cat rfl rfl (by first | omega | (simp; omega))) rfl ?_
      refine SPL_y (y_assign rfl) rfl ?_
      refine SPL_nil ?_
      refine thenP_n ?_
      refine SP_ret ?_
      refine thenP_ret (bodyP_ret (H' := []) (Res1 rfl rfl) (by repeat (first | exact Part.nil _ | (apply Part.cons; with_reducible (first | exact P0 | exact P1 | exact P2 | exact P3 | exact P4 | exact P5 | exact P6 | exact P7 | exact P8 | exact P9 | exact P10 | exact P11 | exact P12 | exact P13 | exact P14 | exact P15 | exact P16 | exact P17 | exact P18 | exact P19 | exact P20 | exact P21 | exact P22 | exact P23)) | (apply Part.flat; simp only [List.cons_append, List.nil_append]) | (apply Part.cons; (first | exact P0 | exact P1 | exact P2 | exact P3 | exact P4 | exact P5 | exact P6 | exact P7 | exact P8 | exact P9 | exact P10 | exact P11 | exact P12 | exact P13 | exact P14 | exact P15 | exact P16 | exact P17 | exact P18 | exact P19 | exact P20 | exact P21 | exact P22 | exact P23)) | (apply Part.nilc))) ?_)
      refine ⟨?_, rfl⟩
      unfold formatW
      rw [if_neg (of_decide_eq_false hn), if_pos (of_decide_eq_true hi), ← hpre1]
  · refine SPL_nil ?_
    refine thenP_n ?_
    refine SP_cond_t rfl ?_
    refine SP_seq ?_
    refine SP_region ?_
    refine SPL_y (y_assign rfl) rfl ?_
    refine SPL_nil ?_
    refine thenP_n ?_
    refine SP_ret ?_
    refine thenP_ret (bodyP_ret (H' := []) (Res1 rfl rfl) (by repeat (first | exact Part.nil _ | (apply Part.cons; with_reducible (first | exact P0 | exact P1 | exact P2 | exact P3 | exact P4 | exact P5 | exact P6 | exact P7 | exact P8 | exact P9 | exact P10 | exact P11 | exact P12 | exact P13 | exact P14 | exact P15 | exact P16 | exact P17 | exact P18 | exact P19 | exact P20 | exact P21 | exact P22 | exact P23)) | (apply Part.flat; simp only [List.cons_append, List.nil_append]) | (apply Part.cons; (first | exact P0 | exact P1 | exact P2 | exact P3 | exact P4 | exact P5 | exact P6 | exact P7 | exact P8 | exact P9 | exact P10 | exact P11 | exact P12 | exact P13 | exact P14 | exact P15 | exact P16 | exact P17 | exact P18 | exact P19 | exact P20 | exact P21 | exact P22 | exact P23)) | (apply Part.nilc))) ?_)
    refine ⟨?_, rfl⟩
    unfold formatW
    rw [if_pos (of_decide_eq_true hn)]

end Go.Sl
