/- Walks: package prepm, where instructions land (made by program out of short notes) -/
import Derived.Test.Qxb6500572aGreatDoorWPmA
import Derived.Test.Qxb6500572aGreatDoorWPrepC
namespace Go.Sl
open Go Go.Wl Go.Proofs
set_option maxRecDepth 100000
set_option linter.unusedVariables false
set_option linter.unusedSimpArgs false
theorem pm_kind (bt : Int) : Spec Tryz.prog 97 [I bt] [] (Ret fun v H => v = S (resOf bt) ∧ H = []) := by
  refine Spec_enter Tryz.func97 rfl Tryz.ntmps97 rfl ?_
  show SP _ _ _ _ _ [(0, _)] _
  refine SP_seq ?_
  refine SP_region ?_
  refine SPL_y (y_assign rfl) rfl ?_
  refine SPL_nil ?_
  refine thenP_n ?_
  refine SP_seq ?_
  refine SP_seq ?_
  refine SP_region ?_
  refine SPL_y (y_move rfl) rfl ?_
  refine SPL_if (y_eql rfl rfl) rfl ?_ ?_
  · intro h1_1
    refine SPL_nil ?_
    refine thenP_n ?_
    refine SP_cond_t rfl ?_
    refine SP_seq ?_
    refine SP_region ?_
    refine SPL_y (y_assign rfl) rfl ?_
    refine SPL_nil ?_
    refine thenP_n ?_
    refine SP_ret ?_
    refine thenP_ret (bodyP_ret (H' := []) (Res1 rfl rfl) (by repeat (first | exact Part.nil _ | (apply Part.cons; (first | exact P0 | exact P1 | exact P2 | exact P3 | exact P4 | exact P5 | exact P6 | exact P7 | exact P8 | exact P9 | exact P10 | exact P11 | exact P12 | exact P13 | exact P14 | exact P15 | exact P16 | exact P17 | exact P18 | exact P19 | exact P20 | exact P21 | exact P22 | exact P23)) | (apply Part.flat; simp only [List.cons_append, List.nil_append]) | (apply Part.nilc))) ?_)
    refine ⟨?_, rfl⟩
    unfold resOf; rw [if_pos h1_1]
  intro h1_1
  refine SPL_nil ?_
  refine thenP_n ?_
  refine SP_cond_f rfl ?_
  refine SP_skip ?_
  refine thenP_n ?_
  refine SP_seq ?_
  refine SP_region ?_
  refine SPL_y (y_move rfl) rfl ?_
  refine SPL_y (y_conv Tryz.underlying3 Tryz.underlying5 rfl (u8_wrap bt)) rfl ?_
  refine SPL_one rfl (SP1_slice1 el_144 rfl rfl rfl rfl rfl ?_)
  intro b7
  refine SPL_y (y_b2s Tryz.underlying144 Tryz.underlying5 Tryz.underlying9 rfl (l := [UInt8.ofNat (bt % 256).toNat]) (by repeat (first | exact Cells.head rfl | apply Cells.tail)) rfl) rfl ?_
  refine SPL_y (y_assign rfl) rfl ?_
  refine SPL_nil ?_
  refine thenP_n ?_
  refine SP_ret ?_
  refine bodyP_ret (H' := []) (Res1 rfl rfl) (by repeat (first | exact Part.nil _ | (apply Part.cons; (first | exact P0 | exact P1 | exact P2 | exact P3 | exact P4 | exact P5 | exact P6 | exact P7 | exact P8 | exact P9 | exact P10 | exact P11 | exact P12 | exact P13 | exact P14 | exact P15 | exact P16 | exact P17 | exact P18 | exact P19 | exact P20 | exact P21 | exact P22 | exact P23)) | (apply Part.flat; simp only [List.cons_append, List.nil_append]) | (apply Part.nilc))) ?_
  refine ⟨?_, rfl⟩
  unfold resOf; rw [if_neg h1_1]

theorem pm_label (c : Ctl) : Spec Tryz.prog 99 [.agg (ctlV c).toArray] [] (Ret fun v H => v = S (labelM c) ∧ H = []) := by
  refine Spec_enter Tryz.func99 rfl Tryz.ntmps99 rfl ?_
  show SP _ _ _ _ _ [(0, _)] _
  refine SP_seq ?_
  refine SP_region ?_
  refine SPL_one rfl (SP1_box rfl rfl rfl ?_)
  intro b1
  refine SPL_y (y_assign rfl) rfl ?_
  refine SPL_nil ?_
  refine thenP_n ?_
  refine SP_seq ?_
  refine SP_seq ?_
  refine SP_region ?_
  refine SPL_y (y_fa fld_171_0 rfl) rfl ?_
  refine SPL_y (y_load Tryz.isAgg3 rfl (by repeat (first | exact Cell.head rfl | apply Cell.tail))) rfl ?_
  refine SPL_if (y_eql rfl rfl) rfl ?_ ?_
  · intro h1_2
    refine SPL_nil ?_
    refine thenP_n ?_
    refine SP_cond_t rfl ?_
    refine SP_seq ?_
    refine SP_region ?_
    refine SPL_y (y_assign rfl) rfl ?_
    refine SPL_nil ?_
    refine thenP_n ?_
    refine SP_ret ?_
    refine thenP_ret (bodyP_ret (H' := []) (Res1 rfl rfl) (by repeat (first | exact Part.nil _ | (apply Part.cons; (first | exact P0 | exact P1 | exact P2 | exact P3 | exact P4 | exact P5 | exact P6 | exact P7 | exact P8 | exact P9 | exact P10 | exact P11 | exact P12 | exact P13 | exact P14 | exact P15 | exact P16 | exact P17 | exact P18 | exact P19 | exact P20 | exact P21 | exact P22 | exact P23)) | (apply Part.flat; simp only [List.cons_append, List.nil_append]) | (apply Part.nilc))) ?_)
    refine ⟨?_, rfl⟩
    unfold labelM; rw [if_pos h1_2]
  intro h1_2
  refine SPL_nil ?_
  refine thenP_n ?_
  refine SP_cond_f rfl ?_
  refine SP_skip ?_
  refine thenP_n ?_
  refine SP_seq ?_
  refine SP_region ?_
  refine SPL_y (y_fa fld_171_1 rfl) rfl ?_
  refine SPL_y (y_load Tryz.isAgg3 rfl (by repeat (first | exact Cell.head rfl | apply Cell.tail))) rfl ?_
  refine SPL_one rfl (SP1_call (pm_kind c.bt) Tryz.call97 rfl rfl (by repeat (first | exact Part.nil _ | (apply Part.cons; (first | exact P0 | exact P1 | exact P2 | exact P3 | exact P4 | exact P5 | exact P6 | exact P7 | exact P8 | exact P9 | exact P10 | exact P11 | exact P12 | exact P13 | exact P14 | exact P15 | exact P16 | exact P17 | exact P18 | exact P19 | exact P20 | exact P21 | exact P22 | exact P23)) | (apply Part.flat; simp only [List.cons_append, List.nil_append]) | (apply Part.nilc))) ?_)
  rintro v post H' ⟨rfl, rfl⟩ hH
  try simp only [List.cons_append, List.nil_append] at hH
  subst hH
  refine SPL_y (y_assign rfl) rfl ?_
  refine SPL_nil ?_
  refine thenP_n ?_
  refine SP_ret ?_
  refine bodyP_ret (H' := []) (Res1 rfl rfl) (by repeat (first | exact Part.nil _ | (apply Part.cons; (first | exact P0 | exact P1 | exact P2 | exact P3 | exact P4 | exact P5 | exact P6 | exact P7 | exact P8 | exact P9 | exact P10 | exact P11 | exact P12 | exact P13 | exact P14 | exact P15 | exact P16 | exact P17 | exact P18 | exact P19 | exact P20 | exact P21 | exact P22 | exact P23)) | (apply Part.flat; simp only [List.cons_append, List.nil_append]) | (apply Part.nilc))) ?_
  refine ⟨?_, rfl⟩
  unfold labelM; rw [if_neg h1_2]

theorem pm_typed (b : Bool) : Spec Tryz.prog 95 [.bool b] [] (Ret fun v H => v = I (typedM b) ∧ H = []) := by
  refine Spec_enter Tryz.func95 rfl Tryz.ntmps95 rfl ?_
  show SP _ _ _ _ _ [(0, _)] _
  refine SP_seq ?_
  refine SP_region ?_
  refine SPL_y (y_assign rfl) rfl ?_
  refine SPL_nil ?_
  refine thenP_n ?_
  refine SP_seq ?_
  refine SP_seq ?_
  refine SP_region ?_
  refine SPL_y (y_move rfl) rfl ?_
  refine SPL_nil ?_
  refine thenP_n ?_
  refine SP_cond_b rfl ?_ ?_
  · intro hc3
    refine SP_seq ?_
    refine SP_region ?_
    refine SPL_y (y_assign rfl) rfl ?_
    refine SPL_nil ?_
    refine thenP_n ?_
    refine SP_ret ?_
    refine thenP_ret (bodyP_ret (Res1 rfl rfl) (Part.refl _) ?_)
    refine ⟨?_, rfl⟩
    rw [hc3]; rfl
  intro hc3
  refine SP_skip ?_
  refine thenP_n ?_
  refine SP_seq ?_
  refine SP_region ?_
  refine SPL_y (y_assign rfl) rfl ?_
  refine SPL_nil ?_
  refine thenP_n ?_
  refine SP_ret ?_
  refine bodyP_ret (Res1 rfl rfl) (Part.refl _) ?_
  refine ⟨?_, rfl⟩
  rw [hc3]; rfl

theorem pm_Ends (sa : Option Addr) (sc : Nat) (src : List Ins) (sv : Seg) (hs : Arr 87 3 sa src.length sc (codeV src) sv) (i : Nat) (hi : i < src.length) (hsl : src.length ≤ 1000000) : Spec Tryz.prog 93 [.slice sa src.length sc, I i] [sv] (Ret fun v H => v = .tuple #[I (ends src i).1, I (ends src i).2] ∧ H = [sv]) := by
  obtain ⟨bs, sps, rfl, hsc, hsps, rfl⟩ := hs.row (by omega)
  refine Spec_enter Tryz.func93 rfl Tryz.ntmps93 rfl ?_
  show SP _ _ _ _ _ [(0, _), (1, _)] _
  refine SP_seq ?_
  refine SP_region ?_
  refine SPL_y (y_assign rfl) rfl ?_
  refine SPL_y (y_assign rfl) rfl ?_
  refine SPL_nil ?_
  refine thenP_n ?_
  refine SP_seq ?_
  refine SP_region ?_
  refine SPL_y (y_assign rfl) rfl ?_
  refine SPL_y (y_assign rfl) rfl ?_
  refine SPL_nil ?_
  refine thenP_n ?_
  refine SP_seq ?_
  refine SP_seq ?_
  refine SP_region ?_
  refine SPL_y (y_move rfl) rfl ?_
  refine SPL_y (y_add rfl rfl (by omega)) rfl ?_
  refine SPL_y (y_assign rfl) rfl ?_
  refine SPL_nil ?_
  refine thenP_n ?_
  refine SP_block ?_
  refine SP_loop (G := Nat × Int × Nat) (fun g => src.length - g.1) (fun g => [(0, .slice (some ⟨bs, 0, none⟩) src.length sc), (6, I g.2.1), (7, I g.2.2), (8, I g.1)]) (fun g => [blk bs 87 (codeV src ++ sps)]) (fun g => (g.1 ≤ src.length ∧ g.2.2 ≤ g.1) ∧ ends src i = endsR (src.drop g.1) g.1 g.2.1 g.2.2) ((i + 1, -1, 0)) (⟨⟨hi, Nat.zero_le _⟩, rfl⟩) (by repeat (first | exact Sub.nil _ | refine Sub.cons rfl ?_)) (by repeat (first | exact Part.nil _ | (apply Part.cons; (first | exact P0 | exact P1 | exact P2 | exact P3 | exact P4 | exact P5 | exact P6 | exact P7 | exact P8 | exact P9 | exact P10 | exact P11 | exact P12 | exact P13 | exact P14 | exact P15 | exact P16 | exact P17 | exact P18 | exact P19 | exact P20 | exact P21 | exact P22 | exact P23)) | (apply Part.flat; simp only [List.cons_append, List.nil_append]) | (apply Part.nilc))) ?_
  rintro ⟨j, els, d⟩ ⟨⟨hj, hdj⟩, hE⟩
  dsimp only at hj hdj hE ⊢
  refine SP_seq ?_
  refine SP_seq ?_
  refine SP_region ?_
  refine SPL_y (y_move rfl) rfl ?_
  refine SPL_y (y_move rfl) rfl ?_
  refine SPL_y (y_len_l Tryz.underlying34 rfl) rfl ?_
  refine SPL_ifn (y_lss rfl rfl) rfl ?_ ?_
  · intro h3_3
    refine SPL_nil ?_
    refine thenP_n ?_
    refine SP_cond_f rfl ?_
    refine SP_exit ?_
    refine thenP_exit ?_
    refine thenP_exit ?_
    refine inBlockP_hit ?_
    refine thenP_n ?_
    refine SP_seq ?_
    refine SP_region ?_
    refine SPL_y (y_move rfl) rfl ?_
    refine SPL_y (y_move rfl) rfl ?_
    refine SPL_y (y_len_l Tryz.underlying34 rfl) rfl ?_
    refine SPL_y (y_sub rfl rfl (by omega)) rfl ?_
    refine SPL_y (y_assign rfl) rfl ?_
    refine SPL_y (y_assign rfl) rfl ?_
    refine SPL_nil ?_
    refine thenP_n ?_
    refine SP_ret ?_
    refine bodyP_ret (H' := [blk bs 87 (codeV src ++ sps)]) (Res2 rfl rfl rfl) (by repeat (first | exact Part.nil _ | (apply Part.cons; (first | exact P0 | exact P1 | exact P2 | exact P3 | exact P4 | exact P5 | exact P6 | exact P7 | exact P8 | exact P9 | exact P10 | exact P11 | exact P12 | exact P13 | exact P14 | exact P15 | exact P16 | exact P17 | exact P18 | exact P19 | exact P20 | exact P21 | exact P22 | exact P23)) | (apply Part.flat; simp only [List.cons_append, List.nil_append]) | (apply Part.nilc))) ?_
    obtain rfl : j = src.length := by omega
    refine ⟨?_, rfl⟩
    rw [hE, List.drop_eq_nil_of_le (Nat.le_refl _)]
    rfl
  intro h3_3
  refine SPL_nil ?_
  refine thenP_n ?_
  refine SP_cond_t rfl ?_
  refine SP_skip ?_
  refine thenP_n ?_
  refine SP_seq ?_
  refine SP_block ?_
  refine SP_seq ?_
  have hjl : j < src.length := by omega
  refine SP_region ?_
  refine SPL_y (y_move rfl) rfl ?_
  refine SPL_y (y_move rfl) rfl ?_
  refine SPL_y (y_ia Tryz.underlying34 Tryz.sizeOf87 rfl rfl (by omega)) rfl ?_
  refine SPL_y (y_fa fld_87_0 rfl) rfl ?_
  refine SPL_y (y_load Tryz.isAgg3 rfl (by repeat (first | exact flat_cell insV_len (q := 0) (i := j) rfl hjl rfl | apply Cell.tail))) rfl ?_
  refine SPL_nil ?_
  refine thenP_n ?_
  refine SP_block ?_
  refine SP_seq ?_
  refine SP_seq ?_
  refine SP_region ?_
  refine SPL_if (y_eql rfl rfl) rfl ?_ ?_
  · intro h6_0
    refine SPL_y (y_assign rfl) rfl ?_
    refine SPL_nil ?_
    refine thenP_n ?_
    refine SP_cond_t rfl ?_
    refine SP_skip ?_
    refine thenP_n ?_
    refine SP_cond_t rfl ?_
    refine SP_region ?_
    refine SPL_y (y_move rfl) rfl ?_
    refine SPL_y (y_add rfl rfl (by omega)) rfl ?_
    refine SPL_y (y_assign rfl) rfl ?_
    refine SPL_nil ?_
    refine inBlockP_n ?_
    refine inBlockP_n ?_
    refine thenP_n ?_
    refine SP_region ?_
    refine SPL_y (y_move rfl) rfl ?_
    refine SPL_y (y_add rfl rfl (by omega)) rfl ?_
    refine SPL_y (y_assign rfl) rfl ?_
    refine SPL_nil ?_
    refine thenP_n ?_
    exact Again.intro ((j + 1, els, d + 1)) (⟨by dsimp only; omega, by dsimp only; rw [hE]; exact endsR_open hjl (.inl h6_0)⟩) (by simp only []; omega) (by repeat (first | exact Sub.nil _ | refine Sub.cons rfl ?_)) (by repeat (first | exact Part.nil _ | (apply Part.cons; (first | exact P0 | exact P1 | exact P2 | exact P3 | exact P4 | exact P5 | exact P6 | exact P7 | exact P8 | exact P9 | exact P10 | exact P11 | exact P12 | exact P13 | exact P14 | exact P15 | exact P16 | exact P17 | exact P18 | exact P19 | exact P20 | exact P21 | exact P22 | exact P23)) | (apply Part.flat; simp only [List.cons_append, List.nil_append]) | (apply Part.nilc)))
  intro h6_0
  refine SPL_y (y_assign rfl) rfl ?_
  refine SPL_nil ?_
  refine thenP_n ?_
  refine SP_cond_f rfl ?_
  refine SP_seq ?_
  refine SP_region ?_
  refine SPL_if (y_eql rfl rfl) rfl ?_ ?_
  · intro h7_0
    refine SPL_y (y_assign rfl) rfl ?_
    refine SPL_nil ?_
    refine thenP_n ?_
    refine SP_cond_t rfl ?_
    refine SP_skip ?_
    refine thenP_n ?_
    refine SP_cond_t rfl ?_
    refine SP_region ?_
    refine SPL_y (y_move rfl) rfl ?_
    refine SPL_y (y_add rfl rfl (by omega)) rfl ?_
    refine SPL_y (y_assign rfl) rfl ?_
    refine SPL_nil ?_
    refine inBlockP_n ?_
    refine inBlockP_n ?_
    refine thenP_n ?_
    refine SP_region ?_
    refine SPL_y (y_move rfl) rfl ?_
    refine SPL_y (y_add rfl rfl (by omega)) rfl ?_
    refine SPL_y (y_assign rfl) rfl ?_
    refine SPL_nil ?_
    refine thenP_n ?_
    exact Again.intro ((j + 1, els, d + 1)) (⟨by dsimp only; omega, by dsimp only; rw [hE]; exact endsR_open hjl (.inr (.inl h7_0))⟩) (by simp only []; omega) (by repeat (first | exact Sub.nil _ | refine Sub.cons rfl ?_)) (by repeat (first | exact Part.nil _ | (apply Part.cons; (first | exact P0 | exact P1 | exact P2 | exact P3 | exact P4 | exact P5 | exact P6 | exact P7 | exact P8 | exact P9 | exact P10 | exact P11 | exact P12 | exact P13 | exact P14 | exact P15 | exact P16 | exact P17 | exact P18 | exact P19 | exact P20 | exact P21 | exact P22 | exact P23)) | (apply Part.flat; simp only [List.cons_append, List.nil_append]) | (apply Part.nilc)))
  intro h7_0
  refine SPL_y (y_assign rfl) rfl ?_
  refine SPL_nil ?_
  refine thenP_n ?_
  refine SP_cond_f rfl ?_
  refine SP_region ?_
  refine SPL_if (y_eql rfl rfl) rfl ?_ ?_
  · intro h8_0
    refine SPL_y (y_assign rfl) rfl ?_
    refine SPL_nil ?_
    refine thenP_n ?_
    refine SP_cond_t rfl ?_
    refine SP_region ?_
    refine SPL_y (y_move rfl) rfl ?_
    refine SPL_y (y_add rfl rfl (by omega)) rfl ?_
    refine SPL_y (y_assign rfl) rfl ?_
    refine SPL_nil ?_
    refine inBlockP_n ?_
    refine inBlockP_n ?_
    refine thenP_n ?_
    refine SP_region ?_
    refine SPL_y (y_move rfl) rfl ?_
    refine SPL_y (y_add rfl rfl (by omega)) rfl ?_
    refine SPL_y (y_assign rfl) rfl ?_
    refine SPL_nil ?_
    refine thenP_n ?_
    exact Again.intro ((j + 1, els, d + 1)) (⟨by dsimp only; omega, by dsimp only; rw [hE]; exact endsR_open hjl (.inr (.inr h8_0))⟩) (by simp only []; omega) (by repeat (first | exact Sub.nil _ | refine Sub.cons rfl ?_)) (by repeat (first | exact Part.nil _ | (apply Part.cons; (first | exact P0 | exact P1 | exact P2 | exact P3 | exact P4 | exact P5 | exact P6 | exact P7 | exact P8 | exact P9 | exact P10 | exact P11 | exact P12 | exact P13 | exact P14 | exact P15 | exact P16 | exact P17 | exact P18 | exact P19 | exact P20 | exact P21 | exact P22 | exact P23)) | (apply Part.flat; simp only [List.cons_append, List.nil_append]) | (apply Part.nilc)))
  intro h8_0
  refine SPL_y (y_assign rfl) rfl ?_
  refine SPL_nil ?_
  refine thenP_n ?_
  refine SP_cond_f rfl ?_
  refine SP_seq ?_
  refine SP_region ?_
  refine SPL_if (y_eql rfl rfl) rfl ?_ ?_
  · intro h10_0
    refine SPL_y (y_assign rfl) rfl ?_
    refine SPL_nil ?_
    refine thenP_n ?_
    refine SP_cond_t rfl ?_
    refine SP_seq ?_
    refine SP_region ?_
    refine SPL_y (y_move rfl) rfl ?_
    refine SPL_ifn (y_eql rfl rfl) rfl ?_ ?_
    · intro h11_1
      refine SPL_nil ?_
      refine thenP_n ?_
      refine SP_cond_f rfl ?_
      refine SP_skip ?_
      refine inBlockP_n ?_
      refine inBlockP_n ?_
      refine thenP_n ?_
      refine SP_region ?_
      refine SPL_y (y_move rfl) rfl ?_
      refine SPL_y (y_add rfl rfl (by omega)) rfl ?_
      refine SPL_y (y_assign rfl) rfl ?_
      refine SPL_nil ?_
      refine thenP_n ?_
      exact Again.intro ((j + 1, els, d)) (⟨by dsimp only; omega, by dsimp only; rw [hE]; exact endsR_else hjl h10_0 (by omega)⟩) (by simp only []; omega) (by repeat (first | exact Sub.nil _ | refine Sub.cons rfl ?_)) (by repeat (first | exact Part.nil _ | (apply Part.cons; (first | exact P0 | exact P1 | exact P2 | exact P3 | exact P4 | exact P5 | exact P6 | exact P7 | exact P8 | exact P9 | exact P10 | exact P11 | exact P12 | exact P13 | exact P14 | exact P15 | exact P16 | exact P17 | exact P18 | exact P19 | exact P20 | exact P21 | exact P22 | exact P23)) | (apply Part.flat; simp only [List.cons_append, List.nil_append]) | (apply Part.nilc)))
    intro h11_1
    refine SPL_nil ?_
    refine thenP_n ?_
    refine SP_cond_t rfl ?_
    refine SP_region ?_
    refine SPL_y (y_move rfl) rfl ?_
    refine SPL_y (y_assign rfl) rfl ?_
    refine SPL_nil ?_
    refine inBlockP_n ?_
    refine inBlockP_n ?_
    refine thenP_n ?_
    refine SP_region ?_
    refine SPL_y (y_move rfl) rfl ?_
    refine SPL_y (y_add rfl rfl (by omega)) rfl ?_
    refine SPL_y (y_assign rfl) rfl ?_
    refine SPL_nil ?_
    refine thenP_n ?_
    obtain rfl : d = 0 := by omega
    exact Again.intro ((j + 1, (j : Int), 0)) (⟨by dsimp only; omega, by dsimp only; rw [hE]; exact endsR_else0 hjl h10_0⟩) (by simp only []; omega) (by repeat (first | exact Sub.nil _ | refine Sub.cons rfl ?_)) (by repeat (first | exact Part.nil _ | (apply Part.cons; (first | exact P0 | exact P1 | exact P2 | exact P3 | exact P4 | exact P5 | exact P6 | exact P7 | exact P8 | exact P9 | exact P10 | exact P11 | exact P12 | exact P13 | exact P14 | exact P15 | exact P16 | exact P17 | exact P18 | exact P19 | exact P20 | exact P21 | exact P22 | exact P23)) | (apply Part.flat; simp only [List.cons_append, List.nil_append]) | (apply Part.nilc)))
  intro h10_0
  refine SPL_y (y_assign rfl) rfl ?_
  refine SPL_nil ?_
  refine thenP_n ?_
  refine SP_cond_f rfl ?_
  refine SP_seq ?_
  refine SP_region ?_
  refine SPL_ifn (y_eql rfl rfl) rfl ?_ ?_
  · intro h13_0
    refine SPL_y (y_assign rfl) rfl ?_
    refine SPL_nil ?_
    refine thenP_n ?_
    refine SP_cond_f rfl ?_
    refine SP_skip ?_
    refine inBlockP_n ?_
    refine inBlockP_n ?_
    refine thenP_n ?_
    refine SP_region ?_
    refine SPL_y (y_move rfl) rfl ?_
    refine SPL_y (y_add rfl rfl (by omega)) rfl ?_
    refine SPL_y (y_assign rfl) rfl ?_
    refine SPL_nil ?_
    refine thenP_n ?_
    exact Again.intro ((j + 1, els, d)) (⟨by dsimp only; omega, by dsimp only; rw [hE]; exact endsR_step hjl (by omega)⟩) (by simp only []; omega) (by repeat (first | exact Sub.nil _ | refine Sub.cons rfl ?_)) (by repeat (first | exact Part.nil _ | (apply Part.cons; (first | exact P0 | exact P1 | exact P2 | exact P3 | exact P4 | exact P5 | exact P6 | exact P7 | exact P8 | exact P9 | exact P10 | exact P11 | exact P12 | exact P13 | exact P14 | exact P15 | exact P16 | exact P17 | exact P18 | exact P19 | exact P20 | exact P21 | exact P22 | exact P23)) | (apply Part.flat; simp only [List.cons_append, List.nil_append]) | (apply Part.nilc)))
  intro h13_0
  refine SPL_y (y_assign rfl) rfl ?_
  refine SPL_nil ?_
  refine thenP_n ?_
  refine SP_cond_t rfl ?_
  refine SP_seq ?_
  refine SP_seq ?_
  refine SP_region ?_
  refine SPL_y (y_move rfl) rfl ?_
  refine SPL_if (y_eql rfl rfl) rfl ?_ ?_
  · intro h14_1
    refine SPL_nil ?_
    refine thenP_n ?_
    refine SP_cond_t rfl ?_
    refine SP_seq ?_
    refine SP_region ?_
    refine SPL_y (y_move rfl) rfl ?_
    refine SPL_y (y_move rfl) rfl ?_
    refine SPL_y (y_assign rfl) rfl ?_
    refine SPL_y (y_assign rfl) rfl ?_
    refine SPL_nil ?_
    refine thenP_n ?_
    refine SP_ret ?_
    refine thenP_ret (inBlockP_ret (inBlockP_ret (thenP_ret (thenP_ret (inBlockP_ret (thenP_ret (bodyP_ret (H' := [blk bs 87 (codeV src ++ sps)]) (Res2 rfl rfl rfl) (by repeat (first | exact Part.nil _ | (apply Part.cons; (first | exact P0 | exact P1 | exact P2 | exact P3 | exact P4 | exact P5 | exact P6 | exact P7 | exact P8 | exact P9 | exact P10 | exact P11 | exact P12 | exact P13 | exact P14 | exact P15 | exact P16 | exact P17 | exact P18 | exact P19 | exact P20 | exact P21 | exact P22 | exact P23)) | (apply Part.flat; simp only [List.cons_append, List.nil_append]) | (apply Part.nilc))) ?_)))))))
    obtain rfl : d = 0 := by omega
    refine ⟨?_, rfl⟩
    rw [hE, endsR_end0 hjl h13_0]
  intro h14_1
  refine SPL_nil ?_
  refine thenP_n ?_
  refine SP_cond_f rfl ?_
  refine SP_skip ?_
  refine thenP_n ?_
  obtain ⟨e, rfl⟩ : ∃ e, d = e + 1 := ⟨d - 1, by omega⟩
  refine SP_region ?_
  refine SPL_y (y_move rfl) rfl ?_
  refine SPL_y (y_subE (c := ((e : Nat) : Int)) rfl rfl (by omega) (by omega)) rfl ?_
  refine SPL_y (y_assign rfl) rfl ?_
  refine SPL_nil ?_
  refine inBlockP_n ?_
  refine inBlockP_n ?_
  refine thenP_n ?_
  refine SP_region ?_
  refine SPL_y (y_move rfl) rfl ?_
  refine SPL_y (y_add rfl rfl (by omega)) rfl ?_
  refine SPL_y (y_assign rfl) rfl ?_
  refine SPL_nil ?_
  refine thenP_n ?_
  exact Again.intro ((j + 1, els, e)) (⟨by dsimp only; omega, by dsimp only; rw [hE]; exact endsR_end hjl h13_0⟩) (by simp only []; omega) (by repeat (first | exact Sub.nil _ | refine Sub.cons rfl ?_)) (by repeat (first | exact Part.nil _ | (apply Part.cons; (first | exact P0 | exact P1 | exact P2 | exact P3 | exact P4 | exact P5 | exact P6 | exact P7 | exact P8 | exact P9 | exact P10 | exact P11 | exact P12 | exact P13 | exact P14 | exact P15 | exact P16 | exact P17 | exact P18 | exact P19 | exact P20 | exact P21 | exact P22 | exact P23)) | (apply Part.flat; simp only [List.cons_append, List.nil_append]) | (apply Part.nilc)))

theorem pm_Pos (sa : Option Addr) (sc : Nat) (src : List Ins) (sv : Seg) (hs : Arr 87 3 sa src.length sc (codeV src) sv) (i : Nat) (hi : i ≤ src.length) (hsl : src.length ≤ 1000) (htab : ∀ c, c ∈ src → c.tab.length ≤ 5) : Spec Tryz.prog 94 [.slice sa src.length sc, I i] [sv] (Ret fun v H => v = I (posOf src i : Nat) ∧ H = [sv]) := by
  refine Spec_enter Tryz.func94 rfl Tryz.ntmps94 rfl ?_
  show SP _ _ _ _ _ [(0, _), (1, _)] _
  refine SP_seq ?_
  refine SP_region ?_
  refine SPL_y (y_assign rfl) rfl ?_
  refine SPL_nil ?_
  refine thenP_n ?_
  refine SP_seq ?_
  refine SP_region ?_
  refine SPL_y (y_assign rfl) rfl ?_
  refine SPL_nil ?_
  refine thenP_n ?_
  refine SP_seq ?_
  refine SP_seq ?_
  refine SP_region ?_
  refine SPL_y (y_assign rfl) rfl ?_
  refine SPL_nil ?_
  refine thenP_n ?_
  refine SP_block ?_
  refine SP_loop (G := Nat × Nat) (fun g => i - g.1) (fun g => [(0, .slice sa src.length sc), (1, I i), (5, I g.2), (6, I g.1)]) (fun g => [sv]) (fun g => g.1 ≤ i ∧ g.2 = posOf src g.1) ((0, 0)) (⟨Nat.zero_le _, rfl⟩) (by repeat (first | exact Sub.nil _ | refine Sub.cons rfl ?_)) (by repeat (first | exact Part.nil _ | (apply Part.cons; (first | exact P0 | exact P1 | exact P2 | exact P3 | exact P4 | exact P5 | exact P6 | exact P7 | exact P8 | exact P9 | exact P10 | exact P11 | exact P12 | exact P13 | exact P14 | exact P15 | exact P16 | exact P17 | exact P18 | exact P19 | exact P20 | exact P21 | exact P22 | exact P23)) | (apply Part.flat; simp only [List.cons_append, List.nil_append]) | (apply Part.nilc))) ?_
  rintro ⟨j, n⟩ ⟨hj, hn⟩
  dsimp only at hj hn ⊢
  have hpl := posOf_le htab j (by omega)
  refine SP_seq ?_
  refine SP_seq ?_
  refine SP_region ?_
  refine SPL_y (y_move rfl) rfl ?_
  refine SPL_y (y_move rfl) rfl ?_
  refine SPL_ifn (y_lss rfl rfl) rfl ?_ ?_
  · intro h3_2
    refine SPL_y (y_move rfl) rfl ?_
    refine SPL_gn rfl rfl rfl rfl ?_
    refine SPL_gn rfl rfl rfl rfl ?_
    refine SPL_gn rfl rfl rfl rfl ?_
    refine SPL_gn rfl rfl rfl rfl ?_
    refine SPL_y (y_pick_f rfl rfl) rfl ?_
    refine SPL_nil ?_
    refine thenP_n ?_
    refine SP_cond_f rfl ?_
    refine SP_exit ?_
    refine thenP_exit ?_
    refine thenP_exit ?_
    refine inBlockP_hit ?_
    refine thenP_n ?_
    refine SP_seq ?_
    refine SP_region ?_
    refine SPL_y (y_move rfl) rfl ?_
    refine SPL_y (y_assign rfl) rfl ?_
    refine SPL_nil ?_
    refine thenP_n ?_
    refine SP_ret ?_
    refine bodyP_ret (H' := [sv]) (Res1 rfl rfl) (by repeat (first | exact Part.nil _ | (apply Part.cons; (first | exact P0 | exact P1 | exact P2 | exact P3 | exact P4 | exact P5 | exact P6 | exact P7 | exact P8 | exact P9 | exact P10 | exact P11 | exact P12 | exact P13 | exact P14 | exact P15 | exact P16 | exact P17 | exact P18 | exact P19 | exact P20 | exact P21 | exact P22 | exact P23)) | (apply Part.flat; simp only [List.cons_append, List.nil_append]) | (apply Part.nilc))) ?_
    obtain rfl : j = i := by omega
    exact ⟨by rw [hn], rfl⟩
  intro h3_2
  refine SPL_y (y_move rfl) rfl ?_
  refine SPL_gy rfl rfl ?_
  refine SPL_y (y_move rfl) rfl ?_
  refine SPL_gy rfl rfl ?_
  refine SPL_y (y_move rfl) rfl ?_
  refine SPL_gy rfl rfl ?_
  refine SPL_y (y_len_l Tryz.underlying34 rfl) rfl ?_
  refine SPL_gy rfl rfl ?_
  refine SPL_ifn (y_lss rfl rfl) rfl ?_ ?_
  · intro h3_7
    omega
  intro h3_7
  refine SPL_y (y_pick_t rfl rfl) rfl ?_
  refine SPL_nil ?_
  refine thenP_n ?_
  refine SP_cond_t rfl ?_
  refine SP_skip ?_
  refine thenP_n ?_
  refine SP_seq ?_
  refine SP_block ?_
  refine SP_seq ?_
  have hjl : j < src.length := by omega
  obtain ⟨bs, sps, rfl, hsc, hsps, rfl⟩ := hs.row (by omega)
  refine SP_region ?_
  refine SPL_y (y_move rfl) rfl ?_
  refine SPL_y (y_move rfl) rfl ?_
  refine SPL_y (y_ia Tryz.underlying34 Tryz.sizeOf87 rfl rfl (by omega)) rfl ?_
  refine SPL_y (y_fa fld_87_0 rfl) rfl ?_
  refine SPL_y (y_load Tryz.isAgg3 rfl (by repeat (first | exact flat_cell insV_len (q := 0) (i := j) rfl hjl rfl | apply Cell.tail))) rfl ?_
  refine SPL_nil ?_
  refine thenP_n ?_
  refine SP_block ?_
  refine SP_seq ?_
  refine SP_seq ?_
  refine SP_region ?_
  refine SPL_if (y_eql rfl rfl) rfl ?_ ?_
  · intro h7_0
    refine SPL_y (y_assign rfl) rfl ?_
    refine SPL_nil ?_
    refine thenP_n ?_
    refine SP_cond_t rfl ?_
    refine SP_skip ?_
    refine thenP_n ?_
    refine SP_cond_t rfl ?_
    refine SP_skip ?_
    refine inBlockP_n ?_
    refine inBlockP_n ?_
    refine thenP_n ?_
    refine SP_region ?_
    refine SPL_y (y_move rfl) rfl ?_
    refine SPL_y (y_add rfl rfl (by omega)) rfl ?_
    refine SPL_y (y_assign rfl) rfl ?_
    refine SPL_nil ?_
    refine thenP_n ?_
    have hz : posOf src (j + 1) = n := by rw [posOf_succ hjl, hn]; simp only [szOf]; rw [if_pos (by omega)]; rfl
    exact Again.intro ((j + 1, n)) (⟨by dsimp only; omega, hz.symm⟩) (by simp only []; omega) (by repeat (first | exact Sub.nil _ | refine Sub.cons rfl ?_)) (by repeat (first | exact Part.nil _ | (apply Part.cons; (first | exact P0 | exact P1 | exact P2 | exact P3 | exact P4 | exact P5 | exact P6 | exact P7 | exact P8 | exact P9 | exact P10 | exact P11 | exact P12 | exact P13 | exact P14 | exact P15 | exact P16 | exact P17 | exact P18 | exact P19 | exact P20 | exact P21 | exact P22 | exact P23)) | (apply Part.flat; simp only [List.cons_append, List.nil_append]) | (apply Part.nilc)))
  intro h7_0
  refine SPL_y (y_assign rfl) rfl ?_
  refine SPL_nil ?_
  refine thenP_n ?_
  refine SP_cond_f rfl ?_
  refine SP_seq ?_
  refine SP_region ?_
  refine SPL_if (y_eql rfl rfl) rfl ?_ ?_
  · intro h8_0
    refine SPL_y (y_assign rfl) rfl ?_
    refine SPL_nil ?_
    refine thenP_n ?_
    refine SP_cond_t rfl ?_
    refine SP_skip ?_
    refine thenP_n ?_
    refine SP_cond_t rfl ?_
    refine SP_skip ?_
    refine inBlockP_n ?_
    refine inBlockP_n ?_
    refine thenP_n ?_
    refine SP_region ?_
    refine SPL_y (y_move rfl) rfl ?_
    refine SPL_y (y_add rfl rfl (by omega)) rfl ?_
    refine SPL_y (y_assign rfl) rfl ?_
    refine SPL_nil ?_
    refine thenP_n ?_
    have hz : posOf src (j + 1) = n := by rw [posOf_succ hjl, hn]; simp only [szOf]; rw [if_pos (by omega)]; rfl
    exact Again.intro ((j + 1, n)) (⟨by dsimp only; omega, hz.symm⟩) (by simp only []; omega) (by repeat (first | exact Sub.nil _ | refine Sub.cons rfl ?_)) (by repeat (first | exact Part.nil _ | (apply Part.cons; (first | exact P0 | exact P1 | exact P2 | exact P3 | exact P4 | exact P5 | exact P6 | exact P7 | exact P8 | exact P9 | exact P10 | exact P11 | exact P12 | exact P13 | exact P14 | exact P15 | exact P16 | exact P17 | exact P18 | exact P19 | exact P20 | exact P21 | exact P22 | exact P23)) | (apply Part.flat; simp only [List.cons_append, List.nil_append]) | (apply Part.nilc)))
  intro h8_0
  refine SPL_y (y_assign rfl) rfl ?_
  refine SPL_nil ?_
  refine thenP_n ?_
  refine SP_cond_f rfl ?_
  refine SP_region ?_
  refine SPL_if (y_eql rfl rfl) rfl ?_ ?_
  · intro h9_0
    refine SPL_y (y_assign rfl) rfl ?_
    refine SPL_nil ?_
    refine thenP_n ?_
    refine SP_cond_t rfl ?_
    refine SP_skip ?_
    refine inBlockP_n ?_
    refine inBlockP_n ?_
    refine thenP_n ?_
    refine SP_region ?_
    refine SPL_y (y_move rfl) rfl ?_
    refine SPL_y (y_add rfl rfl (by omega)) rfl ?_
    refine SPL_y (y_assign rfl) rfl ?_
    refine SPL_nil ?_
    refine thenP_n ?_
    have hz : posOf src (j + 1) = n := by rw [posOf_succ hjl, hn]; simp only [szOf]; rw [if_pos (by omega)]; rfl
    exact Again.intro ((j + 1, n)) (⟨by dsimp only; omega, hz.symm⟩) (by simp only []; omega) (by repeat (first | exact Sub.nil _ | refine Sub.cons rfl ?_)) (by repeat (first | exact Part.nil _ | (apply Part.cons; (first | exact P0 | exact P1 | exact P2 | exact P3 | exact P4 | exact P5 | exact P6 | exact P7 | exact P8 | exact P9 | exact P10 | exact P11 | exact P12 | exact P13 | exact P14 | exact P15 | exact P16 | exact P17 | exact P18 | exact P19 | exact P20 | exact P21 | exact P22 | exact P23)) | (apply Part.flat; simp only [List.cons_append, List.nil_append]) | (apply Part.nilc)))
  intro h9_0
  refine SPL_y (y_assign rfl) rfl ?_
  refine SPL_nil ?_
  refine thenP_n ?_
  refine SP_cond_f rfl ?_
  refine SP_seq ?_
  refine SP_region ?_
  refine SPL_ifn (y_eql rfl rfl) rfl ?_ ?_
  · intro h10_0
    refine SPL_y (y_assign rfl) rfl ?_
    refine SPL_nil ?_
    refine thenP_n ?_
    refine SP_cond_f rfl ?_
    refine SP_region ?_
    refine SPL_y (y_move rfl) rfl ?_
    refine SPL_y (y_add rfl rfl (by omega)) rfl ?_
    refine SPL_y (y_assign rfl) rfl ?_
    refine SPL_nil ?_
    refine inBlockP_n ?_
    refine inBlockP_n ?_
    refine thenP_n ?_
    refine SP_region ?_
    refine SPL_y (y_move rfl) rfl ?_
    refine SPL_y (y_add rfl rfl (by omega)) rfl ?_
    refine SPL_y (y_assign rfl) rfl ?_
    refine SPL_nil ?_
    refine thenP_n ?_
    have hz : posOf src (j + 1) = n + 1 := by rw [posOf_succ hjl, hn]; simp only [szOf]; rw [if_neg (by omega), if_neg h10_0]
    exact Again.intro ((j + 1, n + 1)) (⟨by dsimp only; omega, hz.symm⟩) (by simp only []; omega) (by repeat (first | exact Sub.nil _ | refine Sub.cons rfl ?_)) (by repeat (first | exact Part.nil _ | (apply Part.cons; (first | exact P0 | exact P1 | exact P2 | exact P3 | exact P4 | exact P5 | exact P6 | exact P7 | exact P8 | exact P9 | exact P10 | exact P11 | exact P12 | exact P13 | exact P14 | exact P15 | exact P16 | exact P17 | exact P18 | exact P19 | exact P20 | exact P21 | exact P22 | exact P23)) | (apply Part.flat; simp only [List.cons_append, List.nil_append]) | (apply Part.nilc)))
  intro h10_0
  refine SPL_y (y_assign rfl) rfl ?_
  refine SPL_nil ?_
  refine thenP_n ?_
  refine SP_cond_t rfl ?_
  have htl := htab src[j] (List.getElem_mem _)
  refine SP_region ?_
  refine SPL_y (y_move rfl) rfl ?_
  refine SPL_y (y_add rfl rfl (by omega)) rfl ?_
  refine SPL_y (y_move rfl) rfl ?_
  refine SPL_y (y_move rfl) rfl ?_
  refine SPL_y (y_ia Tryz.underlying34 Tryz.sizeOf87 rfl rfl (by omega)) rfl ?_
  refine SPL_y (y_fa fld_87_2 rfl) rfl ?_
  refine SPL_y (y_load Tryz.isAgg9 rfl (by repeat (first | exact flat_cell insV_len (q := 2) (i := j) rfl hjl rfl | apply Cell.tail))) rfl ?_
  refine SPL_y (y_len_s Tryz.underlying9 rfl) rfl ?_
  refine SPL_y (y_add rfl rfl (by omega)) rfl ?_
  refine SPL_y (y_assign rfl) rfl ?_
  refine SPL_nil ?_
  refine inBlockP_n ?_
  refine inBlockP_n ?_
  refine thenP_n ?_
  refine SP_region ?_
  refine SPL_y (y_move rfl) rfl ?_
  refine SPL_y (y_add rfl rfl (by omega)) rfl ?_
  refine SPL_y (y_assign rfl) rfl ?_
  refine SPL_nil ?_
  refine thenP_n ?_
  have hz : posOf src (j + 1) = n + 1 + src[j].tab.length := by rw [posOf_succ hjl, hn]; simp only [szOf]; rw [if_neg (by omega), if_pos h10_0]; omega
  exact Again.intro ((j + 1, n + 1 + src[j].tab.length)) (⟨by dsimp only; omega, hz.symm⟩) (by simp only []; omega) (by repeat (first | exact Sub.nil _ | refine Sub.cons rfl ?_)) (by repeat (first | exact Part.nil _ | (apply Part.cons; (first | exact P0 | exact P1 | exact P2 | exact P3 | exact P4 | exact P5 | exact P6 | exact P7 | exact P8 | exact P9 | exact P10 | exact P11 | exact P12 | exact P13 | exact P14 | exact P15 | exact P16 | exact P17 | exact P18 | exact P19 | exact P20 | exact P21 | exact P22 | exact P23)) | (apply Part.flat; simp only [List.cons_append, List.nil_append]) | (apply Part.nilc)))

set_option maxHeartbeats 2000000 in
theorem pm_Sig (op : Int) : Spec Tryz.prog 103 [I op] [] (Ret fun v H => v = .tuple #[S (sigM op).1, S (sigM op).2.1, .bool (sigM op).2.2] ∧ H = []) := by
  refine Spec_enter Tryz.func103 rfl Tryz.ntmps103 rfl ?_
  show SP _ _ _ _ _ [(0, _)] _
  refine SP_seq ?_
  refine SP_region ?_
  refine SPL_y (y_assign rfl) rfl ?_
  refine SPL_y (y_assign rfl) rfl ?_
  refine SPL_y (y_assign rfl) rfl ?_
  refine SPL_nil ?_
  refine thenP_n ?_
  refine SP_seq ?_
  refine SP_seq ?_
  refine SP_region ?_
  refine SPL_y (y_move rfl) rfl ?_
  refine SPL_nil ?_
  refine thenP_n ?_
  refine SP_block ?_
  refine SP_seq ?_
  refine SP_seq ?_
  refine SP_region ?_
  refine SPL_if (y_eql rfl rfl) rfl ?_ ?_
  · intro h2_0
    refine SPL_y (y_assign rfl) rfl ?_
    refine SPL_nil ?_
    refine thenP_n ?_
    refine SP_cond_t rfl ?_
    refine SP_skip ?_
    refine thenP_n ?_
    refine SP_cond_t rfl ?_
    refine SP_seq ?_
    refine SP_region ?_
    refine SPL_y (y_assign rfl) rfl ?_
    refine SPL_y (y_assign rfl) rfl ?_
    refine SPL_y (y_assign rfl) rfl ?_
    refine SPL_nil ?_
    refine thenP_n ?_
    refine SP_ret ?_
    refine inBlockP_ret (thenP_ret (bodyP_ret (Res3 rfl rfl rfl rfl) (Part.refl _) ?_))
    first
      | (exfalso; omega)
      | (refine ⟨?_, rfl⟩
         unfold sigM
         repeat (first | (rw [if_pos (by omega)]; done) | rw [if_neg (by omega)])
         first | done | (rw [show decide (op < 76) = decide (73 ≤ op ∧ op < 76) from decide_eq_decide.2 (by omega)]) | (rw [decide_eq_true (show 73 ≤ op ∧ op < 76 by omega)]) | (rw [decide_eq_false (show ¬ (73 ≤ op ∧ op < 76) by omega)]))
  intro h2_0
  refine SPL_y (y_assign rfl) rfl ?_
  refine SPL_nil ?_
  refine thenP_n ?_
  refine SP_cond_f rfl ?_
  refine SP_region ?_
  refine SPL_if (y_eql rfl rfl) rfl ?_ ?_
  · intro h3_0
    refine SPL_y (y_assign rfl) rfl ?_
    refine SPL_nil ?_
    refine thenP_n ?_
    refine SP_cond_t rfl ?_
    refine SP_seq ?_
    refine SP_region ?_
    refine SPL_y (y_assign rfl) rfl ?_
    refine SPL_y (y_assign rfl) rfl ?_
    refine SPL_y (y_assign rfl) rfl ?_
    refine SPL_nil ?_
    refine thenP_n ?_
    refine SP_ret ?_
    refine inBlockP_ret (thenP_ret (bodyP_ret (Res3 rfl rfl rfl rfl) (Part.refl _) ?_))
    first
      | (exfalso; omega)
      | (refine ⟨?_, rfl⟩
         unfold sigM
         repeat (first | (rw [if_pos (by omega)]; done) | rw [if_neg (by omega)])
         first | done | (rw [show decide (op < 76) = decide (73 ≤ op ∧ op < 76) from decide_eq_decide.2 (by omega)]) | (rw [decide_eq_true (show 73 ≤ op ∧ op < 76 by omega)]) | (rw [decide_eq_false (show ¬ (73 ≤ op ∧ op < 76) by omega)]))
  intro h3_0
  refine SPL_y (y_assign rfl) rfl ?_
  refine SPL_nil ?_
  refine thenP_n ?_
  refine SP_cond_f rfl ?_
  refine SP_seq ?_
  refine SP_region ?_
  refine SPL_if (y_eql rfl rfl) rfl ?_ ?_
  · intro h5_0
    refine SPL_y (y_assign rfl) rfl ?_
    refine SPL_nil ?_
    refine thenP_n ?_
    refine SP_cond_t rfl ?_
    refine SP_seq ?_
    refine SP_region ?_
    refine SPL_y (y_assign rfl) rfl ?_
    refine SPL_y (y_assign rfl) rfl ?_
    refine SPL_y (y_assign rfl) rfl ?_
    refine SPL_nil ?_
    refine thenP_n ?_
    refine SP_ret ?_
    refine inBlockP_ret (thenP_ret (bodyP_ret (Res3 rfl rfl rfl rfl) (Part.refl _) ?_))
    first
      | (exfalso; omega)
      | (refine ⟨?_, rfl⟩
         unfold sigM
         repeat (first | (rw [if_pos (by omega)]; done) | rw [if_neg (by omega)])
         first | done | (rw [show decide (op < 76) = decide (73 ≤ op ∧ op < 76) from decide_eq_decide.2 (by omega)]) | (rw [decide_eq_true (show 73 ≤ op ∧ op < 76 by omega)]) | (rw [decide_eq_false (show ¬ (73 ≤ op ∧ op < 76) by omega)]))
  intro h5_0
  refine SPL_y (y_assign rfl) rfl ?_
  refine SPL_nil ?_
  refine thenP_n ?_
  refine SP_cond_f rfl ?_
  refine SP_seq ?_
  refine SP_seq ?_
  refine SP_region ?_
  refine SPL_if (y_eql rfl rfl) rfl ?_ ?_
  · intro h7_0
    refine SPL_y (y_assign rfl) rfl ?_
    refine SPL_nil ?_
    refine thenP_n ?_
    refine SP_cond_t rfl ?_
    refine SP_skip ?_
    refine thenP_n ?_
    refine SP_cond_t rfl ?_
    refine SP_seq ?_
    refine SP_region ?_
    refine SPL_y (y_assign rfl) rfl ?_
    refine SPL_y (y_assign rfl) rfl ?_
    refine SPL_y (y_assign rfl) rfl ?_
    refine SPL_nil ?_
    refine thenP_n ?_
    refine SP_ret ?_
    refine inBlockP_ret (thenP_ret (bodyP_ret (Res3 rfl rfl rfl rfl) (Part.refl _) ?_))
    first
      | (exfalso; omega)
      | (refine ⟨?_, rfl⟩
         unfold sigM
         repeat (first | (rw [if_pos (by omega)]; done) | rw [if_neg (by omega)])
         first | done | (rw [show decide (op < 76) = decide (73 ≤ op ∧ op < 76) from decide_eq_decide.2 (by omega)]) | (rw [decide_eq_true (show 73 ≤ op ∧ op < 76 by omega)]) | (rw [decide_eq_false (show ¬ (73 ≤ op ∧ op < 76) by omega)]))
  intro h7_0
  refine SPL_y (y_assign rfl) rfl ?_
  refine SPL_nil ?_
  refine thenP_n ?_
  refine SP_cond_f rfl ?_
  refine SP_seq ?_
  refine SP_region ?_
  refine SPL_if (y_eql rfl rfl) rfl ?_ ?_
  · intro h8_0
    refine SPL_y (y_assign rfl) rfl ?_
    refine SPL_nil ?_
    refine thenP_n ?_
    refine SP_cond_t rfl ?_
    refine SP_skip ?_
    refine thenP_n ?_
    refine SP_cond_t rfl ?_
    refine SP_seq ?_
    refine SP_region ?_
    refine SPL_y (y_assign rfl) rfl ?_
    refine SPL_y (y_assign rfl) rfl ?_
    refine SPL_y (y_assign rfl) rfl ?_
    refine SPL_nil ?_
    refine thenP_n ?_
    refine SP_ret ?_
    refine inBlockP_ret (thenP_ret (bodyP_ret (Res3 rfl rfl rfl rfl) (Part.refl _) ?_))
    first
      | (exfalso; omega)
      | (refine ⟨?_, rfl⟩
         unfold sigM
         repeat (first | (rw [if_pos (by omega)]; done) | rw [if_neg (by omega)])
         first | done | (rw [show decide (op < 76) = decide (73 ≤ op ∧ op < 76) from decide_eq_decide.2 (by omega)]) | (rw [decide_eq_true (show 73 ≤ op ∧ op < 76 by omega)]) | (rw [decide_eq_false (show ¬ (73 ≤ op ∧ op < 76) by omega)]))
  intro h8_0
  refine SPL_y (y_assign rfl) rfl ?_
  refine SPL_nil ?_
  refine thenP_n ?_
  refine SP_cond_f rfl ?_
  refine SP_seq ?_
  refine SP_region ?_
  refine SPL_if (y_eql rfl rfl) rfl ?_ ?_
  · intro h9_0
    refine SPL_y (y_assign rfl) rfl ?_
    refine SPL_nil ?_
    refine thenP_n ?_
    refine SP_cond_t rfl ?_
    refine SP_skip ?_
    refine thenP_n ?_
    refine SP_cond_t rfl ?_
    refine SP_seq ?_
    refine SP_region ?_
    refine SPL_y (y_assign rfl) rfl ?_
    refine SPL_y (y_assign rfl) rfl ?_
    refine SPL_y (y_assign rfl) rfl ?_
    refine SPL_nil ?_
    refine thenP_n ?_
    refine SP_ret ?_
    refine inBlockP_ret (thenP_ret (bodyP_ret (Res3 rfl rfl rfl rfl) (Part.refl _) ?_))
    first
      | (exfalso; omega)
      | (refine ⟨?_, rfl⟩
         unfold sigM
         repeat (first | (rw [if_pos (by omega)]; done) | rw [if_neg (by omega)])
         first | done | (rw [show decide (op < 76) = decide (73 ≤ op ∧ op < 76) from decide_eq_decide.2 (by omega)]) | (rw [decide_eq_true (show 73 ≤ op ∧ op < 76 by omega)]) | (rw [decide_eq_false (show ¬ (73 ≤ op ∧ op < 76) by omega)]))
  intro h9_0
  refine SPL_y (y_assign rfl) rfl ?_
  refine SPL_nil ?_
  refine thenP_n ?_
  refine SP_cond_f rfl ?_
  refine SP_seq ?_
  refine SP_region ?_
  refine SPL_if (y_eql rfl rfl) rfl ?_ ?_
  · intro h10_0
    refine SPL_y (y_assign rfl) rfl ?_
    refine SPL_nil ?_
    refine thenP_n ?_
    refine SP_cond_t rfl ?_
    refine SP_skip ?_
    refine thenP_n ?_
    refine SP_cond_t rfl ?_
    refine SP_seq ?_
    refine SP_region ?_
    refine SPL_y (y_assign rfl) rfl ?_
    refine SPL_y (y_assign rfl) rfl ?_
    refine SPL_y (y_assign rfl) rfl ?_
    refine SPL_nil ?_
    refine thenP_n ?_
    refine SP_ret ?_
    refine inBlockP_ret (thenP_ret (bodyP_ret (Res3 rfl rfl rfl rfl) (Part.refl _) ?_))
    first
      | (exfalso; omega)
      | (refine ⟨?_, rfl⟩
         unfold sigM
         repeat (first | (rw [if_pos (by omega)]; done) | rw [if_neg (by omega)])
         first | done | (rw [show decide (op < 76) = decide (73 ≤ op ∧ op < 76) from decide_eq_decide.2 (by omega)]) | (rw [decide_eq_true (show 73 ≤ op ∧ op < 76 by omega)]) | (rw [decide_eq_false (show ¬ (73 ≤ op ∧ op < 76) by omega)]))
  intro h10_0
  refine SPL_y (y_assign rfl) rfl ?_
  refine SPL_nil ?_
  refine thenP_n ?_
  refine SP_cond_f rfl ?_
  refine SP_seq ?_
  refine SP_region ?_
  refine SPL_if (y_eql rfl rfl) rfl ?_ ?_
  · intro h11_0
    refine SPL_y (y_assign rfl) rfl ?_
    refine SPL_nil ?_
    refine thenP_n ?_
    refine SP_cond_t rfl ?_
    refine SP_skip ?_
    refine thenP_n ?_
    refine SP_cond_t rfl ?_
    refine SP_seq ?_
    refine SP_region ?_
    refine SPL_y (y_assign rfl) rfl ?_
    refine SPL_y (y_assign rfl) rfl ?_
    refine SPL_y (y_assign rfl) rfl ?_
    refine SPL_nil ?_
    refine thenP_n ?_
    refine SP_ret ?_
    refine inBlockP_ret (thenP_ret (bodyP_ret (Res3 rfl rfl rfl rfl) (Part.refl _) ?_))
    first
      | (exfalso; omega)
      | (refine ⟨?_, rfl⟩
         unfold sigM
         repeat (first | (rw [if_pos (by omega)]; done) | rw [if_neg (by omega)])
         first | done | (rw [show decide (op < 76) = decide (73 ≤ op ∧ op < 76) from decide_eq_decide.2 (by omega)]) | (rw [decide_eq_true (show 73 ≤ op ∧ op < 76 by omega)]) | (rw [decide_eq_false (show ¬ (73 ≤ op ∧ op < 76) by omega)]))
  intro h11_0
  refine SPL_y (y_assign rfl) rfl ?_
  refine SPL_nil ?_
  refine thenP_n ?_
  refine SP_cond_f rfl ?_
  refine SP_seq ?_
  refine SP_region ?_
  refine SPL_if (y_eql rfl rfl) rfl ?_ ?_
  · intro h12_0
    refine SPL_y (y_assign rfl) rfl ?_
    refine SPL_nil ?_
    refine thenP_n ?_
    refine SP_cond_t rfl ?_
    refine SP_skip ?_
    refine thenP_n ?_
    refine SP_cond_t rfl ?_
    refine SP_seq ?_
    refine SP_region ?_
    refine SPL_y (y_assign rfl) rfl ?_
    refine SPL_y (y_assign rfl) rfl ?_
    refine SPL_y (y_assign rfl) rfl ?_
    refine SPL_nil ?_
    refine thenP_n ?_
    refine SP_ret ?_
    refine inBlockP_ret (thenP_ret (bodyP_ret (Res3 rfl rfl rfl rfl) (Part.refl _) ?_))
    first
      | (exfalso; omega)
      | (refine ⟨?_, rfl⟩
         unfold sigM
         repeat (first | (rw [if_pos (by omega)]; done) | rw [if_neg (by omega)])
         first | done | (rw [show decide (op < 76) = decide (73 ≤ op ∧ op < 76) from decide_eq_decide.2 (by omega)]) | (rw [decide_eq_true (show 73 ≤ op ∧ op < 76 by omega)]) | (rw [decide_eq_false (show ¬ (73 ≤ op ∧ op < 76) by omega)]))
  intro h12_0
  refine SPL_y (y_assign rfl) rfl ?_
  refine SPL_nil ?_
  refine thenP_n ?_
  refine SP_cond_f rfl ?_
  refine SP_region ?_
  refine SPL_if (y_eql rfl rfl) rfl ?_ ?_
  · intro h13_0
    refine SPL_y (y_assign rfl) rfl ?_
    refine SPL_nil ?_
    refine thenP_n ?_
    refine SP_cond_t rfl ?_
    refine SP_seq ?_
    refine SP_region ?_
    refine SPL_y (y_assign rfl) rfl ?_
    refine SPL_y (y_assign rfl) rfl ?_
    refine SPL_y (y_assign rfl) rfl ?_
    refine SPL_nil ?_
    refine thenP_n ?_
    refine SP_ret ?_
    refine inBlockP_ret (thenP_ret (bodyP_ret (Res3 rfl rfl rfl rfl) (Part.refl _) ?_))
    first
      | (exfalso; omega)
      | (refine ⟨?_, rfl⟩
         unfold sigM
         repeat (first | (rw [if_pos (by omega)]; done) | rw [if_neg (by omega)])
         first | done | (rw [show decide (op < 76) = decide (73 ≤ op ∧ op < 76) from decide_eq_decide.2 (by omega)]) | (rw [decide_eq_true (show 73 ≤ op ∧ op < 76 by omega)]) | (rw [decide_eq_false (show ¬ (73 ≤ op ∧ op < 76) by omega)]))
  intro h13_0
  refine SPL_y (y_assign rfl) rfl ?_
  refine SPL_nil ?_
  refine thenP_n ?_
  refine SP_cond_f rfl ?_
  refine SP_seq ?_
  refine SP_seq ?_
  refine SP_region ?_
  refine SPL_if (y_eql rfl rfl) rfl ?_ ?_
  · intro h15_0
    refine SPL_y (y_assign rfl) rfl ?_
    refine SPL_nil ?_
    refine thenP_n ?_
    refine SP_cond_t rfl ?_
    refine SP_skip ?_
    refine thenP_n ?_
    refine SP_cond_t rfl ?_
    refine SP_seq ?_
    refine SP_region ?_
    refine SPL_y (y_assign rfl) rfl ?_
    refine SPL_y (y_assign rfl) rfl ?_
    refine SPL_y (y_assign rfl) rfl ?_
    refine SPL_nil ?_
    refine thenP_n ?_
    refine SP_ret ?_
    refine inBlockP_ret (thenP_ret (bodyP_ret (Res3 rfl rfl rfl rfl) (Part.refl _) ?_))
    first
      | (exfalso; omega)
      | (refine ⟨?_, rfl⟩
         unfold sigM
         repeat (first | (rw [if_pos (by omega)]; done) | rw [if_neg (by omega)])
         first | done | (rw [show decide (op < 76) = decide (73 ≤ op ∧ op < 76) from decide_eq_decide.2 (by omega)]) | (rw [decide_eq_true (show 73 ≤ op ∧ op < 76 by omega)]) | (rw [decide_eq_false (show ¬ (73 ≤ op ∧ op < 76) by omega)]))
  intro h15_0
  refine SPL_y (y_assign rfl) rfl ?_
  refine SPL_nil ?_
  refine thenP_n ?_
  refine SP_cond_f rfl ?_
  refine SP_seq ?_
  refine SP_region ?_
  refine SPL_if (y_eql rfl rfl) rfl ?_ ?_
  · intro h16_0
    refine SPL_y (y_assign rfl) rfl ?_
    refine SPL_nil ?_
    refine thenP_n ?_
    refine SP_cond_t rfl ?_
    refine SP_skip ?_
    refine thenP_n ?_
    refine SP_cond_t rfl ?_
    refine SP_seq ?_
    refine SP_region ?_
    refine SPL_y (y_assign rfl) rfl ?_
    refine SPL_y (y_assign rfl) rfl ?_
    refine SPL_y (y_assign rfl) rfl ?_
    refine SPL_nil ?_
    refine thenP_n ?_
    refine SP_ret ?_
    refine inBlockP_ret (thenP_ret (bodyP_ret (Res3 rfl rfl rfl rfl) (Part.refl _) ?_))
    first
      | (exfalso; omega)
      | (refine ⟨?_, rfl⟩
         unfold sigM
         repeat (first | (rw [if_pos (by omega)]; done) | rw [if_neg (by omega)])
         first | done | (rw [show decide (op < 76) = decide (73 ≤ op ∧ op < 76) from decide_eq_decide.2 (by omega)]) | (rw [decide_eq_true (show 73 ≤ op ∧ op < 76 by omega)]) | (rw [decide_eq_false (show ¬ (73 ≤ op ∧ op < 76) by omega)]))
  intro h16_0
  refine SPL_y (y_assign rfl) rfl ?_
  refine SPL_nil ?_
  refine thenP_n ?_
  refine SP_cond_f rfl ?_
  refine SP_region ?_
  refine SPL_if (y_eql rfl rfl) rfl ?_ ?_
  · intro h17_0
    refine SPL_y (y_assign rfl) rfl ?_
    refine SPL_nil ?_
    refine thenP_n ?_
    refine SP_cond_t rfl ?_
    refine SP_seq ?_
    refine SP_region ?_
    refine SPL_y (y_assign rfl) rfl ?_
    refine SPL_y (y_assign rfl) rfl ?_
    refine SPL_y (y_assign rfl) rfl ?_
    refine SPL_nil ?_
    refine thenP_n ?_
    refine SP_ret ?_
    refine inBlockP_ret (thenP_ret (bodyP_ret (Res3 rfl rfl rfl rfl) (Part.refl _) ?_))
    first
      | (exfalso; omega)
      | (refine ⟨?_, rfl⟩
         unfold sigM
         repeat (first | (rw [if_pos (by omega)]; done) | rw [if_neg (by omega)])
         first | done | (rw [show decide (op < 76) = decide (73 ≤ op ∧ op < 76) from decide_eq_decide.2 (by omega)]) | (rw [decide_eq_true (show 73 ≤ op ∧ op < 76 by omega)]) | (rw [decide_eq_false (show ¬ (73 ≤ op ∧ op < 76) by omega)]))
  intro h17_0
  refine SPL_y (y_assign rfl) rfl ?_
  refine SPL_nil ?_
  refine thenP_n ?_
  refine SP_cond_f rfl ?_
  refine SP_seq ?_
  refine SP_seq ?_
  refine SP_region ?_
  refine SPL_if (y_eql rfl rfl) rfl ?_ ?_
  · intro h19_0
    refine SPL_y (y_assign rfl) rfl ?_
    refine SPL_nil ?_
    refine thenP_n ?_
    refine SP_cond_t rfl ?_
    refine SP_skip ?_
    refine thenP_n ?_
    refine SP_cond_t rfl ?_
    refine SP_seq ?_
    refine SP_region ?_
    refine SPL_y (y_assign rfl) rfl ?_
    refine SPL_y (y_assign rfl) rfl ?_
    refine SPL_y (y_assign rfl) rfl ?_
    refine SPL_nil ?_
    refine thenP_n ?_
    refine SP_ret ?_
    refine inBlockP_ret (thenP_ret (bodyP_ret (Res3 rfl rfl rfl rfl) (Part.refl _) ?_))
    first
      | (exfalso; omega)
      | (refine ⟨?_, rfl⟩
         unfold sigM
         repeat (first | (rw [if_pos (by omega)]; done) | rw [if_neg (by omega)])
         first | done | (rw [show decide (op < 76) = decide (73 ≤ op ∧ op < 76) from decide_eq_decide.2 (by omega)]) | (rw [decide_eq_true (show 73 ≤ op ∧ op < 76 by omega)]) | (rw [decide_eq_false (show ¬ (73 ≤ op ∧ op < 76) by omega)]))
  intro h19_0
  refine SPL_y (y_assign rfl) rfl ?_
  refine SPL_nil ?_
  refine thenP_n ?_
  refine SP_cond_f rfl ?_
  refine SP_seq ?_
  refine SP_region ?_
  refine SPL_if (y_eql rfl rfl) rfl ?_ ?_
  · intro h20_0
    refine SPL_y (y_assign rfl) rfl ?_
    refine SPL_nil ?_
    refine thenP_n ?_
    refine SP_cond_t rfl ?_
    refine SP_skip ?_
    refine thenP_n ?_
    refine SP_cond_t rfl ?_
    refine SP_seq ?_
    refine SP_region ?_
    refine SPL_y (y_assign rfl) rfl ?_
    refine SPL_y (y_assign rfl) rfl ?_
    refine SPL_y (y_assign rfl) rfl ?_
    refine SPL_nil ?_
    refine thenP_n ?_
    refine SP_ret ?_
    refine inBlockP_ret (thenP_ret (bodyP_ret (Res3 rfl rfl rfl rfl) (Part.refl _) ?_))
    first
      | (exfalso; omega)
      | (refine ⟨?_, rfl⟩
         unfold sigM
         repeat (first | (rw [if_pos (by omega)]; done) | rw [if_neg (by omega)])
         first | done | (rw [show decide (op < 76) = decide (73 ≤ op ∧ op < 76) from decide_eq_decide.2 (by omega)]) | (rw [decide_eq_true (show 73 ≤ op ∧ op < 76 by omega)]) | (rw [decide_eq_false (show ¬ (73 ≤ op ∧ op < 76) by omega)]))
  intro h20_0
  refine SPL_y (y_assign rfl) rfl ?_
  refine SPL_nil ?_
  refine thenP_n ?_
  refine SP_cond_f rfl ?_
  refine SP_region ?_
  refine SPL_if (y_eql rfl rfl) rfl ?_ ?_
  · intro h21_0
    refine SPL_y (y_assign rfl) rfl ?_
    refine SPL_nil ?_
    refine thenP_n ?_
    refine SP_cond_t rfl ?_
    refine SP_seq ?_
    refine SP_region ?_
    refine SPL_y (y_assign rfl) rfl ?_
    refine SPL_y (y_assign rfl) rfl ?_
    refine SPL_y (y_assign rfl) rfl ?_
    refine SPL_nil ?_
    refine thenP_n ?_
    refine SP_ret ?_
    refine inBlockP_ret (thenP_ret (bodyP_ret (Res3 rfl rfl rfl rfl) (Part.refl _) ?_))
    first
      | (exfalso; omega)
      | (refine ⟨?_, rfl⟩
         unfold sigM
         repeat (first | (rw [if_pos (by omega)]; done) | rw [if_neg (by omega)])
         first | done | (rw [show decide (op < 76) = decide (73 ≤ op ∧ op < 76) from decide_eq_decide.2 (by omega)]) | (rw [decide_eq_true (show 73 ≤ op ∧ op < 76 by omega)]) | (rw [decide_eq_false (show ¬ (73 ≤ op ∧ op < 76) by omega)]))
  intro h21_0
  refine SPL_y (y_assign rfl) rfl ?_
  refine SPL_nil ?_
  refine thenP_n ?_
  refine SP_cond_f rfl ?_
  refine SP_seq ?_
  refine SP_region ?_
  refine SPL_if (y_eql rfl rfl) rfl ?_ ?_
  · intro h23_0
    refine SPL_y (y_assign rfl) rfl ?_
    refine SPL_nil ?_
    refine thenP_n ?_
    refine SP_cond_t rfl ?_
    refine SP_seq ?_
    refine SP_region ?_
    refine SPL_y (y_assign rfl) rfl ?_
    refine SPL_y (y_assign rfl) rfl ?_
    refine SPL_y (y_assign rfl) rfl ?_
    refine SPL_nil ?_
    refine thenP_n ?_
    refine SP_ret ?_
    refine inBlockP_ret (thenP_ret (bodyP_ret (Res3 rfl rfl rfl rfl) (Part.refl _) ?_))
    first
      | (exfalso; omega)
      | (refine ⟨?_, rfl⟩
         unfold sigM
         repeat (first | (rw [if_pos (by omega)]; done) | rw [if_neg (by omega)])
         first | done | (rw [show decide (op < 76) = decide (73 ≤ op ∧ op < 76) from decide_eq_decide.2 (by omega)]) | (rw [decide_eq_true (show 73 ≤ op ∧ op < 76 by omega)]) | (rw [decide_eq_false (show ¬ (73 ≤ op ∧ op < 76) by omega)]))
  intro h23_0
  refine SPL_y (y_assign rfl) rfl ?_
  refine SPL_nil ?_
  refine thenP_n ?_
  refine SP_cond_f rfl ?_
  refine SP_seq ?_
  refine SP_seq ?_
  refine SP_region ?_
  refine SPL_if (y_eql rfl rfl) rfl ?_ ?_
  · intro h25_0
    refine SPL_y (y_assign rfl) rfl ?_
    refine SPL_nil ?_
    refine thenP_n ?_
    refine SP_cond_t rfl ?_
    refine SP_skip ?_
    refine thenP_n ?_
    refine SP_cond_t rfl ?_
    refine SP_seq ?_
    refine SP_region ?_
    refine SPL_y (y_assign rfl) rfl ?_
    refine SPL_y (y_assign rfl) rfl ?_
    refine SPL_y (y_assign rfl) rfl ?_
    refine SPL_nil ?_
    refine thenP_n ?_
    refine SP_ret ?_
    refine inBlockP_ret (thenP_ret (bodyP_ret (Res3 rfl rfl rfl rfl) (Part.refl _) ?_))
    first
      | (exfalso; omega)
      | (refine ⟨?_, rfl⟩
         unfold sigM
         repeat (first | (rw [if_pos (by omega)]; done) | rw [if_neg (by omega)])
         first | done | (rw [show decide (op < 76) = decide (73 ≤ op ∧ op < 76) from decide_eq_decide.2 (by omega)]) | (rw [decide_eq_true (show 73 ≤ op ∧ op < 76 by omega)]) | (rw [decide_eq_false (show ¬ (73 ≤ op ∧ op < 76) by omega)]))
  intro h25_0
  refine SPL_y (y_assign rfl) rfl ?_
  refine SPL_nil ?_
  refine thenP_n ?_
  refine SP_cond_f rfl ?_
  refine SP_region ?_
  refine SPL_if (y_eql rfl rfl) rfl ?_ ?_
  · intro h26_0
    refine SPL_y (y_assign rfl) rfl ?_
    refine SPL_nil ?_
    refine thenP_n ?_
    refine SP_cond_t rfl ?_
    refine SP_seq ?_
    refine SP_region ?_
    refine SPL_y (y_assign rfl) rfl ?_
    refine SPL_y (y_assign rfl) rfl ?_
    refine SPL_y (y_assign rfl) rfl ?_
    refine SPL_nil ?_
    refine thenP_n ?_
    refine SP_ret ?_
    refine inBlockP_ret (thenP_ret (bodyP_ret (Res3 rfl rfl rfl rfl) (Part.refl _) ?_))
    first
      | (exfalso; omega)
      | (refine ⟨?_, rfl⟩
         unfold sigM
         repeat (first | (rw [if_pos (by omega)]; done) | rw [if_neg (by omega)])
         first | done | (rw [show decide (op < 76) = decide (73 ≤ op ∧ op < 76) from decide_eq_decide.2 (by omega)]) | (rw [decide_eq_true (show 73 ≤ op ∧ op < 76 by omega)]) | (rw [decide_eq_false (show ¬ (73 ≤ op ∧ op < 76) by omega)]))
  intro h26_0
  refine SPL_y (y_assign rfl) rfl ?_
  refine SPL_nil ?_
  refine thenP_n ?_
  refine SP_cond_f rfl ?_
  refine SP_skip ?_
  refine inBlockP_n ?_
  refine thenP_n ?_
  refine SP_seq ?_
  refine SP_seq ?_
  refine SP_region ?_
  refine SPL_y (y_move rfl) rfl ?_
  refine SPL_ifn (y_geq rfl rfl) rfl ?_ ?_
  · intro h28_1
    refine SPL_y (y_move rfl) rfl ?_
    refine SPL_gn rfl rfl rfl rfl ?_
    refine SPL_gn rfl rfl rfl rfl ?_
    refine SPL_y (y_pick_f rfl rfl) rfl ?_
    refine SPL_nil ?_
    refine thenP_n ?_
    refine SP_cond_f rfl ?_
    refine SP_skip ?_
    refine thenP_n ?_
    refine SP_seq ?_
    refine SP_seq ?_
    refine SP_region ?_
    refine SPL_y (y_move rfl) rfl ?_
    refine SPL_ifn (y_geq rfl rfl) rfl ?_ ?_
    · intro h30_1
      refine SPL_y (y_move rfl) rfl ?_
      refine SPL_gn rfl rfl rfl rfl ?_
      refine SPL_gn rfl rfl rfl rfl ?_
      refine SPL_y (y_pick_f rfl rfl) rfl ?_
      refine SPL_nil ?_
      refine thenP_n ?_
      refine SP_cond_f rfl ?_
      refine SP_skip ?_
      refine thenP_n ?_
      refine SP_seq ?_
      refine SP_region ?_
      refine SPL_y (y_move rfl) rfl ?_
      refine SPL_ifn (y_geq rfl rfl) rfl ?_ ?_
      · intro h32_1
        refine SPL_y (y_move rfl) rfl ?_
        refine SPL_gn rfl rfl rfl rfl ?_
        refine SPL_gn rfl rfl rfl rfl ?_
        refine SPL_y (y_pick_f rfl rfl) rfl ?_
        refine SPL_y (y_assign rfl) rfl ?_
        refine SPL_y (y_assign rfl) rfl ?_
        refine SPL_y (y_assign rfl) rfl ?_
        refine SPL_nil ?_
        refine thenP_n ?_
        refine SP_ret ?_
        refine bodyP_ret (Res3 rfl rfl rfl rfl) (Part.refl _) ?_
        first
          | (exfalso; omega)
          | (refine ⟨?_, rfl⟩
             unfold sigM
             repeat (first | (rw [if_pos (by omega)]; done) | rw [if_neg (by omega)])
             first | done | (rw [show decide (op < 76) = decide (73 ≤ op ∧ op < 76) from decide_eq_decide.2 (by omega)]) | (rw [decide_eq_true (show 73 ≤ op ∧ op < 76 by omega)]) | (rw [decide_eq_false (show ¬ (73 ≤ op ∧ op < 76) by omega)]))
      intro h32_1
      refine SPL_y (y_move rfl) rfl ?_
      refine SPL_gy rfl rfl ?_
      refine SPL_y (y_move rfl) rfl ?_
      refine SPL_gy rfl rfl ?_
      refine SPL_y (y_lss rfl rfl) rfl ?_
      refine SPL_y (y_pick_t rfl rfl) rfl ?_
      refine SPL_y (y_assign rfl) rfl ?_
      refine SPL_y (y_assign rfl) rfl ?_
      refine SPL_y (y_assign rfl) rfl ?_
      refine SPL_nil ?_
      refine thenP_n ?_
      refine SP_ret ?_
      refine bodyP_ret (Res3 rfl rfl rfl rfl) (Part.refl _) ?_
      first
        | (exfalso; omega)
        | (refine ⟨?_, rfl⟩
           unfold sigM
           repeat (first | (rw [if_pos (by omega)]; done) | rw [if_neg (by omega)])
           first | done | (rw [show decide (op < 76) = decide (73 ≤ op ∧ op < 76) from decide_eq_decide.2 (by omega)]) | (rw [decide_eq_true (show 73 ≤ op ∧ op < 76 by omega)]) | (rw [decide_eq_false (show ¬ (73 ≤ op ∧ op < 76) by omega)]))
    intro h30_1
    refine SPL_y (y_move rfl) rfl ?_
    refine SPL_gy rfl rfl ?_
    refine SPL_y (y_move rfl) rfl ?_
    refine SPL_gy rfl rfl ?_
    refine SPL_if (y_lss rfl rfl) rfl ?_ ?_
    · intro h30_4
      refine SPL_y (y_pick_t rfl rfl) rfl ?_
      refine SPL_nil ?_
      refine thenP_n ?_
      refine SP_cond_t rfl ?_
      refine SP_seq ?_
      refine SP_region ?_
      refine SPL_y (y_assign rfl) rfl ?_
      refine SPL_y (y_assign rfl) rfl ?_
      refine SPL_y (y_assign rfl) rfl ?_
      refine SPL_nil ?_
      refine thenP_n ?_
      refine SP_ret ?_
      refine thenP_ret (bodyP_ret (Res3 rfl rfl rfl rfl) (Part.refl _) ?_)
      first
        | (exfalso; omega)
        | (refine ⟨?_, rfl⟩
           unfold sigM
           repeat (first | (rw [if_pos (by omega)]; done) | rw [if_neg (by omega)])
           first | done | (rw [show decide (op < 76) = decide (73 ≤ op ∧ op < 76) from decide_eq_decide.2 (by omega)]) | (rw [decide_eq_true (show 73 ≤ op ∧ op < 76 by omega)]) | (rw [decide_eq_false (show ¬ (73 ≤ op ∧ op < 76) by omega)]))
    intro h30_4
    refine SPL_y (y_pick_t rfl rfl) rfl ?_
    refine SPL_nil ?_
    refine thenP_n ?_
    refine SP_cond_f rfl ?_
    refine SP_skip ?_
    refine thenP_n ?_
    refine SP_seq ?_
    refine SP_region ?_
    refine SPL_y (y_move rfl) rfl ?_
    refine SPL_ifn (y_geq rfl rfl) rfl ?_ ?_
    · intro h32_1
      refine SPL_y (y_move rfl) rfl ?_
      refine SPL_gn rfl rfl rfl rfl ?_
      refine SPL_gn rfl rfl rfl rfl ?_
      refine SPL_y (y_pick_f rfl rfl) rfl ?_
      refine SPL_y (y_assign rfl) rfl ?_
      refine SPL_y (y_assign rfl) rfl ?_
      refine SPL_y (y_assign rfl) rfl ?_
      refine SPL_nil ?_
      refine thenP_n ?_
      refine SP_ret ?_
      refine bodyP_ret (Res3 rfl rfl rfl rfl) (Part.refl _) ?_
      first
        | (exfalso; omega)
        | (refine ⟨?_, rfl⟩
           unfold sigM
           repeat (first | (rw [if_pos (by omega)]; done) | rw [if_neg (by omega)])
           first | done | (rw [show decide (op < 76) = decide (73 ≤ op ∧ op < 76) from decide_eq_decide.2 (by omega)]) | (rw [decide_eq_true (show 73 ≤ op ∧ op < 76 by omega)]) | (rw [decide_eq_false (show ¬ (73 ≤ op ∧ op < 76) by omega)]))
    intro h32_1
    refine SPL_y (y_move rfl) rfl ?_
    refine SPL_gy rfl rfl ?_
    refine SPL_y (y_move rfl) rfl ?_
    refine SPL_gy rfl rfl ?_
    refine SPL_y (y_lss rfl rfl) rfl ?_
    refine SPL_y (y_pick_t rfl rfl) rfl ?_
    refine SPL_y (y_assign rfl) rfl ?_
    refine SPL_y (y_assign rfl) rfl ?_
    refine SPL_y (y_assign rfl) rfl ?_
    refine SPL_nil ?_
    refine thenP_n ?_
    refine SP_ret ?_
    refine bodyP_ret (Res3 rfl rfl rfl rfl) (Part.refl _) ?_
    first
      | (exfalso; omega)
      | (refine ⟨?_, rfl⟩
         unfold sigM
         repeat (first | (rw [if_pos (by omega)]; done) | rw [if_neg (by omega)])
         first | done | (rw [show decide (op < 76) = decide (73 ≤ op ∧ op < 76) from decide_eq_decide.2 (by omega)]) | (rw [decide_eq_true (show 73 ≤ op ∧ op < 76 by omega)]) | (rw [decide_eq_false (show ¬ (73 ≤ op ∧ op < 76) by omega)]))
  intro h28_1
  refine SPL_y (y_move rfl) rfl ?_
  refine SPL_gy rfl rfl ?_
  refine SPL_y (y_move rfl) rfl ?_
  refine SPL_gy rfl rfl ?_
  refine SPL_if (y_lss rfl rfl) rfl ?_ ?_
  · intro h28_4
    refine SPL_y (y_pick_t rfl rfl) rfl ?_
    refine SPL_nil ?_
    refine thenP_n ?_
    refine SP_cond_t rfl ?_
    refine SP_seq ?_
    refine SP_region ?_
    refine SPL_y (y_assign rfl) rfl ?_
    refine SPL_y (y_assign rfl) rfl ?_
    refine SPL_y (y_assign rfl) rfl ?_
    refine SPL_nil ?_
    refine thenP_n ?_
    refine SP_ret ?_
    refine thenP_ret (bodyP_ret (Res3 rfl rfl rfl rfl) (Part.refl _) ?_)
    first
      | (exfalso; omega)
      | (refine ⟨?_, rfl⟩
         unfold sigM
         repeat (first | (rw [if_pos (by omega)]; done) | rw [if_neg (by omega)])
         first | done | (rw [show decide (op < 76) = decide (73 ≤ op ∧ op < 76) from decide_eq_decide.2 (by omega)]) | (rw [decide_eq_true (show 73 ≤ op ∧ op < 76 by omega)]) | (rw [decide_eq_false (show ¬ (73 ≤ op ∧ op < 76) by omega)]))
  intro h28_4
  refine SPL_y (y_pick_t rfl rfl) rfl ?_
  refine SPL_nil ?_
  refine thenP_n ?_
  refine SP_cond_f rfl ?_
  refine SP_skip ?_
  refine thenP_n ?_
  refine SP_seq ?_
  refine SP_seq ?_
  refine SP_region ?_
  refine SPL_y (y_move rfl) rfl ?_
  refine SPL_ifn (y_geq rfl rfl) rfl ?_ ?_
  · intro h30_1
    refine SPL_y (y_move rfl) rfl ?_
    refine SPL_gn rfl rfl rfl rfl ?_
    refine SPL_gn rfl rfl rfl rfl ?_
    refine SPL_y (y_pick_f rfl rfl) rfl ?_
    refine SPL_nil ?_
    refine thenP_n ?_
    refine SP_cond_f rfl ?_
    refine SP_skip ?_
    refine thenP_n ?_
    refine SP_seq ?_
    refine SP_region ?_
    refine SPL_y (y_move rfl) rfl ?_
    refine SPL_ifn (y_geq rfl rfl) rfl ?_ ?_
    · intro h32_1
      refine SPL_y (y_move rfl) rfl ?_
      refine SPL_gn rfl rfl rfl rfl ?_
      refine SPL_gn rfl rfl rfl rfl ?_
      refine SPL_y (y_pick_f rfl rfl) rfl ?_
      refine SPL_y (y_assign rfl) rfl ?_
      refine SPL_y (y_assign rfl) rfl ?_
      refine SPL_y (y_assign rfl) rfl ?_
      refine SPL_nil ?_
      refine thenP_n ?_
      refine SP_ret ?_
      refine bodyP_ret (Res3 rfl rfl rfl rfl) (Part.refl _) ?_
      first
        | (exfalso; omega)
        | (refine ⟨?_, rfl⟩
           unfold sigM
           repeat (first | (rw [if_pos (by omega)]; done) | rw [if_neg (by omega)])
           first | done | (rw [show decide (op < 76) = decide (73 ≤ op ∧ op < 76) from decide_eq_decide.2 (by omega)]) | (rw [decide_eq_true (show 73 ≤ op ∧ op < 76 by omega)]) | (rw [decide_eq_false (show ¬ (73 ≤ op ∧ op < 76) by omega)]))
    intro h32_1
    refine SPL_y (y_move rfl) rfl ?_
    refine SPL_gy rfl rfl ?_
    refine SPL_y (y_move rfl) rfl ?_
    refine SPL_gy rfl rfl ?_
    refine SPL_y (y_lss rfl rfl) rfl ?_
    refine SPL_y (y_pick_t rfl rfl) rfl ?_
    refine SPL_y (y_assign rfl) rfl ?_
    refine SPL_y (y_assign rfl) rfl ?_
    refine SPL_y (y_assign rfl) rfl ?_
    refine SPL_nil ?_
    refine thenP_n ?_
    refine SP_ret ?_
    refine bodyP_ret (Res3 rfl rfl rfl rfl) (Part.refl _) ?_
    first
      | (exfalso; omega)
      | (refine ⟨?_, rfl⟩
         unfold sigM
         repeat (first | (rw [if_pos (by omega)]; done) | rw [if_neg (by omega)])
         first | done | (rw [show decide (op < 76) = decide (73 ≤ op ∧ op < 76) from decide_eq_decide.2 (by omega)]) | (rw [decide_eq_true (show 73 ≤ op ∧ op < 76 by omega)]) | (rw [decide_eq_false (show ¬ (73 ≤ op ∧ op < 76) by omega)]))
  intro h30_1
  refine SPL_y (y_move rfl) rfl ?_
  refine SPL_gy rfl rfl ?_
  refine SPL_y (y_move rfl) rfl ?_
  refine SPL_gy rfl rfl ?_
  refine SPL_if (y_lss rfl rfl) rfl ?_ ?_
  · intro h30_4
    refine SPL_y (y_pick_t rfl rfl) rfl ?_
    refine SPL_nil ?_
    refine thenP_n ?_
    refine SP_cond_t rfl ?_
    refine SP_seq ?_
    refine SP_region ?_
    refine SPL_y (y_assign rfl) rfl ?_
    refine SPL_y (y_assign rfl) rfl ?_
    refine SPL_y (y_assign rfl) rfl ?_
    refine SPL_nil ?_
    refine thenP_n ?_
    refine SP_ret ?_
    refine thenP_ret (bodyP_ret (Res3 rfl rfl rfl rfl) (Part.refl _) ?_)
    first
      | (exfalso; omega)
      | (refine ⟨?_, rfl⟩
         unfold sigM
         repeat (first | (rw [if_pos (by omega)]; done) | rw [if_neg (by omega)])
         first | done | (rw [show decide (op < 76) = decide (73 ≤ op ∧ op < 76) from decide_eq_decide.2 (by omega)]) | (rw [decide_eq_true (show 73 ≤ op ∧ op < 76 by omega)]) | (rw [decide_eq_false (show ¬ (73 ≤ op ∧ op < 76) by omega)]))
  intro h30_4
  refine SPL_y (y_pick_t rfl rfl) rfl ?_
  refine SPL_nil ?_
  refine thenP_n ?_
  refine SP_cond_f rfl ?_
  refine SP_skip ?_
  refine thenP_n ?_
  refine SP_seq ?_
  refine SP_region ?_
  refine SPL_y (y_move rfl) rfl ?_
  refine SPL_ifn (y_geq rfl rfl) rfl ?_ ?_
  · intro h32_1
    refine SPL_y (y_move rfl) rfl ?_
    refine SPL_gn rfl rfl rfl rfl ?_
    refine SPL_gn rfl rfl rfl rfl ?_
    refine SPL_y (y_pick_f rfl rfl) rfl ?_
    refine SPL_y (y_assign rfl) rfl ?_
    refine SPL_y (y_assign rfl) rfl ?_
    refine SPL_y (y_assign rfl) rfl ?_
    refine SPL_nil ?_
    refine thenP_n ?_
    refine SP_ret ?_
    refine bodyP_ret (Res3 rfl rfl rfl rfl) (Part.refl _) ?_
    first
      | (exfalso; omega)
      | (refine ⟨?_, rfl⟩
         unfold sigM
         repeat (first | (rw [if_pos (by omega)]; done) | rw [if_neg (by omega)])
         first | done | (rw [show decide (op < 76) = decide (73 ≤ op ∧ op < 76) from decide_eq_decide.2 (by omega)]) | (rw [decide_eq_true (show 73 ≤ op ∧ op < 76 by omega)]) | (rw [decide_eq_false (show ¬ (73 ≤ op ∧ op < 76) by omega)]))
  intro h32_1
  refine SPL_y (y_move rfl) rfl ?_
  refine SPL_gy rfl rfl ?_
  refine SPL_y (y_move rfl) rfl ?_
  refine SPL_gy rfl rfl ?_
  refine SPL_y (y_lss rfl rfl) rfl ?_
  refine SPL_y (y_pick_t rfl rfl) rfl ?_
  refine SPL_y (y_assign rfl) rfl ?_
  refine SPL_y (y_assign rfl) rfl ?_
  refine SPL_y (y_assign rfl) rfl ?_
  refine SPL_nil ?_
  refine thenP_n ?_
  refine SP_ret ?_
  refine bodyP_ret (Res3 rfl rfl rfl rfl) (Part.refl _) ?_
  first
    | (exfalso; omega)
    | (refine ⟨?_, rfl⟩
       unfold sigM
       repeat (first | (rw [if_pos (by omega)]; done) | rw [if_neg (by omega)])
       first | done | (rw [show decide (op < 76) = decide (73 ≤ op ∧ op < 76) from decide_eq_decide.2 (by omega)]) | (rw [decide_eq_true (show 73 ≤ op ∧ op < 76 by omega)]) | (rw [decide_eq_false (show ¬ (73 ≤ op ∧ op < 76) by omega)]))

end Go.Sl
