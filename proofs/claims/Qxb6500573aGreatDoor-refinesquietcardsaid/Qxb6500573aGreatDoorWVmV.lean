/- Walks: package vm, return and unwind (made by program out of short notes) -/
import Derived.Test.Qxb6500573aGreatDoorBE
import Derived.Test.Qxb6500573aGreatDoorWVmM
namespace Go.Sl
open Go Go.Wl Go.Proofs
set_option maxRecDepth 100000
set_option linter.unusedVariables false
set_option linter.unusedSimpArgs false
theorem rd_take_bad (rb lb cap : Nat) (sp : List Value × (Nat × Nat)) (r : Rd) (hr : rdOk cap r) (hb : r.bad = true) (n : Nat) (hn : n ≤ 1000000) : Spec Tryz.prog 206 [pt rb, I n] [rdSeg rb lb cap sp r] (Ret fun v H => v = tkV lb cap r n ∧ H = [rdSeg rb lb cap sp (tkR r n)]) := by
  obtain ⟨l, i, bad⟩ := r
  dsimp only at hb
  subst hb
  obtain ⟨h1, h2, h3⟩ := hr
  dsimp only at h1 h2 h3
  unfold rdSeg rdB
  dsimp only
  refine Spec_openAt [blk rb 248 [.slice (some ⟨lb, 0, none⟩) l.length cap, I (i : Nat), .bool true], blkF lb 5 (bytesV l ++ sp.1) sp.2] (by first | exact P0 | exact P1 | exact P2 | exact P3 | exact P4 | exact P5 | exact P6 | exact P7 | exact P8 | exact P9 | exact P10 | exact P11 | exact P12 | exact P13 | exact P14 | exact P15 | exact P16 | exact P17 | exact P18 | exact P19 | exact P20 | exact P21 | exact P22 | exact P23) ?_
  simp only [List.cons_append, List.nil_append]
  refine Spec_enter Tryz.func206 rfl Tryz.ntmps206 rfl ?_
  show SP _ _ _ _ _ [(0, _), (1, _)] _
  refine SP_seq ?_
  refine SP_region ?_
  refine SPL_y (y_assign rfl) rfl ?_
  refine SPL_nil ?_
  refine thenP_n ?_
  refine SP_seq ?_
  refine SP_seq ?_
  refine SP_draw 999 [(0, 0), (1, 0), (2, 0), (3, 1), (4, 0), (5, 0), (6, 0), (7, 0), (8, 0), (11, 0), (12, 0), (13, 0), (9, 1), (10, 0), (14, 1), (15, 0), (16, 0), (17, 0)] mixed (by kernel_rfl) (fun _ _ _ _ _ h => h) (Part.refl _) ?_
  refine SPO_p rfl (y_move rfl) rfl ?_
  refine SPO_p rfl (y_nil rfl) rfl ?_
  refine SPO_p rfl (y_fa fld_248_2 rfl) rfl ?_
  refine SPO_h rfl (y_load Tryz.isAgg4 rfl (by repeat (first | exact Cell.amid hpre rfl | exact Cell.head rfl | apply Cell.tail))) rfl ?_
  refine SPO_p rfl (y_move rfl) rfl ?_
  refine SPO_gn (.inl rfl) rfl rfl rfl rfl rfl ?_
  refine SPO_gn (.inl rfl) rfl rfl rfl rfl rfl ?_
  refine SPO_gn (.inl rfl) rfl rfl rfl rfl rfl ?_
  refine SPO_gn (.inl rfl) rfl rfl rfl rfl rfl ?_
  refine SPO_gn (.inl rfl) rfl rfl rfl rfl rfl ?_
  refine SPO_gn (.inl rfl) rfl rfl rfl rfl rfl ?_
  refine SPO_gn (.inl rfl) rfl rfl rfl rfl rfl ?_
  refine SPO_gn (.inr rfl) rfl rfl rfl rfl rfl ?_
  refine SPO_gn (.inl rfl) rfl rfl rfl rfl rfl ?_
  refine SPO_gn (.inr rfl) rfl rfl rfl rfl rfl ?_
  refine SPO_gn (.inl rfl) rfl rfl rfl rfl rfl ?_
  refine SPO_gn (.inl rfl) rfl rfl rfl rfl rfl ?_
  refine SPO_p rfl (y_pick_t rfl rfl) rfl ?_
  refine SPO_nil ?_
  refine thenP_n ?_
  refine SP_cond_t rfl ?_
  refine SP_seq ?_
  refine SP_region ?_
  refine SPL_y (y_move rfl) rfl ?_
  refine SPL_y (y_nil rfl) rfl ?_
  refine SPL_y (y_fa fld_248_2 rfl) rfl ?_
  refine SPL_one rfl (SP1_store Tryz.sizeOf4 rfl rfl rfl (by first | exact U0 | exact U1 | exact U2 | exact U3 | exact U4 | exact U5 | exact U6 | exact U7 | exact U8 | exact U9 | exact U10 | exact U11 | exact U12 | exact U13 | exact U14 | exact U15 | exact U16 | exact U17 | exact U18 | exact U19 | exact U20 | exact U21 | exact U22 | exact U23) (by rfl) ?_)
  refine SPL_nil ?_
  refine thenP_n ?_
  refine SP_seq ?_
  refine SP_region ?_
  refine SPL_y (y_assign rfl) rfl ?_
  refine SPL_nil ?_
  refine thenP_n ?_
  refine SP_ret ?_
  refine thenP_ret (bodyP_ret (H' := [List.flatten [blk rb 248 [.slice (some ⟨lb, 0, none⟩) l.length cap, I (i : Nat), .bool true], blkF lb 5 (bytesV l ++ sp.1) sp.2]]) (Res1 rfl rfl) (by repeat (first | exact Part.nil _ | (apply Part.cons; with_reducible (first | exact P0 | exact P1 | exact P2 | exact P3 | exact P4 | exact P5 | exact P6 | exact P7 | exact P8 | exact P9 | exact P10 | exact P11 | exact P12 | exact P13 | exact P14 | exact P15 | exact P16 | exact P17 | exact P18 | exact P19 | exact P20 | exact P21 | exact P22 | exact P23)) | (apply Part.flat; simp only [List.cons_append, List.nil_append]) | (apply Part.cons; (first | exact P0 | exact P1 | exact P2 | exact P3 | exact P4 | exact P5 | exact P6 | exact P7 | exact P8 | exact P9 | exact P10 | exact P11 | exact P12 | exact P13 | exact P14 | exact P15 | exact P16 | exact P17 | exact P18 | exact P19 | exact P20 | exact P21 | exact P22 | exact P23)) | (apply Part.nilc))) ?_)
  exact ⟨rfl, rfl⟩

theorem rd_take_ok (rb lb cap : Nat) (sp : List Value × (Nat × Nat)) (r : Rd) (hr : rdOk cap r) (hb : r.bad = false) (n : Nat) (hn : n ≤ 1000000) : Spec Tryz.prog 206 [pt rb, I n] [rdSeg rb lb cap sp r] (Ret fun v H => v = tkV lb cap r n ∧ H = [rdSeg rb lb cap sp (tkR r n)]) := by
  obtain ⟨l, i, bad⟩ := r
  dsimp only at hb
  subst hb
  obtain ⟨h1, h2, h3⟩ := hr
  dsimp only at h1 h2 h3
  unfold rdSeg rdB
  dsimp only
  refine Spec_openAt [blk rb 248 [.slice (some ⟨lb, 0, none⟩) l.length cap, I (i : Nat), .bool false], blkF lb 5 (bytesV l ++ sp.1) sp.2] (by first | exact P0 | exact P1 | exact P2 | exact P3 | exact P4 | exact P5 | exact P6 | exact P7 | exact P8 | exact P9 | exact P10 | exact P11 | exact P12 | exact P13 | exact P14 | exact P15 | exact P16 | exact P17 | exact P18 | exact P19 | exact P20 | exact P21 | exact P22 | exact P23) ?_
  simp only [List.cons_append, List.nil_append]
  refine Spec_enter Tryz.func206 rfl Tryz.ntmps206 rfl ?_
  show SP _ _ _ _ _ [(0, _), (1, _)] _
  refine SP_seq ?_
  refine SP_region ?_
  refine SPL_y (y_assign rfl) rfl ?_
  refine SPL_nil ?_
  refine thenP_n ?_
  refine SP_seq ?_
  refine SP_seq ?_
  refine SP_draw 999 [(0, 0), (1, 0), (2, 0), (3, 1), (4, 0), (5, 0), (6, 0), (7, 0), (8, 0), (11, 0), (12, 0), (13, 0), (9, 1), (10, 0), (14, 1), (15, 0), (16, 0), (17, 0)] mixed (by kernel_rfl) (fun _ _ _ _ _ h => h) (Part.refl _) ?_
  refine SPO_p rfl (y_move rfl) rfl ?_
  refine SPO_p rfl (y_nil rfl) rfl ?_
  refine SPO_p rfl (y_fa fld_248_2 rfl) rfl ?_
  refine SPO_h rfl (y_load Tryz.isAgg4 rfl (by repeat (first | exact Cell.amid hpre rfl | exact Cell.head rfl | apply Cell.tail))) rfl ?_
  refine SPO_p rfl (y_move rfl) rfl ?_
  refine SPO_py rfl rfl rfl (y_move rfl) rfl ?_
  refine SPO_py rfl rfl rfl (y_move rfl) rfl ?_
  refine SPO_py rfl rfl rfl (y_nil rfl) rfl ?_
  refine SPO_py rfl rfl rfl (y_fa fld_248_0 rfl) rfl ?_
  refine SPO_py rfl rfl rfl (y_move rfl) rfl ?_
  refine SPO_py rfl rfl rfl (y_nil rfl) rfl ?_
  refine SPO_py rfl rfl rfl (y_fa fld_248_1 rfl) rfl ?_
  refine SPO_hy rfl rfl rfl (y_load Tryz.isAgg67 rfl (by repeat (first | exact Cell.amid hpre rfl | exact Cell.head rfl | apply Cell.tail))) rfl ?_
  refine SPO_py rfl rfl rfl (y_len_l Tryz.underlying67 rfl) rfl ?_
  refine SPO_hy rfl rfl rfl (y_load Tryz.isAgg3 rfl (by repeat (first | exact Cell.amid hpre rfl | exact Cell.head rfl | apply Cell.tail))) rfl ?_
  refine SPO_py rfl rfl rfl (y_sub rfl rfl (by omega)) rfl ?_
  refine SPO_pyif rfl rfl rfl (y_gtr rfl rfl) rfl ?_ ?_
  · intro h1_16
    refine SPO_p rfl (y_pick_f rfl rfl) rfl ?_
    refine SPO_nil ?_
    refine thenP_n ?_
    refine SP_cond_t rfl ?_
    refine SP_seq ?_
    refine SP_region ?_
    refine SPL_y (y_move rfl) rfl ?_
    refine SPL_y (y_nil rfl) rfl ?_
    refine SPL_y (y_fa fld_248_2 rfl) rfl ?_
    refine SPL_one rfl (SP1_store Tryz.sizeOf4 rfl rfl rfl (by first | exact U0 | exact U1 | exact U2 | exact U3 | exact U4 | exact U5 | exact U6 | exact U7 | exact U8 | exact U9 | exact U10 | exact U11 | exact U12 | exact U13 | exact U14 | exact U15 | exact U16 | exact U17 | exact U18 | exact U19 | exact U20 | exact U21 | exact U22 | exact U23) (by rfl) ?_)
    refine SPL_nil ?_
    refine thenP_n ?_
    refine SP_seq ?_
    refine SP_region ?_
    refine SPL_y (y_assign rfl) rfl ?_
    refine SPL_nil ?_
    refine thenP_n ?_
    refine SP_ret ?_
    refine thenP_ret (bodyP_ret (H' := [List.flatten [blk rb 248 [.slice (some ⟨lb, 0, none⟩) l.length cap, I (i : Nat), .bool true], blkF lb 5 (bytesV l ++ sp.1) sp.2]]) (Res1 rfl rfl) (by repeat (first | exact Part.nil _ | (apply Part.cons; with_reducible (first | exact P0 | exact P1 | exact P2 | exact P3 | exact P4 | exact P5 | exact P6 | exact P7 | exact P8 | exact P9 | exact P10 | exact P11 | exact P12 | exact P13 | exact P14 | exact P15 | exact P16 | exact P17 | exact P18 | exact P19 | exact P20 | exact P21 | exact P22 | exact P23)) | (apply Part.flat; simp only [List.cons_append, List.nil_append]) | (apply Part.cons; (first | exact P0 | exact P1 | exact P2 | exact P3 | exact P4 | exact P5 | exact P6 | exact P7 | exact P8 | exact P9 | exact P10 | exact P11 | exact P12 | exact P13 | exact P14 | exact P15 | exact P16 | exact P17 | exact P18 | exact P19 | exact P20 | exact P21 | exact P22 | exact P23)) | (apply Part.nilc))) ?_)
    have k1 : tkV lb cap ⟨l, i, false⟩ n = .slice none 0 0 := by
      unfold tkV
      dsimp only
      rw [if_neg (by decide), if_neg (show ¬ ((n : Int) ≤ (l.length : Int) - (i : Nat)) from by omega)]
    have k2 : tkR ⟨l, i, false⟩ n = ⟨l, i, true⟩ := by
      unfold tkR
      dsimp only
      rw [if_neg (by decide), if_neg (show ¬ ((n : Int) ≤ (l.length : Int) - (i : Nat)) from by omega)]
    exact ⟨k1.symm, by simp only [k2]⟩
  intro h1_16
  refine SPO_p rfl (y_pick_f rfl rfl) rfl ?_
  refine SPO_nil ?_
  refine thenP_n ?_
  refine SP_cond_f rfl ?_
  refine SP_skip ?_
  refine thenP_n ?_
  refine SP_seq ?_
  refine SP_draw 999 [(0, 0), (1, 0), (2, 0), (4, 0), (5, 0), (6, 0), (8, 0), (9, 0), (10, 0), (12, 0), (3, 1), (7, 1), (11, 1), (13, 0), (14, 0), (15, 0)] mixed (by kernel_rfl) (fun _ _ _ _ _ h => h) (Part.refl _) ?_
  refine SPO_p rfl (y_move rfl) rfl ?_
  refine SPO_p rfl (y_nil rfl) rfl ?_
  refine SPO_p rfl (y_fa fld_248_0 rfl) rfl ?_
  refine SPO_p rfl (y_move rfl) rfl ?_
  refine SPO_p rfl (y_nil rfl) rfl ?_
  refine SPO_p rfl (y_fa fld_248_1 rfl) rfl ?_
  refine SPO_p rfl (y_move rfl) rfl ?_
  refine SPO_p rfl (y_nil rfl) rfl ?_
  refine SPO_p rfl (y_fa fld_248_1 rfl) rfl ?_
  refine SPO_p rfl (y_move rfl) rfl ?_
  refine SPO_h rfl (y_load Tryz.isAgg67 rfl (by repeat (first | exact Cell.amid hpre rfl | exact Cell.head rfl | apply Cell.tail))) rfl ?_
  refine SPO_h rfl (y_load Tryz.isAgg3 rfl (by repeat (first | exact Cell.amid hpre rfl | exact Cell.head rfl | apply Cell.tail))) rfl ?_
  refine SPO_h rfl (y_load Tryz.isAgg3 rfl (by repeat (first | exact Cell.amid hpre rfl | exact Cell.head rfl | apply Cell.tail))) rfl ?_
  refine SPO_p rfl (y_add rfl rfl (by omega)) rfl ?_
  refine SPO_p rfl (y_win (a := some ⟨lb, 0, none⟩) (.inr ⟨lb, 0, rfl⟩) Tryz.underlying67 Tryz.sizeOf5 rfl rfl rfl (by omega)) rfl ?_
  rw [show (i : Int).toNat = i from Int.toNat_natCast i, show ((i : Int) + n).toNat - i = n from by omega]
  refine SPO_p rfl (y_assign rfl) rfl ?_
  refine SPO_nil ?_
  refine thenP_n ?_
  refine SP_seq ?_
  refine SP_region ?_
  refine SPL_y (y_move rfl) rfl ?_
  refine SPL_y (y_nil rfl) rfl ?_
  refine SPL_y (y_fa fld_248_1 rfl) rfl ?_
  refine SPL_y (y_load Tryz.isAgg3 rfl (by repeat (first | exact Cell.amid hpre rfl | exact Cell.head rfl | apply Cell.tail))) rfl ?_
  refine SPL_y (y_move rfl) rfl ?_
  refine SPL_y (y_add rfl rfl (by omega)) rfl ?_
  rw [show (i : Int) + n = ((i + n : Nat) : Int) from by omega]
  refine SPL_y (y_nil rfl) rfl ?_
  refine SPL_y (y_fa fld_248_1 rfl) rfl ?_
  refine SPL_one rfl (SP1_store Tryz.sizeOf3 rfl rfl rfl (by first | exact U0 | exact U1 | exact U2 | exact U3 | exact U4 | exact U5 | exact U6 | exact U7 | exact U8 | exact U9 | exact U10 | exact U11 | exact U12 | exact U13 | exact U14 | exact U15 | exact U16 | exact U17 | exact U18 | exact U19 | exact U20 | exact U21 | exact U22 | exact U23) (by rfl) ?_)
  refine SPL_nil ?_
  refine thenP_n ?_
  refine SP_seq ?_
  refine SP_region ?_
  refine SPL_y (y_move rfl) rfl ?_
  refine SPL_y (y_assign rfl) rfl ?_
  refine SPL_nil ?_
  refine thenP_n ?_
  refine SP_ret ?_
  refine bodyP_ret (H' := [List.flatten [blk rb 248 [.slice (some ⟨lb, 0, none⟩) l.length cap, I (i + n : Nat), .bool false], blkF lb 5 (bytesV l ++ sp.1) sp.2]]) (Res1 rfl rfl) (by repeat (first | exact Part.nil _ | (apply Part.cons; with_reducible (first | exact P0 | exact P1 | exact P2 | exact P3 | exact P4 | exact P5 | exact P6 | exact P7 | exact P8 | exact P9 | exact P10 | exact P11 | exact P12 | exact P13 | exact P14 | exact P15 | exact P16 | exact P17 | exact P18 | exact P19 | exact P20 | exact P21 | exact P22 | exact P23)) | (apply Part.flat; simp only [List.cons_append, List.nil_append]) | (apply Part.cons; (first | exact P0 | exact P1 | exact P2 | exact P3 | exact P4 | exact P5 | exact P6 | exact P7 | exact P8 | exact P9 | exact P10 | exact P11 | exact P12 | exact P13 | exact P14 | exact P15 | exact P16 | exact P17 | exact P18 | exact P19 | exact P20 | exact P21 | exact P22 | exact P23)) | (apply Part.nilc))) ?_
  have k1 : tkV lb cap ⟨l, i, false⟩ n = .slice (winA (some ⟨lb, 0, none⟩) 1 cap i) n (cap - i) := by
    unfold tkV
    dsimp only
    rw [if_neg (by decide), if_pos (show (n : Int) ≤ (l.length : Int) - (i : Nat) from by omega)]
  have k2 : tkR ⟨l, i, false⟩ n = ⟨l, i + n, false⟩ := by
    unfold tkR
    dsimp only
    rw [if_neg (by decide), if_pos (show (n : Int) ≤ (l.length : Int) - (i : Nat) from by omega)]
  exact ⟨k1.symm, by simp only [k2]⟩

theorem rd_take (rb lb cap : Nat) (sp : List Value × (Nat × Nat)) (r : Rd) (hr : rdOk cap r) (n : Nat) (hn : n ≤ 1000000) : Spec Tryz.prog 206 [pt rb, I n] [rdSeg rb lb cap sp r] (Ret fun v H => v = tkV lb cap r n ∧ H = [rdSeg rb lb cap sp (tkR r n)]) := by
  cases hb : r.bad with
  | true => exact rd_take_bad rb lb cap sp r hr hb n hn
  | false => exact rd_take_ok rb lb cap sp r hr hb n hn
end Go.Sl
