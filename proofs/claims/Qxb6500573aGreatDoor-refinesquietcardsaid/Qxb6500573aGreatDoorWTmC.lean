/- Walks: package tablem, Next, Len, Make, Reset, New (made by program out of short notes) -/
import Derived.Test.Qxb6500573aGreatDoorWTmB
import Derived.Test.Qxb6500573aGreatDoorSlRt
namespace Go.Sl
open Go Go.Wl Go.Proofs
open Go.Nm
set_option maxRecDepth 100000
set_option linter.unusedVariables false
set_option linter.unusedSimpArgs false
theorem tm_Next (b nb : Nat) (ts : List Row) (s : Seg) (hts : isTm b nb ts s) (j : Nat) (hj : j < ts.length) (htl : ts.length ≤ 1000) (hrl : ts[j].length ≤ 1000) (k : V) (hk : 0 ≤ k.n ∧ k.n < 18446744073709551616) : Spec Tryz.prog 108 [.pointer (some ⟨b, 0, none⟩), I j, .agg (valV k).toArray] [s] (Ret fun v H => v = .tuple #[.agg (valV (nextW ts j k).1).toArray, .agg (valV (nextW ts j k).2.1).toArray, I (nextW ts j k).2.2] ∧ H = [s]) := by
  have hts0 := hts
  obtain ⟨tb, tc, c0, c2, ra, rc, s0, si, s2, rfl, hpre, hA, hput⟩ := isTm_open hts hj
  refine Spec_openAt [blk b 134 [.pointer (some ⟨nb, 0, none⟩), .slice (some ⟨tb, 0, none⟩) ts.length tc], blk tb 200 (c0 ++ [Value.slice ra ts[j].length rc] ++ c2), s0, si, s2] (by first | exact P0 | exact P1 | exact P2 | exact P3 | exact P4 | exact P5 | exact P6 | exact P7 | exact P8 | exact P9 | exact P10 | exact P11 | exact P12 | exact P13 | exact P14 | exact P15 | exact P16 | exact P17 | exact P18 | exact P19 | exact P20 | exact P21 | exact P22 | exact P23) ?_
  simp only [List.cons_append, List.nil_append]
  have hgd := getD_at hj
  obtain ⟨kt, kn, ks⟩ := k
  obtain ⟨km, rfl⟩ : ∃ m : Nat, kn = m := ⟨kn.toNat, by dsimp only at hk; omega⟩
  dsimp only [valV] at hk ⊢
  refine Spec_enter Tryz.func108 rfl Tryz.ntmps108 rfl ?_
  show SP _ _ _ _ _ [(0, _), (1, _), (2, _)] _
  refine SP_seq ?_
  refine SP_region ?_
  refine SPL_one rfl (SP1_box rfl rfl rfl ?_)
  intro b5
  refine SPL_one rfl (SP1_alloc Tryz.zeroValue42 rfl rfl ?_)
  intro b6
  refine SPL_one rfl (SP1_alloc Tryz.zeroValue42 rfl rfl ?_)
  intro b7
  refine SPL_y (y_assign rfl) rfl ?_
  refine SPL_nil ?_
  refine thenP_n ?_
  refine SP_seq ?_
  refine SP_seq ?_
  refine SP_region ?_
  refine SPL_y (y_move rfl) rfl ?_
  refine SPL_if (y_lss rfl rfl) rfl ?_ ?_
  · intro h1_1
    omega
  intro h1_1
  refine SPL_y (y_move rfl) rfl ?_
  refine SPL_gy rfl rfl ?_
  refine SPL_y (y_move rfl) rfl ?_
  refine SPL_gy rfl rfl ?_
  refine SPL_y (y_move rfl) rfl ?_
  refine SPL_gy rfl rfl ?_
  refine SPL_y (y_nil rfl) rfl ?_
  refine SPL_gy rfl rfl ?_
  refine SPL_y (y_fa fld_134_1 rfl) rfl ?_
  refine SPL_gy rfl rfl ?_
  refine SPL_y (y_load Tryz.isAgg132 rfl (by repeat (first | exact Cell.amid hpre rfl | exact Cell.head rfl | apply Cell.tail))) rfl ?_
  refine SPL_gy rfl rfl ?_
  refine SPL_y (y_len_l Tryz.underlying132 rfl) rfl ?_
  refine SPL_gy rfl rfl ?_
  refine SPL_if (y_geq rfl rfl) rfl ?_ ?_
  · intro h1_9
    omega
  intro h1_9
  refine SPL_y (y_pick_f rfl rfl) rfl ?_
  refine SPL_nil ?_
  refine thenP_n ?_
  refine SP_cond_f rfl ?_
  refine SP_skip ?_
  refine thenP_n ?_
  refine SP_seq ?_
  refine SP_seq ?_
  refine SP_region ?_
  refine SPL_y (y_loads Tryz.isAgg42 Tryz.sizeOf42 rfl rfl (by repeat (first | exact Cells.all _ | exact Cells.amid hpre rfl (by decide) | exact Cells.head rfl | apply Cells.tail))) rfl ?_
  refine SPL_one rfl (SP1_call (api_WellFormed ⟨kt, km, ks⟩) Tryz.call91 rfl rfl (by repeat (first | exact Part.nil _ | (apply Part.cons; with_reducible (first | exact P0 | exact P1 | exact P2 | exact P3 | exact P4 | exact P5 | exact P6 | exact P7 | exact P8 | exact P9 | exact P10 | exact P11 | exact P12 | exact P13 | exact P14 | exact P15 | exact P16 | exact P17 | exact P18 | exact P19 | exact P20 | exact P21 | exact P22 | exact P23)) | (apply Part.flat; simp only [List.cons_append, List.nil_append]) | (apply Part.cons; (first | exact P0 | exact P1 | exact P2 | exact P3 | exact P4 | exact P5 | exact P6 | exact P7 | exact P8 | exact P9 | exact P10 | exact P11 | exact P12 | exact P13 | exact P14 | exact P15 | exact P16 | exact P17 | exact P18 | exact P19 | exact P20 | exact P21 | exact P22 | exact P23)) | (apply Part.nilc))) ?_)
  rintro v post H' ⟨rfl, rfl⟩ hH
  try simp only [List.cons_append, List.nil_append] at hH
  subst hH
  generalize hw : well ⟨kt, km, ks⟩ = w
  rcases w with _ | _
  · refine SPL_y (y_not_f rfl) rfl ?_
    refine SPL_nil ?_
    refine thenP_n ?_
    refine SP_cond_t rfl ?_
    refine SP_seq ?_
    refine SP_region ?_
    refine SPL_y (y_build B42 rfl rfl (by simp only [fillL, List.foldl_cons, List.foldl_nil, List.set_cons_zero, List.set_cons_succ]; exact rfl)) rfl ?_
    refine SPL_y (y_build B42 rfl rfl (by simp only [fillL, List.foldl_cons, List.foldl_nil, List.set_cons_zero, List.set_cons_succ]; exact rfl)) rfl ?_
    refine SPL_one rfl (SP1_storeAll Tryz.sizeOf42 rfl rfl rfl rfl rfl (by first | exact U0 | exact U1 | exact U2 | exact U3 | exact U4 | exact U5 | exact U6 | exact U7 | exact U8 | exact U9 | exact U10 | exact U11 | exact U12 | exact U13 | exact U14 | exact U15 | exact U16 | exact U17 | exact U18 | exact U19 | exact U20 | exact U21 | exact U22 | exact U23) (by rfl) ?_)
    refine SPL_one rfl (SP1_storeAll Tryz.sizeOf42 rfl rfl rfl rfl rfl (by first | exact U0 | exact U1 | exact U2 | exact U3 | exact U4 | exact U5 | exact U6 | exact U7 | exact U8 | exact U9 | exact U10 | exact U11 | exact U12 | exact U13 | exact U14 | exact U15 | exact U16 | exact U17 | exact U18 | exact U19 | exact U20 | exact U21 | exact U22 | exact U23) (by rfl) ?_)
    refine SPL_y (y_assign rfl) rfl ?_
    refine SPL_nil ?_
    refine thenP_n ?_
    refine SP_ret ?_
    refine thenP_ret (bodyP_ret (H' := [List.flatten [blk b 134 [.pointer (some ⟨nb, 0, none⟩), .slice (some ⟨tb, 0, none⟩) ts.length tc], blk tb 200 (c0 ++ [Value.slice ra ts[j].length rc] ++ c2), s0, si, s2]]) (Res2CT rfl rfl rfl rfl Tryz.isAgg42 Tryz.isAgg42 Tryz.sizeOf42 Tryz.sizeOf42 rfl rfl (by repeat (first | exact Cells.all _ | exact Cells.head rfl | apply Cells.tail)) (by repeat (first | exact Cells.all _ | exact Cells.head rfl | apply Cells.tail))) (by repeat (first | exact Part.nil _ | (apply Part.cons; with_reducible (first | exact P0 | exact P1 | exact P2 | exact P3 | exact P4 | exact P5 | exact P6 | exact P7 | exact P8 | exact P9 | exact P10 | exact P11 | exact P12 | exact P13 | exact P14 | exact P15 | exact P16 | exact P17 | exact P18 | exact P19 | exact P20 | exact P21 | exact P22 | exact P23)) | (apply Part.flat; simp only [List.cons_append, List.nil_append]) | (apply Part.cons; (first | exact P0 | exact P1 | exact P2 | exact P3 | exact P4 | exact P5 | exact P6 | exact P7 | exact P8 | exact P9 | exact P10 | exact P11 | exact P12 | exact P13 | exact P14 | exact P15 | exact P16 | exact P17 | exact P18 | exact P19 | exact P20 | exact P21 | exact P22 | exact P23)) | (apply Part.nilc))) ?_)
    refine ⟨?_, rfl⟩
    rw [show nextW ts j ⟨kt, km, ks⟩ = (V.nil, V.nil, 4) by unfold nextW; rw [if_pos hw]]
    rfl
  · refine SPL_y (y_not_t rfl) rfl ?_
    refine SPL_nil ?_
    refine thenP_n ?_
    refine SP_cond_f rfl ?_
    refine SP_skip ?_
    refine thenP_n ?_
    refine SP_seq ?_
    refine SP_region ?_
    refine SPL_y (y_assign rfl) rfl ?_
    refine SPL_nil ?_
    refine thenP_n ?_
    refine SP_mid (G := Nat) (fun i => [(0, .pointer (some ⟨b, 0, none⟩)), (1, I j), (6, .pointer (some ⟨b6, 0, none⟩)), (7, .pointer (some ⟨b7, 0, none⟩)), (9, I ((i : Int) - 1))]) (fun _ => [blk b 134 [.pointer (some ⟨nb, 0, none⟩), .slice (some ⟨tb, 0, none⟩) ts.length tc], blk tb 200 (c0 ++ [Value.slice ra ts[j].length rc] ++ c2), s0, si, s2, blk b6 42 [.int .i64 0, .int .u64 0, S []], blk b7 42 [.int .i64 0, .int .u64 0, S []]]) (fun i => nextW ts j ⟨kt, km, ks⟩ = ((liveL (ts[j].drop i)).1, (liveL (ts[j].drop i)).2, 0) ∧ i ≤ 1000) ?_ ?_
    · refine SP_seq ?_
      refine SP_region ?_
      refine SPL_y (y_fa fld_42_0 rfl) rfl ?_
      refine SPL_y (y_load Tryz.isAgg3 rfl (by repeat (first | exact Cell.amid hpre rfl | exact Cell.head rfl | apply Cell.tail))) rfl ?_
      refine SPL_ifn (y_neq rfl rfl) rfl ?_ ?_
      · intro h6_2
        refine SPL_nil ?_
        refine thenP_n ?_
        refine SP_cond_f rfl ?_
        refine SP_skip ?_
        refine thenP_n ?_
        rw [show (-1 : Int) = ((0 : Nat) : Int) - 1 by decide]
        exact Mid.intro (0) (⟨by unfold nextW nextR; rw [if_neg (by rw [hw]; decide), hgd, if_neg h6_2, List.drop_zero], by omega⟩) (by repeat (first | exact Sub.nil _ | refine Sub.cons rfl ?_)) (by repeat (first | exact Part.nil _ | (apply Part.cons; with_reducible (first | exact P0 | exact P1 | exact P2 | exact P3 | exact P4 | exact P5 | exact P6 | exact P7 | exact P8 | exact P9 | exact P10 | exact P11 | exact P12 | exact P13 | exact P14 | exact P15 | exact P16 | exact P17 | exact P18 | exact P19 | exact P20 | exact P21 | exact P22 | exact P23)) | (apply Part.flat; simp only [List.cons_append, List.nil_append]) | (apply Part.cons; (first | exact P0 | exact P1 | exact P2 | exact P3 | exact P4 | exact P5 | exact P6 | exact P7 | exact P8 | exact P9 | exact P10 | exact P11 | exact P12 | exact P13 | exact P14 | exact P15 | exact P16 | exact P17 | exact P18 | exact P19 | exact P20 | exact P21 | exact P22 | exact P23)) | (apply Part.nilc)))
      intro h6_2
      refine SPL_nil ?_
      refine thenP_n ?_
      refine SP_cond_t rfl ?_
      refine SP_seq ?_
      refine SP_region ?_
      refine SPL_y (y_move rfl) rfl ?_
      refine SPL_y (y_move rfl) rfl ?_
      refine SPL_y (y_loads Tryz.isAgg42 Tryz.sizeOf42 rfl rfl (by repeat (first | exact Cells.all _ | exact Cells.amid hpre rfl (by decide) | exact Cells.head rfl | apply Cells.tail))) rfl ?_
      refine SPL_one rfl (SP1_call (tm_find b tb nb ts.length tc rc ra j hj ts[j] hrl c0 c2 hpre si hA ⟨kt, km, ks⟩) Tryz.call93 rfl rfl (by repeat (first | exact Part.nil _ | (apply Part.cons; with_reducible (first | exact P0 | exact P1 | exact P2 | exact P3 | exact P4 | exact P5 | exact P6 | exact P7 | exact P8 | exact P9 | exact P10 | exact P11 | exact P12 | exact P13 | exact P14 | exact P15 | exact P16 | exact P17 | exact P18 | exact P19 | exact P20 | exact P21 | exact P22 | exact P23)) | (apply Part.flat; simp only [List.cons_append, List.nil_append]) | (apply Part.cons; (first | exact P0 | exact P1 | exact P2 | exact P3 | exact P4 | exact P5 | exact P6 | exact P7 | exact P8 | exact P9 | exact P10 | exact P11 | exact P12 | exact P13 | exact P14 | exact P15 | exact P16 | exact P17 | exact P18 | exact P19 | exact P20 | exact P21 | exact P22 | exact P23)) | (apply Part.nilc))) ?_)
      rintro v post H' ⟨rfl, rfl⟩ hH
      try simp only [List.cons_append, List.nil_append] at hH
      subst hH
      refine SPL_y (y_assign rfl) rfl ?_
      refine SPL_nil ?_
      refine thenP_n ?_
      refine SP_seq ?_
      refine SP_region ?_
      refine SPL_y (y_move rfl) rfl ?_
      refine SPL_ifn (y_lss rfl rfl) rfl ?_ ?_
      · intro h8_1
        refine SPL_nil ?_
        refine thenP_n ?_
        refine SP_cond_f rfl ?_
        refine SP_skip ?_
        refine thenP_n ?_
        obtain ⟨p, hp⟩ : ∃ p : Nat, findW ts[j] ⟨kt, km, ks⟩ = p := ⟨(findW ts[j] ⟨kt, km, ks⟩).toNat, by omega⟩
        have hfi := findW_in ts[j] ⟨kt, km, ks⟩
        rw [hp] at hfi ⊢
        rw [show ((p : Int)) = ((p + 1 : Nat) : Int) - 1 by omega]
        exact Mid.intro (p + 1) (⟨by unfold nextW nextR; rw [if_neg (by rw [hw]; decide), hgd, if_pos h6_2, hp, if_neg (by omega), Int.toNat_natCast], by omega⟩) (by repeat (first | exact Sub.nil _ | refine Sub.cons rfl ?_)) (by repeat (first | exact Part.nil _ | (apply Part.cons; with_reducible (first | exact P0 | exact P1 | exact P2 | exact P3 | exact P4 | exact P5 | exact P6 | exact P7 | exact P8 | exact P9 | exact P10 | exact P11 | exact P12 | exact P13 | exact P14 | exact P15 | exact P16 | exact P17 | exact P18 | exact P19 | exact P20 | exact P21 | exact P22 | exact P23)) | (apply Part.flat; simp only [List.cons_append, List.nil_append]) | (apply Part.cons; (first | exact P0 | exact P1 | exact P2 | exact P3 | exact P4 | exact P5 | exact P6 | exact P7 | exact P8 | exact P9 | exact P10 | exact P11 | exact P12 | exact P13 | exact P14 | exact P15 | exact P16 | exact P17 | exact P18 | exact P19 | exact P20 | exact P21 | exact P22 | exact P23)) | (apply Part.nilc)))
      intro h8_1
      refine SPL_nil ?_
      refine thenP_n ?_
      refine SP_cond_t rfl ?_
      refine SP_seq ?_
      refine SP_region ?_
      refine SPL_y (y_build B42 rfl rfl (by simp only [fillL, List.foldl_cons, List.foldl_nil, List.set_cons_zero, List.set_cons_succ]; exact rfl)) rfl ?_
      refine SPL_y (y_build B42 rfl rfl (by simp only [fillL, List.foldl_cons, List.foldl_nil, List.set_cons_zero, List.set_cons_succ]; exact rfl)) rfl ?_
      refine SPL_one rfl (SP1_storeAll Tryz.sizeOf42 rfl rfl rfl rfl rfl (by first | exact U0 | exact U1 | exact U2 | exact U3 | exact U4 | exact U5 | exact U6 | exact U7 | exact U8 | exact U9 | exact U10 | exact U11 | exact U12 | exact U13 | exact U14 | exact U15 | exact U16 | exact U17 | exact U18 | exact U19 | exact U20 | exact U21 | exact U22 | exact U23) (by rfl) ?_)
      refine SPL_one rfl (SP1_storeAll Tryz.sizeOf42 rfl rfl rfl rfl rfl (by first | exact U0 | exact U1 | exact U2 | exact U3 | exact U4 | exact U5 | exact U6 | exact U7 | exact U8 | exact U9 | exact U10 | exact U11 | exact U12 | exact U13 | exact U14 | exact U15 | exact U16 | exact U17 | exact U18 | exact U19 | exact U20 | exact U21 | exact U22 | exact U23) (by rfl) ?_)
      refine SPL_y (y_assign rfl) rfl ?_
      refine SPL_nil ?_
      refine thenP_n ?_
      refine SP_ret ?_
      refine thenP_ret (bodyP_ret (H' := [List.flatten [blk b 134 [.pointer (some ⟨nb, 0, none⟩), .slice (some ⟨tb, 0, none⟩) ts.length tc], blk tb 200 (c0 ++ [Value.slice ra ts[j].length rc] ++ c2), s0, si, s2]]) (Res2CT rfl rfl rfl rfl Tryz.isAgg42 Tryz.isAgg42 Tryz.sizeOf42 Tryz.sizeOf42 rfl rfl (by repeat (first | exact Cells.all _ | exact Cells.head rfl | apply Cells.tail)) (by repeat (first | exact Cells.all _ | exact Cells.head rfl | apply Cells.tail))) (by repeat (first | exact Part.nil _ | (apply Part.cons; with_reducible (first | exact P0 | exact P1 | exact P2 | exact P3 | exact P4 | exact P5 | exact P6 | exact P7 | exact P8 | exact P9 | exact P10 | exact P11 | exact P12 | exact P13 | exact P14 | exact P15 | exact P16 | exact P17 | exact P18 | exact P19 | exact P20 | exact P21 | exact P22 | exact P23)) | (apply Part.flat; simp only [List.cons_append, List.nil_append]) | (apply Part.cons; (first | exact P0 | exact P1 | exact P2 | exact P3 | exact P4 | exact P5 | exact P6 | exact P7 | exact P8 | exact P9 | exact P10 | exact P11 | exact P12 | exact P13 | exact P14 | exact P15 | exact P16 | exact P17 | exact P18 | exact P19 | exact P20 | exact P21 | exact P22 | exact P23)) | (apply Part.nilc))) ?_)
      refine ⟨?_, rfl⟩
      rw [show nextW ts j ⟨kt, km, ks⟩ = (V.nil, V.nil, 7) by unfold nextW nextR; rw [if_neg (by rw [hw]; decide), hgd, if_pos h6_2, if_pos h8_1]]
      rfl
    rintro i0 ⟨hnx, hi0⟩
    refine SP_seq ?_
    refine SP_seq ?_
    refine SP_region ?_
    refine SPL_y (y_move rfl) rfl ?_
    refine SPL_y (y_add rfl rfl (by omega)) rfl ?_
    refine SPL_y (y_assign rfl) rfl ?_
    refine SPL_nil ?_
    refine thenP_n ?_
    refine SP_block ?_
    refine SP_loop (G := Nat × Int) (fun g => 2000 - g.1) (fun g => [(0, .pointer (some ⟨b, 0, none⟩)), (1, I j), (6, .pointer (some ⟨b6, 0, none⟩)), (7, .pointer (some ⟨b7, 0, none⟩)), (10, I g.2)]) (fun _ => [blk b 134 [.pointer (some ⟨nb, 0, none⟩), .slice (some ⟨tb, 0, none⟩) ts.length tc], blk tb 200 (c0 ++ [Value.slice ra ts[j].length rc] ++ c2), s0, si, s2, blk b6 42 [.int .i64 0, .int .u64 0, S []], blk b7 42 [.int .i64 0, .int .u64 0, S []]]) (fun g => g.2 = (g.1 : Int) ∧ g.1 ≤ 1001 ∧ nextW ts j ⟨kt, km, ks⟩ = ((liveL (ts[j].drop g.1)).1, (liveL (ts[j].drop g.1)).2, 0)) ((i0, (i0 : Int) - 1 + 1)) (⟨by dsimp only; omega, by dsimp only; omega, hnx⟩) (by repeat (first | exact Sub.nil _ | refine Sub.cons rfl ?_)) (by repeat (first | exact Part.nil _ | (apply Part.cons; with_reducible (first | exact P0 | exact P1 | exact P2 | exact P3 | exact P4 | exact P5 | exact P6 | exact P7 | exact P8 | exact P9 | exact P10 | exact P11 | exact P12 | exact P13 | exact P14 | exact P15 | exact P16 | exact P17 | exact P18 | exact P19 | exact P20 | exact P21 | exact P22 | exact P23)) | (apply Part.flat; simp only [List.cons_append, List.nil_append]) | (apply Part.cons; (first | exact P0 | exact P1 | exact P2 | exact P3 | exact P4 | exact P5 | exact P6 | exact P7 | exact P8 | exact P9 | exact P10 | exact P11 | exact P12 | exact P13 | exact P14 | exact P15 | exact P16 | exact P17 | exact P18 | exact P19 | exact P20 | exact P21 | exact P22 | exact P23)) | (apply Part.nilc))) ?_
    clear hnx
    rintro ⟨i, ii⟩ ⟨hii, hi, hnx⟩
    dsimp only at hii hi hnx ⊢
    subst hii
    refine SP_seq ?_
    refine SP_seq ?_
    refine SP_region ?_
    refine SPL_y (y_move rfl) rfl ?_
    refine SPL_y (y_move rfl) rfl ?_
    refine SPL_y (y_nil rfl) rfl ?_
    refine SPL_y (y_fa fld_134_1 rfl) rfl ?_
    refine SPL_y (y_load Tryz.isAgg132 rfl (by repeat (first | exact Cell.amid hpre rfl | exact Cell.head rfl | apply Cell.tail))) rfl ?_
    refine SPL_y (y_move rfl) rfl ?_
    refine SPL_y (y_ia Tryz.underlying132 Tryz.sizeOf200 rfl rfl (by omega)) rfl ?_
    refine SPL_y (y_load Tryz.isAgg200 rfl (by repeat (first | exact Cell.amid0 hpre rfl | apply Cell.tail))) rfl ?_
    refine SPL_y (y_len_l Tryz.underlying200 rfl) rfl ?_
    refine SPL_ifn (y_lss rfl rfl) rfl ?_ ?_
    · intro h11_9
      refine SPL_nil ?_
      refine thenP_n ?_
      refine SP_cond_f rfl ?_
      refine SP_exit ?_
      refine thenP_exit ?_
      refine thenP_exit ?_
      refine inBlockP_hit ?_
      refine thenP_n ?_
      refine SP_seq ?_
      refine SP_region ?_
      refine SPL_y (y_build B42 rfl rfl (by simp only [fillL, List.foldl_cons, List.foldl_nil, List.set_cons_zero, List.set_cons_succ]; exact rfl)) rfl ?_
      refine SPL_y (y_build B42 rfl rfl (by simp only [fillL, List.foldl_cons, List.foldl_nil, List.set_cons_zero, List.set_cons_succ]; exact rfl)) rfl ?_
      refine SPL_one rfl (SP1_storeAll Tryz.sizeOf42 rfl rfl rfl rfl rfl (by first | exact U0 | exact U1 | exact U2 | exact U3 | exact U4 | exact U5 | exact U6 | exact U7 | exact U8 | exact U9 | exact U10 | exact U11 | exact U12 | exact U13 | exact U14 | exact U15 | exact U16 | exact U17 | exact U18 | exact U19 | exact U20 | exact U21 | exact U22 | exact U23) (by rfl) ?_)
      refine SPL_one rfl (SP1_storeAll Tryz.sizeOf42 rfl rfl rfl rfl rfl (by first | exact U0 | exact U1 | exact U2 | exact U3 | exact U4 | exact U5 | exact U6 | exact U7 | exact U8 | exact U9 | exact U10 | exact U11 | exact U12 | exact U13 | exact U14 | exact U15 | exact U16 | exact U17 | exact U18 | exact U19 | exact U20 | exact U21 | exact U22 | exact U23) (by rfl) ?_)
      refine SPL_y (y_assign rfl) rfl ?_
      refine SPL_nil ?_
      refine thenP_n ?_
      refine SP_ret ?_
      refine bodyP_ret (H' := [List.flatten [blk b 134 [.pointer (some ⟨nb, 0, none⟩), .slice (some ⟨tb, 0, none⟩) ts.length tc], blk tb 200 (c0 ++ [Value.slice ra ts[j].length rc] ++ c2), s0, si, s2]]) (Res2CT rfl rfl rfl rfl Tryz.isAgg42 Tryz.isAgg42 Tryz.sizeOf42 Tryz.sizeOf42 rfl rfl (by repeat (first | exact Cells.all _ | exact Cells.head rfl | apply Cells.tail)) (by repeat (first | exact Cells.all _ | exact Cells.head rfl | apply Cells.tail))) (by repeat (first | exact Part.nil _ | (apply Part.cons; with_reducible (first | exact P0 | exact P1 | exact P2 | exact P3 | exact P4 | exact P5 | exact P6 | exact P7 | exact P8 | exact P9 | exact P10 | exact P11 | exact P12 | exact P13 | exact P14 | exact P15 | exact P16 | exact P17 | exact P18 | exact P19 | exact P20 | exact P21 | exact P22 | exact P23)) | (apply Part.flat; simp only [List.cons_append, List.nil_append]) | (apply Part.cons; (first | exact P0 | exact P1 | exact P2 | exact P3 | exact P4 | exact P5 | exact P6 | exact P7 | exact P8 | exact P9 | exact P10 | exact P11 | exact P12 | exact P13 | exact P14 | exact P15 | exact P16 | exact P17 | exact P18 | exact P19 | exact P20 | exact P21 | exact P22 | exact P23)) | (apply Part.nilc))) ?_
      refine ⟨?_, rfl⟩
      rw [hnx, liveL_end (by omega)]
      rfl
    intro h11_9
    refine SPL_nil ?_
    refine thenP_n ?_
    refine SP_cond_t rfl ?_
    refine SP_skip ?_
    refine thenP_n ?_
    refine SP_seq ?_
    refine SP_block ?_
    refine SP_seq ?_
    obtain ⟨rb, rsp, rfl, hrc, hrsp, rfl⟩ := hA.row (by omega)
    have hil : i < ts[j].length := by omega
    refine SP_region ?_
    refine SPL_y (y_move rfl) rfl ?_
    refine SPL_y (y_nil rfl) rfl ?_
    refine SPL_y (y_fa fld_134_1 rfl) rfl ?_
    refine SPL_y (y_load Tryz.isAgg132 rfl (by repeat (first | exact Cell.amid hpre rfl | exact Cell.head rfl | apply Cell.tail))) rfl ?_
    refine SPL_y (y_move rfl) rfl ?_
    refine SPL_y (y_ia Tryz.underlying132 Tryz.sizeOf200 rfl rfl (by omega)) rfl ?_
    refine SPL_y (y_load Tryz.isAgg200 rfl (by repeat (first | exact Cell.amid0 hpre rfl | apply Cell.tail))) rfl ?_
    refine SPL_y (y_move rfl) rfl ?_
    refine SPL_y (y_ia Tryz.underlying200 Tryz.sizeOf199 rfl rfl (by omega)) rfl ?_
    refine SPL_y (y_fa fld_199_1 rfl) rfl ?_
    refine SPL_y (y_fa fld_42_0 rfl) rfl ?_
    refine SPL_y (y_load Tryz.isAgg3 rfl (by repeat (first | exact flat_cell (q := 3) entV_len rfl hil rfl | apply Cell.tail))) rfl ?_
    refine SPL_ifn (y_neq rfl rfl) rfl ?_ ?_
    · intro h13_12
      refine SPL_nil ?_
      refine thenP_n ?_
      refine SP_cond_f rfl ?_
      refine SP_skip ?_
      refine inBlockP_n ?_
      refine thenP_n ?_
      refine SP_region ?_
      refine SPL_y (y_move rfl) rfl ?_
      refine SPL_y (y_add rfl rfl (by omega)) rfl ?_
      refine SPL_y (y_assign rfl) rfl ?_
      refine SPL_nil ?_
      refine thenP_n ?_
      exact Again.intro ((i + 1, (i : Int) + 1)) (⟨by dsimp only; omega, by dsimp only; omega, by rw [hnx, liveL_go hil (by omega)]⟩) (by dsimp only; omega) (by repeat (first | exact Sub.nil _ | refine Sub.cons rfl ?_)) (by repeat (first | exact Part.nil _ | (apply Part.cons; with_reducible (first | exact P0 | exact P1 | exact P2 | exact P3 | exact P4 | exact P5 | exact P6 | exact P7 | exact P8 | exact P9 | exact P10 | exact P11 | exact P12 | exact P13 | exact P14 | exact P15 | exact P16 | exact P17 | exact P18 | exact P19 | exact P20 | exact P21 | exact P22 | exact P23)) | (apply Part.flat; simp only [List.cons_append, List.nil_append]) | (apply Part.cons; (first | exact P0 | exact P1 | exact P2 | exact P3 | exact P4 | exact P5 | exact P6 | exact P7 | exact P8 | exact P9 | exact P10 | exact P11 | exact P12 | exact P13 | exact P14 | exact P15 | exact P16 | exact P17 | exact P18 | exact P19 | exact P20 | exact P21 | exact P22 | exact P23)) | (apply Part.nilc)))
    intro h13_12
    refine SPL_nil ?_
    refine thenP_n ?_
    refine SP_cond_t rfl ?_
    refine SP_seq ?_
    refine SP_draw (Hs := [blk b 134 [.pointer (some ⟨nb, 0, none⟩), .slice (some ⟨tb, 0, none⟩) ts.length tc], blk tb 200 (c0 ++ [Value.slice (some ⟨rb, 0, none⟩) ts[j].length rc] ++ c2), blk rb 199 (ts[j].flatMap entV ++ rsp)]) 23 [(0, 0), (1, 0), (2, 0), (4, 0), (7, 0), (11, 0), (12, 0), (13, 0), (15, 0), (18, 0), (3, 1), (5, 0), (6, 1), (8, 0), (9, 0), (10, 1), (14, 1), (16, 0), (17, 1), (19, 0), (20, 0), (21, 1), (22, 2), (23, 3), (24, 0)] mixed (by kernel_rfl) (fun _ _ _ _ _ h => h) (by repeat (first | exact Part.nil _ | (apply Part.cons; with_reducible (first | exact P0 | exact P1 | exact P2 | exact P3 | exact P4 | exact P5 | exact P6 | exact P7 | exact P8 | exact P9 | exact P10 | exact P11 | exact P12 | exact P13 | exact P14 | exact P15 | exact P16 | exact P17 | exact P18 | exact P19 | exact P20 | exact P21 | exact P22 | exact P23)) | (apply Part.flat; simp only [List.cons_append, List.nil_append]) | (apply Part.cons; (first | exact P0 | exact P1 | exact P2 | exact P3 | exact P4 | exact P5 | exact P6 | exact P7 | exact P8 | exact P9 | exact P10 | exact P11 | exact P12 | exact P13 | exact P14 | exact P15 | exact P16 | exact P17 | exact P18 | exact P19 | exact P20 | exact P21 | exact P22 | exact P23)) | (apply Part.nilc))) ?_
    refine SPO_p rfl (y_move rfl) rfl ?_
    refine SPO_p rfl (y_nil rfl) rfl ?_
    refine SPO_p rfl (y_fa fld_134_1 rfl) rfl ?_
    refine SPO_p rfl (y_move rfl) rfl ?_
    refine SPO_p rfl (y_move rfl) rfl ?_
    refine SPO_p rfl (y_move rfl) rfl ?_
    refine SPO_p rfl (y_nil rfl) rfl ?_
    refine SPO_p rfl (y_fa fld_134_1 rfl) rfl ?_
    refine SPO_p rfl (y_move rfl) rfl ?_
    refine SPO_p rfl (y_move rfl) rfl ?_
    refine SPO_h rfl (y_load Tryz.isAgg132 rfl (by repeat (first | exact Cell.amid hpre rfl | exact Cell.head rfl | apply Cell.tail))) rfl ?_
    refine SPO_p rfl (y_ia Tryz.underlying132 Tryz.sizeOf200 rfl rfl (by omega)) rfl ?_
    refine SPO_h rfl (y_load Tryz.isAgg200 rfl (by repeat (first | exact Cell.amid0 hpre rfl | apply Cell.tail))) rfl ?_
    refine SPO_p rfl (y_ia Tryz.underlying200 Tryz.sizeOf199 rfl rfl (by omega)) rfl ?_
    refine SPO_p rfl (y_fa fld_199_0 rfl) rfl ?_
    refine SPO_h rfl (y_loads Tryz.isAgg42 Tryz.sizeOf42 rfl rfl (by repeat (first | exact flat_cellsQ (vs := valV ts[j][i].1) entV_len rfl hil rfl | apply Cells.tail))) rfl ?_
    refine SPO_h rfl (y_load Tryz.isAgg132 rfl (by repeat (first | exact Cell.amid hpre rfl | exact Cell.head rfl | apply Cell.tail))) rfl ?_
    refine SPO_p rfl (y_ia Tryz.underlying132 Tryz.sizeOf200 rfl rfl (by omega)) rfl ?_
    refine SPO_h rfl (y_load Tryz.isAgg200 rfl (by repeat (first | exact Cell.amid0 hpre rfl | apply Cell.tail))) rfl ?_
    refine SPO_p rfl (y_ia Tryz.underlying200 Tryz.sizeOf199 rfl rfl (by omega)) rfl ?_
    refine SPO_p rfl (y_fa fld_199_1 rfl) rfl ?_
    refine SPO_h rfl (y_loads Tryz.isAgg42 Tryz.sizeOf42 rfl rfl (by repeat (first | exact flat_cellsQ (vs := valV ts[j][i].2) entV_len rfl hil rfl | apply Cells.tail))) rfl ?_
    refine SPO_a rfl rfl (SP1_storeAll Tryz.sizeOf42 rfl rfl rfl rfl rfl (by first | exact U0 | exact U1 | exact U2 | exact U3 | exact U4 | exact U5 | exact U6 | exact U7 | exact U8 | exact U9 | exact U10 | exact U11 | exact U12 | exact U13 | exact U14 | exact U15 | exact U16 | exact U17 | exact U18 | exact U19 | exact U20 | exact U21 | exact U22 | exact U23) (by rfl) ?_)
    refine ⟨⟨_, (by repeat (first | exact Part.nil _ | (apply Part.cons; with_reducible (first | exact P0 | exact P1 | exact P2 | exact P3 | exact P4 | exact P5 | exact P6 | exact P7 | exact P8 | exact P9 | exact P10 | exact P11 | exact P12 | exact P13 | exact P14 | exact P15 | exact P16 | exact P17 | exact P18 | exact P19 | exact P20 | exact P21 | exact P22 | exact P23)) | (apply Part.flat; simp only [List.cons_append, List.nil_append]) | (apply Part.cons; (first | exact P0 | exact P1 | exact P2 | exact P3 | exact P4 | exact P5 | exact P6 | exact P7 | exact P8 | exact P9 | exact P10 | exact P11 | exact P12 | exact P13 | exact P14 | exact P15 | exact P16 | exact P17 | exact P18 | exact P19 | exact P20 | exact P21 | exact P22 | exact P23)) | (apply Part.nilc)))⟩, ?_⟩
    refine SPO_z (k := 0) rfl rfl (SP1_storeAll Tryz.sizeOf42 rfl rfl rfl rfl rfl (by first | exact U0 | exact U1 | exact U2 | exact U3 | exact U4 | exact U5 | exact U6 | exact U7 | exact U8 | exact U9 | exact U10 | exact U11 | exact U12 | exact U13 | exact U14 | exact U15 | exact U16 | exact U17 | exact U18 | exact U19 | exact U20 | exact U21 | exact U22 | exact U23) (by rfl) ?_)
    refine SPO_p rfl (y_assign rfl) rfl ?_
    refine SPO_nil ?_
    refine thenP_n ?_
    refine SP_ret ?_
    refine inBlockP_ret (thenP_ret (thenP_ret (inBlockP_ret (thenP_ret (bodyP_ret (H' := [List.flatten [blk b 134 [.pointer (some ⟨nb, 0, none⟩), .slice (some ⟨tb, 0, none⟩) ts.length tc], blk tb 200 (c0 ++ [Value.slice (some ⟨rb, 0, none⟩) ts[j].length rc] ++ c2), s0, blk rb 199 (ts[j].flatMap entV ++ rsp), s2]]) (Res2CT rfl rfl rfl rfl Tryz.isAgg42 Tryz.isAgg42 Tryz.sizeOf42 Tryz.sizeOf42 rfl rfl (by repeat (first | exact Cells.all _ | exact Cells.head rfl | apply Cells.tail)) (by repeat (first | exact Cells.all _ | exact Cells.head rfl | apply Cells.tail))) (by repeat (first | exact Part.nil _ | (apply Part.cons; with_reducible (first | exact P0 | exact P1 | exact P2 | exact P3 | exact P4 | exact P5 | exact P6 | exact P7 | exact P8 | exact P9 | exact P10 | exact P11 | exact P12 | exact P13 | exact P14 | exact P15 | exact P16 | exact P17 | exact P18 | exact P19 | exact P20 | exact P21 | exact P22 | exact P23)) | (apply Part.flat; simp only [List.cons_append, List.nil_append]) | (apply Part.cons; (first | exact P0 | exact P1 | exact P2 | exact P3 | exact P4 | exact P5 | exact P6 | exact P7 | exact P8 | exact P9 | exact P10 | exact P11 | exact P12 | exact P13 | exact P14 | exact P15 | exact P16 | exact P17 | exact P18 | exact P19 | exact P20 | exact P21 | exact P22 | exact P23)) | (apply Part.nilc))) ?_)))))
    refine ⟨?_, rfl⟩
    rw [hnx, liveL_hit hil h13_12]
    rfl

theorem lenL_a {l : Row} {f n : Nat} (h : findW l (numK (n + 1)) < 0) : lenL l (f + 1) n = n := by rw [lenL, if_pos h]
theorem lenL_b {l : Row} {f n : Nat} (h : ¬ findW l (numK (n + 1)) < 0) (h2 : (l.getD (findW l (numK (n + 1))).toNat (V.nil, V.nil)).2.t = 0) : lenL l (f + 1) n = n := by rw [lenL, if_neg h, if_pos h2]
theorem lenL_c {l : Row} {f n : Nat} (h : ¬ findW l (numK (n + 1)) < 0) (h2 : ¬ (l.getD (findW l (numK (n + 1))).toNat (V.nil, V.nil)).2.t = 0) : lenL l (f + 1) n = lenL l f (n + 1) := by rw [lenL, if_neg h, if_neg h2]
theorem tm_Len (b nb : Nat) (ts : List Row) (s : Seg) (hts : isTm b nb ts s) (j : Nat) (hj : j < ts.length) (htl : ts.length ≤ 1000) (hrl : ts[j].length ≤ 1000) : Spec Tryz.prog 175 [.pointer (some ⟨b, 0, none⟩), I j] [s] (Ret fun v H => v = .tuple #[I (lenW ts j), I 0] ∧ H = [s]) := by
  have hts0 := hts
  obtain ⟨tb, tc, c0, c2, ra, rc, s0, si, s2, rfl, hpre, hA, hput⟩ := isTm_open hts hj
  refine Spec_openAt [blk b 134 [.pointer (some ⟨nb, 0, none⟩), .slice (some ⟨tb, 0, none⟩) ts.length tc], blk tb 200 (c0 ++ [Value.slice ra ts[j].length rc] ++ c2), s0, si, s2] (by first | exact P0 | exact P1 | exact P2 | exact P3 | exact P4 | exact P5 | exact P6 | exact P7 | exact P8 | exact P9 | exact P10 | exact P11 | exact P12 | exact P13 | exact P14 | exact P15 | exact P16 | exact P17 | exact P18 | exact P19 | exact P20 | exact P21 | exact P22 | exact P23) ?_
  simp only [List.cons_append, List.nil_append]
  have hgd := getD_at hj
  refine Spec_enter Tryz.func175 rfl Tryz.ntmps175 rfl ?_
  show SP _ _ _ _ _ [(0, _), (1, _)] _
  refine SP_seq ?_
  refine SP_region ?_
  refine SPL_y (y_assign rfl) rfl ?_
  refine SPL_y (y_assign rfl) rfl ?_
  refine SPL_nil ?_
  refine thenP_n ?_
  refine SP_seq ?_
  refine SP_seq ?_
  refine SP_region ?_
  refine SPL_y (y_move rfl) rfl ?_
  refine SPL_if (y_lss rfl rfl) rfl ?_ ?_
  · intro h1_1
    omega
  intro h1_1
  refine SPL_y (y_move rfl) rfl ?_
  refine SPL_gy rfl rfl ?_
  refine SPL_y (y_move rfl) rfl ?_
  refine SPL_gy rfl rfl ?_
  refine SPL_y (y_move rfl) rfl ?_
  refine SPL_gy rfl rfl ?_
  refine SPL_y (y_nil rfl) rfl ?_
  refine SPL_gy rfl rfl ?_
  refine SPL_y (y_fa fld_134_1 rfl) rfl ?_
  refine SPL_gy rfl rfl ?_
  refine SPL_y (y_load Tryz.isAgg132 rfl (by repeat (first | exact Cell.amid hpre rfl | exact Cell.head rfl | apply Cell.tail))) rfl ?_
  refine SPL_gy rfl rfl ?_
  refine SPL_y (y_len_l Tryz.underlying132 rfl) rfl ?_
  refine SPL_gy rfl rfl ?_
  refine SPL_if (y_geq rfl rfl) rfl ?_ ?_
  · intro h1_9
    omega
  intro h1_9
  refine SPL_y (y_pick_f rfl rfl) rfl ?_
  refine SPL_nil ?_
  refine thenP_n ?_
  refine SP_cond_f rfl ?_
  refine SP_skip ?_
  refine thenP_n ?_
  refine SP_seq ?_
  refine SP_region ?_
  refine SPL_y (y_assign rfl) rfl ?_
  refine SPL_nil ?_
  refine thenP_n ?_
  refine SP_seq ?_
  refine SP_block ?_
  refine SP_loop (G := Nat) (fun n => 40 - n) (fun n => [(0, .pointer (some ⟨b, 0, none⟩)), (1, I j), (6, I ((n : Nat) : Int))]) (fun _ => [blk b 134 [.pointer (some ⟨nb, 0, none⟩), .slice (some ⟨tb, 0, none⟩) ts.length tc], blk tb 200 (c0 ++ [Value.slice ra ts[j].length rc] ++ c2), s0, si, s2]) (fun n => n ≤ 33 ∧ lenW ts j = ((lenL ts[j] (33 - n) n : Nat) : Int)) (0) (⟨by decide, by unfold lenW; rw [hgd]⟩) (by repeat (first | exact Sub.nil _ | refine Sub.cons rfl ?_)) (by repeat (first | exact Part.nil _ | (apply Part.cons; with_reducible (first | exact P0 | exact P1 | exact P2 | exact P3 | exact P4 | exact P5 | exact P6 | exact P7 | exact P8 | exact P9 | exact P10 | exact P11 | exact P12 | exact P13 | exact P14 | exact P15 | exact P16 | exact P17 | exact P18 | exact P19 | exact P20 | exact P21 | exact P22 | exact P23)) | (apply Part.flat; simp only [List.cons_append, List.nil_append]) | (apply Part.cons; (first | exact P0 | exact P1 | exact P2 | exact P3 | exact P4 | exact P5 | exact P6 | exact P7 | exact P8 | exact P9 | exact P10 | exact P11 | exact P12 | exact P13 | exact P14 | exact P15 | exact P16 | exact P17 | exact P18 | exact P19 | exact P20 | exact P21 | exact P22 | exact P23)) | (apply Part.nilc))) ?_
  rintro n ⟨hn, hln⟩
  refine SP_seq ?_
  refine SP_seq ?_
  refine SP_region ?_
  refine SPL_y (y_move rfl) rfl ?_
  refine SPL_ifn (y_leq rfl rfl) rfl ?_ ?_
  · intro h4_1
    refine SPL_nil ?_
    refine thenP_n ?_
    refine SP_cond_f rfl ?_
    refine SP_exit ?_
    refine thenP_exit ?_
    refine thenP_exit ?_
    refine inBlockP_hit ?_
    refine thenP_n ?_
    refine SP_seq ?_
    refine SP_region ?_
    refine SPL_y (y_move rfl) rfl ?_
    refine SPL_y (y_assign rfl) rfl ?_
    refine SPL_y (y_assign rfl) rfl ?_
    refine SPL_nil ?_
    refine thenP_n ?_
    refine SP_ret ?_
    refine bodyP_ret (H' := [List.flatten [blk b 134 [.pointer (some ⟨nb, 0, none⟩), .slice (some ⟨tb, 0, none⟩) ts.length tc], blk tb 200 (c0 ++ [Value.slice ra ts[j].length rc] ++ c2), s0, si, s2]]) (Res2 rfl rfl rfl) (by repeat (first | exact Part.nil _ | (apply Part.cons; with_reducible (first | exact P0 | exact P1 | exact P2 | exact P3 | exact P4 | exact P5 | exact P6 | exact P7 | exact P8 | exact P9 | exact P10 | exact P11 | exact P12 | exact P13 | exact P14 | exact P15 | exact P16 | exact P17 | exact P18 | exact P19 | exact P20 | exact P21 | exact P22 | exact P23)) | (apply Part.flat; simp only [List.cons_append, List.nil_append]) | (apply Part.cons; (first | exact P0 | exact P1 | exact P2 | exact P3 | exact P4 | exact P5 | exact P6 | exact P7 | exact P8 | exact P9 | exact P10 | exact P11 | exact P12 | exact P13 | exact P14 | exact P15 | exact P16 | exact P17 | exact P18 | exact P19 | exact P20 | exact P21 | exact P22 | exact P23)) | (apply Part.nilc))) ?_
    refine ⟨?_, rfl⟩
    obtain rfl : n = 33 := by omega
    rw [hln]
    rfl
  intro h4_1
  refine SPL_nil ?_
  refine thenP_n ?_
  refine SP_cond_t rfl ?_
  refine SP_skip ?_
  refine thenP_n ?_
  refine SP_block ?_
  refine SP_seq ?_
  refine SP_region ?_
  refine SPL_y (y_move rfl) rfl ?_
  refine SPL_y (y_nil rfl) rfl ?_
  refine SPL_y (y_fa fld_134_0 rfl) rfl ?_
  refine SPL_y (y_load Tryz.isAgg78 rfl (by repeat (first | exact Cell.amid hpre rfl | exact Cell.head rfl | apply Cell.tail))) rfl ?_
  refine SPL_y (y_move rfl) rfl ?_
  refine SPL_y (y_add rfl rfl (by omega)) rfl ?_
  rw [show ((n : Nat) : Int) + 1 = ((n + 1 : Nat) : Int) by omega]
  refine SPL_one rfl (SP1_call (nm_FromInt _ ((n + 1 : Nat) : Int) (by omega) (by omega)) Tryz.call110 rfl rfl (by repeat (first | exact Part.nil _ | (apply Part.cons; with_reducible (first | exact P0 | exact P1 | exact P2 | exact P3 | exact P4 | exact P5 | exact P6 | exact P7 | exact P8 | exact P9 | exact P10 | exact P11 | exact P12 | exact P13 | exact P14 | exact P15 | exact P16 | exact P17 | exact P18 | exact P19 | exact P20 | exact P21 | exact P22 | exact P23)) | (apply Part.flat; simp only [List.cons_append, List.nil_append]) | (apply Part.cons; (first | exact P0 | exact P1 | exact P2 | exact P3 | exact P4 | exact P5 | exact P6 | exact P7 | exact P8 | exact P9 | exact P10 | exact P11 | exact P12 | exact P13 | exact P14 | exact P15 | exact P16 | exact P17 | exact P18 | exact P19 | exact P20 | exact P21 | exact P22 | exact P23)) | (apply Part.nilc))) ?_)
  rintro v post H' ⟨rfl, rfl⟩ hH
  try simp only [List.cons_append, List.nil_append] at hH
  subst hH
  refine SPL_y (y_assign rfl) rfl ?_
  refine SPL_nil ?_
  refine thenP_n ?_
  refine SP_seq ?_
  refine SP_region ?_
  refine SPL_y (y_move rfl) rfl ?_
  refine SPL_y (y_move rfl) rfl ?_
  refine SPL_y (y_move rfl) rfl ?_
  refine SPL_y (y_build B42 rfl rfl (by simp only [fillL, List.foldl_cons, List.foldl_nil, List.set_cons_zero, List.set_cons_succ]; exact rfl)) rfl ?_
  refine SPL_one rfl (SP1_call (tm_find b tb nb ts.length tc rc ra j hj ts[j] hrl c0 c2 hpre si hA (numK (n + 1))) Tryz.call93 rfl rfl (by repeat (first | exact Part.nil _ | (apply Part.cons; with_reducible (first | exact P0 | exact P1 | exact P2 | exact P3 | exact P4 | exact P5 | exact P6 | exact P7 | exact P8 | exact P9 | exact P10 | exact P11 | exact P12 | exact P13 | exact P14 | exact P15 | exact P16 | exact P17 | exact P18 | exact P19 | exact P20 | exact P21 | exact P22 | exact P23)) | (apply Part.flat; simp only [List.cons_append, List.nil_append]) | (apply Part.cons; (first | exact P0 | exact P1 | exact P2 | exact P3 | exact P4 | exact P5 | exact P6 | exact P7 | exact P8 | exact P9 | exact P10 | exact P11 | exact P12 | exact P13 | exact P14 | exact P15 | exact P16 | exact P17 | exact P18 | exact P19 | exact P20 | exact P21 | exact P22 | exact P23)) | (apply Part.nilc))) ?_)
  rintro v post H' ⟨rfl, rfl⟩ hH
  try simp only [List.cons_append, List.nil_append] at hH
  subst hH
  refine SPL_y (y_assign rfl) rfl ?_
  refine SPL_nil ?_
  refine thenP_n ?_
  refine SP_seq ?_
  refine SP_seq ?_
  refine SP_region ?_
  refine SPL_y (y_move rfl) rfl ?_
  refine SPL_if (y_lss rfl rfl) rfl ?_ ?_
  · intro h7_1
    refine SPL_nil ?_
    refine thenP_n ?_
    refine SP_cond_t rfl ?_
    refine SP_seq ?_
    refine SP_region ?_
    refine SPL_y (y_move rfl) rfl ?_
    refine SPL_y (y_assign rfl) rfl ?_
    refine SPL_y (y_assign rfl) rfl ?_
    refine SPL_nil ?_
    refine thenP_n ?_
    refine SP_ret ?_
    refine thenP_ret (inBlockP_ret (thenP_ret (inBlockP_ret (thenP_ret (bodyP_ret (H' := [List.flatten [blk b 134 [.pointer (some ⟨nb, 0, none⟩), .slice (some ⟨tb, 0, none⟩) ts.length tc], blk tb 200 (c0 ++ [Value.slice ra ts[j].length rc] ++ c2), s0, si, s2]]) (Res2 rfl rfl rfl) (by repeat (first | exact Part.nil _ | (apply Part.cons; with_reducible (first | exact P0 | exact P1 | exact P2 | exact P3 | exact P4 | exact P5 | exact P6 | exact P7 | exact P8 | exact P9 | exact P10 | exact P11 | exact P12 | exact P13 | exact P14 | exact P15 | exact P16 | exact P17 | exact P18 | exact P19 | exact P20 | exact P21 | exact P22 | exact P23)) | (apply Part.flat; simp only [List.cons_append, List.nil_append]) | (apply Part.cons; (first | exact P0 | exact P1 | exact P2 | exact P3 | exact P4 | exact P5 | exact P6 | exact P7 | exact P8 | exact P9 | exact P10 | exact P11 | exact P12 | exact P13 | exact P14 | exact P15 | exact P16 | exact P17 | exact P18 | exact P19 | exact P20 | exact P21 | exact P22 | exact P23)) | (apply Part.nilc))) ?_)))))
    refine ⟨?_, rfl⟩
    rw [hln, show 33 - n = (32 - n) + 1 by omega, lenL_a h7_1]
  intro h7_1
  refine SPL_nil ?_
  refine thenP_n ?_
  refine SP_cond_f rfl ?_
  refine SP_skip ?_
  refine thenP_n ?_
  refine SP_seq ?_
  refine SP_seq ?_
  obtain ⟨p, hp⟩ : ∃ p : Nat, findW ts[j] (numK (n + 1)) = p := ⟨(findW ts[j] (numK (n + 1))).toNat, by omega⟩
  have hfi := findW_in ts[j] (numK (n + 1))
  rw [hp] at hfi ⊢
  have hpl : p < ts[j].length := by omega
  obtain ⟨rb, rsp, rfl, hrc, hrsp, rfl⟩ := hA.row (by omega)
  refine SP_region ?_
  refine SPL_y (y_move rfl) rfl ?_
  refine SPL_y (y_nil rfl) rfl ?_
  refine SPL_y (y_fa fld_134_1 rfl) rfl ?_
  refine SPL_y (y_load Tryz.isAgg132 rfl (by repeat (first | exact Cell.amid hpre rfl | exact Cell.head rfl | apply Cell.tail))) rfl ?_
  refine SPL_y (y_move rfl) rfl ?_
  refine SPL_y (y_ia Tryz.underlying132 Tryz.sizeOf200 rfl rfl (by omega)) rfl ?_
  refine SPL_y (y_load Tryz.isAgg200 rfl (by repeat (first | exact Cell.amid0 hpre rfl | apply Cell.tail))) rfl ?_
  refine SPL_y (y_move rfl) rfl ?_
  refine SPL_y (y_ia Tryz.underlying200 Tryz.sizeOf199 rfl rfl (by omega)) rfl ?_
  refine SPL_y (y_fa fld_199_1 rfl) rfl ?_
  refine SPL_y (y_fa fld_42_0 rfl) rfl ?_
  refine SPL_y (y_load Tryz.isAgg3 rfl (by repeat (first | exact flat_cell (q := 3) entV_len rfl hpl rfl | apply Cell.tail))) rfl ?_
  refine SPL_ifn (y_eql rfl rfl) rfl ?_ ?_
  · intro h9_12
    refine SPL_nil ?_
    refine thenP_n ?_
    refine SP_cond_f rfl ?_
    refine SP_skip ?_
    refine thenP_n ?_
    refine SP_region ?_
    refine SPL_y (y_move rfl) rfl ?_
    refine SPL_y (y_add rfl rfl (by omega)) rfl ?_
    refine SPL_y (y_assign rfl) rfl ?_
    refine SPL_nil ?_
    refine inBlockP_n ?_
    refine thenP_n ?_
    exact Again.intro (n + 1) (⟨by omega, by rw [hln, show 33 - n = (33 - (n + 1)) + 1 by omega, lenL_c (by rw [hp]; omega) (by rw [hp, Int.toNat_natCast, getD_pr hpl]; exact h9_12)]⟩) (by omega) (by repeat (first | exact Sub.nil _ | refine Sub.cons rfl ?_)) (by repeat (first | exact Part.nil _ | (apply Part.cons; with_reducible (first | exact P0 | exact P1 | exact P2 | exact P3 | exact P4 | exact P5 | exact P6 | exact P7 | exact P8 | exact P9 | exact P10 | exact P11 | exact P12 | exact P13 | exact P14 | exact P15 | exact P16 | exact P17 | exact P18 | exact P19 | exact P20 | exact P21 | exact P22 | exact P23)) | (apply Part.flat; simp only [List.cons_append, List.nil_append]) | (apply Part.cons; (first | exact P0 | exact P1 | exact P2 | exact P3 | exact P4 | exact P5 | exact P6 | exact P7 | exact P8 | exact P9 | exact P10 | exact P11 | exact P12 | exact P13 | exact P14 | exact P15 | exact P16 | exact P17 | exact P18 | exact P19 | exact P20 | exact P21 | exact P22 | exact P23)) | (apply Part.nilc)))
  intro h9_12
  refine SPL_nil ?_
  refine thenP_n ?_
  refine SP_cond_t rfl ?_
  refine SP_seq ?_
  refine SP_region ?_
  refine SPL_y (y_move rfl) rfl ?_
  refine SPL_y (y_assign rfl) rfl ?_
  refine SPL_y (y_assign rfl) rfl ?_
  refine SPL_nil ?_
  refine thenP_n ?_
  refine SP_ret ?_
  refine thenP_ret (inBlockP_ret (thenP_ret (inBlockP_ret (thenP_ret (bodyP_ret (H' := [List.flatten [blk b 134 [.pointer (some ⟨nb, 0, none⟩), .slice (some ⟨tb, 0, none⟩) ts.length tc], blk tb 200 (c0 ++ [Value.slice (some ⟨rb, 0, none⟩) ts[j].length rc] ++ c2), s0, blk rb 199 (ts[j].flatMap entV ++ rsp), s2]]) (Res2 rfl rfl rfl) (by repeat (first | exact Part.nil _ | (apply Part.cons; with_reducible (first | exact P0 | exact P1 | exact P2 | exact P3 | exact P4 | exact P5 | exact P6 | exact P7 | exact P8 | exact P9 | exact P10 | exact P11 | exact P12 | exact P13 | exact P14 | exact P15 | exact P16 | exact P17 | exact P18 | exact P19 | exact P20 | exact P21 | exact P22 | exact P23)) | (apply Part.flat; simp only [List.cons_append, List.nil_append]) | (apply Part.cons; (first | exact P0 | exact P1 | exact P2 | exact P3 | exact P4 | exact P5 | exact P6 | exact P7 | exact P8 | exact P9 | exact P10 | exact P11 | exact P12 | exact P13 | exact P14 | exact P15 | exact P16 | exact P17 | exact P18 | exact P19 | exact P20 | exact P21 | exact P22 | exact P23)) | (apply Part.nilc))) ?_)))))
  refine ⟨?_, rfl⟩
  rw [hln, show 33 - n = (32 - n) + 1 by omega, lenL_b (by rw [hp]; omega) (by rw [hp, Int.toNat_natCast, getD_pr hpl]; exact h9_12)]

theorem tm_Reset (b nb : Nat) (ts : List Row) (s : Seg) (hts : isTm b nb ts s) : Spec Tryz.prog 60 [.pointer (some ⟨b, 0, none⟩)] [s] (Ret fun v H => v = .tuple #[] ∧ ∃ s', isTm b nb [] s' ∧ H = [s']) := by
  obtain ⟨ta, tc, cs, sa, st, rfl, hA, hR⟩ := isTm_head hts
  refine Spec_openAt [blk b 134 [.pointer (some ⟨nb, 0, none⟩), Value.slice ta ts.length tc], sa, st] (by first | exact P0 | exact P1 | exact P2 | exact P3 | exact P4 | exact P5 | exact P6 | exact P7 | exact P8 | exact P9 | exact P10 | exact P11 | exact P12 | exact P13 | exact P14 | exact P15 | exact P16 | exact P17 | exact P18 | exact P19 | exact P20 | exact P21 | exact P22 | exact P23) ?_
  simp only [List.cons_append, List.nil_append]
  refine Spec_enter Tryz.func60 rfl Tryz.ntmps60 rfl ?_
  show SP _ _ _ _ _ [(0, _)] _
  refine SP_region ?_
  refine SPL_y (y_move rfl) rfl ?_
  refine SPL_y (y_nil rfl) rfl ?_
  refine SPL_y (y_fa fld_134_1 rfl) rfl ?_
  refine SPL_one rfl (SP1_store Tryz.sizeOf132 rfl rfl rfl (by first | exact U0 | exact U1 | exact U2 | exact U3 | exact U4 | exact U5 | exact U6 | exact U7 | exact U8 | exact U9 | exact U10 | exact U11 | exact U12 | exact U13 | exact U14 | exact U15 | exact U16 | exact U17 | exact U18 | exact U19 | exact U20 | exact U21 | exact U22 | exact U23) (by rfl) ?_)
  refine SPL_nil ?_
  refine bodyP_end (H' := [List.flatten [blk b 134 [.pointer (some ⟨nb, 0, none⟩), Value.slice none 0 0]]]) (Res0 rfl) (by repeat (first | exact Part.nil _ | (apply Part.cons; with_reducible (first | exact P0 | exact P1 | exact P2 | exact P3 | exact P4 | exact P5 | exact P6 | exact P7 | exact P8 | exact P9 | exact P10 | exact P11 | exact P12 | exact P13 | exact P14 | exact P15 | exact P16 | exact P17 | exact P18 | exact P19 | exact P20 | exact P21 | exact P22 | exact P23)) | (apply Part.flat; simp only [List.cons_append, List.nil_append]) | (apply Part.cons; (first | exact P0 | exact P1 | exact P2 | exact P3 | exact P4 | exact P5 | exact P6 | exact P7 | exact P8 | exact P9 | exact P10 | exact P11 | exact P12 | exact P13 | exact P14 | exact P15 | exact P16 | exact P17 | exact P18 | exact P19 | exact P20 | exact P21 | exact P22 | exact P23)) | (apply Part.nilc))) ?_
  exact ⟨rfl, _, isTm_nil b nb, rfl⟩

theorem tm_Make (b nb : Nat) (ts : List Row) (s : Seg) (hts : isTm b nb ts s) : Spec Tryz.prog 61 [.pointer (some ⟨b, 0, none⟩)] [s] (Ret fun v H => ∃ s', v = .tuple #[I (if 12 ≤ ts.length then -1 else ts.length), I (if 12 ≤ ts.length then 8 else 0)] ∧ isTm b nb (if 12 ≤ ts.length then ts else ts ++ [[]]) s' ∧ H = [s']) := by
  have hts0 := hts
  obtain ⟨ta, tc, cs, sa, st, rfl, hA, hR⟩ := isTm_head hts
  refine Spec_openAt [blk b 134 [.pointer (some ⟨nb, 0, none⟩), Value.slice ta ts.length tc], sa, st] (by first | exact P0 | exact P1 | exact P2 | exact P3 | exact P4 | exact P5 | exact P6 | exact P7 | exact P8 | exact P9 | exact P10 | exact P11 | exact P12 | exact P13 | exact P14 | exact P15 | exact P16 | exact P17 | exact P18 | exact P19 | exact P20 | exact P21 | exact P22 | exact P23) ?_
  simp only [List.cons_append, List.nil_append]
  refine Spec_enter Tryz.func61 rfl Tryz.ntmps61 rfl ?_
  show SP _ _ _ _ _ [(0, _)] _
  refine SP_seq ?_
  refine SP_region ?_
  refine SPL_y (y_assign rfl) rfl ?_
  refine SPL_y (y_assign rfl) rfl ?_
  refine SPL_nil ?_
  refine thenP_n ?_
  refine SP_seq ?_
  refine SP_seq ?_
  refine SP_region ?_
  refine SPL_y (y_move rfl) rfl ?_
  refine SPL_y (y_nil rfl) rfl ?_
  refine SPL_y (y_fa fld_134_1 rfl) rfl ?_
  refine SPL_y (y_load Tryz.isAgg132 rfl (by repeat (first | exact Cell.amid hpre rfl | exact Cell.head rfl | apply Cell.tail))) rfl ?_
  refine SPL_y (y_len_l Tryz.underlying132 rfl) rfl ?_
  refine SPL_if (y_geq rfl rfl) rfl ?_ ?_
  · intro h1_5
    refine SPL_nil ?_
    refine thenP_n ?_
    refine SP_cond_t rfl ?_
    refine SP_seq ?_
    refine SP_region ?_
    refine SPL_y (y_assign rfl) rfl ?_
    refine SPL_y (y_assign rfl) rfl ?_
    refine SPL_nil ?_
    refine thenP_n ?_
    refine SP_ret ?_
    refine thenP_ret (bodyP_ret (H' := [List.flatten [blk b 134 [.pointer (some ⟨nb, 0, none⟩), Value.slice ta ts.length tc], sa, st]]) (Res2 rfl rfl rfl) (by repeat (first | exact Part.nil _ | (apply Part.cons; with_reducible (first | exact P0 | exact P1 | exact P2 | exact P3 | exact P4 | exact P5 | exact P6 | exact P7 | exact P8 | exact P9 | exact P10 | exact P11 | exact P12 | exact P13 | exact P14 | exact P15 | exact P16 | exact P17 | exact P18 | exact P19 | exact P20 | exact P21 | exact P22 | exact P23)) | (apply Part.flat; simp only [List.cons_append, List.nil_append]) | (apply Part.cons; (first | exact P0 | exact P1 | exact P2 | exact P3 | exact P4 | exact P5 | exact P6 | exact P7 | exact P8 | exact P9 | exact P10 | exact P11 | exact P12 | exact P13 | exact P14 | exact P15 | exact P16 | exact P17 | exact P18 | exact P19 | exact P20 | exact P21 | exact P22 | exact P23)) | (apply Part.nilc))) ?_)
    refine ⟨_, ?_, ?_, rfl⟩
    · rw [if_pos (by omega), if_pos (by omega)]
    · rw [if_pos (by omega)]; exact hts0
  intro h1_5
  refine SPL_nil ?_
  refine thenP_n ?_
  refine SP_cond_f rfl ?_
  refine SP_skip ?_
  refine thenP_n ?_
  refine SP_seq ?_
  refine SP_region ?_
  refine SPL_y (y_move rfl) rfl ?_
  refine SPL_y (y_nil rfl) rfl ?_
  refine SPL_y (y_fa fld_134_1 rfl) rfl ?_
  refine SPL_y (y_load Tryz.isAgg132 rfl (by repeat (first | exact Cell.amid hpre rfl | exact Cell.head rfl | apply Cell.tail))) rfl ?_
  refine SPL_one rfl (SP1_slice1 el_132 rfl rfl rfl rfl rfl ?_)
  intro b15
  refine SPL_one rfl (SP1_append el_132 (.inl Tryz.underlying132) rfl rfl hA (by first | exact P0 | exact P1 | exact P2 | exact P3 | exact P4 | exact P5 | exact P6 | exact P7 | exact P8 | exact P9 | exact P10 | exact P11 | exact P12 | exact P13 | exact P14 | exact P15 | exact P16 | exact P17 | exact P18 | exact P19 | exact P20 | exact P21 | exact P22 | exact P23) (Src.of (by repeat (first | exact Cells.all _ | exact Cells.amid hpre rfl (by decide) | exact Cells.head rfl | apply Cells.tail)) (by rfl)) (by rfl) (by omega) rfl ?_)
  intro ta' tc' sa' hA2
  refine SPL_y (y_assign rfl) rfl ?_
  refine SPL_nil ?_
  refine thenP_n ?_
  refine SP_seq ?_
  refine SP_region ?_
  refine SPL_y (y_move rfl) rfl ?_
  refine SPL_y (y_move rfl) rfl ?_
  refine SPL_y (y_nil rfl) rfl ?_
  refine SPL_y (y_fa fld_134_1 rfl) rfl ?_
  refine SPL_one rfl (SP1_store Tryz.sizeOf132 rfl rfl rfl (by first | exact U0 | exact U1 | exact U2 | exact U3 | exact U4 | exact U5 | exact U6 | exact U7 | exact U8 | exact U9 | exact U10 | exact U11 | exact U12 | exact U13 | exact U14 | exact U15 | exact U16 | exact U17 | exact U18 | exact U19 | exact U20 | exact U21 | exact U22 | exact U23) (by rfl) ?_)
  refine SPL_nil ?_
  refine thenP_n ?_
  refine SP_seq ?_
  refine SP_region ?_
  refine SPL_y (y_move rfl) rfl ?_
  refine SPL_y (y_nil rfl) rfl ?_
  refine SPL_y (y_fa fld_134_1 rfl) rfl ?_
  refine SPL_y (y_load Tryz.isAgg132 rfl (by repeat (first | exact Cell.amid hpre rfl | exact Cell.head rfl | apply Cell.tail))) rfl ?_
  refine SPL_y (y_len_l Tryz.underlying132 rfl) rfl ?_
  refine SPL_y (y_sub rfl rfl (by omega)) rfl ?_
  refine SPL_y (y_assign rfl) rfl ?_
  refine SPL_y (y_assign rfl) rfl ?_
  refine SPL_nil ?_
  refine thenP_n ?_
  refine SP_ret ?_
  refine bodyP_ret (H' := [List.flatten [blk b 134 [.pointer (some ⟨nb, 0, none⟩), Value.slice ta' (ts.length + 1) tc'], sa', st]]) (Res2 rfl rfl rfl) (by repeat (first | exact Part.nil _ | (apply Part.cons; with_reducible (first | exact P0 | exact P1 | exact P2 | exact P3 | exact P4 | exact P5 | exact P6 | exact P7 | exact P8 | exact P9 | exact P10 | exact P11 | exact P12 | exact P13 | exact P14 | exact P15 | exact P16 | exact P17 | exact P18 | exact P19 | exact P20 | exact P21 | exact P22 | exact P23)) | (apply Part.flat; simp only [List.cons_append, List.nil_append]) | (apply Part.cons; (first | exact P0 | exact P1 | exact P2 | exact P3 | exact P4 | exact P5 | exact P6 | exact P7 | exact P8 | exact P9 | exact P10 | exact P11 | exact P12 | exact P13 | exact P14 | exact P15 | exact P16 | exact P17 | exact P18 | exact P19 | exact P20 | exact P21 | exact P22 | exact P23)) | (apply Part.nilc))) ?_
  refine ⟨_, ?_, ?_, rfl⟩
  · rw [if_neg (by omega), if_neg (by omega)]; simp
  · rw [if_neg (by omega)]
    refine ⟨ta', tc', cs ++ [.slice none 0 0], st ++ [], sa', by simp, ?_, hR.app (Rws.single ⟨none, 0, rfl, Arr.nil 199 6⟩)⟩
    simpa using hA2

theorem tm_New (nb : Nat) : Spec Tryz.prog 38 [.pointer (some ⟨nb, 0, none⟩)] [] (Ret fun v H => ∃ b s', v = .pointer (some ⟨b, 0, none⟩) ∧ isTm b nb [] s' ∧ H = [s']) := by
  refine Spec_enter Tryz.func38 rfl Tryz.ntmps38 rfl ?_
  show SP _ _ _ _ _ [(0, _)] _
  refine SP_seq ?_
  refine SP_region ?_
  refine SPL_y (y_assign rfl) rfl ?_
  refine SPL_nil ?_
  refine thenP_n ?_
  refine SP_seq ?_
  refine SP_region ?_
  refine SPL_y (y_move rfl) rfl ?_
  refine SPL_y (y_build B134 rfl rfl (by simp only [fillL, List.foldl_cons, List.foldl_nil, List.set_cons_zero, List.set_cons_succ]; exact rfl)) rfl ?_
  refine SPL_one rfl (SP1_box rfl rfl rfl ?_)
  intro b5
  refine SPL_y (y_assign rfl) rfl ?_
  refine SPL_nil ?_
  refine thenP_n ?_
  refine SP_ret ?_
  refine bodyP_ret (H' := [List.flatten [blk b5 134 [.pointer (some ⟨nb, 0, none⟩), Value.slice none 0 0]]]) (Res1 rfl rfl) (by repeat (first | exact Part.nil _ | (apply Part.cons; with_reducible (first | exact P0 | exact P1 | exact P2 | exact P3 | exact P4 | exact P5 | exact P6 | exact P7 | exact P8 | exact P9 | exact P10 | exact P11 | exact P12 | exact P13 | exact P14 | exact P15 | exact P16 | exact P17 | exact P18 | exact P19 | exact P20 | exact P21 | exact P22 | exact P23)) | (apply Part.flat; simp only [List.cons_append, List.nil_append]) | (apply Part.cons; (first | exact P0 | exact P1 | exact P2 | exact P3 | exact P4 | exact P5 | exact P6 | exact P7 | exact P8 | exact P9 | exact P10 | exact P11 | exact P12 | exact P13 | exact P14 | exact P15 | exact P16 | exact P17 | exact P18 | exact P19 | exact P20 | exact P21 | exact P22 | exact P23)) | (apply Part.nilc))) ?_
  exact ⟨b5, _, rfl, isTm_nil b5 nb, rfl⟩

end Go.Sl
